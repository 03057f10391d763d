/- Part E of the proof. -/
import Derived.Test.YtmdielggbailgaaGreatDoorPartB
import Derived.Test.YtmdielggbailgaaGreatDoorPartC
import Derived.Test.YtmdielggbailgaaGreatDoorPartD
set_option linter.unusedVariables false
set_option linter.unusedSimpArgs false
namespace Go.Sm
open Go Go.Proofs
set_option maxRecDepth 100000
set_option maxHeartbeats 4000000
section
variable {F:Nat→Prop} {σ:CSt} {m mv ml:Nat} {lv tv:Value} {X Wn:Int→Nat} {Sv:ByteArray→Value} {VL:Vl} {P:PM}
theorem qhl (h:RMx F σ m mv ml lv tv X Wn Sv VL P) (hok:P.Ok) (Q:Out→CSt→Prop) (h1:∀σ',Grow σ σ'→Q (.ret (.int .u64 P.least) false) σ'):W E1 (.fn 60 #[ptr m] none) σ Q:=by
 rw [qap (fn:=Tryz.f60) Tryz.func60 rfl rfl rfl];have hsf:=λQ=>qhc h hok Q
 unfold ptr at hsf;simp [qa0,ptr];refine hsf _ λs1 g1=> ?_
 have hr:=h.grow g1;have hg:=hr.cell;obtain⟨o,ho,hit⟩:=qb3 (P:=Tryz.prog) (t:=104) Tryz.underlying104 hr.lv.map hr.lv.lm;simp [qa0,hg,ho];have g0:Grow σ (s1.alloc o):=g1.alloc o;generalize s1.alloc o=s0 at hit g0⊢;refine qak (λn a s=>∃tm c,a=⟨tm,28, [],false⟩∧tm.get 3=some (.int .u64 c)∧tm.get 12=some (.pointer (some ⟨s1.n,0,none⟩))∧qkf P.live X qir P.safe σ s s1.n ml n c)
  (λout s=>∃tm,out= .code (.exit 0) ⟨tm,28, [],false⟩∧tm.get 3=some (.int .u64 P.least)∧Grow σ s) ?_ (lvM X P.live).length _ _ ?_ ?_
 ·rintro n a s ⟨tm,c,rfl,e3,e12,hi⟩;have gs:Grow σ s:=by obtain⟨_,_,_,_,_,gs,_⟩:=hi;exact gs
  simp [qa0,e3,e12];refine qj7 hok.nums hi g1.n (λhd=> ?_) (λq o' hq gs' he hn=> ?_)
  ·have hc:=qvw hd;simp [qa0];exact⟨by rw [←hc];exact e3,gs⟩
  ·have htx:=h.lv.tx q hq;have hxc:=gs'.get htx.cell htx.lx;unfold qfo hdB at hxc;unfold ptr at he;cases hs:q.2.snap with
   |false=>
    rw [hs] at hxc;obtain⟨k,hk,hf⟩:=hn c (by simp [qir,hs])
    simp [qa0,he,hxc,e3,e12,ptr];exact⟨k,hk,hf⟩
   |true=>
    rw [hs] at hxc;obtain⟨k,hk,hf⟩:=hn _ rfl;simp [qir,hs] at hf;simp [qa0,he,hxc,e3,e12,ptr,qza];exact⟨k,hk,hf⟩
 ·refine⟨_,P.safe,rfl, ?_⟩;simp;exact qkf.start hit g0
 ·rintro out s ⟨tm,rfl,e3,gs⟩;simpa [qa0,e3] using h1 s gs
theorem zah {s:CSt} {v:Value} {L:List Lk} {k:Lk} (ho:qbj 0 s 99 qag v L) (hL:L.length<2^36):∃p9 c9 s9,qas Tryz.prog (s.alloc (.cells (qag k) 99 false)) #[78,78] v (.slice (some ⟨s.n,0,none⟩) 1 1)=some (.slice p9 (L.length+1) c9,s9)∧qbj 0 s9 99 qag (.slice p9 (L.length+1) c9) (L++ [k])∧qd3 v (s.alloc (.cells (qag k) 99 false)) s9∧(qb1 (.slice p9 (L.length+1) c9)=qb1 v∨qb1 (.slice p9 (L.length+1) c9)=some (s.n+1)):=by
 have hga:Grow s (s.alloc (.cells (qag k) 99 false)):=(Grow.refl s).alloc _;obtain⟨v9,s9,a1,a2,a3,a4⟩:=qkp (P:=Tryz.prog) (ts:= #[78,78]) (e:=99) (sz:=5) (enc:=qag) (l:=L) (m:= [k]) (b:=0) ef78 (by simp) qe1 cokK rfl (by decide) (by decide) rfl (σ:=s.alloc (.cells (qag k) 99 false))
  (ho.grow hga) (Nat.zero_le _) (Sl.all (l:= [k]) (i:=s.n) (cap:=1) (ro:=false) qe1 (by simp) (by simp) (.inr ⟨by simp,by simp [qa1]⟩)) (by show(_+1)*_≤_;simp;omega) (by omega)
 obtain⟨p9,c9,rfl⟩:=(a2.sl (sz:=5) qe1).form;rw [List.length_append] at a1 a2 a4;exact⟨p9,c9,s9,a1,a2,a3,a4⟩
theorem qq7 (h:RMx F σ m mv ml lv tv X Wn Sv VL P) (hF:∀i,σ.n≤i→F i) (hok:P.Ok) (hL:P.L.length<2^36) {n:Int} {t:Tx} (hg:(n,t)∈P.live) (hw:t.snap=false) (a:Int) (ha:0≤a∧a<2^63) (fr til:ByteArray) (u:Sn) (Q:Out→CSt→Prop)
  (h1:∀σ',RM F σ' m (P.see n t a fr til u).2→Ch mT qcd F σ σ'→Q (.ret (.int .i64 (if(P.see n t a fr til u).1 then 0 else 7)) false) σ'):
  W E1 (.fn 178 #[ptr m, .int .i64 n, .int .u64 a, .agg (qag ⟨0,fr,til,u⟩).toArray] none) σ Q:=by
 rw [qap (fn:=Tryz.f178) Tryz.func178 rfl rfl rfl];have hmn:=h.lm;have hxw:=(hok.tx _ hg).w hw;have hgt:=(qao hok).2 hg;simp only at hxw;have g0:Grow σ (σ.alloc (.cells (qag ⟨0,fr,til,u⟩) 99 false)):=(Grow.refl σ).alloc _;have hc0:(σ.alloc (.cells (qag ⟨0,fr,til,u⟩) 99 false)).get σ.n=some (.cells (qag ⟨0,fr,til,u⟩) 99 false):=by simp
 have hn0:(σ.alloc (.cells (qag ⟨0,fr,til,u⟩) 99 false)).n=σ.n+1:=by simp
 simp only [qag] at g0 hc0 hn0;have hgσ:=h.cell;have hneσ:¬m=σ.n:=by omega
 simp [qa0,qag,ptr,hgσ,hneσ];generalize σ.alloc (.cells [.int .i64 0, .string fr, .string til, .int .u64 u.lo, .int .u64 u.hi] 99 false)=s0 at g0 hc0 hn0⊢;have hr0:=h.grow g0;have h0:RMx (λi=>F i∧i<σ.n) s0 m mv ml lv tv X Wn Sv VL P:=(h.mono λj hj a=>⟨a,hj⟩).grow g0
 have hg0:=hr0.cell;have hlk:=qgd hr0 n false;rw [hgt] at hlk;simp at hlk;have htx:=h0.lv.tx _ hg;simp only at htx;have hx0:=htx.cell;have hxl:=htx.fx.2;unfold qfo hdB wv at hx0;rw [hw] at hx0;simp only [Bool.false_eq_true,if_false] at hx0;unfold ptr at hlk;by_cases c:t.sp.hi≤a
 ·have hsee:P.see n t a fr til u=(false,P.drop n):=if_pos c;rw [hsee] at h1;have hdr:=λQ=>qjl ⟨mv,ml,lv,tv,X,Wn,Sv,VL,hr0⟩ (λi hi=>hF i (Nat.le_trans g0.n hi)) hok hL n Q
  unfold ptr at hdr;simp [qa0,hg0,hlk,hx0,c];refine hdr _ λs2 hr2 hc2=> ?_
  have:=h1 s2 hr2 (g0.ch.trans hc2);simpa [qa0] using this
 ·have hsee:P.see n t a fr til u=(true,{P.set n ⟨t.snap,⟨max t.sp.lo (a+1),t.sp.hi⟩,t.wr⟩ with L:=P.L++ [⟨n,fr,til,u⟩]}):=if_neg c
  rw [hsee] at h1;have w1:IntKind.u64.wrap (a+1)=a+1:=IntWalk.u64_in _ (by omega)
  have hmax:(if t.sp.lo<a+1 then a+1 else t.sp.lo)=max t.sp.lo (a+1):=by split<;>omega
  have hset:=h0.lv.set hg (qj6 hok hg) (u:=⟨t.snap,⟨max t.sp.lo (a+1),t.sp.hi⟩,t.wr⟩) rfl rfl rfl;have kx:Ch (λt=>t=113) (λj=>j≠mv) (λi=>F i∧i<σ.n) s0 (s0.put (X n) (.cells (qfo hdB ⟨t.snap,⟨max t.sp.lo (a+1),t.sp.hi⟩,t.wr⟩ (wv t (Wn n))) 113 false)):=(Ch.refl (λt=>t=113) (λj=>j≠mv) (λi=>F i∧i<σ.n) s0).put htx.cell rfl htx.fx _
  have hr2:=h0.lvCh kx hset λq hq hs=>by
   obtain⟨r,hr,e⟩:=List.mem_map.1 hq;by_cases e1:r.1=n
   ·rw [if_pos e1] at e;subst e;exact h0.mw (n,t) hg hw
   ·rw [if_neg e1] at e;subst e;exact h0.mw r hr hs
  have hxn:¬σ.n=X n:=by omega
  have hc2:(s0.put (X n) (.cells (qfo hdB ⟨t.snap,⟨max t.sp.lo (a+1),t.sp.hi⟩,t.wr⟩ (wv t (Wn n))) 113 false)).get σ.n=_:=(CSt.get_put _ _ _ _).trans ((if_neg hxn).trans hc0);simp only [qfo,hdB,wv,hw,Bool.false_eq_true,if_false] at kx hr2 hc2;have hcm:¬σ.n=m:=by omega
  have hmx:¬m=X n:=by
   intro e;rw [←e,hg0] at hx0;cases hx0
  simp [qa0,hg0,hlk,hx0,c,w1,maxK,hmax,hc0,hxn];generalize s0.put (X n) (.cells [.bool false, .int .u64 (max t.sp.lo (a+1)), .int .u64 t.sp.hi, .map (some (Wn n))] 113 false)=s2 at kx hr2 hc2⊢;have hK:(s2.put σ.n (.cells [.int .i64 n, .string fr, .string til, .int .u64 u.lo, .int .u64 u.hi] 99 false)).get σ.n=some (.cells [.int .i64 n, .string fr, .string til, .int .u64 u.lo, .int .u64 u.hi] 99 false):=by simp
  have kσ2:Ch mT qcd F σ s2:=g0.ch.trans ((qn7 kx).mono (λ_ h=>h) (λ_ h=>h) λ_ h=>h.1)
  have kσ3:Ch mT qcd F σ (s2.put σ.n (.cells [.int .i64 n, .string fr, .string til, .int .u64 u.lo, .int .u64 u.hi] 99 false)):=kσ2.new (Nat.le_refl _) _;have hr3:RMx F (s2.put σ.n (.cells [.int .i64 n, .string fr, .string til, .int .u64 u.lo, .int .u64 u.hi] 99 false)) m mv ml lv tv X Wn Sv VL (P.set n ⟨t.snap,⟨max t.sp.lo (a+1),t.sp.hi⟩,t.wr⟩):=by
   rw [hw];exact(hr2.chF (T:=λt=>t=99) (M:=noM) (F':=λi=>i=σ.n) ((Ch.refl (λt=>t=99) noM (λi=>i=σ.n) s2).put hc2 rfl rfl _) (λj _ a b=>by have:=a.2;omega) (by decide)).mono λj _ a=>a.1
  have hn3:σ.n<(s2.put σ.n (.cells [.int .i64 n, .string fr, .string til, .int .u64 u.lo, .int .u64 u.hi] 99 false)).n:=by have:=kx.1;show σ.n<s2.n;omega
  generalize s2.put σ.n (.cells [.int .i64 n, .string fr, .string til, .int .u64 u.lo, .int .u64 u.hi] 99 false)=s3 at hK kσ3 hr3 hn3⊢;have hg3:s3.get m=some (.cells [.map (some mv),lv, .int .u64 P.clock, .int .i64 P.last, .map (some ml),tv] 107 false):=hr3.cell;have hlo3:qbj 0 s3 99 qag lv P.L:=hr3.lo;obtain⟨p9,c9,s9,a1,a2,a3,a4⟩:=zah (k:=⟨n,fr,til,u⟩) hlo3 hL;simp only [qag] at a1 a3;have ga:Grow s3 (s3.alloc (.cells [.int .i64 n, .string fr, .string til, .int .u64 u.lo, .int .u64 u.hi] 99 false)):=(Grow.refl s3).alloc _;have hra:=hr3.grow ga;have kb:Ch (λt=>t=107∨t=99∨t=22) noM F s3 s9:=ga.ch.trans (qd3.chLock hra.lo a3 hra.flo)
  have kl:Ch (λt=>t=99) noM F s3 s9:=ga.ch.trans (hra.lo.butV a3 hra.flo rfl)
  have hg9:s9.get m=some (.cells [.map (some mv),lv, .int .u64 P.clock, .int .i64 P.last, .map (some ml),tv] 107 false):=kl.cell hg3 hr3.lm λ_=>by decide
  have hK9:s9.get σ.n=some (.cells [.int .i64 n, .string fr, .string til, .int .u64 u.lo, .int .u64 u.hi] 99 false):=by
   rw [a3.2 σ.n (by simp;omega) (λe=>by
    have:=(h.lo.lt e).2.1;omega),CSt.get_alloc,if_neg (by omega)]
   exact hK
  have hm3:¬m=s3.n:=by have:=hr3.lm;omega
  have hc3:¬σ.n=s3.n:=by omega
  have kp:=kb.put (i:=m) hg9 (.inl rfl) hr3.fm (.cells [.map (some mv), .slice p9 (P.L.length+1) c9, .int .u64 P.clock, .int .i64 P.last, .map (some ml),tv] 107 false);have kp2:Ch (λt=>t=107) noM F s9 (s9.put m (.cells [.map (some mv), .slice p9 (P.L.length+1) c9, .int .u64 P.clock, .int .i64 P.last, .map (some ml),tv] 107 false)):=(Ch.refl (λt=>t=107) noM F s9).put hg9 rfl hr3.fm _
  have hr4:=hr3.setLT (c:=P.clock) (la:=P.last) (L':=P.L++ [⟨n,fr,til,u⟩]) (tk':=P.taken) kp (by simp) (a2.chT kp2 (by decide)) (qzv h.flo (λi hi=>hF i (Nat.le_trans kσ3.1 hi)) (by
   rcases a4 with e|e
   ·exact .inl e
   ·exact .inr ⟨_,e,by omega⟩)) ((hr3.to_.chT kl (by decide)).chT kp2 (by decide)) hr3.fto
  have fin:=h1 _ ⟨mv,ml,_,tv,X,Wn,Sv,VL,hr4⟩ (kσ3.trans (qz3 kp));refine qcv (l:= [0,1,2,3,4,5,6,7,8,9,10]) (b:= #[0,0,2,6,14,0,32,126,255,511,1023]) (by kernel_rfl) (by kernel_rfl) (by kernel_rfl) ?_
  simpa [qa7,qa0,qal,qab,qb9,qa3,qa9,Nat.add_assoc,Nat.testBit_eq_decide_div_mod_eq,hg3,hK,a1,hm3,hc3,hg9,hK9,hcm] using fin
theorem qxn (h:RM F σ m P) (hF:∀i,σ.n≤i→F i) (hok:P.Ok) (hsz:P.size<2^30) (n:Int) (k:ByteArray) (Q:Out→CSt→Prop)
  (h1:∀σ',RM F σ' m (P.read n k).2→Ch mT qcd F σ σ'→Q (.ret (.tuple #[.string (P.read n k).1.1, .bool (P.read n k).1.2.1, .int .i64 (P.read n k).1.2.2]) false) σ'):W E1 (.fn 100 #[ptr m, .int .i64 n, .string k] none) σ Q:=by
 have hrm:=h;obtain⟨mv,ml,lv,tv,X,Wn,Sv,VL,h⟩:=h;rw [qap (fn:=Tryz.f100) Tryz.func100 rfl rfl rfl];have hg:=h.cell;have hlk:=qgd h n true;unfold ptr at hlk;cases ht:P.get n with
 |none=>
  have e:P.read n k=((⟨#[]⟩,false,4),P):=by unfold PM.read;rw [ht]
  have:=h1 σ (by rw [e];exact hrm) (Ch.refl _ _ _ _)
  rw [e] at this;rw [ht] at hlk;simp at hlk;simpa [qa0,ptr,hg,hlk] using this
 |some t=>
 rw [ht] at hlk;simp at hlk;have hm:=(qao hok).1 ht;have hto:=hok.tx _ hm;have htx:=h.lv.tx _ hm;simp only at hto htx;simp [qa0,ptr,hg,hlk];refine qf5 k σ _ ?_;cases hk:kOk k with
 |false=>
  have e:P.read n k=((⟨#[]⟩,false,2),P):=by unfold PM.read;rw [ht];simp [hk]
  have:=h1 σ (by rw [e];exact hrm) (Ch.refl _ _ _ _)
  rw [e] at this;simpa [qa0] using this
 |true=>
  have hx:=htx.cell;have hlw:=qgo htx hto k true;unfold qfo hdB at hx;simp only [if_true] at hlw;have hxl:=htx.lx;cases hkg:qaw t.wr k with
  |some u=>
   have e:P.read n k=((u.val, !u.gone,0),P):=by unfold PM.read;rw [ht];simp [hk,hkg]
   rw [hkg] at hlw;have:=h1 ((σ.alloc (.cells [.int .u64 0, .string ⟨#[]⟩, .bool false] 40 false)).put σ.n (.cells (qad u) 40 false)) (by rw [e];exact hrm.grow (((Grow.refl σ).alloc _).put (Nat.le_refl _) _)) ((((Grow.refl σ).alloc _).put (Nat.le_refl _) _).ch)
   rw [e] at this;simp [qad] at hlw this;simp [qa0,hx,hlw];refine qba (by kernel_rfl) ?_
   simpa [qa6,qa0] using this
  |none=>
   rw [hkg] at hlw;have g0:Grow σ ((σ.alloc (.cells [.int .u64 0, .string ⟨#[]⟩, .bool false] 40 false)).put σ.n (.cells (qad qcx) 40 false)):=((Grow.refl σ).alloc _).put (Nat.le_refl _) _;have hneσ:¬X n=σ.n:=by omega
   simp only [qad,qcx] at g0;simp [qad,qcx] at hlw;simp [qa0,hx,hlw,hneσ];generalize (σ.alloc (.cells [.int .u64 0, .string ⟨#[]⟩, .bool false] 40 false)).put σ.n (.cells [.int .u64 0, .string ⟨#[]⟩, .bool false] 40 false)=s0 at g0⊢;have hr0:=h.grow g0;have hx0:=g0.get hx hxl;have hat:=λQ=>qvo hr0 hok hsz k t.sp.hi Q
   unfold ptr at hat;try simp [qa0,hx0]
   refine hat _ λs1 g1=> ?_
   have hat0:0≤(qdl (qdj P.S k t.sp.hi)).at_∧(qdl (qdj P.S k t.sp.hi)).at_≤P.clock:=by
    cases ho:qdj P.S k t.sp.hi with
    |none=>exact⟨Int.le_refl _,hok.clock.1⟩
    |some u=>have:=qgb hok ho;exact⟨by show 0≤u.at_;omega,this.2.1⟩
   have hck:=hok.clock;have e:P.read n k=if t.snap then(((qdl (qdj P.S k t.sp.hi)).val,(qdj P.S k t.sp.hi).isSome&& !(qdl (qdj P.S k t.sp.hi)).gone,0),P) else
     (let r:=P.see n t (qdl (qdj P.S k t.sp.hi)).at_ k k ⟨(qdl (qdj P.S k t.sp.hi)).at_+1,t.sp.hi⟩
      if r.1 then(((qdl (qdj P.S k t.sp.hi)).val,(qdj P.S k t.sp.hi).isSome&& !(qdl (qdj P.S k t.sp.hi)).gone,0),r.2) else((⟨#[]⟩,false,7),r.2)):=by
    unfold PM.read;rw [ht];simp only [hk,hkg];simp
   rw [e] at h1;generalize qdl (qdj P.S k t.sp.hi)=vv at hat0 h1⊢;generalize (qdj P.S k t.sp.hi).isSome=so at h1⊢;have g01:=g0.trans g1;have hy:((s1.alloc (.cells [.int .u64 0, .string ⟨#[]⟩, .bool false] 40 false)).put s1.n (.cells [.int .u64 vv.at_, .string vv.val, .bool vv.gone] 40 false)).get s1.n=some (.cells [.int .u64 vv.at_, .string vv.val, .bool vv.gone] 40 false):=by simp
   have hyn:s1.n<((s1.alloc (.cells [.int .u64 0, .string ⟨#[]⟩, .bool false] 40 false)).put s1.n (.cells [.int .u64 vv.at_, .string vv.val, .bool vv.gone] 40 false)).n:=by simp
   have g12:Grow s1 ((s1.alloc (.cells [.int .u64 0, .string ⟨#[]⟩, .bool false] 40 false)).put s1.n (.cells [.int .u64 vv.at_, .string vv.val, .bool vv.gone] 40 false)):=((Grow.refl s1).alloc _).put (Nat.le_refl _) _;have hx1:=g01.get hx hxl;have hnes1:¬X n=s1.n:=by have:=g01.n;omega
   cases hs:t.snap with
   |true=>
    rw [hs] at h1 hx1;simp only [if_true] at h1;simp [qa0,qad,hx1,hnes1];generalize (s1.alloc (.cells [.int .u64 0, .string ⟨#[]⟩, .bool false] 40 false)).put s1.n (.cells [.int .u64 vv.at_, .string vv.val, .bool vv.gone] 40 false)=s2 at g12 hy hyn⊢;have gσ:=g01.trans g12;have:=h1 s2 ⟨mv,ml,lv,tv,X,Wn,Sv,VL,h.grow gσ⟩ gσ.ch;refine qba (by kernel_rfl) ?_
    cases so with
    |true=>simpa [qa6,qby,qa4,qa0,hy] using this
    |false=>simpa [qa6,qby,qa4,qa0,hy] using this
   |false=>
    rw [hs] at h1 hx1;simp only [Bool.false_eq_true,if_false] at h1;have hxw:=hto.w hs;have w1:IntKind.u64.wrap (vv.at_+1)=vv.at_+1:=IntWalk.u64_in _ (by omega)
    simp [qa0,qad,hx1,hnes1];generalize (s1.alloc (.cells [.int .u64 0, .string ⟨#[]⟩, .bool false] 40 false)).put s1.n (.cells [.int .u64 vv.at_, .string vv.val, .bool vv.gone] 40 false)=s2 at g12 hy hyn⊢;have gσ:=g01.trans g12;have hrs:=h.grow gσ;have hx2:=g12.get hx1 (by have:=g01.n;omega)
    have hLs:P.L.length<2^36:=by
     have:P.L.length≤P.size:=by unfold PM.size;omega
     omega
    have hsee:=λQ=>qq7 hrs (λi hi=>hF i (Nat.le_trans gσ.n hi)) hok hLs hm hs vv.at_ (by omega) k k ⟨vv.at_+1,t.sp.hi⟩ Q
    simp only [qag,ptr] at hsee;refine qba (by kernel_rfl) ?_
    simp [qa6,hx2,hy,w1];refine hsee _ λs3 hr3 hc3=> ?_
    have hfin:=h1 s3;generalize P.see n t vv.at_ k k ⟨vv.at_+1,t.sp.hi⟩=rr at hr3 hfin⊢;have hy2:=hc3.cell hy hyn λ_=>mTver
    cases hr1:rr.1 with
    |true=>
     rw [hr1] at hfin;simp only [if_true] at hfin;have:=hfin hr3 (gσ.ch.trans hc3);simp [qa6,qa0];refine qba (by kernel_rfl) ?_
     cases so with
     |true=>simpa [qa6,qby,qa4,qa0,hy2] using this
     |false=>simpa [qa6,qby,qa4,qa0,hy2] using this
    |false=>
     rw [hr1] at hfin;simp only [Bool.false_eq_true,if_false] at hfin;have:=hfin hr3 (gσ.ch.trans hc3);simpa [qa6,qa0] using this
theorem qlj (h:RM F σ m P) (hok:P.Ok) (n:Int) (k:ByteArray) (u:Ver) (hu:u.val.size<2^62) (Q:Out→CSt→Prop)
  (h1:∀σ',RM F σ' m (P.write n k u).2→Ch mT qcd F σ σ'→Q (.ret (.int .i64 (P.write n k u).1) false) σ'):W E1 (.fn 103 #[ptr m, .int .i64 n, .string k, .agg (qad u).toArray] none) σ Q:=by
 obtain⟨mv,ml,lv,tv,X,Wn,Sv,VL,h⟩:=h;rw [qap (fn:=Tryz.f103) Tryz.func103 rfl rfl rfl];have g0:Grow σ (σ.alloc (.cells (qad u) 40 false)):=(Grow.refl σ).alloc _;have hc7:(σ.alloc (.cells (qad u) 40 false)).get σ.n=some (.cells (qad u) 40 false):=by simp
 simp only [qad] at g0 hc7;have hgσ:=h.cell;have hneσ:¬m=σ.n:=by have:=h.lm;omega
 simp [qa0,ptr,qad,hgσ,hneσ];generalize σ.alloc (.cells [.int .u64 u.at_, .string u.val, .bool u.gone] 40 false)=s0 at g0 hc7⊢;have hr0:=h.grow g0;have hrm0:RM F s0 m P:=⟨mv,ml,lv,tv,X,Wn,Sv,VL,hr0⟩;have hlk:=qgd hr0 n true;unfold ptr at hlk;cases ht:P.get n with
 |none=>
  have e:P.write n k u=(4,P):=by unfold PM.write;rw [ht]
  have:=h1 s0 (by rw [e];exact hrm0) g0.ch
  rw [e] at this;rw [ht] at hlk;simp at hlk;simpa [qa0,qa2,qa4,hlk] using this
 |some t=>
 rw [ht] at hlk;simp at hlk;have hm:=(qao hok).1 ht;have hto:=hok.tx _ hm;have htx:=hr0.lv.tx _ hm;simp only at hto htx;have hx:=htx.cell;unfold qfo hdB at hx;cases hs:t.snap with
 |true=>
  have e:P.write n k u=(8,P):=by unfold PM.write;rw [ht];simp [hs]
  have:=h1 s0 (by rw [e];exact hrm0) g0.ch
  rw [e] at this;rw [hs] at hx;simpa [qa0,qa2,qa4,hlk,hx] using this
 |false=>
  rw [hs] at hx;simp [qa0,qa2,qa4,hlk,hx];refine qf5 k s0 _ ?_;cases hk:kOk k with
  |false=>
   have e:P.write n k u=(2,P):=by unfold PM.write;rw [ht];simp [hs,hk]
   have:=h1 s0 (by rw [e];exact hrm0) g0.ch
   rw [e] at this;simpa [qa0,qa2,qa4] using this
  |true=>
   by_cases c:200<u.val.size
   ·have e:P.write n k u=(3,P):=by unfold PM.write;rw [ht];simp [hs,hk,c]
    have:=h1 s0 (by rw [e];exact hrm0) g0.ch
    rw [e] at this;have c1:(200:Int)<u.val.size:=by omega
    simpa [qa0,qa2,qa4,hc7,c1] using this
   ·have c1:¬(200:Int)<u.val.size:=by omega
    have e:P.write n k u=(0,P.set n ⟨t.snap,t.sp,qj9 t.wr k u⟩):=by unfold PM.write;rw [ht];simp [hs,hk,c]
    rw [e] at h1;obtain⟨hFw,hlw,W,hW,hp⟩:=htx.wr hs;obtain⟨o,ho1,ho2⟩:=qct (P:=Tryz.prog) (key:=Value.string) (kd:= .string) (t:=111) (kt:=9) (et:=40) (k:=k) Tryz.underlying111 (by kernel_rfl) qc3 hW (.agg (qad u).toArray)
    have hlv:=hr0.lv.wr hm (qj6 hok hm) hs (u:=⟨t.snap,t.sp,qj9 t.wr k u⟩) ⟨rfl,rfl⟩ ho2 (qni hto.up hp k u);have kw:Ch (λt=>t=113) (λj=>j≠mv) F s0 (s0.put (Wn n) o):=(Ch.refl (λt=>t=113) (λj=>j≠mv) F s0).putMp hW (hr0.mw _ hm hs) hFw _
    have hr2:=hr0.lvCh kw hlv λq hq hs'=>by
     obtain⟨r,hr,e⟩:=List.mem_map.1 hq;by_cases e1:r.1=n
     ·rw [if_pos e1] at e;subst e;exact hr0.mw (n,t) hm hs
     ·rw [if_neg e1] at e;subst e;exact hr0.mw r hr hs'
    have:=h1 _ ⟨mv,ml,lv,tv,X,Wn,Sv,VL,hr2⟩ (g0.ch.trans (qn7 kw));simp only [qad] at ho1;unfold wv at hx;rw [hs] at hx;simp at hx;generalize s0.put (Wn n) o=s2 at ho1 this;simp [qa0,qa2,qa4,hc7,c1];refine qba (by kernel_rfl) ?_
    simpa [qa6,qa0,hx,hc7,ho1] using this
end
end Go.Sm
namespace Go.Sm
set_option maxRecDepth 100000
set_option maxHeartbeats 4000000
def setV {α:Type}:List (ByteArray×α)→ByteArray→α→List (ByteArray×α)
 | [],k,v=> [(k,v)]
 |p::M,k,v=>if p.1=k then(k,v)::M else p::setV M k v
theorem qrs {α:Type} {A:List (ByteArray×α)} (hn:(A.map (·.1)).Nodup) (k:ByteArray) (v:α):(setV A k v).Perm ((k,v)::A.filter λp=> !decide (p.1=k)):=by
 induction A with
 |nil=>exact .refl _
 |cons p A ih=>
  rw [List.map_cons,List.nodup_cons] at hn;unfold setV;rw [List.filter_cons];by_cases e:p.1=k
  ·rw [if_pos e];have:(A.filter λp=> !decide (p.1=k))=A:=List.filter_eq_self.2 λq hq=>by
    have:q.1≠k:=λe2=>hn.1 (by rw [e,←e2];exact List.mem_map_of_mem (f:=(·.1)) hq)
    simpa using this
   simp [e,this]
  ·rw [if_neg e];simp only [e,decide_false,Bool.not_false,if_true];exact((ih hn.2).cons p).trans (.swap _ _ _)
theorem qwp {α:Type} {wr:List (ByteArray×α)} (k:ByteArray) (v:α):(qj9 wr k v).Perm ((k,v)::wr.filter λp=> !decide (p.1=k)):=by
 unfold qj9;refine List.perm_middle.trans (List.Perm.cons _ ?_);have:∀l:List (ByteArray×α),((l.filter λp=>klt p.1 k)++l.filter λp=>klt k p.1).Perm (l.filter λp=> !decide (p.1=k)):=by
  intro l
  induction l with
  |nil=>exact .refl _
  |cons p l ih=>
   rw [List.filter_cons,List.filter_cons,List.filter_cons];by_cases e:p.1=k
   ·rw [e,qah];simpa using ih
   ·cases h1:klt p.1 k with
    |true=>
     have h2:klt k p.1=false:=by
      cases h2:klt k p.1 with
      |false=>rfl
      |true=>have:=qcy h1 h2;rw [qah] at this;cases this
     simp only [e,h2,decide_false,Bool.not_false,if_true,Bool.false_eq_true,if_false,List.cons_append];exact ih.cons p
    |false=>
     cases h2:klt k p.1 with
     |true=>
      simp only [e,decide_false,Bool.not_false,if_true,Bool.false_eq_true,if_false];exact List.perm_middle.trans (ih.cons p)
     |false=>exact absurd (qfa h1 h2) e
 exact this wr
theorem qkq {α:Type} {A:List (ByteArray×α)} (hn:(A.map (·.1)).Nodup) {k:ByteArray} {v:α} {q:ByteArray×α} (h:q∈setV A k v):q=(k,v)∨(q∈A∧q.1≠k):=by
 rcases List.mem_cons.1 ((qrs hn k v).mem_iff.1 h) with h|h
 ·exact .inl h
 ·obtain⟨h1,h2⟩:=List.mem_filter.1 h;exact .inr ⟨h1,by simpa using h2⟩
theorem vrel_put {VL:List (ByteArray×List Ver)} {S:Stl} (h:(VL.map λq=>(q.1,qcs q.2)).Perm S) (hu:∀q∈VL,Uni q.2) (hn:(VL.map (·.1)).Nodup) (k:ByteArray) (x:Ver) {l:List Ver} (hl:qbk S k=qcs l) (hx:Uni (l++ [x])):
  ((setV VL k (l++ [x])).map λq=>(q.1,qcs q.2)).Perm (qjt S k x)∧∀q∈setV VL k (l++ [x]),Uni q.2:=by
 refine⟨?_,λq hq=> ?_⟩
 ·refine((qrs hn k (l++ [x])).map _).trans ?_;refine List.Perm.trans ?_ (qwp (wr:=S) k (qfl (qbk S k) x)).symm;rw [List.map_cons,hl,qh3];refine List.Perm.cons _ ?_;refine List.Perm.trans ?_ (h.filter _);rw [List.filter_map];exact .refl _
 ·rcases qkq hn hq with rfl|⟨hq,_⟩
  ·exact hx
  ·exact hu q hq
theorem qrp {α:Type} {A:List (ByteArray×α)} (k:ByteArray) (v:α) (q:ByteArray):qaw (setV A k v) q=if k=q then some v else qaw A q:=by
 induction A with
 |nil=>
  unfold setV;rw [qax]
 |cons p A ih=>
  unfold setV;by_cases e:p.1=k
  ·rw [if_pos e,qax,qax];by_cases e2:k=q
   ·rw [if_pos e2,if_pos e2]
   ·rw [if_neg e2,if_neg e2,if_neg (by rw [e];exact e2)]
  ·rw [if_neg e,qax,qax,ih];by_cases e2:k=q
   ·subst e2;simp [e]
   ·simp [e2]
theorem qzz (n a:Int) (L:List Lk) (j:Nat) (h:j<L.length):qqk n a (L.take (j+1))=if full (if L[j].owner=n then⟨0,L[j].frm,L[j].til,⟨L[j].sp.lo,min L[j].sp.hi a⟩⟩ else L[j]:Lk).sp then qqk n a (L.take j)++ [if L[j].owner=n then⟨0,L[j].frm,L[j].til,⟨L[j].sp.lo,min L[j].sp.hi a⟩⟩ else L[j]] else qqk n a (L.take j):=by
 unfold qqk;rw [List.take_succ_eq_append_getElem h,List.map_append,List.filter_append,List.map_cons,List.map_nil,List.filter_cons,List.filter_nil];generalize (if L[j].owner=n then(⟨0,L[j].frm,L[j].til,⟨L[j].sp.lo,min L[j].sp.hi a⟩⟩:Lk) else L[j])=x
 cases full x.sp<;>simp
theorem qzh (t:Int) (L:List Lk) (j:Nat) (h:j<L.length):qkb t (L.take (j+1))=if full (if L[j].owner=0 then⟨L[j].owner,L[j].frm,L[j].til,⟨max L[j].sp.lo (t+1),L[j].sp.hi⟩⟩ else L[j]:Lk).sp then qkb t (L.take j)++ [if L[j].owner=0 then⟨L[j].owner,L[j].frm,L[j].til,⟨max L[j].sp.lo (t+1),L[j].sp.hi⟩⟩ else L[j]] else qkb t (L.take j):=by
 unfold qkb;rw [List.take_succ_eq_append_getElem h,List.map_append,List.filter_append,List.map_cons,List.map_nil,List.filter_cons,List.filter_nil];generalize (if L[j].owner=0 then(⟨L[j].owner,L[j].frm,L[j].til,⟨max L[j].sp.lo (t+1),L[j].sp.hi⟩⟩:Lk) else L[j])=x
 cases full x.sp<;>simp
theorem qnq {a:Int} {D:List (ByteArray×Ver)} {S:Stl} (h:KS S) (hn:(D.map (·.1)).Nodup) {k:ByteArray} (hk:∀q∈D,q.1≠k):qbk (qcp a D S) k=qbk S k:=by
 unfold qbk;rw [qit a k D h hn,qbt.2 hk]
theorem qkv (fr til:ByteArray):∀{wr:List (ByteArray×Ver)} {l:List (ByteArray×ByteArray)},Kup wr→(∀x∈l,∀q∈wr,x.1≠q.1)→∀p,p∈wr.foldl (λl p=>if klt p.1 fr||klt til p.1||p.2.gone then l else qj9 l p.1 p.2.val) l↔p∈l∨∃q∈wr,(klt q.1 fr||klt til q.1||q.2.gone)=false∧p=(q.1,q.2.val)
 | [],l,_,_,p=>by simp
 |w::wr,l,hk,hl,p=>by
  obtain⟨k1,k2⟩:=List.pairwise_cons.1 hk;rw [List.foldl_cons];have hl2:∀x∈l,∀q∈wr,x.1≠q.1:=λx hx q hq=>hl x hx q (by simp [hq])
  by_cases c:(klt w.1 fr||klt til w.1||w.2.gone)=true
  ·rw [if_pos c,qkv fr til k2 hl2]
   constructor
   ·rintro(h|⟨q,hq,h⟩)
    ·exact .inl h
    ·exact .inr ⟨q,by simp [hq],h⟩
   ·rintro(h|⟨q,hq,h1,h2⟩)
    ·exact .inl h
    ·rcases List.mem_cons.1 hq with rfl|hq
     ·rw [c] at h1;cases h1
     ·exact .inr ⟨q,hq,h1,h2⟩
  ·rw [if_neg c];have hl3:∀x∈qj9 l w.1 w.2.val,∀q∈wr,x.1≠q.1:=λx hx q hq=>by
    rcases qdf.1 hx with rfl|⟨hx,_⟩
    ·intro e;have:=k1 q hq;simp only at e;rw [←e,qah] at this;cases this
    ·exact hl2 x hx q hq
   rw [qkv fr til k2 hl3,qdf]
   constructor
   ·rintro((rfl|⟨h,_⟩)|⟨q,hq,h⟩)
    ·exact .inr ⟨w,by simp,by simpa using c,rfl⟩
    ·exact .inl h
    ·exact .inr ⟨q,by simp [hq],h⟩
   ·rintro(h|⟨q,hq,h1,h2⟩)
    ·exact .inl (.inr ⟨h,hl p h w (by simp)⟩)
    ·rcases List.mem_cons.1 hq with rfl|hq
     ·exact .inl (.inl h2)
     ·exact .inr ⟨q,hq,h1,h2⟩
theorem qnl (fr til:ByteArray):∀{wr:List (ByteArray×Ver)} {l:List (ByteArray×ByteArray)},Kup l→Kup (wr.foldl (λl p=>if klt p.1 fr||klt til p.1||p.2.gone then l else qj9 l p.1 p.2.val) l)
 | [],l,h=>h
 |w::wr,l,h=>by
  rw [List.foldl_cons];split
  ·exact qnl fr til h
  ·exact qnl fr til (h.put _ _)
theorem qm4 {S:Stl} (h:KS S) (wr:List (ByteArray×Ver)) (fr til:ByteArray) (hi:Int):Kup (qe4 S wr fr til hi):=qnl fr til (quk h wr fr til hi)
theorem zb3 {S:Stl} (h:KS S) {wr:List (ByteArray×Ver)} (hw:Kup wr) {fr til:ByteArray} {hi:Int} {p:ByteArray×ByteArray}:p∈qe4 S wr fr til hi↔(inK wr fr til p.1=true∧∃v,qdj S p.1 hi=some v∧v.gone=false∧v.val=p.2)∨∃v,qaw wr p.1=some v∧(klt p.1 fr||klt til p.1||v.gone)=false∧v.val=p.2:=by
 have hb:∀x∈qwd S wr fr til hi,∀q∈wr,x.1≠q.1:=λx hx q hq e=>by
  obtain⟨h1,_⟩:=(qvg h).1 hx;unfold inK at h1;have:=(qav hw (k:=q.1) (x:=q.2)).2 hq;rw [e,this] at h1;simp at h1
 have h1:=qkv fr til hw hb p;show p∈wr.foldl _ (qwd S wr fr til hi)↔_
 rw [h1,qvg h]
 constructor
 ·rintro(h|⟨q,hq,h2,rfl⟩)
  ·exact .inl h
  ·exact .inr ⟨q.2,(qav hw).2 hq,h2,rfl⟩
 ·rintro(h|⟨v,h2,h3,h4⟩)
  ·exact .inl h
  ·refine .inr ⟨(p.1,v),(qav hw).1 h2,h3, ?_⟩;rw [h4]
def qm7 (S:Stl) (wr:List (ByteArray×Ver)) (fr til:ByteArray) (hi:Int) (k:ByteArray):Option (ByteArray×ByteArray):=
 if klt k fr||klt til k then none else match(qaw wr k).or (qdj S k hi) with
  |some v=>if v.gone then none else some (k,v.val)
  |none=>none
theorem outM_eq {S:Stl} (h:KS S) {wr:List (ByteArray×Ver)} (hw:Kup wr) (fr til:ByteArray) (hi:Int) {K:List ByteArray} (hK:K.Pairwise λa b=>klt a b=true) (hall:∀k,(qdj S k hi).isSome=true∨(qaw wr k).isSome=true→k∈K):K.filterMap (qm7 S wr fr til hi)=qe4 S wr fr til hi:=by
 have hone:∀k p,qm7 S wr fr til hi k=some p→p.1=k:=λk p e=>by
  unfold qm7 at e;split at e
  ·cases e
  ·split at e
   ·split at e
    ·cases e
    ·cases e;rfl
   ·cases e
 refine qod ?_ (qm4 h wr fr til hi) λp=> ?_
 ·unfold Kup;refine List.Pairwise.filterMap _ (λa a' haa b hb b' hb'=> ?_) hK
  rw [hone a b hb,hone a' b' hb'];exact haa
 ·rw [List.mem_filterMap,zb3 h hw]
  constructor
  ·rintro⟨k,hk,e⟩;have hp:=hone k p e;subst hp;unfold qm7 at e;split at e
   ·cases e
   ·rename_i c1;cases hg:qaw wr p.1 with
    |some v=>
     rw [hg] at e;simp only [Option.some_or] at e;split at e
     ·cases e
     ·rename_i c2;refine .inr ⟨v,rfl,by simp at c1 c2⊢;exact⟨c1,c2⟩, ?_⟩
      have:=Option.some.inj e;rw [←this]
    |none=>
     rw [hg] at e;simp only [Option.none_or] at e;cases hs:qdj S p.1 hi with
     |none=>rw [hs] at e;cases e
     |some v=>
      rw [hs] at e;simp only at e;split at e
      ·cases e
      ·rename_i c2;refine .inl ⟨by unfold inK;rw [hg];simpa using c1,v,rfl,by simpa using c2, ?_⟩
       have:=Option.some.inj e;rw [←this]
  ·rintro(⟨h1,v,h2,h3,h4⟩|⟨v,h1,h2,h3⟩)
   ·refine⟨p.1,hall _ (.inl (by rw [h2];rfl)), ?_⟩
    unfold inK at h1;have h1':(klt p.1 fr||klt til p.1)=false∧(qaw wr p.1).isSome=false:=by simpa [Bool.or_eq_false_iff,and_assoc] using h1
    have hn:qaw wr p.1=none:=by cases hg:qaw wr p.1 with
     |none=>rfl
     |some x=>rw [hg] at h1';cases h1'.2
    unfold qm7;rw [h1'.1,hn,h2];simp [h3,h4]
   ·refine⟨p.1,hall _ (.inr (by rw [h1];rfl)), ?_⟩
    have h2':(klt p.1 fr||klt til p.1)=false∧v.gone=false:=by simpa [Bool.or_eq_false_iff] using h2
    unfold qm7;rw [h2'.1,h1];simp [h2'.2,h3]
end Go.Sm
namespace Go.Sm
open Go Go.Proofs
set_option maxRecDepth 100000
set_option maxHeartbeats 4000000
theorem qrx (l:List Int) (v:Value) (x:Int) (σ:CSt) (hsl:Sl σ 22 1 qg5 v l) (hbig:l.length<2^40) (Q:Out→CSt→Prop)
  (h:∀r:Int,(0≤r↔x∈l)→Q (.ret (.int .i64 r) false) σ):W E1 (.fn 236 #[v, .int .u64 x] none) σ Q:=by
 rw [qap (fn:=Tryz.f236) Tryz.func236 rfl rfl rfl];obtain⟨p,c,rfl⟩:=hsl.form;simp [qa0];refine qaj (λn a s=>∃tm j,a=⟨tm,19, [],false⟩∧tm.get 0=some (.slice p l.length c)∧tm.get 1=some (.int .u64 x)∧tm.get 7=some (.int .i64 l.length)∧tm.get 8=some (.int .i64 (j:Nat))∧j≤l.length∧n=l.length-j∧s=σ∧x∉l.take j) ?_ l.length _ _ ?_
 ·rintro n a s ⟨tm,j,rfl,e0,e1,e7,e8,hj,hn,rfl,hno⟩;by_cases hjl:j<l.length
  ·obtain⟨i,off,row,ro,rfl,hg,hin,hrow,hle⟩:=hsl.at hjl;have hc:=qb2 (enc:=qg5) qru hrow j 0 hjl (by omega)
   have hc':row[off+j]? =some (.int .u64 l[j]):=by simpa [qg5] using hc
   have hw2:=qb7 j (by omega)
   have hjl':(j:Int)<l.length:=by omega
   by_cases e:x=l[j]
   ·have:=h j ⟨λ_=>by rw [e];exact List.getElem_mem hjl,λ_=>by omega⟩
    simpa [qa0,e0,e1,e7,e8,hjl,hjl',hg,hc',e] using this
   ·simp [qa0,e0,e1,e7,e8,hjl,hjl',hg,hc',e,hw2];refine⟨_, ?_,j+1,rfl,by omega,rfl,λhm=> ?_⟩
    ·omega
    rw [List.take_succ_eq_append_getElem hjl,List.mem_append,List.mem_singleton] at hm;exact hm.elim hno e
  ·have hjl':j=l.length:=by omega
   subst hjl';rw [List.take_length] at hno;have:=h (-1) ⟨λh=>by omega,λh=>absurd h hno⟩
   simpa [qa0,e0,e1,e7,e8] using this
 ·refine⟨_,0,rfl, ?_⟩;simp
theorem qmb (l:List Int) (v:Value) (x:Int) (σ:CSt) (hsl:Sl σ 22 1 qg5 v l) (hbig:l.length<2^40) (Q:Out→CSt→Prop)
  (h:Q (.ret (.bool (decide (x∈l))) false) σ):W E1 (.fn 181 #[v, .int .u64 x] none) σ Q:=by
 rw [qap (fn:=Tryz.f181) Tryz.func181 rfl rfl rfl];obtain⟨p,c,rfl⟩:=hsl.form;simp [qa0];refine qrx l _ x σ hsl hbig _ λr hr=> ?_
 by_cases e:x∈l
 ·have h0:=hr.2 e;simp [e] at h;simpa [qa0,h0] using h
 ·have h0:¬0≤r:=λh0=>e (hr.1 h0)
  simp [e] at h;simpa [qa0,h0] using h
def okW (n a:Int) (l:Lk) (k:ByteArray):Bool:=decide (l.owner=n)||klt k l.frm||klt l.til k||decide (a<l.sp.lo)||decide (l.sp.hi<a)
theorem free_okW (P:PM) (n:Int) (t:Tx) (a:Int):P.free n t a=(!decide (a∈P.taken)&&P.L.all λl=>t.wr.all λw=>okW n a l w.1):=rfl
def allW (t:Tx) (n a:Int) (l:Lk) (f:Bool):Bool:=f&&t.wr.all λw=>okW n a l w.1
def PtO (P:PM) (n:Int) (t:Tx) (σ s:CSt) (a:Int):Prop:=t.sp.lo≤a∧a≤t.sp.hi+1∧(∀b,t.sp.lo≤b→b<a→P.free n t b=false)∧Grow σ s
def midF (P:PM) (n:Int) (t:Tx) (a:Int) (j:Nat):Bool:= !decide (a∈P.taken)&&(P.L.take j).all λl=>t.wr.all λw=>okW n a l w.1
def PtN (n:Int) (a:Int) (l:Lk) (W:Ml) (f0:Bool) (σ s:CSt) (it w m:Nat) (f:Bool):Prop:=∃D S,m=List.length S∧MIt Value.string s it w W S∧W.Perm (D++S)∧Grow σ s∧it<s.n∧f=(f0&&D.all λp=>okW n a l p.1)
section
variable {F:Nat→Prop} {σ:CSt} {m mv ml:Nat} {lv tv:Value} {X Wn:Int→Nat} {Sv:ByteArray→Value} {VL:Vl} {P:PM}
theorem qla (h:RMx F σ m mv ml lv tv X Wn Sv VL P) (hok:P.Ok) (hsz:P.size<2^30) (n:Int) (Q:Out→CSt→Prop)
  (h1:∀σ',Grow σ σ'→Q (.ret (.tuple #[.int .u64 (P.point n).1, .int .i64 (P.point n).2]) false) σ'):W E1 (.fn 104 #[ptr m, .int .i64 n] none) σ Q:=by
 rw [qap (fn:=Tryz.f104) Tryz.func104 rfl rfl rfl];have hg:=h.cell;have hlk:=qgd h n true;unfold ptr at hlk;cases ht:P.get n with
 |none=>
  rw [ht] at hlk;simp at hlk;have e:P.point n=(0,4):=by unfold PM.point;rw [ht]
  have:=h1 σ (Grow.refl _);rw [e] at this;simpa [qa0,ptr,hg,hlk] using this
 |some t=>
 rw [ht] at hlk;simp at hlk;have hm:=(qao hok).1 ht;have hto:=hok.tx _ hm;have htx:=h.lv.tx _ hm;simp only at hto htx;have hx:=htx.cell;have hxl:=htx.lx;unfold qfo hdB at hx;cases hs:t.snap with
 |true=>
  have e:=qf0 ht hs;have:=h1 σ (Grow.refl _);rw [e] at this;rw [hs] at hx;simpa [qa0,ptr,hg,hlk,hx] using this
 |false=>
  rw [hs] at hx;have hxw:=hto.w hs;obtain⟨hFw,hlw,W,hW,hp⟩:=htx.wr hs;have hwv:wv t (Wn n)= .map (some (Wn n)):=by unfold wv;rw [hs];rfl
  rw [hwv] at hx;have hTl:P.taken.length<2^30:=by
   have:P.taken.length≤P.size:=by unfold PM.size;omega
   omega
  have hLl:P.L.length<2^30:=by
   have:P.L.length≤P.size:=by unfold PM.size;omega
   omega
  obtain⟨pl,cl,hlv⟩:=(h.lo.sl (sz:=5) qe1).form;obtain⟨pt,ct,htv⟩:=(h.to_.sl (sz:=1) qru).form;simp [qa0,ptr,hg,hlk,hx];refine qak (λk ac s=>∃tm a,ac=⟨tm,105, [],false⟩∧tm.get 0=some (.pointer (some ⟨m,0,none⟩))∧tm.get 1=some (.int .i64 n)∧tm.get 6=some (.pointer (some ⟨X n,0,none⟩))∧tm.get 8=some (.int .u64 a)∧k=(t.sp.hi+1-a).toNat∧PtO P n t σ s a)
   (λout s=>(∃tm,out= .code (.exit 0) ⟨tm,105, [],false⟩∧(∀b,t.sp.lo≤b→b≤t.sp.hi→P.free n t b=false)∧Grow σ s)∨∃tm a,out= .code .ret ⟨tm,105, [],false⟩∧tm.get 4=some (.int .u64 a)∧tm.get 5=some (.int .i64 0)∧t.sp.lo≤a∧a≤t.sp.hi∧P.free n t a=true∧(∀b,t.sp.lo≤b→b<a→P.free n t b=false)∧Grow σ s) ?_ ((t.sp.hi+1-t.sp.lo).toNat) _ _ ?_ ?_
  ·rintro k ac s ⟨tm,a,rfl,e0,e1,e6,e8,hk,⟨ha1,ha2,hno,gs⟩⟩;have hxs:=gs.get hx hxl;by_cases c:a≤t.sp.hi
   ·have hrs:=h.grow gs;have hgs:=hrs.cell;have hsT:=hrs.to_.sl (sz:=1) qru;have hsL:=hrs.lo.sl (sz:=5) qe1;simp [qa0,e0,e1,e6,e8,hxs,c,hgs];refine qmb P.taken tv a s hsT (by omega) _ ?_
    rw [hlv] at hgs;simp [qa0,e0,e1,e6,e8,hgs];refine qak (λk' ac s'=>∃tm j,ac=⟨tm,105, [],false⟩∧tm.get 0=some (.pointer (some ⟨m,0,none⟩))∧tm.get 1=some (.int .i64 n)∧tm.get 6=some (.pointer (some ⟨X n,0,none⟩))∧tm.get 8=some (.int .u64 a)∧tm.get 9=some (.bool (midF P n t a j))∧tm.get 54=some (.slice pl P.L.length cl)∧tm.get 55=some (.int .i64 P.L.length)∧tm.get 56=some (.int .i64 (j:Nat))∧j≤P.L.length∧k'=P.L.length-j∧Grow s s')
     (λout s'=>∃tm,out= .code (.exit 2) ⟨tm,105, [],false⟩∧tm.get 0=some (.pointer (some ⟨m,0,none⟩))∧tm.get 1=some (.int .i64 n)∧tm.get 6=some (.pointer (some ⟨X n,0,none⟩))∧tm.get 8=some (.int .u64 a)∧tm.get 9=some (.bool (P.free n t a))∧Grow s s') ?_ P.L.length _ _ ?_ ?_
    ·rintro k' ac s' ⟨tm,j,rfl,e0,e1,e6,e8,e9,e54,e55,e56,hj,hk',gs'⟩;obtain⟨f,hf⟩:∃f,f=midF P n t a j:=⟨_,rfl⟩
     rw [←hf] at e9;by_cases hjl:j<P.L.length
     ·rw [hlv] at hsL;obtain⟨i,off,row,ro,rfl,hgi,hin,hrow,hle⟩:=(hsL.grow gs').at hjl;have hld:=qam (enc:=qag) qe1 hrow j hjl;have hl1:=qbe hle j hjl;have hw2:=qb7 j (by omega)
      have hjl':(j:Int)<P.L.length:=by omega
      have hxs':=gs'.get hxs (by have:=gs.n;omega)
      have g5:Grow s' ((s'.alloc (.cells [.int .i64 0, .string ⟨#[]⟩, .string ⟨#[]⟩, .int .u64 0, .int .u64 0] 99 false)).put s'.n (.cells (qag P.L[j]) 99 false)):=((Grow.refl s').alloc _).put (Nat.le_refl _) _;have hc5:((s'.alloc (.cells [.int .i64 0, .string ⟨#[]⟩, .string ⟨#[]⟩, .int .u64 0, .int .u64 0] 99 false)).put s'.n (.cells (qag P.L[j]) 99 false)).get s'.n=some (.cells (qag P.L[j]) 99 false):=by simp
      have hn5:((s'.alloc (.cells [.int .i64 0, .string ⟨#[]⟩, .string ⟨#[]⟩, .int .u64 0, .int .u64 0] 99 false)).put s'.n (.cells (qag P.L[j]) 99 false)).n=s'.n+1:=by simp
      simp only [qag] at g5 hc5 hn5;have hne:¬X n=s'.n:=by have:=gs.n;have:=gs'.n;omega
      have gσ':=gs.trans gs';have hWs:MpG Value.string s' (Wn n) W:=by
       obtain⟨es,ck,e1,e2⟩:=hW;exact⟨es,ck,gσ'.get e1 hlw,e2⟩
      simp [qa0,e0,e1,e6,e8,e9,e54,e55,e56,hjl,hjl',hgi,hld,hl1];simp [qa0,qag,e0,e1,e6,e8,e9,e54,e55,e56,hxs',hne];generalize (s'.alloc (.cells [.int .i64 0, .string ⟨#[]⟩, .string ⟨#[]⟩, .int .u64 0, .int .u64 0] 99 false)).put s'.n (.cells [.int .i64 P.L[j].owner, .string P.L[j].frm, .string P.L[j].til, .int .u64 P.L[j].sp.lo, .int .u64 P.L[j].sp.hi] 99 false)=s5 at g5 hc5 hn5⊢;have hWl5:Wn n<s5.n:=by have:=gσ'.n;omega
      have hW5:MpG Value.string s5 (Wn n) W:=by
       obtain⟨es,ck,e1,e2⟩:=hWs;exact⟨es,ck,g5.get e1 (by have:=gσ'.n;omega),e2⟩
      obtain⟨o,ho,hit⟩:=qb3 (P:=Tryz.prog) (t:=111) Tryz.underlying111 hW5 hWl5;have ga:Grow s5 (s5.alloc o):=(Grow.refl s5).alloc o;have hna:s5.n<(s5.alloc o).n:=by simp
      simp [qa0,ho];generalize s5.alloc o=s6 at ga hna hit⊢;refine qak (λk2 ac s2=>∃tm f2,ac=⟨tm,105, [],false⟩∧tm.get 0=some (.pointer (some ⟨m,0,none⟩))∧tm.get 1=some (.int .i64 n)∧tm.get 6=some (.pointer (some ⟨X n,0,none⟩))∧tm.get 8=some (.int .u64 a)∧tm.get 9=some (.bool f2)∧tm.get 54=some (.slice (some ⟨i,off,none⟩) P.L.length cl)∧tm.get 55=some (.int .i64 P.L.length)∧tm.get 56=some (.int .i64 (j:Nat))∧tm.get 11=some (.pointer (some ⟨s'.n,0,none⟩))∧tm.get 64=some (.pointer (some ⟨s5.n,0,none⟩))∧PtN n a P.L[j] W f s5 s2 s5.n (Wn n) k2 f2)
       (λout s2=>∃tm,out= .code (.exit 4) ⟨tm,105, [],false⟩∧tm.get 0=some (.pointer (some ⟨m,0,none⟩))∧tm.get 1=some (.int .i64 n)∧tm.get 6=some (.pointer (some ⟨X n,0,none⟩))∧tm.get 8=some (.int .u64 a)∧tm.get 9=some (.bool (allW t n a P.L[j] f))∧tm.get 54=some (.slice (some ⟨i,off,none⟩) P.L.length cl)∧tm.get 55=some (.int .i64 P.L.length)∧tm.get 56=some (.int .i64 (j:Nat))∧Grow s5 s2) ?_ (List.length W) _ _ ?_ ?_
      ·rintro k2 ac s2 ⟨tm,f2,rfl,e0,e1,e6,e8,e9,e54,e55,e56,e11,e64,⟨D,S,hk2,hi,hpm,gs2,hits,hf2⟩⟩;simp [qa0,e0,e1,e6,e8,e9,e54,e55,e56,e11,e64];refine qbb hi (λhS=> ?_) (λq hq o' hi' he=> ?_)
       ·subst hS;have hff:f2=allW t n a P.L[j] f:=by
         rw [hf2];unfold allW;rw [List.append_nil] at hpm
         congr 1
         have hDw:=hpm.symm.trans hp;rw [Bool.eq_iff_iff,List.all_eq_true,List.all_eq_true]
         constructor
         ·intro hh w hw;exact hh (w.1, .agg (qad w.2).toArray) (hDw.mem_iff.2 (List.mem_map.2 ⟨w,hw,rfl⟩))
         ·intro hh p hp';obtain⟨w,hw,rfl⟩:=List.mem_map.1 (hDw.mem_iff.1 hp');exact hh w hw
        simp [qa0];exact⟨e0,e1,e6,e8,by rw [←hff];exact e9,e54,e55,e56,gs2⟩
       ·obtain⟨kk,vv,hku⟩:∃kk vv,S[q]=(kk,vv):=⟨_,_,rfl⟩
        rw [hku] at he⊢;simp only at he;have gs3:Grow s5 (s2.put s5.n o'):=gs2.put (Nat.le_refl _) _;have hc3:=gs3.get hc5 (by omega)
        have hstep:∀f3,f3=(f2&&okW n a P.L[j] kk)→∃k3,k3<k2∧PtN n a P.L[j] W f s5 (s2.put s5.n o') s5.n (Wn n) k3 f3:=λf3 hf3=>⟨(S.eraseIdx q).length,by rw [hk2,List.length_eraseIdx_of_lt hq];omega,D++ [(kk,vv)],S.eraseIdx q,rfl,hi',hpm.trans (by
         rw [List.append_assoc];have:=qbn hq;rw [hku] at this
         exact List.Perm.append_left D this),gs3,hits,by rw [hf3,hf2,List.all_append];simp [Bool.and_assoc]⟩
        generalize s2.put s5.n o'=s3 at hc3 hstep he⊢;cases f2 with
        |false=>
         obtain⟨k3,hk3,hp3⟩:=hstep false (by simp)
         simp [qa0,qa2,qa4,he,e0,e1,e6,e8,e9,e54,e55,e56,e11,e64];exact⟨k3,hk3,hp3⟩
        |true=>
         by_cases c1:P.L[j].owner=n
         ·obtain⟨k3,hk3,hp3⟩:=hstep true (by simp [okW,c1])
          simp [qa0,qa2,qa4,he,e0,e1,e6,e8,e9,e54,e55,e56,e11,e64,hc3,c1];exact⟨k3,hk3,hp3⟩
         ·have hkb:(klt kk P.L[j].til||kk.toList==P.L[j].til.toList)= !klt P.L[j].til kk:=qi5 _ _
          cases c2:klt kk P.L[j].frm with
          |true=>
           obtain⟨k3,hk3,hp3⟩:=hstep true (by simp [okW,c2])
           simp [qa0,qa2,qa4,he,e0,e1,e6,e8,e9,e54,e55,e56,e11,e64,hc3,c1,c2];exact⟨k3,hk3,hp3⟩
          |false=>
           cases c3:klt P.L[j].til kk with
           |true=>
            rw [c3] at hkb;obtain⟨k3,hk3,hp3⟩:=hstep true (by simp [okW,c3])
            simp [qa0,qa2,qa4,he,e0,e1,e6,e8,e9,e54,e55,e56,e11,e64,hc3,c1,c2,hkb];exact⟨k3,hk3,hp3⟩
           |false=>
            rw [c3] at hkb;by_cases c4:a<P.L[j].sp.lo
            ·obtain⟨k3,hk3,hp3⟩:=hstep true (by simp [okW,c4])
             simp [qa0,qa2,qa4,he,e0,e1,e6,e8,e9,e54,e55,e56,e11,e64,hc3,c1,c2,hkb,c4];exact⟨k3,hk3,hp3⟩
            ·by_cases c5:P.L[j].sp.hi<a
             ·obtain⟨k3,hk3,hp3⟩:=hstep true (by simp [okW,c5])
              simp [qa0,qa2,qa4,he,e0,e1,e6,e8,e9,e54,e55,e56,e11,e64,hc3,c1,c2,hkb,c4,c5];exact⟨k3,hk3,hp3⟩
             ·obtain⟨k3,hk3,hp3⟩:=hstep false (by simp [okW,c1,c2,c3,c4,c5])
              simp [qa0,qa2,qa4,he,e0,e1,e6,e8,e9,e54,e55,e56,e11,e64,hc3,c1,c2,hkb,c4,c5];exact⟨k3,hk3,hp3⟩
      ·refine⟨_,f,rfl, ?_⟩;simp [e0,e1,e6,e8,e9,e54,e55,e56];exact⟨[],W,rfl,hit, .refl _,ga,hna,by simp⟩
      ·rintro out s2 ⟨tm,rfl,e0,e1,e6,e8,e9,e54,e55,e56,gs2⟩;have hmid:allW t n a P.L[j] f=midF P n t a (j+1):=by
        unfold midF allW;rw [List.take_succ_eq_append_getElem hjl,List.all_append,hf];simp [Bool.and_assoc,midF]
       rw [hmid] at e9;simp [qa0,e0,e1,e6,e8,e9,e54,e55,e56,hw2];exact⟨P.L.length-(j+1),by omega,j+1,rfl,rfl,by omega,rfl,(gs'.trans g5).trans gs2⟩
     ·have hjl':j=P.L.length:=by omega
      subst hjl';have hfr:midF P n t a P.L.length=P.free n t a:=by unfold midF;rw [List.take_length,←free_okW]
      rw [hf,hfr] at e9;simp [qa0,e0,e1,e6,e8,e9,e54,e55,e56];exact gs'
    ·refine⟨_,0,rfl, ?_⟩;simp [e0,e1,e6,e8,midF];exact Grow.refl _
    ·rintro out s' ⟨tm,rfl,e0,e1,e6,e8,e9,gs'⟩;have hw3:IntKind.u64.wrap (a+1)=a+1:=IntWalk.u64_in _ (by omega)
     cases hfr:P.free n t a with
     |true=>
      rw [hfr] at e9;simp [qa0,e0,e1,e6,e8,e9];exact⟨ha1,c,hfr,hno,gs.trans gs'⟩
     |false=>
      rw [hfr] at e9;simp [qa0,e0,e1,e6,e8,e9,hw3];refine⟨_, ?_,rfl,by omega,by omega,λb hb1 hb2=> ?_,gs.trans gs'⟩
      ·omega
      by_cases e:b=a
      ·rw [e];exact hfr
      ·exact hno b hb1 (by omega)
   ·simp [qa0,e0,e1,e6,e8,hxs,c];exact⟨λb hb1 hb2=>hno b hb1 (by omega),gs⟩
  ·refine⟨_,t.sp.lo,rfl, ?_⟩;simp;exact⟨Int.le_refl _,by omega,λb h1 h2=>by omega,Grow.refl _⟩
  ·rintro out s (⟨tm,rfl,hno,gs⟩|⟨tm,a,rfl,e4,e5,ha1,ha2,hfr,hno,gs⟩)
   ·have:=h1 s gs;rcases qbw hok ht hs with⟨hpt,_⟩|⟨b,hpt,hb1,hb2,hfb,_⟩
    ·rw [hpt] at this;simpa [qa0] using this
    ·rw [hno b hb1 hb2] at hfb;cases hfb
   ·have:=h1 s gs;rcases qbw hok ht hs with⟨hpt,hno2⟩|⟨b,hpt,hb1,hb2,hfb,hnb⟩
    ·rw [hno2 a ha1 ha2] at hfr;cases hfr
    ·have hab:a=b:=by
      rcases Int.lt_trichotomy a b with h3|h3|h3
      ·rw [hnb a ha1 h3] at hfr;cases hfr
      ·exact h3
      ·rw [hno b hb1 h3] at hfb;cases hfb
     subst hab;rw [hpt] at this;simpa [qa0,e4,e5] using this
end
theorem qfh {α:Type} {A:List (ByteArray×α)} (hn:(A.map (·.1)).Nodup) {q:ByteArray×α} (h:q∈A):qaw A q.1=some q.2:=by
 induction A with
 |nil=>cases h
 |cons p A ih=>
  rw [List.map_cons,List.nodup_cons] at hn;rw [qax];rcases List.mem_cons.1 h with rfl|h
  ·rw [if_pos rfl]
  ·have:p.1≠q.1:=λe=>hn.1 (by rw [e];exact List.mem_map_of_mem (f:=(·.1)) h)
   rw [if_neg this,ih hn.2 h]
theorem qh4 {α:Type} {A:List (ByteArray×α)} {k:ByteArray} {x:α} (h:qaw A k=some x):(k,x)∈A:=by
 unfold qaw at h;obtain⟨q,h2,rfl⟩:=Option.map_eq_some_iff.1 h;have h3:q.1=k:=by simpa using List.find?_some h2
 rw [←h3];exact List.mem_of_find?_eq_some h2
theorem qgw {α:Type}:∀{A B:List (ByteArray×α)},(A.map (·.1)).Nodup→(B.map (·.1)).Nodup→(∀k,qaw A k=qaw B k)→A.Perm B
 | [],B,_,_,h=>by
  cases B with
  |nil=>exact .refl _
  |cons p B=>
   have:=h p.1;rw [qax,if_pos rfl] at this;cases this
 |p::A,B,hA,hB,h=>by
  rw [List.map_cons,List.nodup_cons] at hA;have hp:qaw B p.1=some p.2:=by rw [←h,qax,if_pos rfl]
  obtain⟨s,t,rfl⟩:=List.append_of_mem (qh4 hp);have hpm:(s++p::t).Perm (p::(s++t)):=List.perm_middle;have hn2:=(hpm.map (·.1)).nodup_iff.1 hB
  rw [List.map_cons,List.nodup_cons] at hn2;refine List.Perm.trans ?_ hpm.symm;refine List.Perm.cons _ (qgw hA.2 hn2.2 λk=> ?_)
  have h3:=h k;have h4:=qi4 hpm hB k;rw [h4,qax,qax] at h3;by_cases e:p.1=k
  ·have h5:qaw A k=none:=qbt.2 λq hq e2=>hA.1 (by rw [e,←e2];exact List.mem_map_of_mem (f:=(·.1)) hq)
   have h6:qaw (s++t) k=none:=qbt.2 λq hq e2=>hn2.1 (by rw [e,←e2];exact List.mem_map_of_mem (f:=(·.1)) hq)
   rw [h5,h6]
  ·rwa [if_neg e,if_neg e] at h3
theorem qne (t:Int) (k:ByteArray):∀{S:Stl},(S.map (·.1)).Nodup→qaw (qen t S) k=(qaw S k).bind λc=>if qer c t= [] then none else some (qer c t)
 | [],_=>rfl
 |s::S,hn=>by
  rw [List.map_cons,List.nodup_cons] at hn;have ih:=qne t k hn.2;rw [qax];have e:qen t (s::S)=if qer s.2 t= [] then qen t S else(s.1,qer s.2 t)::qen t S:=by
   unfold qen;rw [List.map_cons,List.filter_cons];show(if(!decide ((qer s.2 t).length=0))=true then _ else _)=_
   by_cases c:qer s.2 t= []
   ·simp [c]
   ·simp [c,qw6]
  rw [e];by_cases e1:s.1=k
  ·have h5:qaw S k=none:=qbt.2 λq hq e2=>hn.1 (by rw [e1,←e2];exact List.mem_map_of_mem (f:=(·.1)) hq)
   rw [h5] at ih;by_cases c:qer s.2 t= []
   ·simp [c,e1,ih]
   ·simp [c,e1,qax]
  ·by_cases c:qer s.2 t= []
   ·simp [c,e1,ih]
   ·simp [c,e1,qax,ih]
def cutV (t:Int) (l:List Ver):Option (List Ver):=if qcg l t= [] then none else some (qcg l t)
theorem qv1 {l:List Ver} (h:Uni l) (t:Int):qer (qcs l) t= []↔qcg l t= []:=by
 rw [←qt2 h]
 constructor
 ·intro e;have:=qgx _ (h.left t);rw [e] at this;exact List.eq_nil_of_length_eq_zero this.symm
 ·intro e;rw [e];rfl
theorem qy5 {VL VL':Vl} {S:Stl} (h:VRel VL S) (hk:KS S) (t:Int) (hn':(VL'.map (·.1)).Nodup) (hg:∀k,qaw VL' k=(qaw VL k).bind (cutV t)):VRel VL' (qen t S):=by
 have hn:=h.nodup hk;refine⟨qgw (by rw [List.map_map];exact hn') ?_ λk=> ?_,λq hq=> ?_⟩
 ·have h1:=qce hk;unfold qen;have h2:((S.map (qw6 t)).map (·.1)).Nodup:=by rw [List.map_map];exact h1
  exact h2.sublist ((List.filter_sublist).map _)
 ·have h1:qaw S k=(qaw VL k).map qcs:=by
   rw [←qkr,qi4 h.1 (by rw [List.map_map];exact hn)]
  rw [qkr,hg,qne t k (qce hk),h1];cases e:qaw VL k with
  |none=>rfl
  |some l=>
   have hu:=h.2 _ (qh4 e);simp only at hu;show(cutV t l).map qcs=if qer (qcs l) t= [] then none else some (qer (qcs l) t)
   unfold cutV;by_cases c:qcg l t= []
   ·rw [if_pos c,if_pos ((qv1 hu t).2 c)];rfl
   ·rw [if_neg c,if_neg λe=>c ((qv1 hu t).1 e),←qt2 hu];rfl
 ·have h1:=qfh hn' hq;rw [hg] at h1;obtain⟨l,e1,e2⟩:=Option.bind_eq_some_iff.1 h1;unfold cutV at e2;split at e2
  ·cases e2
  ·have:=Option.some.inj e2;rw [←this];exact Uni.left (h.2 _ (qh4 e1)) t
def qqd (VL:Vl) (t:Int) (k:ByteArray):Nat:=match qaw VL k with|none=>0|some l=>l.length-(qcg l t).length
theorem went_sum {VL:Vl} {S:Stl} (h:VRel VL S) (hk:KS S) (t:Int):((VL.map (·.1)).map (qqd VL t)).sum=qel t S:=by
 have hn:=h.nodup hk;have h1:=(h.1.map λs:ByteArray×List Ver=>s.2.length-(qer s.2 t).length).sum_nat
 unfold qel;rw [←h1,List.map_map,List.map_map]
 congr 1
 refine List.map_congr_left λq hq=> ?_
 show qqd VL t q.1=(qcs q.2).length-(qer (qcs q.2) t).length
 unfold qqd;rw [qfh hn hq,←went_eq (h.2 q hq)]
def qlo (L:List (ByteArray×Ver)):List (ByteArray×ByteArray):=L.filterMap λp=>if p.2.gone then none else some (p.1,p.2.val)
def qt5 (fr til:ByteArray) (q:ByteArray×Ver):Option (ByteArray×ByteArray):=if klt q.1 fr||klt til q.1||q.2.gone then none else some (q.1,q.2.val)
def qi1 (wr:List (ByteArray×Ver)) (fr til:ByteArray) (hi:Int) (s:ByteArray×List Ver):Option (ByteArray×Ver):=if klt s.1 fr||klt til s.1||(qaw wr s.1).isSome then none else(atL s.2 hi).map λv=>(s.1,v)
theorem qet (S:Stl) (wr:List (ByteArray×Ver)) (fr til:ByteArray) (hi:Int):qbq S wr fr til hi=S.filterMap (qi1 wr fr til hi):=rfl
theorem qm0 {wr:List (ByteArray×Ver)} {fr til:ByteArray} {hi:Int} {s:ByteArray×List Ver} {p:ByteArray×Ver} (h:qi1 wr fr til hi s=some p):p.1=s.1:=by
 unfold qi1 at h;split at h
 ·cases h
 ·obtain⟨v,_,rfl⟩:=Option.map_eq_some_iff.1 h;rfl
theorem qra {S:Stl} {wr:List (ByteArray×Ver)} {fr til:ByteArray} {hi:Int} {j:Nat} (hj:j<S.length):qbq (S.take (j+1)) wr fr til hi=qbq (S.take j) wr fr til hi++(qi1 wr fr til hi S[j]).toList:=by
 rw [qet,qet,List.take_succ_eq_append_getElem hj,List.filterMap_append];cases h:qi1 wr fr til hi S[j]<;>simp [h]
theorem seen_pre {S:Stl} {fr:ByteArray} {n:Nat} (hp:Pos S fr n) (wr:List (ByteArray×Ver)) (til:ByteArray) (hi:Int):qbq (S.take n) wr fr til hi= []:=by
 rw [qet,List.filterMap_eq_nil_iff];intro s hs;obtain⟨i,hi',rfl⟩:=List.mem_iff_getElem.1 hs;rw [List.length_take] at hi';rw [List.getElem_take];unfold qi1;rw [hp.lo i (by omega) (by omega)]
 rfl
theorem seen_suf {S:Stl} (hk:KS S) {wr:List (ByteArray×Ver)} {fr til:ByteArray} {hi:Int} {j:Nat} (hj:j≤S.length) (h:∀h:j<S.length,klt til S[j].1=true):qbq (S.take j) wr fr til hi=qbq S wr fr til hi:=by
 conv=>rhs;rw [←List.take_append_drop j S]
 rw [qet,qet,List.filterMap_append];have:(S.drop j).filterMap (qi1 wr fr til hi)= []:=by
  rw [List.filterMap_eq_nil_iff];intro s hs;obtain⟨i,hi',rfl⟩:=List.mem_iff_getElem.1 hs;rw [List.length_drop] at hi';rw [List.getElem_drop];have h1:=h (by omega)
  have h2:klt til S[j+i].1=true:=by
   by_cases e:i=0
   ·subst e;exact h1
   ·exact qcy h1 (List.pairwise_iff_getElem.1 hk j (j+i) (by omega) (by omega) (by omega))
  unfold qi1;rw [h2];simp
 rw [this,List.append_nil]
theorem seen_old {S:Stl} (hk:KS S) {wr:List (ByteArray×Ver)} {fr til:ByteArray} {hi:Int} {j:Nat} (hj:j<S.length) {p:ByteArray×Ver} (hp:p∈qbq (S.take j) wr fr til hi):p.1≠S[j].1:=by
 rw [qet] at hp;obtain⟨s,hs,he⟩:=List.mem_filterMap.1 hp;obtain⟨i,hi',rfl⟩:=List.mem_iff_getElem.1 hs;rw [List.length_take] at hi';rw [List.getElem_take] at he;rw [qm0 he];intro e;have:=List.pairwise_iff_getElem.1 hk i j (by omega) hj (by omega)
 rw [e,qah] at this;cases this
theorem qtu {α:Type} {A B:List (ByteArray×α)} (hA:(A.map (·.1)).Nodup) (hB:(B.map (·.1)).Nodup) (h:∀p,p∈A↔p∈B):A.Perm B:=by
 refine qgw hA hB λk=>Option.ext λx=> ?_
 constructor
 ·intro e;exact qfh hB (q:=(k,x)) ((h _).1 (qh4 e))
 ·intro e;exact qfh hA (q:=(k,x)) ((h _).2 (qh4 e))
theorem qvr {L:List (ByteArray×Ver)} {x:ByteArray×ByteArray} (h:x∈qlo L):∃p∈L,p.1=x.1:=by
 obtain⟨p,hp,e⟩:=List.mem_filterMap.1 h;split at e
 ·cases e
 ·cases e;exact⟨p,hp,rfl⟩
theorem qtf {D:List (ByteArray×Ver)} {fr til:ByteArray} {x:ByteArray×ByteArray} (h:x∈D.filterMap (qt5 fr til)):∃p∈D,p.1=x.1:=by
 obtain⟨p,hp,e⟩:=List.mem_filterMap.1 h;unfold qt5 at e;split at e
 ·cases e
 ·cases e;exact⟨p,hp,rfl⟩
theorem qpk {fr til:ByteArray}:∀{D:List (ByteArray×Ver)},(D.map (·.1)).Nodup→((D.filterMap (qt5 fr til)).map (·.1)).Nodup
 | [],_=>by simp
 |p::D,h=>by
  rw [List.map_cons,List.nodup_cons] at h;have ih:=qpk (fr:=fr) (til:=til) h.2;rw [List.filterMap_cons];cases e:qt5 fr til p with
  |none=>exact ih
  |some x=>
   have hx:x.1=p.1:=by
    unfold qt5 at e;split at e
    ·cases e
    ·cases e;rfl
   rw [List.map_cons,List.nodup_cons];refine⟨λhm=> ?_,ih⟩
   obtain⟨y,hy,hye⟩:=List.mem_map.1 hm;obtain⟨q,hq,hqe⟩:=qtf hy;exact h.1 (by rw [←hx,←hye,←hqe];exact List.mem_map_of_mem (f:=(·.1)) hq)
theorem seen_wr {S:Stl} {wr:List (ByteArray×Ver)} {fr til:ByteArray} {hi:Int} {p:ByteArray×Ver} (h:p∈qbq S wr fr til hi):qaw wr p.1=none:=by
 rw [qet] at h;obtain⟨s,_,e⟩:=List.mem_filterMap.1 h;rw [qm0 e];unfold qi1 at e;cases hk:qaw wr s.1 with
 |none=>rfl
 |some v=>rw [hk] at e;simp at e
theorem qsy {S:Stl} {wr:List (ByteArray×Ver)} {fr til:ByteArray} {hi:Int} {x:ByteArray×ByteArray} (hx:x∈qlo (qbq S wr fr til hi)) {q:ByteArray×Ver} (hq:q∈wr):x.1≠q.1:=by
 obtain⟨p,hp,e⟩:=qvr hx;rw [←e];exact λe2=>qbt.1 (seen_wr hp) q hq e2.symm
theorem qjw {S:Stl} (hk:KS S) {wr D:List (ByteArray×Ver)} (hw:Kup wr) (hD:D.Perm wr) (fr til:ByteArray) (hi:Int):(qlo (qbq S wr fr til hi)++D.filterMap (qt5 fr til)).Perm (qe4 S wr fr til hi):=by
 have hDn:(D.map (·.1)).Nodup:=(hD.map _).nodup_iff.2 (qce hw)
 refine qtu ?_ (qce (qm4 hk wr fr til hi)) λp=> ?_
 ·rw [List.map_append,List.nodup_append];refine⟨qce (quk hk wr fr til hi),qpk hDn,λa ha b hb e=> ?_⟩
  obtain⟨x,hx,rfl⟩:=List.mem_map.1 ha;obtain⟨y,hy,rfl⟩:=List.mem_map.1 hb;obtain⟨q,hq,e2⟩:=qtf hy;exact qsy hx (hD.mem_iff.1 hq) (e.trans e2.symm)
 ·show _↔p∈wr.foldl (λl p=>if klt p.1 fr||klt til p.1||p.2.gone then l else qj9 l p.1 p.2.val) (qlo (qbq S wr fr til hi))
  rw [qkv fr til hw (λx hx q hq=>qsy hx hq),List.mem_append]
  refine or_congr_right ?_;rw [List.mem_filterMap]
  constructor
  ·rintro⟨q,hq,e⟩;unfold qt5 at e;split at e
   ·cases e
   ·rename_i c;cases e;exact⟨q,hD.mem_iff.1 hq,by simpa using c,rfl⟩
  ·rintro⟨q,hq,c,rfl⟩;refine⟨q,hD.mem_iff.2 hq, ?_⟩;unfold qt5;rw [c];rfl
theorem qgq {α:Type} {A:List (ByteArray×α)} (hA:Kup A) {K:List ByteArray} (hp:K.Perm (A.map (·.1))) (hs:K.Pairwise λx y=>klt y x=false):K=A.map (·.1):=by
 have hn:=hp.nodup_iff.2 (qce hA);have h1:K.Pairwise λa b=>klt a b=true:=by
  rw [List.pairwise_iff_getElem] at hs⊢;intro i j hi hj hij;cases c:klt K[i] K[j] with
  |true=>rfl
  |false=>
   have e:=qfa c (hs i j hi hj hij);have:=(List.nodup_iff_pairwise_ne.1 hn);rw [List.pairwise_iff_getElem] at this;exact absurd e (this i j hi hj hij)
 have h2:(A.map (·.1)).Pairwise λa b=>klt a b=true:=by
  rw [List.pairwise_map];exact hA
 exact List.Perm.eq_of_pairwise (λa b _ _ h3 h4=>by
  have:=qcy h3 h4
  rw [qah] at this;cases this) h1 h2 hp
theorem qhw (L:List (ByteArray×Ver)) (p:ByteArray×Ver):qbf (L++ [p])=max (qbf L) p.2.at_:=by
 unfold qbf;rw [List.foldl_append]
 rfl
theorem qr1 (L:List (ByteArray×Ver)) (p:ByteArray×Ver):qlo (L++ [p])=if p.2.gone then qlo L else qlo L++ [(p.1,p.2.val)]:=by
 unfold qlo;rw [List.filterMap_append,List.filterMap_cons,List.filterMap_nil];split<;>simp_all
def qfg (S:Stl) (wr:List (ByteArray×Ver)) (fr til:ByteArray) (hi:Int) (k:ByteArray):Option (ByteArray×Ver):=
 if klt k fr||klt til k||(qaw wr k).isSome then none else(qdj S k hi).map λv=>(k,v)
theorem ql8 {S:Stl} {wr:List (ByteArray×Ver)} {fr til:ByteArray} {hi:Int} {k:ByteArray} {p:ByteArray×Ver} (h:qfg S wr fr til hi k=some p):p.1=k:=by
 unfold qfg at h;split at h
 ·cases h
 ·obtain⟨v,_,rfl⟩:=Option.map_eq_some_iff.1 h;rfl
theorem seenM_eq {S:Stl} (h:KS S) (wr:List (ByteArray×Ver)) (fr til:ByteArray) (hi:Int) {K:List ByteArray} (hK:K.Pairwise λa b=>klt a b=true) (hall:∀k,(qdj S k hi).isSome=true→k∈K):K.filterMap (qfg S wr fr til hi)=qbq S wr fr til hi:=by
 refine qod ?_ (qvt h wr fr til hi) λp=> ?_
 ·unfold Kup;refine List.Pairwise.filterMap _ (λa a' haa b hb b' hb'=> ?_) hK
  rw [ql8 hb,ql8 hb'];exact haa
 ·rw [List.mem_filterMap,qiq h];unfold inK
  constructor
  ·rintro⟨k,_,e⟩;have hp:=ql8 e;subst hp;unfold qfg at e;split at e
   ·cases e
   ·rename_i c;obtain⟨v,hv,e2⟩:=Option.map_eq_some_iff.1 e;refine⟨by simpa using c, ?_⟩
    rw [hv,←e2]
  ·rintro⟨h1,h2⟩;refine⟨p.1,hall _ (by rw [h2];rfl), ?_⟩
   unfold qfg;rw [if_neg (by simpa using h1),h2]
   rfl
theorem own_keys {A B:List ByteArray} {p:ByteArray→Bool} (hp:∀k,p k=true→k∉A) (hA:A.Nodup) (hB:B.Nodup):(A++B.filter p).Nodup:=by
 rw [List.nodup_append];refine⟨hA,hB.sublist List.filter_sublist,λa ha b hb e=> ?_⟩
 subst e;exact hp _ (List.mem_filter.1 hb).2 ha
theorem rise_of {K:List ByteArray} (hn:K.Nodup) (hs:K.Pairwise λx y=>klt y x=false):K.Pairwise λa b=>klt a b=true:=by
 rw [List.pairwise_iff_getElem] at hs⊢;intro i j hi hj hij;cases c:klt K[i] K[j] with
 |true=>rfl
 |false=>
  have e:=qfa c (hs i j hi hj hij);have:=(List.nodup_iff_pairwise_ne.1 hn);rw [List.pairwise_iff_getElem] at this;exact absurd e (this i j hi hj hij)
end Go.Sm
namespace Go.Sm.KyVs
open Go Go.Proofs Go.Sm Go.Sm.Str
set_option maxRecDepth 100000
set_option maxHeartbeats 4000000
def qcw (q:Nat):Value:= .func (.func 234) #[] #[.pointer (some ⟨q,0,none⟩)]
theorem qbd {α:Type} (l:List α) (j:Nat) (h:j<l.length):(l[j]::l.eraseIdx j).Perm l:=by
 rw [List.eraseIdx_eq_take_drop_succ];have h1:l=l.take j++l[j]::l.drop (j+1):=by rw [←List.drop_eq_getElem_cons h,List.take_append_drop]
 conv=>rhs;rw [h1]
 exact List.perm_middle.symm
theorem keys_spec (m:Nat) (σ:CSt) (Q:Out→CSt→Prop) (h:Q (.ret (qcw σ.n) false) (σ.alloc (.cells [.map (some m)] 101 false))):W E1 (.fn 179 #[.map (some m)] none) σ Q:=by
 rw [qap (fn:=Tryz.f179) Tryz.func179 rfl rfl rfl];simpa [qa0,qcw] using h
theorem qco {x:Ctx} {a:CAct} {f:Operand} {p:Tmp} {asg body:Code} {K:Out→CSt→Prop} {q m:Nat} {qo:Bool} {M:MlG ByteArray} (σ:CSt) (hf:a.eval f=qcw q) (ha:qdc σ x.rnd=true) (hp:p<a.sz) (hq:σ.get q=some (.cells [.map (some m)] 101 qo)) (hqn:q<σ.n) (hmn:m<σ.n) (hm:MpG Value.string σ m M)
  (Inv:List ByteArray→CSt→Prop) (h0:∀o1 o2,Inv [] ((σ.alloc o1).alloc o2))
  (hput:∀D s o,Inv D s→Inv D (s.put (σ.n+1) o)) (hputL:∀D s o,Inv D s→Inv D (s.put σ.n o))
  (hround:∀(D:List ByteArray) (k:ByteArray) (s:CSt) (v:Value),Inv D s→(k,v)∈M→D.length<M.length→σ.n+2≤s.n→s.get q=some (.cells [.map (some m)] 101 qo)→MpG Value.string s m M→
   W E1 (.code ⟨x.f,some σ.n,none⟩ asg {tm:=a.tm.set p (.string k),sz:=a.sz,df:= [],tk:=false}) s λo s1=>∃a',o= .code .normal a'∧s1=s∧∀ob:CObj,
    W E1 (.code ⟨x.f,some σ.n,none⟩ body a') (s.put σ.n ob) λo2 s2=>(∃a2,o2= .code .normal a2)∧(∀ob',Inv (D++ [k]) (s2.put σ.n ob'))∧s.n≤s2.n∧s2.get σ.n=some ob∧s2.get (σ.n+1)=s.get (σ.n+1)∧s2.get q=s.get q∧s2.get m=s.get m)
  (h:∀(D:List ByteArray) (s:CSt),Inv D s→D.Perm (M.map (·.1))→σ.n+2≤s.n→K (.code .normal a) s):W E1 (.code x (.rangeFunc f #[p] asg body) a) σ K:=by
 rw [qcc hf ha,qap (fn:=Tryz.f234) Tryz.func234 rfl rfl rfl];obtain⟨hmp⟩:Nonempty True:=⟨trivial⟩;have hq1:(σ.alloc (.loop .ready none x.f a.tm a.sz #[p] asg body)).get q=some (.cells [.map (some m)] 101 qo):=by rw [CSt.get_alloc,if_neg (by omega)];exact hq
 have hm1:MpG Value.string (σ.alloc (.loop .ready none x.f a.tm a.sz #[p] asg body)) m M:=by
  obtain⟨es,clock,h1,h2⟩:=hm;exact⟨es,clock,by rw [CSt.get_alloc,if_neg (by omega)];exact h1,h2⟩
 obtain⟨o,ho1,ho2⟩:=qb3 (P:=Tryz.prog) (t:=101) (kt:=9) (et:=103) Tryz.underlying101 hm1 (by simp;omega)
 simp at ho1;simp [qa0,hq1,ho1];have hi0:=h0 (.loop .ready none x.f a.tm a.sz #[p] asg body) o;have hL0:((σ.alloc (.loop .ready none x.f a.tm a.sz #[p] asg body)).alloc o).get σ.n=some (.loop .ready none x.f a.tm a.sz #[p] asg body):=by simp
 have hq2:((σ.alloc (.loop .ready none x.f a.tm a.sz #[p] asg body)).alloc o).get q=some (.cells [.map (some m)] 101 qo):=by rw [CSt.get_alloc,if_neg (by simp;omega)];exact hq1
 have hn0:σ.n+2≤((σ.alloc (.loop .ready none x.f a.tm a.sz #[p] asg body)).alloc o).n:=by simp
 generalize (σ.alloc (.loop .ready none x.f a.tm a.sz #[p] asg body)).alloc o=σ2 at ho2 hi0 hL0 hq2 hn0⊢;refine qaj (λn A s=>∃tm S D,A=⟨tm,14, [],false⟩∧tm.get 0=some (.func (.yield σ.n) #[] #[])∧tm.get 5=some (.pointer (some ⟨σ.n+1,0,none⟩))∧n=List.length S∧MIt Value.string s (σ.n+1) m M S∧(D++S.map (·.1)).Perm (M.map (·.1))∧(∀e∈S,e∈M)∧Inv D s∧s.get σ.n=some (.loop .ready none x.f a.tm a.sz #[p] asg body)∧s.get q=some (.cells [.map (some m)] 101 qo)∧σ.n+2≤s.n) ?_ (List.length M) _ _ ?_
 ·rintro n A s ⟨tm,S,D,rfl,e0,e5,hn,hit,hpm,hmem,hinv,hL,hqs,hsn⟩;simp [qa0,e0,e5];refine qbb hit (λhS=> ?_) (λj hj ob hit' hent=> ?_)
  ·subst hS;simp at hpm;simp [qa0,e0,e5];unfold qgr;rw [hL];simp only;rw [if_neg (by decide)]
   exact h D _ (hputL D _ _ hinv) hpm (by simpa using hsn)
  ·have hSj:=List.getElem_mem hj;have hinv':=hput D s ob hinv;have hL':(s.put (σ.n+1) ob).get σ.n=some (.loop .ready none x.f a.tm a.sz #[p] asg body):=by rw [CSt.get_put,if_neg (by omega)];exact hL
   have hq':(s.put (σ.n+1) ob).get q=some (.cells [.map (some m)] 101 qo):=by rw [CSt.get_put,if_neg (by omega)];exact hqs
   have hn':σ.n+2≤(s.put (σ.n+1) ob).n:=by simpa using hsn
   generalize s.put (σ.n+1) ob=s1 at hit' hent hinv' hL' hq' hn'⊢;simp [qa0,e0,e5,hent];rw [qjj hL' rfl];have hDl:D.length<List.length M:=by
    have:=hpm.length_eq;simp at this;omega
   have hr:=hround D S[j].1 s1 S[j].2 hinv' (hmem _ hSj) hDl hn' hq' hit'.mp;simp only [List.zip_cons_cons,List.zip_nil_left,List.foldl_cons,List.foldl_nil,hp,if_true];refine W.weaken hr λo1 s2 h1=> ?_
   obtain⟨a',rfl,rfl,h2⟩:=h1;unfold qhu;rw [hL'];simp only;refine W.weaken (h2 _) λo2 s3 h3=> ?_
   obtain⟨⟨a2,rfl⟩,h4,h5,h6,h7,h8,h9⟩:=h3;simp only [qgm];rw [h6];simp only [Option.isNone_none,if_true];simp [qa0,e0,e5];have hne1:σ.n+1≠σ.n:=by omega
   refine⟨S.length-1,by omega,S.eraseIdx j,by rw [List.length_eraseIdx_of_lt hj], ?_,D++ [S[j].1], ?_,λa b he=>hmem (a,b) (List.mem_of_mem_eraseIdx he),h4 _, ?_,by omega⟩
   ·refine hit'.congr ?_ ?_
    ·rw [CSt.get_put,if_neg hne1];exact h7
    ·rw [CSt.get_put,if_neg (by omega)];exact h9
   ·refine List.Perm.trans ?_ hpm;rw [List.append_assoc];refine List.Perm.append_left D ?_;have:=(qbd S j hj).map (·.1)
    simpa using this
   ·rw [if_neg (by omega),h8];exact hq'
 ·refine⟨_,M, [],rfl, ?_⟩;simp;exact⟨ho2,hi0,hL0,hq2,hn0⟩
theorem qbm (q m:Nat) (qo:Bool) (M:MlG ByteArray) (σ:CSt) (hq:σ.get q=some (.cells [.map (some m)] 101 qo)) (hqn:q<σ.n) (hmn:m<σ.n) (hm:MpG Value.string σ m M) (hbig:M.length<2^38) (Q:Out→CSt→Prop)
  (h:∀(v:Value) (D:List ByteArray) (σ':CSt),D.Perm (M.map (·.1))→Own σ.n σ' 9 Str.encS v D→Grow σ σ'→Q (.ret v false) σ'):W E1 (.fn 200 #[qcw q] none) σ Q:=by
 rw [qap (fn:=Tryz.f200) Tryz.func200 rfl rfl rfl];simp [qa0];rw [qap (fn:=Tryz.f244) Tryz.func244 rfl rfl rfl];simp [qa0];have hg0:Grow σ (σ.alloc (.cells [.slice none 0 0] 119 false)):=(Grow.refl σ).alloc _;have hb0:(σ.alloc (.cells [.slice none 0 0] 119 false)).n=σ.n+1:=by simp
 have hc0:(σ.alloc (.cells [.slice none 0 0] 119 false)).get σ.n=some (.cells [.slice none 0 0] 119 false):=by simp
 have hq0:=hg0.get hq hqn;have hm0:MpG Value.string (σ.alloc (.cells [.slice none 0 0] 119 false)) m M:=by
  obtain⟨es,clock,h1,h2⟩:=hm;exact⟨es,clock,hg0.get h1 hmn,h2⟩
 generalize σ.alloc (.cells [.slice none 0 0] 119 false)=σ1 at hg0 hb0 hc0 hq0 hm0⊢;have hML:∀(D:List ByteArray) (s:CSt) (k:ByteArray) (v:Value),(D++ [k]).length≤M.length+1→True:=λ_ _ _ _ _=>trivial
 refine qco (q:=q) (m:=m) (qo:=qo) (M:=M) σ1 rfl (by simp;rfl) (by simp) hq0 (by omega) (by omega) hm0
  (λD s=>∃v,s.get σ.n=some (.cells [v] 119 false)∧Own (σ1.n+2) s 9 Str.encS v D∧σ1.n+2≤s.n∧∀j,j<σ.n→s.get j=σ.get j) ?_ ?_ ?_ ?_ ?_
 ·intro o1 o2;refine⟨_, ?_,Own.nil,by simp,λj hj=> ?_⟩
  ·rw [CSt.get_alloc,if_neg (by simp;omega),CSt.get_alloc,if_neg (by omega)];exact hc0
  ·rw [CSt.get_alloc,if_neg (by simp;omega),CSt.get_alloc,if_neg (by omega)];exact hg0.old j hj
 ·rintro D s o ⟨v,h1,h2,h3,h4⟩;exact⟨v,by rw [CSt.get_put,if_neg (by omega)];exact h1,h2.put (by omega) o,h3,λj hj=>by rw [CSt.get_put,if_neg (by omega)];exact h4 j hj⟩
 ·rintro D s o ⟨v,h1,h2,h3,h4⟩;exact⟨v,by rw [CSt.get_put,if_neg (by omega)];exact h1,h2.put (by omega) o,h3,λj hj=>by rw [CSt.get_put,if_neg (by omega)];exact h4 j hj⟩
 ·rintro D k s vv ⟨v,h1,h2,h3,h4⟩ hk hDl hsn hqs hms;have hne:¬σ.n=σ1.n:=by omega
  have hcap:D.length<2^38:=by omega
  simp [qa0,hne,h1];intro ob;have h1':(s.put σ1.n ob).get σ.n=some (.cells [v] 119 false):=by rw [CSt.get_put,if_neg hne];exact h1
  have h2':=h2.put (i:=σ1.n) (by omega) ob
  have hpn:(s.put σ1.n ob).n=s.n:=rfl;have hob:(s.put σ1.n ob).get σ1.n=some ob:=by simp
  have hoth:∀j,j≠σ1.n→(s.put σ1.n ob).get j=s.get j:=λj hj=>by rw [CSt.get_put,if_neg hj]
  generalize s.put σ1.n ob=s1 at h1' h2' hpn hob hoth⊢;have hga:Grow s1 (s1.alloc (.cells [.string k] 9 false)):=(Grow.refl s1).alloc _;obtain⟨v9,σ9,a1,a2,a3,a4,a5⟩:=qay (P:=Tryz.prog) (ts:= #[119,119]) (e:=9) (sz:=1) (enc:=Str.encS) (l:=D) (m:= [k]) (b:=σ1.n+2) ef119 (by simp) Str.lenS Str.cokS rfl (by decide) (by decide) rfl (σ:=s1.alloc (.cells [.string k] 9 false))
   (h2'.grow hga) (by simp;omega) (Sl.all (l:= [k]) (i:=s.n) (cap:=1) (ro:=false) Str.lenS (by rw [←hpn];simp [Str.encS]) (by rw [←hpn];simp) (.inr ⟨by simp,by simp [qa1]⟩)) (by simp;omega) (by omega)
  have hlt:σ.n<s1.n:=by omega
  have hold:∀j,j<σ1.n+2→σ9.get j=s1.get j:=λj hj=>by rw [a3.2 j hj];exact hga.old j (by omega)
  have h19:σ9.get σ.n=some (.cells [v] 119 false):=by rw [hold _ (by omega)];exact h1'
  obtain⟨p9,c9,rfl⟩:=(a2.sl (sz:=1) Str.lenS).form;have a1':qas Tryz.prog (s1.alloc (.cells [.string k] 9 false)) #[119,119] v (.slice (some ⟨s.n,0,none⟩) 1 1)=some (.slice p9 (D++ [k]).length c9,σ9):=a1;have hn9:=a3.1;simp at hn9 a1';simp [qa0,a1',h19];have e1:¬σ1.n=σ.n:=by omega
  have a2':Own (σ1.n+2) (σ9.put σ.n (.cells [.slice p9 (D.length+1) c9] 119 false)) 9 Str.encS (.slice p9 (D.length+1) c9) (D++ [k]):=by
   have:=a2.put (i:=σ.n) (by omega) (.cells [.slice p9 (D.length+1) c9] 119 false)
   rwa [List.length_append] at this
  refine⟨λob'=>⟨a2'.put (by omega) ob',by omega,λj hj=> ?_⟩,by omega, ?_, ?_, ?_, ?_⟩
  ·rw [if_neg (by omega),if_neg (by omega),hold j (by omega),hoth j (by omega)];exact h4 j hj
  ·rw [if_neg e1,hold _ (by omega)];exact hob
  ·rw [if_neg (by omega),hold _ (by omega),hoth _ (by omega)]
  ·by_cases e:q=σ.n
   ·omega
   ·rw [if_neg e,hold q (by omega),hoth q (by omega)]
  ·by_cases e:m=σ.n
   ·omega
   ·rw [if_neg e,hold m (by omega),hoth m (by omega)]
 ·rintro D s ⟨v,h1,h2,h3,h4⟩ hpm hsn;have:=h v D s hpm (h2.weaken (by omega)) ⟨by omega,h4⟩
  simpa [qa0,h1] using this
theorem sorted_keys (q m:Nat) (qo:Bool) (M:MlG ByteArray) (σ:CSt) (hq:σ.get q=some (.cells [.map (some m)] 101 qo)) (hqn:q<σ.n) (hmn:m<σ.n) (hm:MpG Value.string σ m M) (hbig:M.length<2^38) (Q:Out→CSt→Prop)
  (h:∀(v:Value) (D:List ByteArray) (σ':CSt),D.Perm (M.map (·.1))→(D.Pairwise λx y=>klt y x=false)→Own σ.n σ' 9 Str.encS v D→Grow σ σ'→Q (.ret v false) σ'):W E1 (.fn 116 #[qcw q] none) σ Q:=by
 rw [qap (fn:=Tryz.f116) Tryz.func116 rfl rfl rfl];simp [qa0];refine qbm q m qo M σ hq hqn hmn hm hbig _ λv D σ1 hpm hown hg=> ?_
 simp [qa0];have hlen:=hpm.length_eq;simp at hlen;refine Str.sort_own σ.n D v σ1 hg.n hown (by omega) _ λD' σ2 hp2 hs2 ho2 hg2=> ?_
 have:=h v D' σ2 (hp2.trans hpm) hs2 ho2 (Grow.thenB hg hg2 (Nat.le_refl _));simpa [qa0] using this
end Go.Sm.KyVs
namespace Go.Sm
open Go Go.Proofs
set_option maxRecDepth 100000
set_option maxHeartbeats 4000000
def Kept (σ σ':CSt):Prop:=σ.n≤σ'.n∧∀m,m<σ.n→∀row e ro,σ.get m=some (.cells row e ro)→(e=267∨e=269∨e=40∨e=79)→σ'.get m=σ.get m
theorem Kept.sl {α:Type} {σ σ':CSt} {e:TypeId} {sz:Nat} {enc:α→List Value} {v:Value} {l:List α} (hk:Kept σ σ') (h:Sl σ e sz enc v l) (he:e=267∨e=269∨e=40∨e=79):Sl σ' e sz enc v l:=by
 rcases h with h|⟨i,off,cap,row,ro,h1,h2,h3,h4⟩
 ·exact .inl h
 ·exact .inr ⟨i,off,cap,row,ro,h1,by rw [hk.2 i h3 _ _ _ h2 he];exact h2,Nat.lt_of_lt_of_le h3 hk.1,h4⟩
theorem Grow.kept {σ σ':CSt} (h:Grow σ σ'):Kept σ σ':=⟨h.n,λm hm _ _ _ _ _=>h.old m hm⟩
theorem zae:∀j,j<6→Nat.testBit 63 j=true:=by decide
theorem all_spec (F:Nat→Prop) (i:Nat) (S:Stl) (q L:Nat) (qo:Bool) (σ:CSt) (hst:St F σ i S) (hq:σ.get q=some (.cells [.pointer (some ⟨i,0,none⟩)] 79 qo)) (hqn:q<σ.n) (hbig:S.length<2^38) (hcl:∀s∈S,s.2.length<2^38)
  (Inv:Nat→CSt→Prop) (Done:CSt→Prop) (hkept:∀j σ',Inv j σ'→Kept σ σ') (hgrow:∀j σ' σ'',Inv j σ'→Grow σ' σ''→Inv j σ'') (h0:Inv 0 σ)
  (hround:∀(j:Nat) (hj:j<S.length) (σ':CSt) (v:Value) (b':Nat) (Q':Out→CSt→Prop),Inv j σ'→σ.n≤b'→b'≤σ'.n→Own b' σ' 40 qad v S[j].2→
   (∀(ok:Bool) σ'',(ok=true→Inv (j+1) σ'')→(ok=false→Done σ'')→Q' (.ret (.bool ok) false) σ'')→W E1 (.round L #[.string S[j].1,v]) σ' Q')
  (Q:Out→CSt→Prop) (h1:∀σ',Inv S.length σ'→Q (.ret (.tuple #[]) false) σ') (h2:∀σ',Done σ'→Q (.ret (.tuple #[]) false) σ'):
  W E1 (.fn 168 #[.func (.yield L) #[] #[], .pointer (some ⟨q,0,none⟩)] none) σ Q:=by
 obtain⟨vr,R,hFI,hFv,hin,hg,hown,hrw⟩:=hst;rw [qap (fn:=Tryz.f168) Tryz.func168 rfl rfl rfl];have hsR:=hown.sl (sz:=2) qga;obtain⟨pr,cr,rfl⟩:=hsR.form;have hl:=hrw.1;simp [qa0,hq,hg];refine qaj (λn a σ'=>∃tm j,a=⟨tm,23, [],false⟩∧tm.get 0=some (.func (.yield L) #[] #[])∧tm.get 8=some (.slice pr R.length cr)∧tm.get 9=some (.int .i64 R.length)∧tm.get 10=some (.int .i64 (j:Nat))∧j≤R.length∧n=R.length-j∧Inv j σ') ?_ R.length _ _ ?_
 ·rintro n a σ1 ⟨tm,j,rfl,e0,e8,e9,e10,hj,hn,hinv⟩;have hkp:=hkept j σ1 hinv;by_cases hjl:j<R.length
  ·have hjS:j<S.length:=by omega
   obtain⟨o,off,row,ro,rfl,hgo,hon,hrow,hle⟩:=(hkp.sl hsR (.inl rfl)).at hjl;have hld:=qam (enc:=qb4) qga hrow j hjl;have hl1:=qbe hle j hjl;have hw2:=qb7 j (by omega)
   obtain⟨hkey,hch⟩:=hrw.2 j hjl hjS;have hch1:=hkp.sl hch (.inr (.inr (.inl rfl)));have hgw:Grow σ1 ((σ1.alloc (.cells [.string ⟨#[]⟩, .slice none 0 0] 267 false)).put σ1.n (.cells [.string R[j].key, .slice R[j].p R[j].n R[j].c] 267 false)):=((Grow.refl σ1).alloc _).put (Nat.le_refl _) _;simp [qa0,e0,e8,e9,e10,hjl,hgo,hld,hl1];simp [qa0,qb4,e0];refine qcv (l:= [0,1,2,3,4,5,6,7]) (b:= #[0,0,2,0,8,24,63,127]) (by kernel_rfl) (by kernel_rfl) (by kernel_rfl) ?_
   simp [qa7,qal,qab,qb9,qa3,qa9,Nat.add_assoc,e0];refine qkn S[j].2 _ _ (hch1.grow hgw) (by have:=hcl _ (List.getElem_mem hjS);omega) _ λv2 σ2 h2' g2=> ?_
   have hc2:=g2.get (i:=σ1.n) (o:= .cells [.string R[j].key, .slice R[j].p R[j].n R[j].c] 267 false) (by simp) (by simp)
   simp [qa7,qal,qab,qb9,qa3,qa9,Nat.add_assoc,e0,hc2];rw [hkey];refine hround j hjS σ2 v2 _ _ (hgrow j σ1 σ2 hinv (hgw.trans g2)) (by have:=hkp.1;simp;omega) g2.n h2' λok σ3 ht hf=> ?_
   cases ok with
   |true=>
    simp [qa0,qa7,qal,qab,qb9,qa3,qa9,Nat.add_assoc,e0,e8,e9,e10,zae,hw2];refine⟨_, ?_,j+1,rfl,by omega,rfl,ht rfl⟩
    omega
   |false=>
    simp [qa7,qal,qab,qb9,qa3,qa9,Nat.add_assoc,e0,zae];exact h2 σ3 (hf rfl)
  ·have hjl':j=R.length:=by omega
   subst hjl';rw [hl] at hinv;simp [qa0,e0,e8,e9,e10];exact h1 σ1 hinv
 ·refine⟨_,0,rfl, ?_⟩;simp;exact h0
def allF (q:Nat):Value:= .func (.func 168) #[] #[.pointer (some ⟨q,0,none⟩)]
theorem all33 (p:Addr) (σ:CSt) (Q:Out→CSt→Prop) (h:Q (.ret (allF σ.n) false) (σ.alloc (.cells [.pointer (some p)] 79 false))):W E1 (.fn 93 #[.pointer (some p)] none) σ Q:=by
 rw [qap (fn:=Tryz.f93) Tryz.func93 rfl rfl rfl];simpa [qa0,allF] using h
def qoi (L:Nat) (ob:CObj) (I:CSt→Prop) (D:Code→CSt→Prop):Out→CSt→Prop:=λo2 s2=>
 ∃e a2 jj,o2= .code e a2∧qgm e=some jj∧s2.get L=some ob∧(jj=none→∀ob',I (s2.put L ob'))∧(∀c,jj=some c→∀ob',D c (s2.put L ob'))
theorem qrd {L:Nat} {fn:FuncId} {tm:Tr Value} {sz:Nat} {ps:Array Tmp} {asg body:Code} {s:CSt} {args:Array Value} {I:CSt→Prop} {D:Code→CSt→Prop} {Q:Out→CSt→Prop} (hL:s.get L=some (.loop .ready none fn tm sz ps asg body)) (hs:args.size=ps.size)
  (h:∃a' s1,(W E1 (.code ⟨fn,some L,none⟩ asg {tm:=(ps.toList.zip args.toList).foldl (λt p=>if p.1<sz then t.set p.1 p.2 else t) tm,sz:=sz,df:= [],tk:=false}) s λo s'=>o= .code .normal a'∧s'=s1)∧s1.get L=some (.loop .ready none fn tm sz ps asg body)∧∀ob:CObj,
   W E1 (.code ⟨fn,some L,none⟩ body a') (s1.put L ob) (qoi L ob I D))
  (h1:∀s2,I s2→s2.get L=some (.loop .ready none fn tm sz ps asg body)→Q (.ret (.bool true) false) s2)
  (h2:∀c s2,D c s2→s2.get L=some (.loop .done (some c) fn tm sz ps asg body)→Q (.ret (.bool false) false) s2):W E1 (.round L args) s Q:=by
 rw [qjj hL hs];obtain⟨a',s1,h,hL1,h4⟩:=h;refine W.weaken h λo s' h3=> ?_
 obtain⟨rfl,rfl⟩:=h3;unfold qhu;simp only [hL1];refine W.weaken (h4 _) λo2 s2 h5=> ?_
 obtain⟨e,a2,jj,rfl,hj,hL2,hI,hD⟩:=h5;simp only [hj,hL2];cases jj with
 |none=>exact h1 _ (hI rfl _) (by simp)
 |some c=>exact h2 c _ (hD c rfl _) (by simp)
theorem qwv {F:Nat→Prop} {i:Nat} {S:Stl} {q:Nat} {qo:Bool} {x:Ctx} {a:CAct} {σ:CSt} {f:Operand} {p1 p2:Tmp} {asg body:Code} {K:Out→CSt→Prop} (hf:a.eval f=allF q) (ha:qdc σ x.rnd=true) (hst:St F σ i S)
  (hq:σ.get q=some (.cells [.pointer (some ⟨i,0,none⟩)] 79 qo)) (hqn:q<σ.n) (hbig:S.length<2^38) (hcl:∀s∈S,s.2.length<2^38) (hp1:p1<a.sz) (hp2:p2<a.sz)
  (Inv:Nat→CSt→Prop) (Done:Code→CSt→Prop) (hkept:∀j s,Inv j s→Kept σ s∧σ.n<s.n) (hgrow:∀j s s',Inv j s→Grow s s'→Inv j s') (h0:∀o,Inv 0 (σ.alloc o))
  (hround:∀(j:Nat) (hj:j<S.length) (s:CSt) (v:Value) (b':Nat),Inv j s→σ.n<b'→b'≤s.n→Own b' s 40 qad v S[j].2→s.get σ.n=some (.loop .ready none x.f a.tm a.sz #[p1,p2] asg body)→
   ∃a' s1,(W E1 (.code ⟨x.f,some σ.n,none⟩ asg {tm:=(a.tm.set p1 (.string S[j].1)).set p2 v,sz:=a.sz,df:= [],tk:=false}) s λo s'=>o= .code .normal a'∧s'=s1)∧s1.get σ.n=some (.loop .ready none x.f a.tm a.sz #[p1,p2] asg body)∧∀ob:CObj,
    W E1 (.code ⟨x.f,some σ.n,none⟩ body a') (s1.put σ.n ob) (qoi σ.n ob (Inv (j+1)) Done))
  (h:∀s o,Inv S.length s→K (.code .normal a) (s.put σ.n o)) (hd:∀c s o,Done c s→W E1 (.code x c a) (s.put σ.n o) K):W E1 (.code x (.rangeFunc f #[p1,p2] asg body) a) σ K:=by
 rw [qcc hf ha];have hg:Grow σ (σ.alloc (.loop .ready none x.f a.tm a.sz #[p1,p2] asg body)):=(Grow.refl σ).alloc _;have hL:(σ.alloc (.loop .ready none x.f a.tm a.sz #[p1,p2] asg body)).get σ.n=some (.loop .ready none x.f a.tm a.sz #[p1,p2] asg body):=by simp
 have hLn:σ.n<(σ.alloc (.loop .ready none x.f a.tm a.sz #[p1,p2] asg body)).n:=by simp
 have h00:=h0 (.loop .ready none x.f a.tm a.sz #[p1,p2] asg body);have hkp:∀j s,Inv j s→Kept (σ.alloc (.loop .ready none x.f a.tm a.sz #[p1,p2] asg body)) s:=λj s hi=>by
  obtain⟨h1,h2⟩:=hkept j s hi;refine⟨by simp;omega,λm hm row e ro hg he=> ?_⟩
  simp at hm;rw [CSt.get_alloc] at hg⊢;by_cases hmn:m=σ.n
  ·rw [if_pos hmn] at hg;cases hg
  ·rw [if_neg hmn] at hg⊢;exact h1.2 m (by omega) row e ro hg he
 generalize σ.alloc (.loop .ready none x.f a.tm a.sz #[p1,p2] asg body)=σL at hg hL hLn h00 hkp⊢;refine all_spec F i S q σ.n qo σL (hst.grow hg) (hg.get hq hqn) (Nat.lt_of_lt_of_le hqn hg.n) hbig hcl (λj s=>Inv j s∧s.get σ.n=some (.loop .ready none x.f a.tm a.sz #[p1,p2] asg body)∧σ.n<s.n) (λs=>∃c,Done c s∧s.get σ.n=some (.loop .done (some c) x.f a.tm a.sz #[p1,p2] asg body)) (λj s h=>hkp j s h.1) (λj s s' h h'=>⟨hgrow j s s' h.1 h',h'.get h.2.1 h.2.2,Nat.lt_of_lt_of_le h.2.2 h'.n⟩) ⟨h00,hL,hLn⟩ ?_ _ (λs h'=> ?_) (λs h'=> ?_)
 ·intro j hj s v b' Q' hi hb1 hb2 ho hk;have hr:=hround j hj s v b' hi.1 (Nat.lt_of_lt_of_le hLn hb1) hb2 ho hi.2.1;refine qrd (I:=λs2=>Inv (j+1) s2∧σ.n<s2.n) (D:=Done) hi.2.1 rfl ?_ (λs2 h1 h2=>hk true s2 (λ_=>⟨h1.1,h2,h1.2⟩) (λh=>by cases h)) (λc s2 h1 h2=>hk false s2 (λh=>by cases h) (λ_=>⟨c,h1,h2⟩))
  simp only [List.zip_cons_cons,List.zip_nil_left,List.foldl_cons,List.foldl_nil,hp1,hp2,if_true];obtain⟨a',s1,hr1,hL1,h4⟩:=hr;refine⟨a',s1,hr1,hL1,λob=>W.weaken (h4 ob) λo2 s2 h5=> ?_⟩
  obtain⟨e,a2,jj,h6,h7,h8,h9,h10⟩:=h5;exact⟨e,a2,jj,h6,h7,h8,λh ob'=>⟨h9 h ob',(hkept _ _ (h9 h ob')).2⟩,h10⟩
 ·unfold qgr;rw [h'.2.1];simp only;rw [if_neg (by decide)]
  exact h _ _ h'.1
 ·obtain⟨c,h1,h2⟩:=h';unfold qgr;rw [h2];simp only;rw [if_neg (by decide)]
  exact hd c _ _ h1
def rowsF (q1 q2 q3:Nat):Value:= .func (.func 199) #[] #[.pointer (some ⟨q1,0,none⟩), .pointer (some ⟨q2,0,none⟩), .pointer (some ⟨q3,0,none⟩)]
theorem rows34 (p:Addr) (fr til:ByteArray) (σ:CSt) (Q:Out→CSt→Prop) (h:Q (.ret (rowsF σ.n (σ.n+1) (σ.n+2)) false) (((σ.alloc (.cells [.pointer (some p)] 79 false)).alloc (.cells [.string fr] 9 false)).alloc (.cells [.string til] 9 false))):W E1 (.fn 115 #[.pointer (some p), .string fr, .string til] none) σ Q:=by
 rw [qap (fn:=Tryz.f115) Tryz.func115 rfl rfl rfl];simpa [qa0,rowsF] using h
theorem za0 (F:Nat→Prop) (i:Nat) (S:Stl) (hk:KS S) (q1 q2 q3 L:Nat) (o1 o2 o3:Bool) (fr til:ByteArray) (σ0 σ:CSt) (hst:St F σ0 i S) (hg00:Grow σ0 σ) (hq1:σ.get q1=some (.cells [.pointer (some ⟨i,0,none⟩)] 79 o1)) (hqn1:q1<σ.n) (hq2:σ.get q2=some (.cells [.string fr] 9 o2)) (hqn2:q2<σ.n) (hq3:σ.get q3=some (.cells [.string til] 9 o3)) (hqn3:q3<σ.n) (hbig:S.length<2^38) (hcl:∀s∈S,s.2.length<2^38)
  (Inv:Nat→Nat→CSt→Prop) (Done:CSt→Prop) (hkept:∀n j σ',Inv n j σ'→Kept σ0 σ'∧σ.n≤σ'.n∧σ'.get q1=some (.cells [.pointer (some ⟨i,0,none⟩)] 79 o1)∧σ'.get q3=some (.cells [.string til] 9 o3)) (hgrow:∀n j σ' σ'',Inv n j σ'→Grow σ' σ''→Inv n j σ'') (h0:∀n σ',Pos S fr n→Grow σ σ'→Inv n n σ')
  (hround:∀(n j:Nat) (hj:j<S.length) (σ':CSt) (v:Value) (b':Nat) (Q':Out→CSt→Prop),Inv n j σ'→Pos S fr n→n≤j→klt til S[j].1=false→σ.n≤b'→b'≤σ'.n→Own b' σ' 40 qad v S[j].2→
   (∀(ok:Bool) σ'',(ok=true→Inv n (j+1) σ'')→(ok=false→Done σ'')→Q' (.ret (.bool ok) false) σ'')→W E1 (.round L #[.string S[j].1,v]) σ' Q')
  (Q:Out→CSt→Prop) (h1:∀n j σ',Pos S fr n→n≤j→j≤S.length→(∀h:j<S.length,klt til S[j].1=true)→Inv n j σ'→Q (.ret (.tuple #[]) false) σ') (h2:∀σ',Done σ'→Q (.ret (.tuple #[]) false) σ'):
  W E1 (.fn 199 #[.func (.yield L) #[] #[], .pointer (some ⟨q1,0,none⟩), .pointer (some ⟨q2,0,none⟩), .pointer (some ⟨q3,0,none⟩)] none) σ Q:=by
 obtain⟨vr,R,hFI,hFv,hin,hg,hown,hrw⟩:=hst;rw [qap (fn:=Tryz.f199) Tryz.func199 rfl rfl rfl];have hsR:=hown.sl (sz:=2) qga;obtain⟨pr,cr,rfl⟩:=hsR.form;have hl:=hrw.1;have hgσ:=hg00.get hg hin;simp [qa0];refine qba (by kernel_rfl) ?_
 simp [qa6,hq1,hq2,hgσ];refine qjn S hk R _ fr σ (hrw.grow hg00) (hsR.grow hg00) (by omega) _ λn0 σ1 hp0 g1=> ?_
 have hnS:=hp0.le;simp [qa6,qa0];refine qaj (λn a σ'=>∃tm j,a=⟨tm,57, [],false⟩∧tm.get 0=some (.func (.yield L) #[] #[])∧tm.get 1=some (.pointer (some ⟨q1,0,none⟩))∧tm.get 3=some (.pointer (some ⟨q3,0,none⟩))∧tm.get 5=some (.int .i64 (j:Nat))∧n0≤j∧j≤R.length∧n=R.length-j∧Inv n0 j σ') ?_ (R.length-n0) _ _ ?_
 ·rintro n a σ1 ⟨tm,j,rfl,e0,e1,e3,e5,hj0,hj,hn,hinv⟩;obtain⟨hkp,hkn,hk1,hk3⟩:=hkept n0 j σ1 hinv;have hgi:σ1.get i=some (.cells [.slice pr R.length cr] 269 false):=by rw [hkp.2 i hin _ _ _ hg (by simp)];exact hg
  by_cases hjl:j<R.length
  ·have hjS:j<S.length:=by omega
   obtain⟨o,off,row,ro,rfl,hgo,hon,hrow,hle⟩:=(hkp.sl hsR (.inl rfl)).at hjl;have hld:=qam (enc:=qb4) qga hrow j hjl;have hl1:=qbe hle j hjl;have hw2:=qb7 j (by omega)
   obtain⟨hkey,hch⟩:=hrw.2 j hjl hjS;have hch1:=hkp.sl hch (.inr (.inr (.inl rfl)));have hc0:=qb2 (enc:=qb4) qga hrow j 0 hjl (by omega)
   have hc1:=qb2 (enc:=qb4) qga hrow j 1 hjl (by omega)
   have hc0':row[off+j*2]? =some (.string R[j].key):=by simpa [qb4] using hc0
   have hc1':row[off+j*2+1]? =some (.slice R[j].p R[j].n R[j].c):=by simpa [qb4] using hc1
   have hc1'':row[off+(j*2+1)]? =some (.slice R[j].p R[j].n R[j].c):=hc1';have hjl':(j:Int)<R.length:=by omega
   simp [qa0];refine qba (by kernel_rfl) ?_
   simp [qa6,qby,qa4,e0,e1,e3,e5,hk1,hk3,hgi,hjl,hjl',hgo,hc0',hkey,qi5];cases hto:klt til S[j].1 with
   |true=>
    simp [qa0,qa6,qby,qa4];exact h1 n0 j σ1 hp0 hj0 (by omega) (λ_=>hto) hinv
   |false=>
    simp [qa0,qa6,qby,qa4];refine qcv (l:= [0,1,2,3,4,5,6,7,8,9,10,11,12,13,14,15,16,17,18,19]) (b:= #[0,0,2,6,14,0,62,126,254,0,512,1536,3584,0,15872,32256,65024,130560,262143,524287]) (by kernel_rfl) (by kernel_rfl) (by kernel_rfl) ?_
    simp [qa7,qal,qab,qb9,qa3,qa9,Nat.add_assoc,e0,e1,e3,e5,hk1,hk3,hgi,hjl,hjl',hgo,hc0',hc1'',hkey];refine qkn S[j].2 _ _ hch1 (by have:=hcl _ (List.getElem_mem hjS);omega) _ λv2 σ2 h2' g2=> ?_
    have hk1q:q1<σ1.n:=Nat.lt_of_lt_of_le hqn1 hkn;have hk12:=g2.get hk1 hk1q;have hgi2:=g2.get hgi (Nat.lt_of_lt_of_le hin hkp.1);have hgo2:=g2.get hgo hon;have qxo:∀j,j<18→Nat.testBit 262143 j=true:=by decide
    have hbits2:∀j,j<19→Nat.testBit 524287 j=true:=by decide
    simp [qa7,qal,qab,qb9,qa3,qa9,Nat.add_assoc,e0,e1,e3,e5,hk12,hgi2,hjl,hjl',hgo2,hc0',hc1'',hkey,qxo,hbits2];refine hround n0 j hjS σ2 v2 σ1.n _ (hgrow n0 j σ1 σ2 hinv g2) hp0 hj0 hto hkn g2.n h2' λok σ3 ht hf=> ?_
    cases ok with
    |true=>
     simp [qa0,qa7,qal,qab,qb9,qa3,qa9,Nat.add_assoc,e0,e1,e3,e5,qxo,hbits2,hw2];exact⟨_,by omega,j+1,rfl,by omega,by omega,rfl,ht rfl⟩
    |false=>
     simp [qa7,qal,qab,qb9,qa3,qa9,Nat.add_assoc,e0,qxo,hbits2];exact h2 σ3 (hf rfl)
  ·have hjl':j=R.length:=by omega
   subst hjl';have hjl':¬(R.length:Int)<R.length:=by omega
   simp [qa0];refine qba (by kernel_rfl) ?_
   simp [qa0,qa6,qby,qa4,e0,e1,e3,e5,hk1,hk3,hgi,hjl'];exact h1 n0 _ σ1 hp0 hj0 (by omega) (λh=>by omega) hinv
 ·refine⟨_,n0,rfl, ?_⟩;simp;exact⟨by omega,h0 n0 σ1 hp0 g1⟩
theorem qtg {F:Nat→Prop} {i:Nat} {S:Stl} (hk:KS S) {q1 q2 q3:Nat} {o1 o2 o3:Bool} {fr til:ByteArray} {x:Ctx} {a:CAct} {σ:CSt} {f:Operand} {p1 p2:Tmp} {asg body:Code} {K:Out→CSt→Prop} (hf:a.eval f=rowsF q1 q2 q3) (ha:qdc σ x.rnd=true) {σ0:CSt} (hst:St F σ0 i S) (hg00:Grow σ0 σ)
  (hq1:σ.get q1=some (.cells [.pointer (some ⟨i,0,none⟩)] 79 o1)) (hqn1:q1<σ.n) (hq2:σ.get q2=some (.cells [.string fr] 9 o2)) (hqn2:q2<σ.n) (hq3:σ.get q3=some (.cells [.string til] 9 o3)) (hqn3:q3<σ.n) (hbig:S.length<2^38) (hcl:∀s∈S,s.2.length<2^38) (hp1:p1<a.sz) (hp2:p2<a.sz)
  (Inv:Nat→Nat→CSt→Prop) (Done:Code→CSt→Prop) (hkept:∀n j s,Inv n j s→Kept σ0 s∧σ.n<s.n∧s.get q1=some (.cells [.pointer (some ⟨i,0,none⟩)] 79 o1)∧s.get q3=some (.cells [.string til] 9 o3)) (hgrow:∀n j s s',Inv n j s→Grow s s'→Inv n j s') (h0:∀n o s,Pos S fr n→Grow (σ.alloc o) s→Inv n n s)
  (hround:∀(n j:Nat) (hj:j<S.length) (s:CSt) (v:Value) (b':Nat),Inv n j s→Pos S fr n→n≤j→klt til S[j].1=false→σ.n<b'→b'≤s.n→Own b' s 40 qad v S[j].2→s.get σ.n=some (.loop .ready none x.f a.tm a.sz #[p1,p2] asg body)→
   ∃a' s1,(W E1 (.code ⟨x.f,some σ.n,none⟩ asg {tm:=(a.tm.set p1 (.string S[j].1)).set p2 v,sz:=a.sz,df:= [],tk:=false}) s λo s'=>o= .code .normal a'∧s'=s1)∧s1.get σ.n=some (.loop .ready none x.f a.tm a.sz #[p1,p2] asg body)∧∀ob:CObj,
    W E1 (.code ⟨x.f,some σ.n,none⟩ body a') (s1.put σ.n ob) (qoi σ.n ob (Inv n (j+1)) Done))
  (h:∀n j s o,Pos S fr n→n≤j→j≤S.length→(∀h:j<S.length,klt til S[j].1=true)→Inv n j s→K (.code .normal a) (s.put σ.n o)) (hd:∀c s o,Done c s→W E1 (.code x c a) (s.put σ.n o) K):W E1 (.code x (.rangeFunc f #[p1,p2] asg body) a) σ K:=by
 rw [qcc hf ha];have hg:Grow σ (σ.alloc (.loop .ready none x.f a.tm a.sz #[p1,p2] asg body)):=(Grow.refl σ).alloc _;have hL:(σ.alloc (.loop .ready none x.f a.tm a.sz #[p1,p2] asg body)).get σ.n=some (.loop .ready none x.f a.tm a.sz #[p1,p2] asg body):=by simp
 have hLn:σ.n<(σ.alloc (.loop .ready none x.f a.tm a.sz #[p1,p2] asg body)).n:=by simp
 have h00:=λn s=>h0 n (.loop .ready none x.f a.tm a.sz #[p1,p2] asg body) s
 have hnL:(σ.alloc (.loop .ready none x.f a.tm a.sz #[p1,p2] asg body)).n=σ.n+1:=by simp
 generalize σ.alloc (.loop .ready none x.f a.tm a.sz #[p1,p2] asg body)=σL at hg hL hLn h00 hnL⊢;refine za0 F i S hk q1 q2 q3 σ.n o1 o2 o3 fr til σ0 σL hst (hg00.trans hg) (hg.get hq1 hqn1) (Nat.lt_of_lt_of_le hqn1 hg.n) (hg.get hq2 hqn2) (Nat.lt_of_lt_of_le hqn2 hg.n) (hg.get hq3 hqn3) (Nat.lt_of_lt_of_le hqn3 hg.n) hbig hcl
  (λn j s=>Inv n j s∧s.get σ.n=some (.loop .ready none x.f a.tm a.sz #[p1,p2] asg body)∧σ.n<s.n) (λs=>∃c,Done c s∧s.get σ.n=some (.loop .done (some c) x.f a.tm a.sz #[p1,p2] asg body)) (λn j s h=>⟨(hkept n j s h.1).1,by have:=(hkept n j s h.1).2.1;omega,(hkept n j s h.1).2.2⟩) (λn j s s' h h'=>⟨hgrow n j s s' h.1 h',h'.get h.2.1 h.2.2,Nat.lt_of_lt_of_le h.2.2 h'.n⟩) (λn s hp hgs=>⟨h00 n s hp hgs,hgs.get hL hLn,Nat.lt_of_lt_of_le hLn hgs.n⟩) ?_ _ (λn j s hp hj1 hj2 hj3 h'=> ?_) (λs h'=> ?_)
 ·intro n j hj s v b' Q' hi hp hnj hto hb1 hb2 ho hk;have hr:=hround n j hj s v b' hi.1 hp hnj hto (Nat.lt_of_lt_of_le hLn hb1) hb2 ho hi.2.1;refine qrd (I:=λs2=>Inv n (j+1) s2∧σ.n<s2.n) (D:=Done) hi.2.1 rfl ?_ (λs2 h1 h2=>hk true s2 (λ_=>⟨h1.1,h2,h1.2⟩) (λh=>by cases h)) (λc s2 h1 h2=>hk false s2 (λh=>by cases h) (λ_=>⟨c,h1,h2⟩))
  simp only [List.zip_cons_cons,List.zip_nil_left,List.foldl_cons,List.foldl_nil,hp1,hp2,if_true];obtain⟨a',s1,hr1,hL1,h4⟩:=hr;refine⟨a',s1,hr1,hL1,λob=>W.weaken (h4 ob) λo2 s2 h5=> ?_⟩
  obtain⟨e,a2,jj,h6,h7,h8,h9,h10⟩:=h5;exact⟨e,a2,jj,h6,h7,h8,λh ob'=>⟨h9 h ob',(hkept _ _ _ (h9 h ob')).2.1⟩,h10⟩
 ·unfold qgr;rw [h'.2.1];simp only;rw [if_neg (by decide)]
  exact h n j _ _ hp hj1 hj2 hj3 h'.1
 ·obtain⟨c,h1,h2⟩:=h';unfold qgr;rw [h2];simp only;rw [if_neg (by decide)]
  exact hd c _ _ h1
end Go.Sm
namespace Go.Sm.KySS
open Go Go.Proofs Go.Sm Go.Sm.Str
set_option maxRecDepth 100000
set_option maxHeartbeats 4000000
def qcw (q:Nat):Value:= .func (.func 201) #[] #[.pointer (some ⟨q,0,none⟩)]
theorem qbd {α:Type} (l:List α) (j:Nat) (h:j<l.length):(l[j]::l.eraseIdx j).Perm l:=by
 rw [List.eraseIdx_eq_take_drop_succ];have h1:l=l.take j++l[j]::l.drop (j+1):=by rw [←List.drop_eq_getElem_cons h,List.take_append_drop]
 conv=>rhs;rw [h1]
 exact List.perm_middle.symm
theorem keys_spec (m:Nat) (σ:CSt) (Q:Out→CSt→Prop) (h:Q (.ret (qcw σ.n) false) (σ.alloc (.cells [.map (some m)] 58 false))):W E1 (.fn 117 #[.map (some m)] none) σ Q:=by
 rw [qap (fn:=Tryz.f117) Tryz.func117 rfl rfl rfl];simpa [qa0,qcw] using h
theorem qco {x:Ctx} {a:CAct} {f:Operand} {p:Tmp} {asg body:Code} {K:Out→CSt→Prop} {q m:Nat} {qo:Bool} {M:MlG ByteArray} (σ:CSt) (hf:a.eval f=qcw q) (ha:qdc σ x.rnd=true) (hp:p<a.sz) (hq:σ.get q=some (.cells [.map (some m)] 58 qo)) (hqn:q<σ.n) (hmn:m<σ.n) (hm:MpG Value.string σ m M)
  (Inv:List ByteArray→CSt→Prop) (h0:∀o1 o2,Inv [] ((σ.alloc o1).alloc o2))
  (hput:∀D s o,Inv D s→Inv D (s.put (σ.n+1) o)) (hputL:∀D s o,Inv D s→Inv D (s.put σ.n o))
  (hround:∀(D:List ByteArray) (k:ByteArray) (s:CSt) (v:Value),Inv D s→(k,v)∈M→D.length<M.length→σ.n+2≤s.n→s.get q=some (.cells [.map (some m)] 58 qo)→MpG Value.string s m M→
   W E1 (.code ⟨x.f,some σ.n,none⟩ asg {tm:=a.tm.set p (.string k),sz:=a.sz,df:= [],tk:=false}) s λo s1=>∃a',o= .code .normal a'∧s1=s∧∀ob:CObj,
    W E1 (.code ⟨x.f,some σ.n,none⟩ body a') (s.put σ.n ob) λo2 s2=>(∃a2,o2= .code .normal a2)∧(∀ob',Inv (D++ [k]) (s2.put σ.n ob'))∧s.n≤s2.n∧s2.get σ.n=some ob∧s2.get (σ.n+1)=s.get (σ.n+1)∧s2.get q=s.get q∧s2.get m=s.get m)
  (h:∀(D:List ByteArray) (s:CSt),Inv D s→D.Perm (M.map (·.1))→σ.n+2≤s.n→K (.code .normal a) s):W E1 (.code x (.rangeFunc f #[p] asg body) a) σ K:=by
 rw [qcc hf ha,qap (fn:=Tryz.f201) Tryz.func201 rfl rfl rfl];obtain⟨hmp⟩:Nonempty True:=⟨trivial⟩;have hq1:(σ.alloc (.loop .ready none x.f a.tm a.sz #[p] asg body)).get q=some (.cells [.map (some m)] 58 qo):=by rw [CSt.get_alloc,if_neg (by omega)];exact hq
 have hm1:MpG Value.string (σ.alloc (.loop .ready none x.f a.tm a.sz #[p] asg body)) m M:=by
  obtain⟨es,clock,h1,h2⟩:=hm;exact⟨es,clock,by rw [CSt.get_alloc,if_neg (by omega)];exact h1,h2⟩
 obtain⟨o,ho1,ho2⟩:=qb3 (P:=Tryz.prog) (t:=58) (kt:=9) (et:=9) Tryz.underlying58 hm1 (by simp;omega)
 simp at ho1;simp [qa0,hq1,ho1];have hi0:=h0 (.loop .ready none x.f a.tm a.sz #[p] asg body) o;have hL0:((σ.alloc (.loop .ready none x.f a.tm a.sz #[p] asg body)).alloc o).get σ.n=some (.loop .ready none x.f a.tm a.sz #[p] asg body):=by simp
 have hq2:((σ.alloc (.loop .ready none x.f a.tm a.sz #[p] asg body)).alloc o).get q=some (.cells [.map (some m)] 58 qo):=by rw [CSt.get_alloc,if_neg (by simp;omega)];exact hq1
 have hn0:σ.n+2≤((σ.alloc (.loop .ready none x.f a.tm a.sz #[p] asg body)).alloc o).n:=by simp
 generalize (σ.alloc (.loop .ready none x.f a.tm a.sz #[p] asg body)).alloc o=σ2 at ho2 hi0 hL0 hq2 hn0⊢;refine qaj (λn A s=>∃tm S D,A=⟨tm,14, [],false⟩∧tm.get 0=some (.func (.yield σ.n) #[] #[])∧tm.get 5=some (.pointer (some ⟨σ.n+1,0,none⟩))∧n=List.length S∧MIt Value.string s (σ.n+1) m M S∧(D++S.map (·.1)).Perm (M.map (·.1))∧(∀e∈S,e∈M)∧Inv D s∧s.get σ.n=some (.loop .ready none x.f a.tm a.sz #[p] asg body)∧s.get q=some (.cells [.map (some m)] 58 qo)∧σ.n+2≤s.n) ?_ (List.length M) _ _ ?_
 ·rintro n A s ⟨tm,S,D,rfl,e0,e5,hn,hit,hpm,hmem,hinv,hL,hqs,hsn⟩;simp [qa0,e0,e5];refine qbb hit (λhS=> ?_) (λj hj ob hit' hent=> ?_)
  ·subst hS;simp at hpm;simp [qa0,e0,e5];unfold qgr;rw [hL];simp only;rw [if_neg (by decide)]
   exact h D _ (hputL D _ _ hinv) hpm (by simpa using hsn)
  ·have hSj:=List.getElem_mem hj;have hinv':=hput D s ob hinv;have hL':(s.put (σ.n+1) ob).get σ.n=some (.loop .ready none x.f a.tm a.sz #[p] asg body):=by rw [CSt.get_put,if_neg (by omega)];exact hL
   have hq':(s.put (σ.n+1) ob).get q=some (.cells [.map (some m)] 58 qo):=by rw [CSt.get_put,if_neg (by omega)];exact hqs
   have hn':σ.n+2≤(s.put (σ.n+1) ob).n:=by simpa using hsn
   generalize s.put (σ.n+1) ob=s1 at hit' hent hinv' hL' hq' hn'⊢;simp [qa0,e0,e5,hent];rw [qjj hL' rfl];have hDl:D.length<List.length M:=by
    have:=hpm.length_eq;simp at this;omega
   have hr:=hround D S[j].1 s1 S[j].2 hinv' (hmem _ hSj) hDl hn' hq' hit'.mp;simp only [List.zip_cons_cons,List.zip_nil_left,List.foldl_cons,List.foldl_nil,hp,if_true];refine W.weaken hr λo1 s2 h1=> ?_
   obtain⟨a',rfl,rfl,h2⟩:=h1;unfold qhu;rw [hL'];simp only;refine W.weaken (h2 _) λo2 s3 h3=> ?_
   obtain⟨⟨a2,rfl⟩,h4,h5,h6,h7,h8,h9⟩:=h3;simp only [qgm];rw [h6];simp only [Option.isNone_none,if_true];simp [qa0,e0,e5];have hne1:σ.n+1≠σ.n:=by omega
   refine⟨S.length-1,by omega,S.eraseIdx j,by rw [List.length_eraseIdx_of_lt hj], ?_,D++ [S[j].1], ?_,λa b he=>hmem (a,b) (List.mem_of_mem_eraseIdx he),h4 _, ?_,by omega⟩
   ·refine hit'.congr ?_ ?_
    ·rw [CSt.get_put,if_neg hne1];exact h7
    ·rw [CSt.get_put,if_neg (by omega)];exact h9
   ·refine List.Perm.trans ?_ hpm;rw [List.append_assoc];refine List.Perm.append_left D ?_;have:=(qbd S j hj).map (·.1)
    simpa using this
   ·rw [if_neg (by omega),h8];exact hq'
 ·refine⟨_,M, [],rfl, ?_⟩;simp;exact⟨ho2,hi0,hL0,hq2,hn0⟩
theorem qbm (q m:Nat) (qo:Bool) (M:MlG ByteArray) (σ:CSt) (hq:σ.get q=some (.cells [.map (some m)] 58 qo)) (hqn:q<σ.n) (hmn:m<σ.n) (hm:MpG Value.string σ m M) (hbig:M.length<2^38) (Q:Out→CSt→Prop)
  (h:∀(v:Value) (D:List ByteArray) (σ':CSt),D.Perm (M.map (·.1))→Own σ.n σ' 9 Str.encS v D→Grow σ σ'→Q (.ret v false) σ'):W E1 (.fn 200 #[qcw q] none) σ Q:=by
 rw [qap (fn:=Tryz.f200) Tryz.func200 rfl rfl rfl];simp [qa0];rw [qap (fn:=Tryz.f244) Tryz.func244 rfl rfl rfl];simp [qa0];have hg0:Grow σ (σ.alloc (.cells [.slice none 0 0] 119 false)):=(Grow.refl σ).alloc _;have hb0:(σ.alloc (.cells [.slice none 0 0] 119 false)).n=σ.n+1:=by simp
 have hc0:(σ.alloc (.cells [.slice none 0 0] 119 false)).get σ.n=some (.cells [.slice none 0 0] 119 false):=by simp
 have hq0:=hg0.get hq hqn;have hm0:MpG Value.string (σ.alloc (.cells [.slice none 0 0] 119 false)) m M:=by
  obtain⟨es,clock,h1,h2⟩:=hm;exact⟨es,clock,hg0.get h1 hmn,h2⟩
 generalize σ.alloc (.cells [.slice none 0 0] 119 false)=σ1 at hg0 hb0 hc0 hq0 hm0⊢;have hML:∀(D:List ByteArray) (s:CSt) (k:ByteArray) (v:Value),(D++ [k]).length≤M.length+1→True:=λ_ _ _ _ _=>trivial
 refine qco (q:=q) (m:=m) (qo:=qo) (M:=M) σ1 rfl (by simp;rfl) (by simp) hq0 (by omega) (by omega) hm0
  (λD s=>∃v,s.get σ.n=some (.cells [v] 119 false)∧Own (σ1.n+2) s 9 Str.encS v D∧σ1.n+2≤s.n∧∀j,j<σ.n→s.get j=σ.get j) ?_ ?_ ?_ ?_ ?_
 ·intro o1 o2;refine⟨_, ?_,Own.nil,by simp,λj hj=> ?_⟩
  ·rw [CSt.get_alloc,if_neg (by simp;omega),CSt.get_alloc,if_neg (by omega)];exact hc0
  ·rw [CSt.get_alloc,if_neg (by simp;omega),CSt.get_alloc,if_neg (by omega)];exact hg0.old j hj
 ·rintro D s o ⟨v,h1,h2,h3,h4⟩;exact⟨v,by rw [CSt.get_put,if_neg (by omega)];exact h1,h2.put (by omega) o,h3,λj hj=>by rw [CSt.get_put,if_neg (by omega)];exact h4 j hj⟩
 ·rintro D s o ⟨v,h1,h2,h3,h4⟩;exact⟨v,by rw [CSt.get_put,if_neg (by omega)];exact h1,h2.put (by omega) o,h3,λj hj=>by rw [CSt.get_put,if_neg (by omega)];exact h4 j hj⟩
 ·rintro D k s vv ⟨v,h1,h2,h3,h4⟩ hk hDl hsn hqs hms;have hne:¬σ.n=σ1.n:=by omega
  have hcap:D.length<2^38:=by omega
  simp [qa0,hne,h1];intro ob;have h1':(s.put σ1.n ob).get σ.n=some (.cells [v] 119 false):=by rw [CSt.get_put,if_neg hne];exact h1
  have h2':=h2.put (i:=σ1.n) (by omega) ob
  have hpn:(s.put σ1.n ob).n=s.n:=rfl;have hob:(s.put σ1.n ob).get σ1.n=some ob:=by simp
  have hoth:∀j,j≠σ1.n→(s.put σ1.n ob).get j=s.get j:=λj hj=>by rw [CSt.get_put,if_neg hj]
  generalize s.put σ1.n ob=s1 at h1' h2' hpn hob hoth⊢;have hga:Grow s1 (s1.alloc (.cells [.string k] 9 false)):=(Grow.refl s1).alloc _;obtain⟨v9,σ9,a1,a2,a3,a4,a5⟩:=qay (P:=Tryz.prog) (ts:= #[119,119]) (e:=9) (sz:=1) (enc:=Str.encS) (l:=D) (m:= [k]) (b:=σ1.n+2) ef119 (by simp) Str.lenS Str.cokS rfl (by decide) (by decide) rfl (σ:=s1.alloc (.cells [.string k] 9 false))
   (h2'.grow hga) (by simp;omega) (Sl.all (l:= [k]) (i:=s.n) (cap:=1) (ro:=false) Str.lenS (by rw [←hpn];simp [Str.encS]) (by rw [←hpn];simp) (.inr ⟨by simp,by simp [qa1]⟩)) (by simp;omega) (by omega)
  have hlt:σ.n<s1.n:=by omega
  have hold:∀j,j<σ1.n+2→σ9.get j=s1.get j:=λj hj=>by rw [a3.2 j hj];exact hga.old j (by omega)
  have h19:σ9.get σ.n=some (.cells [v] 119 false):=by rw [hold _ (by omega)];exact h1'
  obtain⟨p9,c9,rfl⟩:=(a2.sl (sz:=1) Str.lenS).form;have a1':qas Tryz.prog (s1.alloc (.cells [.string k] 9 false)) #[119,119] v (.slice (some ⟨s.n,0,none⟩) 1 1)=some (.slice p9 (D++ [k]).length c9,σ9):=a1;have hn9:=a3.1;simp at hn9 a1';simp [qa0,a1',h19];have e1:¬σ1.n=σ.n:=by omega
  have a2':Own (σ1.n+2) (σ9.put σ.n (.cells [.slice p9 (D.length+1) c9] 119 false)) 9 Str.encS (.slice p9 (D.length+1) c9) (D++ [k]):=by
   have:=a2.put (i:=σ.n) (by omega) (.cells [.slice p9 (D.length+1) c9] 119 false)
   rwa [List.length_append] at this
  refine⟨λob'=>⟨a2'.put (by omega) ob',by omega,λj hj=> ?_⟩,by omega, ?_, ?_, ?_, ?_⟩
  ·rw [if_neg (by omega),if_neg (by omega),hold j (by omega),hoth j (by omega)];exact h4 j hj
  ·rw [if_neg e1,hold _ (by omega)];exact hob
  ·rw [if_neg (by omega),hold _ (by omega),hoth _ (by omega)]
  ·by_cases e:q=σ.n
   ·omega
   ·rw [if_neg e,hold q (by omega),hoth q (by omega)]
  ·by_cases e:m=σ.n
   ·omega
   ·rw [if_neg e,hold m (by omega),hoth m (by omega)]
 ·rintro D s ⟨v,h1,h2,h3,h4⟩ hpm hsn;have:=h v D s hpm (h2.weaken (by omega)) ⟨by omega,h4⟩
  simpa [qa0,h1] using this
theorem sorted_keys (q m:Nat) (qo:Bool) (M:MlG ByteArray) (σ:CSt) (hq:σ.get q=some (.cells [.map (some m)] 58 qo)) (hqn:q<σ.n) (hmn:m<σ.n) (hm:MpG Value.string σ m M) (hbig:M.length<2^38) (Q:Out→CSt→Prop)
  (h:∀(v:Value) (D:List ByteArray) (σ':CSt),D.Perm (M.map (·.1))→(D.Pairwise λx y=>klt y x=false)→Own σ.n σ' 9 Str.encS v D→Grow σ σ'→Q (.ret v false) σ'):W E1 (.fn 116 #[qcw q] none) σ Q:=by
 rw [qap (fn:=Tryz.f116) Tryz.func116 rfl rfl rfl];simp [qa0];refine qbm q m qo M σ hq hqn hmn hm hbig _ λv D σ1 hpm hown hg=> ?_
 simp [qa0];have hlen:=hpm.length_eq;simp at hlen;refine Str.sort_own σ.n D v σ1 hg.n hown (by omega) _ λD' σ2 hp2 hs2 ho2 hg2=> ?_
 have:=h v D' σ2 (hp2.trans hpm) hs2 ho2 (Grow.thenB hg hg2 (Nat.le_refl _));simpa [qa0] using this
end Go.Sm.KySS
namespace Go.Sm
open Go Go.Proofs
set_option maxRecDepth 100000
set_option maxHeartbeats 4000000
def qgc (p:ByteArray×ByteArray):List Value:= [.string p.1, .string p.2]
theorem lenP (p:ByteArray×ByteArray):(qgc p).length=2:=rfl
theorem cokP (p:ByteArray×ByteArray):qc9 (qgc p)=true:=rfl
def qzq (L:List (ByteArray×Ver)):Ml:=(qlo L).map λp=>(p.1, .string p.2)
def ScI (P:PM) (t:Tx) (fr til:ByteArray) (σ:CSt) (b sp:Nat) (xn:Nat) (n j:Nat) (s:CSt):Prop:=
 Grow σ s∧σ.n+7<s.n∧s.get (b+4)=some (.cells [.pointer (some ⟨sp,0,none⟩)] 79 false)∧s.get (b+6)=some (.cells [.string til] 9 false)∧s.get b=some (.cells [.pointer (some ⟨xn,0,none⟩)] 73 false)∧s.get (b+2)=some (.cells [.map (some (b+1))] 58 false)∧(∃nv:Ver,s.get (b+3)=some (.cells (qad nv) 40 false)∧nv.at_=qbf (qbq (P.S.take j) t.wr fr til t.sp.hi))∧MpG Value.string s (b+1) (qzq (qbq (P.S.take j) t.wr fr til t.sp.hi))
theorem ScI.grow {P:PM} {t:Tx} {fr til:ByteArray} {σ s s':CSt} {sp xn n j:Nat} (h:ScI P t fr til σ σ.n sp xn n j s) (hg:Grow s s'):ScI P t fr til σ σ.n sp xn n j s':=by
 obtain⟨a1,a2,a3,a4,a5,a6,⟨nv,a7,a8⟩,a9⟩:=h;have:=hg.n;exact⟨a1.trans hg,by omega,hg.get a3 (by omega),hg.get a4 (by omega),hg.get a5 (by omega),hg.get a6 (by omega),⟨nv,hg.get a7 (by omega),a8⟩,a9.ch (T:=λ_=>False) (M:=noM) (F:=λ_=>False) (by omega) hg.ch λh=>h.elim⟩
theorem ScI.put7 {P:PM} {t:Tx} {fr til:ByteArray} {σ s:CSt} {sp xn n j L:Nat} (h:ScI P t fr til σ σ.n sp xn n j s) (hL:L=σ.n+7) (o:CObj):ScI P t fr til σ σ.n sp xn n j (s.put L o):=by
 obtain⟨a1,a2,a3,a4,a5,a6,⟨nv,a7,a8⟩,⟨es,cl,e1,e2⟩⟩:=h;subst hL;exact⟨a1.put (by omega) o,a2,by rw [CSt.get_put,if_neg (by omega)];exact a3,by rw [CSt.get_put,if_neg (by omega)];exact a4,by rw [CSt.get_put,if_neg (by omega)];exact a5,by rw [CSt.get_put,if_neg (by omega)];exact a6,⟨nv,by rw [CSt.get_put,if_neg (by omega)];exact a7,a8⟩,⟨es,cl,by rw [CSt.get_put,if_neg (by omega)];exact e1,e2⟩⟩
theorem ScI.same {P:PM} {t:Tx} {fr til:ByteArray} {σ s:CSt} {sp xn n j:Nat} (h:ScI P t fr til σ σ.n sp xn n j s) (hj:j<P.S.length) (he:qi1 t.wr fr til t.sp.hi P.S[j]=none):ScI P t fr til σ σ.n sp xn n (j+1) s:=by
 unfold ScI at h⊢;rw [qra hj,he];simpa using h
theorem ScI.next {P:PM} {t:Tx} {fr til:ByteArray} {σ s:CSt} {sp xn n j:Nat} (h:ScI P t fr til σ σ.n sp xn n j s) (hk:KS P.S) (hj:j<P.S.length) {key:ByteArray} {x:Ver} (he:qi1 t.wr fr til t.sp.hi P.S[j]=some (key,x)) {s':CSt} {nv':Ver} (hn:s'.n=s.n) (ho:∀m,m≠σ.n+3→s'.get m=s.get m) (hv:s'.get (σ.n+3)=some (.cells (qad nv') 40 false)) (ha:nv'.at_=max (qbf (qbq (P.S.take j) t.wr fr til t.sp.hi)) x.at_):
  (x.gone=true→ScI P t fr til σ σ.n sp xn n (j+1) s')∧(x.gone=false→∃o,qdh Tryz.prog s' 58 (.map (some (σ.n+1))) (.string key) (.string x.val)=some (s'.put (σ.n+1) o)∧ScI P t fr til σ σ.n sp xn n (j+1) (s'.put (σ.n+1) o)):=by
 obtain⟨a1,a2,a3,a4,a5,a6,⟨nv,a7,a8⟩,a9⟩:=h;have e1:qbq (P.S.take (j+1)) t.wr fr til t.sp.hi=qbq (P.S.take j) t.wr fr til t.sp.hi++ [(key,x)]:=by rw [qra hj,he];rfl
 have g':Grow σ s':=⟨by rw [hn];exact a1.n,λm hm=>by rw [ho m (by omega)];exact a1.old m hm⟩
 have a9':MpG Value.string s' (σ.n+1) (qzq (qbq (P.S.take j) t.wr fr til t.sp.hi)):=by
  obtain⟨es,cl,e2,e3⟩:=a9;exact⟨es,cl,by rw [ho _ (by omega)];exact e2,e3⟩
 constructor
 ·intro hg;refine⟨g',by omega,by rw [ho _ (by omega)];exact a3,by rw [ho _ (by omega)];exact a4,by rw [ho _ (by omega)];exact a5,by rw [ho _ (by omega)];exact a6,⟨nv',hv,by rw [ha,e1,qhw]⟩, ?_⟩
  rw [e1];unfold qzq;rw [qr1];simp only [hg,if_true];exact a9'
 ·intro hg;obtain⟨o,h1,h2⟩:=qct (P:=Tryz.prog) (key:=Value.string) (kd:= .string) (t:=58) (kt:=9) (et:=9) (k:=key) Tryz.underlying58 (by kernel_rfl) qc3 a9' (.string x.val)
  rw [qiw λp hp e=>by
   obtain⟨q,hq,rfl⟩:=List.mem_map.1 hp;obtain⟨r,hr,hre⟩:=qvr hq;have hke:=qm0 he;simp only at e hke
   exact seen_old hk hj hr (by rw [hre,e,hke])] at h2
  refine⟨o,h1,g'.put (by omega) o,by show _<s'.n;omega,by rw [CSt.get_put,if_neg (by omega),ho _ (by omega)];exact a3,by rw [CSt.get_put,if_neg (by omega),ho _ (by omega)];exact a4,by rw [CSt.get_put,if_neg (by omega),ho _ (by omega)];exact a5,by rw [CSt.get_put,if_neg (by omega),ho _ (by omega)];exact a6,⟨nv',by rw [CSt.get_put,if_neg (by omega)];exact hv,by rw [ha,e1,qhw]⟩, ?_⟩
  rw [e1];unfold qzq at h2⊢;rw [qr1];simp only [hg,Bool.false_eq_true,if_false];rw [List.map_append];exact h2
theorem TxR.grow {hd:Bool→Value} {ty:TypeId} {F:Nat→Prop} {s0 s1:CSt} {t:Tx} {x w:Nat} (h:TxR hd ty F s0 t x w) (k:Grow s0 s1):TxR hd ty F s1 t x w:=h.ch (T:=λ_=>False) (M:=noM) (F':=λ_=>False) k.ch (λ_ h=>h.elim) λ_ _ h=>h.elim
def ScJ (t:Tx) (S:Stl) (fr til:ByteArray) (many:Int) (F:Nat→Prop) (σ:CSt) (g xn wn:Nat) (Q:Out→CSt→Prop) (o:Out) (w:CSt):Prop:=∃tm PP t',o= .code .normal ⟨tm,178, [],false⟩∧tm.get 2=some (.string fr)∧tm.get 3=some (.string til)∧tm.get 4=some (.int .i64 many)∧tm.get 12=some (.pointer (some ⟨σ.n,0,none⟩))∧tm.get 14=some (.pointer (some ⟨σ.n+2,0,none⟩))∧σ.n+7<w.n∧w.get σ.n=some (.cells [.pointer (some ⟨xn,0,none⟩)] 73 false)∧w.get (σ.n+2)=some (.cells [.map (some (σ.n+1))] 58 false)∧MpG Value.string w (σ.n+1) (qzq (qbq S t.wr fr til t.sp.hi))∧t'.wr=t.wr∧t'.snap=t.snap∧TxR hdK 144 (λi=>F i∧i≠σ.n+1) w t' xn wn∧RG (λi=>F i∧i≠σ.n+1) w g PP∧Ch gT qcd F σ w∧(∀v σ',RG F σ' g PP→Ch gT qcd F σ σ'→Sl σ' 196 2 qgc v ((qe4 S t.wr fr til t.sp.hi).take many.toNat)→Q (.ret (.tuple #[v, .int .i64 0]) false) σ')
def ScK (ex:CEx) (t:Tx) (S:Stl) (fr til:ByteArray) (many:Int) (F:Nat→Prop) (σ:CSt) (g:Nat) (PP:PM) (o:Out) (w:CSt):Prop:=∃(tm:Tr Value) (A:List (ByteArray×ByteArray)),o= .code ex ⟨tm,178, [],false⟩∧tm.get 4=some (.int .i64 many)∧tm.get 14=some (.pointer (some ⟨σ.n+2,0,none⟩))∧σ.n+7<w.n∧w.get (σ.n+2)=some (.cells [.map (some (σ.n+1))] 58 false)∧A.Perm (qe4 S t.wr fr til t.sp.hi)∧MpG Value.string w (σ.n+1) (A.map λp=>(p.1, .string p.2))∧RG (λi=>F i∧i≠σ.n+1) w g PP∧Ch gT qcd F σ w
theorem qrc {D E:List (ByteArray×Ver)} (h:(qed D).Perm (qed E)):D.Perm E:=by
 have h3:=h.map (λp:ByteArray×Value=>(p.1,match p.2 with| .agg ⟨[.int _ x, .string y, .bool z]⟩=>(⟨x,y,z⟩:Ver)|_=>⟨0,⟨#[]⟩,false⟩))
 unfold qed at h3;rw [List.map_map,List.map_map] at h3;have hid:∀l:List (ByteArray×Ver),l.map ((λp:ByteArray×Value=>(p.1,match p.2 with| .agg ⟨[.int _ x, .string y, .bool z]⟩=>(⟨x,y,z⟩:Ver)|_=>⟨0,⟨#[]⟩,false⟩))∘λp=>(p.1, .agg (qad p.2).toArray))=l:=λl=>by
  conv=>rhs;rw [←List.map_id l]
  rfl
 rw [hid,hid] at h3;exact h3
theorem RG.cm {F:Nat→Prop} {s s':CSt} {g:Nat} {P:PM} (h:RG F s g P) (k:qhi s s'):RG F s' g P:=by
 obtain⟨sp,ml,mt,v,X,Wn,ks,h⟩:=h;exact⟨sp,ml,mt,v,X,Wn,ks,h.cm k⟩
theorem qug {b:Nat} {s1:CSt} {L:List (ByteArray×ByteArray)} {x:ByteArray×ByteArray} {v:Value} (ho:Own b s1 196 qgc v L) (hb:b≤s1.n) (hl:L.length<2^38):
  ∃p9 c9 s9,qas Tryz.prog (s1.alloc (.cells (qgc x) 196 false)) #[91,91] v (.slice (some ⟨s1.n,0,none⟩) 1 1)=some (.slice p9 (L.length+1) c9,s9)∧Own b s9 196 qgc (.slice p9 (L.length+1) c9) (L++ [x])∧qbx b s1 s9:=by
 have hga:Grow s1 (s1.alloc (.cells (qgc x) 196 false)):=(Grow.refl s1).alloc _;obtain⟨v9,s9,a1,a2,a3,_,_⟩:=qay (P:=Tryz.prog) (ts:= #[91,91]) (e:=196) (sz:=2) (enc:=qgc) (l:=L) (m:= [x]) (b:=b) ef91 (by simp) lenP cokP rfl (by decide) (by decide) rfl (σ:=s1.alloc (.cells (qgc x) 196 false))
  (ho.grow hga) (by simp;omega) (Sl.all (l:= [x]) (i:=s1.n) (cap:=1) (ro:=false) lenP (by simp) (by simp) (.inr ⟨by simp,by simp [qa1]⟩)) (by show(_+1)*_≤_;simp;omega) (by omega)
 obtain⟨p9,c9,rfl⟩:=(a2.sl (sz:=2) lenP).form;rw [List.length_append] at a1 a2;exact⟨p9,c9,s9,a1,a2,(hga.toB hb).trans a3⟩
theorem qic (s:CSt):qg3 Tryz.prog s 111 (Value.map none)=some (.pointer (some ⟨s.n,0,none⟩),s.alloc (.miter none 0 #[] 0)):=by
 unfold qg3;rw [Tryz.underlying111]
theorem qkm {s:CSt} {r:Nat} (h:s.get r=some (.miter none 0 #[] 0)):qej s (.pointer (some ⟨r,0,none⟩)) false= .val (.tuple #[.bool false]) s:=by
 unfold qej;simp only [h]
def ScL (t:Tx) (S0:Stl) (fr til:ByteArray) (F:Nat→Prop) (σ w:CSt) (g wn:Nat) (PP:PM) (W:Ml) (k:Nat) (s:CSt):Prop:=∃(D:List (ByteArray×Ver)) (S:Ml),k=List.length S∧MIt Value.string s w.n wn W S∧W.Perm (qed D++S)∧s.get (σ.n+2)=some (.cells [.map (some (σ.n+1))] 58 false)∧MpG Value.string s (σ.n+1) ((qlo (qbq S0 t.wr fr til t.sp.hi)++D.filterMap (qt5 fr til)).map λp=>(p.1, .string p.2))∧RG (λi=>F i∧i≠σ.n+1) s g PP∧Ch gT qcd F σ s∧w.n<s.n
def orK (J Q:Out→CSt→Prop) (o:Out) (s:CSt):Prop:=J o s∨Q o s
theorem W_cutOr {E:Env} {t:Task} {σ:CSt} {Q:Out→CSt→Prop} (J:Out→CSt→Prop) (h1:W E t σ (orK J Q)) (h2:∀o s,J o s→Q o s):W E t σ Q:=W.weaken h1 λo s h=>h.elim (h2 o s) id
theorem W_here {E:Env} {t:Task} {s:CSt} {Q:Out→CSt→Prop} (h:∀s1,s1=s→W E t s1 Q):W E t s Q:=h s rfl
section
variable {F:Nat→Prop} {σ:CSt} {g sp ml mt:Nat} {v:Value} {X Wn:Int→Nat} {ks:List Int} {P:PM}
theorem qya (h:RG F σ g P) (hF:∀i,σ.n≤i→F i) (hn:gnone σ) (hok:P.Ok) (hsz:P.size<2^30) (n:Int) (fr til:ByteArray) (many:Int) (Q:Out→CSt→Prop)
  (h1:∀v σ',RG F σ' g (P.scan n fr til many).2→Ch gT qcd F σ σ'→Sl σ' 196 2 qgc v (P.scan n fr til many).1.1→Q (.ret (.tuple #[v, .int .i64 (P.scan n fr til many).1.2]) false) σ'):W E1 (.fn 47 #[ptr g, .int .i64 n, .string fr, .string til, .int .i64 many] none) σ Q:=by
 have hrg:=h;obtain⟨sp,ml,mt,v,X,Wn,ks,h⟩:=h;rw [qap (fn:=Tryz.f47) Tryz.func47 rfl rfl rfl];have hgt:=λQ=>qci h n Q
 unfold ptr at hgt;simp [qa0,ptr];refine hgt _ (λt ht=> ?_) λhn'=> ?_
 rotate_left
 ·have e:P.scan n fr til many=(([],4),P):=by unfold PM.scan;rw [hn']
  rw [e] at h1;have:=h1 (.slice none 0 0) ((σ.alloc (.cells [.pointer none] 73 false)).put σ.n (.cells [.pointer none] 73 false)) (hrg.grow (((Grow.refl σ).alloc _).put (Nat.le_refl _) _)) ((((Grow.refl σ).alloc _).put (Nat.le_refl _) _).ch) Sl.nil;simpa [qa0] using this
 have hm:=(qao hok).1 ht;have hto:=hok.tx _ hm;have htx:=h.lv.tx _ hm;simp only at hto htx;have g0:Grow σ ((σ.alloc (.cells [.pointer none] 73 false)).put σ.n (.cells [ptr (X n)] 73 false)):=((Grow.refl σ).alloc _).put (Nat.le_refl _) _;have hc0:((σ.alloc (.cells [.pointer none] 73 false)).put σ.n (.cells [ptr (X n)] 73 false)).get σ.n=some (.cells [ptr (X n)] 73 false):=by simp
 have hn0:((σ.alloc (.cells [.pointer none] 73 false)).put σ.n (.cells [ptr (X n)] 73 false)).n=σ.n+1:=by simp
 unfold ptr at g0 hc0 hn0;simp [qa0,ptr];generalize (σ.alloc (.cells [.pointer none] 73 false)).put σ.n (.cells [.pointer (some ⟨X n,0,none⟩)] 73 false)=s0 at g0 hc0 hn0⊢;have hr0:=h.grow g0;have hcmp:(klt fr til=false∧¬fr.toList=til.toList)=(klt til fr=true):=by
  have:=qi5 fr til;apply propext;cases c1:klt til fr<;>cases c2:klt fr til<;>simp_all
 refine qeg fr s0 _ ?_;by_cases hk:kOk fr=false∨kOk til=false∨klt til fr=true
 ·have e:P.scan n fr til many=(([],2),P):=by unfold PM.scan;rw [ht];simp only [if_pos hk]
  rw [e] at h1;have fin:=h1 (.slice none 0 0) s0 ⟨sp,ml,mt,v,X,Wn,ks,hr0⟩ g0.ch Sl.nil;cases k1:kOk fr with
  |false=>simpa [qa0,qa2,qa4,k1] using fin
  |true=>
   simp [qa0,qa2,qa4,k1];refine qeg til s0 _ ?_;cases k2:kOk til with
   |false=>simpa [qa0,qa2,qa4] using fin
   |true=>
    have k3:klt til fr=true:=by simpa [k1,k2] using hk
    simpa [qa0,qa2,qa4,hcmp,k3] using fin
 have hkf:kOk fr=true:=by
  cases k1:kOk fr with
  |true=>rfl
  |false=>exact absurd (.inl k1) hk
 have hkt:kOk til=true:=by
  cases k1:kOk til with
  |true=>rfl
  |false=>exact absurd (.inr (.inl k1)) hk
 have hkl:klt til fr=false:=by
  cases k1:klt til fr with
  |false=>rfl
  |true=>exact absurd (.inr (.inr k1)) hk
 simp [qa0,qa2,qa4,hkf];refine qeg til s0 _ ?_;by_cases hmn:many<1∨50<many
 ·have e:P.scan n fr til many=(([],1),P):=by unfold PM.scan;rw [ht];simp only [if_neg hk,if_pos hmn]
  rw [e] at h1;have fin:=h1 (.slice none 0 0) s0 ⟨sp,ml,mt,v,X,Wn,ks,hr0⟩ g0.ch Sl.nil;by_cases c1:many<1
  ·simpa [qa0,qa2,qa4,hkt,hcmp,hkl,c1] using fin
  ·have c2:50<many:=by omega
   simpa [qa0,qa2,qa4,hkt,hcmp,hkl,c1,c2] using fin
 have c1:¬many<1:=by omega
 have c2:¬50<many:=by omega
 have e:P.scan n fr til many=if t.snap then(((qe4 P.S t.wr fr til t.sp.hi).take many.toNat,0),P) else
   (let r:=P.see n t (qbf (qbq P.S t.wr fr til t.sp.hi)) fr til ⟨1,t.sp.hi⟩
    if r.1 then(((qe4 P.S t.wr fr til t.sp.hi).take many.toNat,0),r.2) else(([],7),r.2)):=by
  unfold PM.scan;rw [ht];simp only [if_neg hk,if_neg hmn]
 rw [e] at h1;have hg0:=hr0.cell;have hgl0:=hr0.lt;unfold ptr at hg0;have hne1:¬g=s0.n:=by omega
 have hne2:¬g=s0.n+1:=by omega
 have hne3:¬g=s0.n+2:=by omega
 simp [qa0,qa2,qa4,hkt,hcmp,hkl,c1,c2,hg0,hne1,hne2,hne3,Nat.add_assoc,qcf Tryz.underlying58];refine rows34 ⟨sp,0,none⟩ fr til _ _ ?_;simp [qa0,Nat.add_assoc];refine W_here λs1 hs1=> ?_
 have hn1:s1.n=σ.n+7:=by rw [hs1];simp [hn0]
 have g1:Grow s0 s1:=by
  rw [hs1];exact(((((((((Grow.refl s0).alloc _).alloc _).put (by omega) _).alloc _).put (by omega) _).alloc _).alloc _).alloc _)
 have hq0:s1.get σ.n=some (.cells [.pointer (some ⟨X n,0,none⟩)] 73 false):=g1.get hc0 (by omega)
 have hq1:s1.get (σ.n+1)=some (.map #[] 0):=by rw [hs1];simp [hn0,Nat.add_assoc]
 have hq2:s1.get (σ.n+2)=some (.cells [.map (some (σ.n+1))] 58 false):=by rw [hs1];simp [hn0,Nat.add_assoc]
 have hq3:s1.get (σ.n+3)=some (.cells (qad qcx) 40 false):=by rw [hs1];simp [hn0,Nat.add_assoc];rfl
 have hq4:s1.get (σ.n+4)=some (.cells [.pointer (some ⟨sp,0,none⟩)] 79 false):=by rw [hs1];simp [hn0,Nat.add_assoc]
 have hq5:s1.get (σ.n+5)=some (.cells [.string fr] 9 false):=by rw [hs1];simp [hn0,Nat.add_assoc]
 have hq6:s1.get (σ.n+6)=some (.cells [.string til] 9 false):=by rw [hs1];simp [hn0,Nat.add_assoc]
 clear hs1;have g01:=g0.trans g1;have hcl:∀s∈P.S,s.2.length<2^38:=λs hs=>by have:=qdt hs;omega
 have hSl:P.S.length<2^38:=by have:=qfk hok;omega
 have hx:=htx.cell;have hxl:=htx.lx;unfold qfo hdK at hx;obtain⟨xn,hxn⟩:∃xn,X n=xn:=⟨_,rfl⟩
 rw [hxn] at hq0 hx hxl;refine qtg (F:=F) (q1:=σ.n+4) (q2:=σ.n+5) (q3:=σ.n+6) (o1:=false) (o2:=false) (o3:=false) (S:=P.S) (i:=sp) (fr:=fr) (til:=til) hok.ks (by simp [rowsF,hn0,Nat.add_assoc]) rfl h.st g01 hq4 (by omega) hq5 (by omega) hq6 (by omega) hSl hcl (by simp) (by simp)
  (λn j s=>ScI P t fr til σ σ.n sp xn n j s) (λc s=>False) ?_ ?_ ?_ ?_ ?_ ?_
 ·rintro n' j s ⟨a1,a2,a3,a4,_⟩;exact⟨a1.kept,by omega,a3,a4⟩
 ·exact λn' j s s' h hg=>h.grow hg
 ·intro n' o s hp hg;have gs:Grow s1 s:=((Grow.refl s1).alloc o).trans hg;have hns:=hg.n;simp at hns;have e0:=seen_pre hp t.wr til t.sp.hi;refine⟨g01.trans gs,by omega,gs.get hq4 (by omega),gs.get hq6 (by omega),gs.get hq0 (by omega),gs.get hq2 (by omega),⟨qcx,gs.get hq3 (by omega),by rw [e0];rfl⟩, ?_⟩
  rw [e0];exact⟨#[],0,gs.get hq1 (by omega),qdp _ _⟩
 ·intro n' j hj s vv b' hI hp hnj hto2 hb1 hb2 ho hL;refine⟨_,s,by simp [qa0];rfl,hL,λob=> ?_⟩
  have hI':=hI.put7 hn1 ob;have hob:(s.put s1.n ob).get s1.n=some ob:=by simp
  have ho':Own b' (s.put s1.n ob) 40 qad vv P.S[j].2:=ho.put hb1 ob;generalize s.put s1.n ob=u at hI' hob ho'⊢;obtain⟨a1,a2,a3,a4,a5,a6,⟨nv,a7,a8⟩,a9⟩:=hI';have hI':ScI P t fr til σ σ.n sp xn n' j u:=⟨a1,a2,a3,a4,a5,a6,⟨nv,a7,a8⟩,a9⟩;have hxu:=a1.get hx hxl;have hsrt:=(hok.st _ (List.getElem_mem hj)).2.2.1;have hlen:=hcl _ (List.getElem_mem hj);have hat:=λQ=>qyf P.S[j].2 hsrt vv t.sp.hi u (ho'.sl (λ_=>rfl)) (by omega) Q
  simp [qa0,a5,hxu];refine hat _ λs2 g2=> ?_
  rw [qid];obtain⟨ov,hov⟩:∃ov,atL P.S[j].2 t.sp.hi=ov:=⟨_,rfl⟩
  obtain⟨key,hkey⟩:∃key,P.S[j].1=key:=⟨_,rfl⟩
  rw [hov];have g3:Grow s2 ((s2.alloc (.cells [.int .u64 0, .string ⟨#[]⟩, .bool false] 40 false)).put s2.n (.cells (qad (ov.getD qcx)) 40 false)):=((Grow.refl s2).alloc _).put (Nat.le_refl _) _;have hc3:((s2.alloc (.cells [.int .u64 0, .string ⟨#[]⟩, .bool false] 40 false)).put s2.n (.cells (qad (ov.getD qcx)) 40 false)).get s2.n=some (.cells (qad (ov.getD qcx)) 40 false):=by simp
  have hn3:((s2.alloc (.cells [.int .u64 0, .string ⟨#[]⟩, .bool false] 40 false)).put s2.n (.cells (qad (ov.getD qcx)) 40 false)).n=s2.n+1:=by simp
  have gu3:=g2.trans g3;have hx3:=gu3.get hxu (by have:=a1.n;omega)
  have a53:=gu3.get a5 (by omega)
  have hlk:=qgo (htx.grow (a1.trans gu3)) hto key true;simp only [if_true] at hlk;simp only [qad] at g3 hc3 hn3 gu3 hx3 a53 hlk;have hne2':¬σ.n=s2.n:=by have:=g2.n;omega
  have hnex:¬xn=s2.n:=by have:=g2.n;have:=a1.n;omega
  have a52:=g2.get a5 (by omega)
  have hx2:=g2.get hxu (by have:=a1.n;omega)
  simp [qa0,qad,a5,hxu,hkey,hne2',hnex,a52,hx2,hlk];generalize (s2.alloc (.cells [.int .u64 0, .string ⟨#[]⟩, .bool false] 40 false)).put s2.n (.cells [.int .u64 (ov.getD qcx).at_, .string (ov.getD qcx).val, .bool (ov.getD qcx).gone] 40 false)=s3 at g3 hc3 hn3 gu3 hx3 a53 hlk⊢;have g4:Grow s3 ((s3.alloc (.cells [.int .u64 0, .string ⟨#[]⟩, .bool false] 40 false)).put (s2.n+1) (.cells [.int .u64 ((qaw t.wr key).getD qcx).at_, .string ((qaw t.wr key).getD qcx).val, .bool ((qaw t.wr key).getD qcx).gone] 40 false)):=((Grow.refl s3).alloc _).put (by omega) _
  generalize (s3.alloc (.cells [.int .u64 0, .string ⟨#[]⟩, .bool false] 40 false)).put (s2.n+1) (.cells [.int .u64 ((qaw t.wr key).getD qcx).at_, .string ((qaw t.wr key).getD qcx).val, .bool ((qaw t.wr key).getD qcx).gone] 40 false)=s4 at g4⊢;have gu4:=gu3.trans g4;have hI4:=hI'.grow gu4;have hob4:s4.get s1.n=some ob:=gu4.get hob (by omega)
  have hpre:klt key fr=false:=by rw [←hkey];exact hp.hi j hj hnj
  have hso:qi1 t.wr fr til t.sp.hi P.S[j]=if(qaw t.wr key).isSome then none else ov.map λv=>(key,v):=by
   unfold qi1;rw [hkey] at hto2;rw [hkey,hpre,hto2,hov]
   rfl
  cases hkw:qaw t.wr key with
  |some w=>
   rw [hkw] at hso;simp [qa0,qa2,qa4];exact⟨.normal,_,none,rfl,rfl,hob4,λ_ ob'=>(hI4.same hj (by rw [hso];rfl)).put7 hn1 ob',λc hc=>by cases hc⟩
  |none=>
   rw [hkw] at hso;cases hoo:ov with
   |none=>
    rw [hoo] at hso;simp [qa0,qa2,qa4];exact⟨.normal,_,none,rfl,rfl,hob4,λ_ ob'=>(hI4.same hj (by rw [hso];rfl)).put7 hn1 ob',λc hc=>by cases hc⟩
   |some x=>
    rw [hoo] at hso hc3;simp at hc3;have hso:qi1 t.wr fr til t.sp.hi P.S[j]=some (key,x):=by rw [hso];rfl
    have hc18:=g4.get hc3 (by omega)
    obtain⟨b1,b2,b3,b4,b5,b6,⟨nv2,b7,b8⟩,b9⟩:=hI4;have hI4:ScI P t fr til σ σ.n sp xn n' j s4:=⟨b1,b2,b3,b4,b5,b6,⟨nv2,b7,b8⟩,b9⟩;simp only [qad] at b7;by_cases c1:nv2.at_<x.at_
    ·have hnx:=hI4.next hok.ks hj hso (s':=s4.put (σ.n+3) (.cells (qad x) 40 false)) (nv':=x) rfl (λm hm=>by rw [CSt.get_put,if_neg hm]) (by rw [CSt.get_put,if_pos rfl]) (by rw [b8] at c1;omega)
     have hob5:(s4.put (σ.n+3) (.cells (qad x) 40 false)).get s1.n=some ob:=by rw [CSt.get_put,if_neg (by omega)];exact hob4
     have hc185:(s4.put (σ.n+3) (.cells (qad x) 40 false)).get s2.n=some (.cells (qad x) 40 false):=by rw [CSt.get_put,if_neg (by have:=g2.n;omega)];exact hc18
     have b65:(s4.put (σ.n+3) (.cells (qad x) 40 false)).get (σ.n+2)=some (.cells [.map (some (σ.n+1))] 58 false):=by rw [CSt.get_put,if_neg (by omega)];exact b6
     simp only [qad] at hnx hob5 hc185 b65;cases hgn:x.gone with
     |true=>
      have hnx1:=hnx.1 hgn;simp [qa0,qa2,qa4,hn0,Nat.add_assoc,hc18,b7,c1];generalize s4.put (σ.n+3) (.cells [.int .u64 x.at_, .string x.val, .bool x.gone] 40 false)=s5 at hnx1 hob5 hc185 b65⊢;simp [qa0,qa2,qa4,hn0,Nat.add_assoc,hc185,hgn];exact⟨.normal,_,none,rfl,rfl,hob5,λ_ ob'=>hnx1.put7 hn1 ob',λc hc=>by cases hc⟩
     |false=>
      obtain⟨o9,ho9,hI9⟩:=hnx.2 hgn;simp [qa0,qa2,qa4,hn0,Nat.add_assoc,hc18,b7,c1,b6];generalize s4.put (σ.n+3) (.cells [.int .u64 x.at_, .string x.val, .bool x.gone] 40 false)=s5 at ho9 hI9 hob5 hc185 b65⊢;simp [qa0,qa2,qa4,hn0,Nat.add_assoc,hc185,hgn,b65,ho9];refine⟨.normal,_,none,rfl,rfl, ?_,λ_ ob'=>hI9.put7 hn1 ob',λc hc=>by cases hc⟩
      rw [CSt.get_put,if_neg (by omega)];exact hob5
    ·have hnx:=hI4.next hok.ks hj hso (s':=s4) (nv':=nv2) rfl (λ_ _=>rfl) b7 (by rw [b8] at c1⊢;omega)
     cases hgn:x.gone with
     |true=>
      rw [hgn] at hc18;simp [qa0,qa2,qa4,hn0,Nat.add_assoc,hc18,b7,c1];exact⟨.normal,_,none,rfl,rfl,hob4,λ_ ob'=>(hnx.1 hgn).put7 hn1 ob',λc hc=>by cases hc⟩
     |false=>
      obtain⟨o9,ho9,hI9⟩:=hnx.2 hgn;simp [qa0,qa2,qa4,hn0,Nat.add_assoc,hc18,b7,c1,hgn,b6,ho9];refine⟨.normal,_,none,rfl,rfl, ?_,λ_ ob'=>hI9.put7 hn1 ob',λc hc=>by cases hc⟩
      rw [CSt.get_put,if_neg (by omega)];exact hob4
 ·intro n' j s o hp hnj hjl hend hI;have hI':=hI.put7 hn1 o;unfold ScI at hI';rw [seen_suf hok.ks hjl hend] at hI';obtain⟨a1,a2,_,_,a5,a6,⟨nv,a7,a8⟩,a9⟩:=hI';generalize s.put s1.n o=u at a1 a2 a5 a6 a7 a9⊢;rw [qig,qfz,qsg];have hun:σ.n≤u.n:=a1.n;have hxu:=a1.get hx hxl;have hF':∀i,u.n≤i→F i:=λi hi=>hF i (by omega)
  have h0:RGx (λi=>F i∧(i<σ.n∨u.n≤i)) σ g sp ml mt v X Wn ks P:=h.mono λj hj a=>⟨a, .inl hj⟩
  have hru:=h0.grow a1;refine W_cutOr (ScJ t P.S fr til many F σ g xn (Wn n) Q) ?_ ?_
  ·cases hs:t.snap with
   |true=>
    rw [hs] at h1 hxu;simp only [if_true] at h1 hxu;simp [qa0,hn0,Nat.add_assoc,a5,hxu];have hro:=hru.mono (F':=λi=>F i∧i≠σ.n+1) λj hj a=>⟨a.1,by rcases a.2 with h|h<;>omega⟩
    refine .inl ⟨_,P,t,rfl, ?_⟩;simp [hn0,Nat.add_assoc];refine⟨by omega,a5,a6,a9, ?_,⟨sp,ml,mt,v,X,Wn,ks,hro⟩,a1.ch,λv σ' r k sl=>h1 v σ' r k sl⟩
    rw [←hxn];exact hro.lv.tx _ hm
   |false=>
    rw [hs] at h1 hxu;simp only [Bool.false_eq_true,if_false] at h1 hxu;have hxw:=hto.w hs;have hnc:qbf (qbq P.S t.wr fr til t.sp.hi)≤P.clock:=(qrj _ _ (by have:=hok.clock;omega)).2 λp hp=>(qgb hok ((qiq hok.ks).1 hp).2).2.1
    have hnn:=qfp (qbq P.S t.wr fr til t.sp.hi);have hck:=hok.clock;have hLs:P.L.length<2^36:=by
     have:P.L.length≤P.size:=by unfold PM.size;omega
     omega
    have hsee:=λQ=>gsee_x hru (λi hi=>⟨hF' i hi, .inr hi⟩) (qar hn (by have:=h.lt;omega) a1) hok hLs hm hs nv (by omega) fr til ⟨1,t.sp.hi⟩ (λhlt=>by simp [qqs,hkl,full];omega) Q
    rw [hxn,a8] at hsee;simp only [qad,qag,ptr] at hsee a7;simp [qa0,hn0,Nat.add_assoc,a5,hxu];refine qba (by kernel_rfl) ?_
    simp [qa6,hn0,Nat.add_assoc,a5,a7,hxu];refine hsee _ λs2 hr2 hx2 hc2=> ?_
    have hS2:(P.see n t (qbf (qbq P.S t.wr fr til t.sp.hi)) fr til ⟨1,t.sp.hi⟩).1=true→(n,(⟨t.snap,⟨max t.sp.lo (qbf (qbq P.S t.wr fr til t.sp.hi)+1),t.sp.hi⟩,t.wr⟩:Tx))∈(P.see n t (qbf (qbq P.S t.wr fr til t.sp.hi)) fr til ⟨1,t.sp.hi⟩).2.live:=by
     unfold PM.see;split
     ·intro h;cases h
     ·intro _;exact List.mem_map.2 ⟨(n,t),hm,by simp⟩
    generalize P.see n t (qbf (qbq P.S t.wr fr til t.sp.hi)) fr til ⟨1,t.sp.hi⟩=rr at hr2 hx2 hS2 h1⊢;have hcσ:Ch gT qcd F σ s2:=a1.ch.trans (hc2.mono (λ_ h=>h) (λ_ h=>h) λ_ h=>h.1)
    cases hr1:rr.1 with
    |false=>
     rw [hr1] at h1;simp only [Bool.false_eq_true,if_false] at h1;have fin:=h1 (.slice none 0 0) s2 (hr2.mono λ_ _ a=>a.1) hcσ Sl.nil
     simp [qa6,qa0];refine .inr ?_;simpa [qa0] using fin
    |true=>
     rw [hr1] at h1;simp only [if_true] at h1;obtain⟨sp2,ml2,mt2,v2,ks2,hrx⟩:=hx2 hr1;have hun2:=hc2.1;have hro:=hrx.mono (F':=λi=>F i∧i≠σ.n+1) λj hj a=>⟨a.1,by rcases a.2 with h|h<;>omega⟩
     have hnF:∀m,σ.n≤m→m<u.n→¬(F m∧(m<σ.n∨u.n≤m)):=λm h1 h2 h3=>by rcases h3.2 with h|h<;>omega
     simp [qa6,qa0];refine .inl ⟨_,rr.2,⟨t.snap,⟨max t.sp.lo (qbf (qbq P.S t.wr fr til t.sp.hi)+1),t.sp.hi⟩,t.wr⟩,rfl, ?_⟩;simp [hn0,Nat.add_assoc];refine⟨by omega, ?_, ?_, ?_, ?_,⟨sp2,ml2,mt2,v2,X,Wn,ks2,hro⟩,hcσ,λv σ' r k sl=>h1 v σ' r k sl⟩
     ·rw [hc2.2 σ.n (by omega) λh=>hnF σ.n (by omega) (by omega) h.1];exact a5
     ·rw [hc2.2 (σ.n+2) (by omega) λh=>hnF (σ.n+2) (by omega) (by omega) h.1];exact a6
     ·exact a9.ch (by omega) hc2 λh=>absurd h (hnF (σ.n+1) (by omega) (by omega))
     ·rw [←hxn];exact hro.lv.tx _ (hS2 hr1)
  ·rintro o w ⟨tm,PP,t',rfl,e2,e3,e4,e12,e14,hwn,w0,w2,hmp,htw,hts,htx',hrg',hch',hfin⟩;rw [qfz,qsg];have hxw:=htx'.cell;unfold qfo hdK at hxw;refine qt8 (ScK .normal t P.S fr til many F σ g PP) ?_ ?_
   ·cases hs:t.snap with
    |true=>
     have hwv:wv t' (Wn n)=Value.map none:=by unfold wv;rw [hts,hs];rfl
     have hwr:t.wr= []:=(hto.s hs).2.2.2;have hp:=qjw hok.ks hto.up (.refl t.wr) fr til t.sp.hi;rw [hwr] at hp;simp only [List.filterMap_nil,List.append_nil] at hp;rw [hwv] at hxw;have ga:Grow w (w.alloc (.miter none 0 #[] 0)):=(Grow.refl w).alloc _;have hit:(w.alloc (.miter none 0 #[] 0)).get w.n=some (.miter none 0 #[] 0):=by simp
     have hnx:=qkm hit;have hres:σ.n+7<(w.alloc (.miter none 0 #[] 0)).n:=by simp;omega
     have hmp2:=hmp.ch (T:=λ_=>False) (M:=noM) (F:=λ_=>False) (by omega) ga.ch λh=>h.elim
     have hrg2:=hrg'.grow ga;have hch2:=hch'.trans ga.ch;have w2':=ga.get w2 (by omega)
     simp [qa0,e12,w0,hxw,qic];generalize w.alloc (.miter none 0 #[] 0)=w3 at hnx hres hmp2 hrg2 hch2 w2'⊢;rw [qeq];simp [qa0,hnx];refine⟨_,qlo (qbq P.S t.wr fr til t.sp.hi),rfl, ?_⟩;simp [e4,e14];exact⟨hres,w2',by rw [hwr];exact hp,hmp2,hrg2,hch2⟩
    |false=>
     have hwv:wv t' (Wn n)=Value.map (some (Wn n)):=by unfold wv;rw [hts,hs];rfl
     obtain⟨hFw,hlw,W,hmW,hpW⟩:=htx'.wr (by rw [hts];exact hs)
     rw [htw] at hpW;rw [hwv] at hxw;have hwne:¬Wn n=σ.n+1:=hFw.2;obtain⟨ob,ho,hit⟩:=qb3 (P:=Tryz.prog) (t:=111) Tryz.underlying111 hmW hlw;have ga:Grow w (w.alloc ob):=(Grow.refl w).alloc _;have hmp2:=hmp.ch (T:=λ_=>False) (M:=noM) (F:=λ_=>False) (by omega) ga.ch λh=>h.elim
     have hrg2:=hrg'.grow ga;have hch2:=hch'.trans ga.ch;have w2':=ga.get w2 (by omega)
     have hn3:(w.alloc ob).n=w.n+1:=by simp
     have hWn:(W.map (·.1)).Nodup:=by obtain⟨_,_,_,e⟩:=hmW;exact e.keys
     have hverk:∀D:List (ByteArray×Ver),(qed D).map (·.1)=D.map (·.1):=λD=>by unfold qed;rw [List.map_map];rfl
     simp [qa0,e12,w0,hxw,ho];generalize w.alloc ob=w3 at hit hmp2 hrg2 hch2 w2' hn3⊢;refine qak (λk ac s=>∃tm,ac=⟨tm,178, [],false⟩∧tm.get 2=some (.string fr)∧tm.get 3=some (.string til)∧tm.get 4=some (.int .i64 many)∧tm.get 14=some (.pointer (some ⟨σ.n+2,0,none⟩))∧tm.get 133=some (.pointer (some ⟨w.n,0,none⟩))∧ScL t P.S fr til F σ w g (Wn n) PP W k s)
      (ScK (.exit 3) t P.S fr til many F σ g PP) ?_ W.length _ _ ?_ ?_
     ·rintro k ac s ⟨tm,rfl,e2,e3,e4,e14,e133,⟨D,S,hk,hi,hpm,s2,hmD,hrgs,hchs,hsn⟩⟩;simp [qa0,e2,e3,e4,e14,e133];refine qbb hi (λhS0=> ?_) (λj hj o' hi' he=> ?_)
      ·subst hS0;rw [List.append_nil] at hpm;have hDp:D.Perm t.wr:=qrc (hpm.symm.trans hpW);have hp:=qjw hok.ks hto.up hDp fr til t.sp.hi;simp [qa0];refine⟨_,_,rfl, ?_, ?_,by omega,s2,hp,hmD,hrgs,hchs⟩
       ·simp [e4]
       ·simp [e14]
      ·have hSm:S[j]∈qed t.wr:=hpW.mem_iff.1 (hpm.mem_iff.2 (by simp))
       obtain⟨q,hq,hqe⟩:=List.mem_map.1 hSm;have hku:S[j]=(q.1, .agg (qad q.2).toArray):=hqe.symm;have hnd:=(hpm.map (·.1)).nodup_iff.1 hWn
       rw [List.map_append,hverk,List.nodup_append] at hnd;have hDk:∀x∈D,x.1≠q.1:=λx hx e=>hnd.2.2 x.1 (List.mem_map_of_mem (f:=(·.1)) hx) q.1 (List.mem_map.2 ⟨S[j],List.getElem_mem hj,by rw [hku]⟩) e
       rw [hku] at he⊢;simp only [qad] at he;have hpk:=qbn hj;rw [hku] at hpk;have hpm':W.Perm (qed (D++ [q])++S.eraseIdx j):=by
        refine hpm.trans ?_;unfold qed;rw [List.map_append,List.append_assoc];exact List.Perm.append_left _ hpk
       have hl:(S.eraseIdx j).length<k:=by rw [hk,List.length_eraseIdx_of_lt hj];omega
       have hcm:=hi.cm o';have hcs':Ch gT qcd F σ (s.put w.n o'):=hchs.new (by omega) _
       have hrgs':=hrgs.cm hcm;have hmD':=hmD.cm (by omega) hcm
       have s2':(s.put w.n o').get (σ.n+2)=some (.cells [.map (some (σ.n+1))] 58 false):=by rw [CSt.get_put,if_neg (by omega)];exact s2
       have hn':(s.put w.n o').n=s.n:=rfl;generalize s.put w.n o'=s5 at hi' he hcs' hrgs' hmD' s2' hn'⊢;have g6:Grow s5 ((s5.alloc (.cells [.int .u64 0, .string ⟨#[]⟩, .bool false] 40 false)).put s5.n (.cells [.int .u64 q.2.at_, .string q.2.val, .bool q.2.gone] 40 false)):=((Grow.refl s5).alloc _).put (Nat.le_refl _) _;have hc6:((s5.alloc (.cells [.int .u64 0, .string ⟨#[]⟩, .bool false] 40 false)).put s5.n (.cells [.int .u64 q.2.at_, .string q.2.val, .bool q.2.gone] 40 false)).get s5.n=some (.cells [.int .u64 q.2.at_, .string q.2.val, .bool q.2.gone] 40 false):=by simp
       have s26:=g6.get s2' (by omega)
       simp [qa0,he,e2,e3,e4,e14,e133];generalize (s5.alloc (.cells [.int .u64 0, .string ⟨#[]⟩, .bool false] 40 false)).put s5.n (.cells [.int .u64 q.2.at_, .string q.2.val, .bool q.2.gone] 40 false)=s6 at g6 hc6 s26⊢;have hi6:=hi'.grow (by omega) (by have:=hch'.1;omega) g6
       have hrg6:=hrgs'.grow g6;have hcs6:=hcs'.trans g6.ch;have hmp6:=hmD'.ch (T:=λ_=>False) (M:=noM) (F:=λ_=>False) (by omega) g6.ch λh=>h.elim
       have hn6:=g6.n;have hkle:=qi5 q.1 til;have skip:qt5 fr til q=none→ScL t P.S fr til F σ w g (Wn n) PP W (S.eraseIdx j).length s6:=λh0=>by
        refine⟨D++ [q],S.eraseIdx j,rfl,hi6,hpm',s26, ?_,hrg6,hcs6,by omega⟩
        rw [List.filterMap_append,List.filterMap_cons,h0,List.filterMap_nil,List.append_nil];exact hmp6
       cases b1:klt q.1 fr with
       |true=>
        have:=skip (by unfold qt5;rw [b1];rfl)
        simp [qa0,qa2,qa4,e2,e3,e4,e14,e133,b1];exact⟨_,hl,this⟩
       |false=>
        cases b2:klt til q.1 with
        |true=>
         rw [b2] at hkle;simp at hkle;have:=skip (by unfold qt5;rw [b1,b2];rfl)
         simp [qa0,qa2,qa4,e2,e3,e4,e14,e133,b1,hkle];exact⟨_,hl,this⟩
        |false=>
         rw [b2] at hkle;cases b3:q.2.gone with
         |true=>
          rw [b3] at hc6;have:=skip (by unfold qt5;rw [b1,b2,b3];rfl)
          simp [qa0,qa2,qa4,e2,e3,e4,e14,e133,b1,hkle,hc6];exact⟨_,hl,this⟩
         |false=>
          rw [b3] at hc6;have h0:qt5 fr til q=some (q.1,q.2.val):=by unfold qt5;rw [b1,b2,b3];rfl
          obtain⟨o9,ho9,hm9⟩:=qct (P:=Tryz.prog) (key:=Value.string) (kd:= .string) (t:=58) (kt:=9) (et:=9) (k:=q.1) Tryz.underlying58 (by kernel_rfl) qc3 hmp6 (.string q.2.val)
          rw [qiw λp hp e=>by
           obtain⟨x,hx,rfl⟩:=List.mem_map.1 hp;rcases List.mem_append.1 hx with hx|hx
           ·exact qsy hx hq e
           ·obtain⟨y,hy,hye⟩:=qtf hx
            exact hDk y hy (hye.trans e)] at hm9
          have fin:ScL t P.S fr til F σ w g (Wn n) PP W (S.eraseIdx j).length (s6.put (σ.n+1) o9):=by
           refine⟨D++ [q],S.eraseIdx j,rfl,hi6.congr ?_ ?_,hpm', ?_, ?_, ?_,hcs6.new (by omega) _,by show w.n<s6.n;omega⟩
           ·rw [CSt.get_put,if_neg (by omega)]
           ·rw [CSt.get_put,if_neg hwne]
           ·rw [CSt.get_put,if_neg (by omega)];exact s26
           ·rw [List.filterMap_append,List.filterMap_cons,h0,List.filterMap_nil,←List.append_assoc,List.map_append];exact hm9
           ·exact hrg6.chF (T:=λ_=>False) (M:=λj=>j=σ.n+1) (F':=λj=>j=σ.n+1) ((Ch.refl (λ_=>False) (λj=>j=σ.n+1) (λj=>j=σ.n+1) s6).putMp hmp6 rfl rfl _) (λj _ a b=>a.2 b) λh=>h
          simp [qa0,qa2,qa4,e2,e3,e4,e14,e133,b1,hkle,hc6,s26,ho9];exact⟨_,hl,fin⟩
     ·refine⟨_,rfl, ?_⟩;simp [e2,e3,e4,e14];refine⟨[],W,by simp,hit, .refl _,w2',by simp only [List.filterMap_nil,List.append_nil];exact hmp2,hrg2,hch2,by omega⟩
     ·rintro out s ⟨tm,A,rfl,e4,e14,r1,r2,r3,r4,r5,r6⟩;simp [qa0];exact⟨_,A,rfl,e4,e14,r1,r2,r3,r4,r5,r6⟩
   ·rintro o w4 ⟨tm,A,rfl,e4,e14,hwn4,w24,hA,hmA,hrg4,hch4⟩;have hAn:A.length≤P.S.length+t.wr.length:=by
     have h3:=(qjw hok.ks hto.up (.refl t.wr) fr til t.sp.hi).length_eq;rw [hA.length_eq,←h3,List.length_append];exact Nat.add_le_add (Nat.le_trans (List.length_filterMap_le _ _) (by rw [qet];exact List.length_filterMap_le _ _)) (List.length_filterMap_le _ _)
    have hwl:t.wr.length≤P.size:=by
     have:=qjs hok.nums hm;unfold PM.size;omega
    have hSz:=qfk hok;have hfk:=qm4 hok.ks t.wr fr til t.sp.hi;simp [qa0,e4,e14,w24];refine KySS.keys_spec _ _ _ ?_;have ga:Grow w4 (w4.alloc (.cells [.map (some (σ.n+1))] 58 false)):=(Grow.refl w4).alloc _;have hqa:(w4.alloc (.cells [.map (some (σ.n+1))] 58 false)).get w4.n=some (.cells [.map (some (σ.n+1))] 58 false):=by simp
    have hna:(w4.alloc (.cells [.map (some (σ.n+1))] 58 false)).n=w4.n+1:=by simp
    have hma:=hmA.ch (T:=λ_=>False) (M:=noM) (F:=λ_=>False) (by omega) ga.ch λh=>h.elim
    simp [qa0,e4,e14,w24];generalize w4.alloc (.cells [.map (some (σ.n+1))] 58 false)=w5 at ga hqa hna hma⊢;refine KySS.sorted_keys w4.n (σ.n+1) false _ w5 hqa (by omega) (by omega) hma (by rw [List.length_map];omega) _ λv6 K w6 hpK hsK ho6 g6=> ?_
    have hKe:K=(qe4 P.S t.wr fr til t.sp.hi).map (·.1):=by
     refine qgq hfk (hpK.trans ?_) hsK;rw [List.map_map];exact hA.map _
    generalize hfd:qe4 P.S t.wr fr til t.sp.hi=fd at hA hKe hfk hfin;subst hKe;have hfl:fd.length<2^36:=by rw [←hA.length_eq];omega
    obtain⟨p6,c6,rfl⟩:=(ho6.sl (sz:=1) Str.lenS).form;rw [List.length_map] at ho6;have g46:=ga.trans g6;have hslK:=ho6.sl (sz:=1) Str.lenS;have hmp6:=hma.ch (T:=λ_=>False) (M:=noM) (F:=λ_=>False) (by omega) g6.ch λh=>h.elim
    have w26:=g46.get w24 (by omega)
    have hn6:=g46.n;have hAnd:((A.map λp=>(p.1,Value.string p.2)).map (·.1)).Nodup:=by
     rw [List.map_map];exact(hA.map (·.1)).nodup_iff.2 (qce hfk)
    simp [qa0,e4,e14];refine qak (λk ac s=>∃tm j vo,ac=⟨tm,178, [],false⟩∧tm.get 4=some (.int .i64 many)∧tm.get 14=some (.pointer (some ⟨σ.n+2,0,none⟩))∧tm.get 25=some vo∧tm.get 158=some (.slice p6 fd.length c6)∧tm.get 159=some (.int .i64 fd.length)∧tm.get 160=some (.int .i64 (j:Nat))∧j≤fd.length∧k=fd.length-j∧Own w6.n s 196 qgc vo ((fd.take j).take many.toNat)∧Grow w6 s)
     (λout s=>∃tm vo,out= .code (.exit 5) ⟨tm,178, [],false⟩∧tm.get 25=some vo∧Own w6.n s 196 qgc vo (fd.take many.toNat)∧Grow w6 s) ?_ fd.length _ _ ?_ ?_
    ·rintro k ac s ⟨tm,j,vo,rfl,e4,e14,e25,e158,e159,e160,hj,hk,hov,gs⟩;obtain⟨ol,hol⟩:∃ol,(fd.take j).take many.toNat=ol:=⟨_,rfl⟩
     rw [hol] at hov;have holl:ol.length=min many.toNat j:=by rw [←hol,List.length_take,List.length_take];omega
     obtain⟨po,co,rfl⟩:=(hov.sl (sz:=2) lenP).form;by_cases hjl:j<fd.length
     ·obtain⟨i,off,row,ro,hpp,hgi,hin,hrow,hle⟩:=(hslK.grow gs).at (by rw [List.length_map];exact hjl)
      subst hpp;have hcc:=qb2 (enc:=Str.encS) Str.lenS hrow j 0 (by rw [List.length_map];exact hjl) (by omega)
      have hcc':row[off+j]? =some (.string fd[j].1):=by simpa [Str.encS] using hcc
      have hw2:=qb7 j (by omega)
      have hjl':(j:Int)<fd.length:=by omega
      have w2s:=gs.get w26 (by omega)
      have hms:=hmp6.ch (T:=λ_=>False) (M:=noM) (F:=λ_=>False) (by omega) gs.ch λh=>h.elim
      have hgm:qkg (A.map λp=>(p.1,Value.string p.2)) fd[j].1=some (.string fd[j].2):=qki hAnd (List.mem_map.2 ⟨fd[j],hA.mem_iff.2 (List.getElem_mem hjl),rfl⟩)
      have hlk:=qd2 (P:=Tryz.prog) (key:=Value.string) (kd:= .string) (t:=58) (kt:=9) (et:=9) (k:=fd[j].1) (z:= .string ⟨#[]⟩) Tryz.underlying58 (by kernel_rfl) qc3 (by kernel_rfl) hms false
      rw [hgm] at hlk;simp at hlk;obtain⟨p9,c9,s9,b1,b2,b3⟩:=qug (x:=fd[j]) hov gs.n (by omega)
      have g9:Grow w6 s9:=gs.thenB b3 (Nat.le_refl _);simp only [qgc] at b1;have htk:fd.take (j+1)=fd.take j++ [fd[j]]:=List.take_succ_eq_append_getElem hjl;by_cases c:j<many.toNat
      ·have hc:(ol.length:Int)<many:=by omega
       have hnew:(fd.take (j+1)).take many.toNat=ol++ [fd[j]]:=by
        rw [←hol,List.take_of_length_le (l:=fd.take j) (by rw [List.length_take];omega),←htk,List.take_of_length_le (by rw [List.length_take];omega)]
       simp [qa0,e4,e14,e25,e158,e159,e160,hjl,hjl',hgi,hcc',hc,w2s,hlk,b1,hw2];exact⟨fd.length-(j+1),by omega,j+1,rfl,by omega,rfl,by rw [hnew];exact b2,g9⟩
      ·have hc:¬(ol.length:Int)<many:=by omega
       have hnew:(fd.take (j+1)).take many.toNat=ol:=by
        rw [←hol,List.take_take,List.take_take,Nat.min_eq_left (by omega),Nat.min_eq_left (by omega)]
       simp [qa0,e4,e14,e25,e158,e159,e160,hjl,hjl',hgi,hcc',hc,hw2];exact⟨fd.length-(j+1),by omega,j+1,rfl,by omega,rfl,by rw [hnew];exact hov,gs⟩
     ·have hjl':j=fd.length:=by omega
      subst hjl';rw [List.take_length] at hol;subst hol;simp [qa0,e4,e14,e25,e158,e159,e160];refine⟨?_,gs⟩;simpa using hov
    ·refine⟨_,0, .slice none 0 0,rfl, ?_⟩;simp [e4,e14];exact⟨Own.nil,Grow.refl _⟩
    ·rintro out s ⟨tm,vo,rfl,e25,hov,gs⟩;have fin:=hfin vo s ((hrg4.grow (g46.trans gs)).mono λ_ _ a=>a.1) (hch4.trans (g46.trans gs).ch) (hov.sl lenP)
     simpa [qa0,e25] using fin
 ·exact λc s o h=>h.elim
end
end Go.Sm
namespace Go.Sm
open Go
set_option maxRecDepth 100000
set_option maxHeartbeats 4000000
section
variable {P:Program} {σ:CSt} {t:TypeId} {x y:Operand}
theorem ba_app (a b:List UInt8):(⟨a.toArray⟩:ByteArray)++⟨b.toArray⟩=⟨(a++b).toArray⟩:=by
 apply ByteArray.ext;rw [ByteArray.data_append];simp
theorem qxk (a b:List UInt8) (h:a.length+b.length<2^62):qd5 P σ .add t x y (.string ⟨a.toArray⟩) (.string ⟨b.toArray⟩)= .val (.string ⟨(a++b).toArray⟩) σ:=by
 have hm:IntKind.i64.max=9223372036854775807:=rfl;have hs:¬((((⟨a.toArray⟩:ByteArray).size+(⟨b.toArray⟩:ByteArray).size:Nat):Int)>IntKind.i64.max):=by
  have h1:(⟨a.toArray⟩:ByteArray).size=a.length:=by simp [ByteArray.size]
  have h2:(⟨b.toArray⟩:ByteArray).size=b.length:=by simp [ByteArray.size]
  rw [h1,h2,hm];omega
 simp only [qd5,eqGuard,binOp,Op.stringOp];rw [if_neg hs,ba_app]
 rfl
end
section
variable {α:Type} {P:Program} {σ:CSt} {e t:TypeId} {sz:Nat} {enc:α→List Value} {v:Value} {l:List α} {f:TF}
theorem Sl.mid (hf:qc6 P t=some (e,f)) (hfs:f.size=sz) (h0:0<sz) (hsz:∀x,(enc x).length=sz) (h:Sl σ e sz enc v l) (lo hi:Nat) (h1:lo≤hi) (h2:hi≤l.length) {bl bh:Option Value} (hl:qai 0 bl=some lo) (hh:qai l.length bh=some hi):
  ∃q c,qd7 P σ t v bl bh none=some (.slice q (hi-lo) c)∧Sl σ e sz enc (.slice q (hi-lo) c) ((l.take hi).drop lo):=by
 have he:(qc6 P t).isSome=true:=by rw [hf];rfl
 have hlen:((l.take hi).drop lo).length=hi-lo:=by rw [List.length_drop,List.length_take,Nat.min_eq_left h2]
 have hrw:∀{row:List Value} {off:Nat},(row.drop off).take (l.length*sz)=l.flatMap enc→(row.drop (off+lo*sz)).take ((hi-lo)*sz)=((l.take hi).drop lo).flatMap enc:=by
  intro row off hrow;have a1:=row_take hsz hrow hi h2;have a2:=qop hsz a1 lo (by rw [List.length_take,Nat.min_eq_left h2];exact h1)
  rw [hlen] at a2;exact a2
 rcases h with⟨rfl,rfl⟩|⟨i,off,cap,row,ro,rfl,hg,hin,hrow,hle,hcap⟩
 ·have hhi:hi=0:=by simpa using h2
  subst hhi;have hlo:lo=0:=by omega
  subst hlo;refine⟨none,0, ?_,by simpa using Sl.nil⟩
  rw [qhs he];simp only [List.length_nil] at hh;rw [hl,hh]
  rfl
 ·have hb:off+lo*sz+(hi-lo)*sz≤row.length:=by
   have:lo*sz+(hi-lo)*sz=hi*sz:=by rw [←Nat.add_mul];congr 1;omega
   have:hi*sz≤l.length*sz:=Nat.mul_le_mul_right _ h2;omega
  by_cases hc:cap=qa1
  ·subst hc;refine⟨some ⟨i,off+lo*sz,none⟩,qa1, ?_, .inr ⟨i,off+lo*sz,qa1,row,ro,by rw [hlen],hg,hin,by rw [hlen];exact hrw hrow,by rw [hlen];exact hb, .inl rfl⟩⟩
   rw [qb5 he,hl,hh,hf,hg];simp only [qdn,hfs];rw [if_pos ⟨trivial,h0,h1, .inl h2⟩]
  ·rcases hcap with hcap|⟨hc1,hc2⟩
   ·exact absurd hcap hc
   ·by_cases hm:cap=lo
    ·refine⟨some ⟨i,off,none⟩,cap-lo, ?_, .inr ⟨i,off,cap-lo,row,ro,by rw [hlen],hg,hin, ?_, ?_, .inr ⟨by rw [hlen];omega,by omega⟩⟩⟩
     ·rw [qch he _ _ _ _ hc,hl,hh,hf];simp only [qcu];rw [if_pos ⟨h1,by omega,trivial,hc2⟩,if_pos hm]
     ·have hz:hi-lo=0:=by omega
      rw [hlen,hz,Nat.zero_mul,List.take_zero];have:(l.take hi).drop lo= []:=List.eq_nil_of_length_eq_zero (by rw [hlen,hz])
      rw [this]
      rfl
     ·have hz:hi-lo=0:=by omega
      rw [hlen,hz];omega
    ·refine⟨some ⟨i,off+lo*sz,none⟩,cap-lo, ?_, .inr ⟨i,off+lo*sz,cap-lo,row,ro,by rw [hlen],hg,hin,by rw [hlen];exact hrw hrow,by rw [hlen];exact hb, .inr ⟨by rw [hlen];omega,by omega⟩⟩⟩
     rw [qch he _ _ _ _ hc,hl,hh,hf];simp only [qcu,hfs];rw [if_pos ⟨h1,by omega,trivial,hc2⟩,if_neg hm]
end
section
end
end Go.Sm
namespace Go.Sm
open Go Go.Proofs
set_option maxRecDepth 100000
set_option maxHeartbeats 4000000
theorem app_key {b:Nat} {s:CSt} {v:Value} {L:List ByteArray} {k:ByteArray} (ho:qbj b s 9 Str.encS v L) (hb:b≤s.n) (hL:L.length<2^38):∃p9 c9 s9,qas Tryz.prog (s.alloc (.cells [.string k] 9 false)) #[119,119] v (.slice (some ⟨s.n,0,none⟩) 1 1)=some (.slice p9 (L.length+1) c9,s9)∧qbj b s9 9 Str.encS (.slice p9 (L.length+1) c9) (L++ [k])∧qd3 v (s.alloc (.cells [.string k] 9 false)) s9∧(qb1 (.slice p9 (L.length+1) c9)=qb1 v∨qb1 (.slice p9 (L.length+1) c9)=some (s.n+1)):=by
 have hga:Grow s (s.alloc (.cells [.string k] 9 false)):=(Grow.refl s).alloc _;obtain⟨v9,s9,a1,a2,a3,a4⟩:=qkp (P:=Tryz.prog) (ts:= #[119,119]) (e:=9) (sz:=1) (enc:=Str.encS) (l:=L) (m:= [k]) (b:=b) ef119 (by simp) Str.lenS Str.cokS rfl (by decide) (by decide) rfl (σ:=s.alloc (.cells [.string k] 9 false))
  (ho.grow hga) (by simp;omega) (Sl.all (l:= [k]) (i:=s.n) (cap:=1) (ro:=false) Str.lenS (by simp [Str.encS]) (by simp) (.inr ⟨by simp,by simp [qa1]⟩)) (by simp;omega) (by omega)
 obtain⟨p9,c9,rfl⟩:=(a2.sl (sz:=1) Str.lenS).form;rw [List.length_append] at a1 a2 a4;exact⟨p9,c9,s9,a1,a2,a3,a4⟩
theorem qd3.growO {v:Value} {s0 s s':CSt} (h:Grow s0 s) (k:qd3 v s s') (ho:∀j,qb1 v=some j→s0.n≤j):Grow s0 s':=⟨Nat.le_trans h.n k.1,λj hj=>by
 rw [k.2 j (Nat.lt_of_lt_of_le hj h.n) λe=>by have:=ho j e;omega]
 exact h.old j hj⟩
theorem vlookupT {F:Nat→Prop} {σ:CSt} {m mv ml:Nat} {lv tv:Value} {X Wn:Int→Nat} {Sv:ByteArray→Value} {VL:Vl} {P:PM} (h:RMx F σ m mv ml lv tv X Wn Sv VL P) (k:ByteArray):qbr Tryz.prog σ 101 (.map (some mv)) (.string k) true=some (.tuple #[vval Sv VL k, .bool (qaw VL k).isSome]):=by
 have hlk:=qd2 (P:=Tryz.prog) (key:=Value.string) (kd:= .string) (t:=101) (kt:=9) (et:=103) (k:=k) (z:= .slice none 0 0) Tryz.underlying101 (by kernel_rfl) qc3 (by kernel_rfl) h.vers true
 rw [qor] at hlk;rw [hlk];unfold vval;cases qaw VL k<;>rfl
theorem qfv {α:Type} {l:List (ByteArray×α)} {k:ByteArray}:(qaw l k).isSome=true↔k∈l.map (·.1):=by
 cases h:qaw l k with
 |none=>
  rw [qbt] at h;simp;exact λx hx=>h _ hx rfl
 |some x=>
  unfold qaw at h;obtain⟨q,h1,_⟩:=Option.map_eq_some_iff.1 h;have h2:=List.mem_of_find?_eq_some h1;have h3:q.1=k:=by simpa using List.find?_some h1
  simp only [Option.isSome_some,true_iff];exact List.mem_map.2 ⟨q,h2,h3⟩
def qgg (VL:Vl) (D:List (ByteArray×Ver)):List ByteArray:=(D.map (·.1)).filter λk=> !(qaw VL k).isSome
theorem qxv (VL:Vl) (D:List (ByteArray×Ver)) (q:ByteArray×Ver):qgg VL (D++ [q])=if(qaw VL q.1).isSome then qgg VL D else qgg VL D++ [q.1]:=by
 unfold qgg;rw [List.map_append,List.filter_append];cases h:qaw VL q.1<;>simp [h]
def ScW (VL:Vl) (K1:List ByteArray) (σ:CSt) (r wn:Nat) (W:Ml) (k:Nat) (v:Value) (s:CSt):Prop:=∃(D:List (ByteArray×Ver)) (S:Ml),k=List.length S∧MIt Value.string s r wn W S∧W.Perm (qed D++S)∧qbj σ.n s 9 Str.encS v (K1++qgg VL D)∧qb1 v≠some r∧Grow σ s∧r<s.n
def comb (P:PM) (t:Tx) (k:ByteArray):Option Ver:=(qaw t.wr k).or (qdj P.S k t.sp.hi)
section
variable {F:Nat→Prop} {σ:CSt} {m mv ml:Nat} {lv tv:Value} {X Wn:Int→Nat} {Sv:ByteArray→Value} {VL:Vl} {P:PM}
theorem qwu (h:RM F σ m P) (hF:∀i,σ.n≤i→F i) (hok:P.Ok) (hsz:P.size<2^30) (n:Int) (fr til:ByteArray) (many:Int) (Q:Out→CSt→Prop)
  (h1:∀v σ',RM F σ' m (P.scan n fr til many).2→Ch mT qcd F σ σ'→Sl σ' 196 2 qgc v (P.scan n fr til many).1.1→Q (.ret (.tuple #[v, .int .i64 (P.scan n fr til many).1.2]) false) σ'):W E1 (.fn 101 #[ptr m, .int .i64 n, .string fr, .string til, .int .i64 many] none) σ Q:=by
 have hrm:=h;obtain⟨mv,ml,lv,tv,X,Wn,Sv,VL,h⟩:=h;rw [qap (fn:=Tryz.f101) Tryz.func101 rfl rfl rfl];have hg:=h.cell;have hlk:=qgd h n true;unfold ptr at hlk;cases ht:P.get n with
 |none=>
  have e:P.scan n fr til many=(([],4),P):=by unfold PM.scan;rw [ht]
  have:=h1 (.slice none 0 0) σ (by rw [e];exact hrm) (Ch.refl _ _ _ _) (by rw [e];exact Sl.nil)
  rw [e] at this;rw [ht] at hlk;simp at hlk;simpa [qa0,qa2,qa4,ptr,hg,hlk] using this
 |some t=>
 rw [ht] at hlk;simp at hlk;have hm:=(qao hok).1 ht;have hto:=hok.tx _ hm;have htx:=h.lv.tx _ hm;simp only at hto htx;simp [qa0,qa2,qa4,ptr,hg,hlk];have hcmp:(klt fr til=false∧¬fr.toList=til.toList)=(klt til fr=true):=by
  have:=qi5 fr til;apply propext;cases c1:klt til fr<;>cases c2:klt fr til<;>simp_all
 refine qf5 fr σ _ ?_;by_cases hk:kOk fr=false∨kOk til=false∨klt til fr=true
 ·have e:P.scan n fr til many=(([],2),P):=by unfold PM.scan;rw [ht];simp only [if_pos hk]
  rw [e] at h1;have fin:=h1 (.slice none 0 0) σ hrm (Ch.refl _ _ _ _) Sl.nil;cases k1:kOk fr with
  |false=>simpa [qa0,qa2,qa4,k1] using fin
  |true=>
   simp [qa0,qa2,qa4,k1];refine qf5 til σ _ ?_;cases k2:kOk til with
   |false=>simpa [qa0,qa2,qa4] using fin
   |true=>
    have k3:klt til fr=true:=by simpa [k1,k2] using hk
    simpa [qa0,qa2,qa4,hcmp,k3] using fin
 have hkf:kOk fr=true:=by
  cases k1:kOk fr with
  |true=>rfl
  |false=>exact absurd (.inl k1) hk
 have hkt:kOk til=true:=by
  cases k1:kOk til with
  |true=>rfl
  |false=>exact absurd (.inr (.inl k1)) hk
 have hkl:klt til fr=false:=by
  cases k1:klt til fr with
  |false=>rfl
  |true=>exact absurd (.inr (.inr k1)) hk
 simp [qa0,qa2,qa4,hkf];refine qf5 til σ _ ?_;by_cases hmn:many<1∨50<many
 ·have e:P.scan n fr til many=(([],1),P):=by unfold PM.scan;rw [ht];simp only [if_neg hk,if_pos hmn]
  rw [e] at h1;have fin:=h1 (.slice none 0 0) σ hrm (Ch.refl _ _ _ _) Sl.nil;by_cases c1:many<1
  ·simpa [qa0,qa2,qa4,hkt,hcmp,hkl,c1] using fin
  ·have c2:50<many:=by omega
   simpa [qa0,qa2,qa4,hkt,hcmp,hkl,c1,c2] using fin
 have c1:¬many<1:=by omega
 have c2:¬50<many:=by omega
 have e:P.scan n fr til many=if t.snap then(((qe4 P.S t.wr fr til t.sp.hi).take many.toNat,0),P) else
   (let r:=P.see n t (qbf (qbq P.S t.wr fr til t.sp.hi)) fr til ⟨1,t.sp.hi⟩
    if r.1 then(((qe4 P.S t.wr fr til t.sp.hi).take many.toNat,0),r.2) else(([],7),r.2)):=by
  unfold PM.scan;rw [ht];simp only [if_neg hk,if_neg hmn]
 rw [e] at h1;have hx:=htx.cell;have hxl:=htx.lx;unfold qfo hdB at hx;simp [qa0,qa2,qa4,hkt,hcmp,hkl,c1,c2,hg];refine KyVs.keys_spec _ _ _ ?_;have ga:Grow σ (σ.alloc (.cells [.map (some mv)] 101 false)):=(Grow.refl σ).alloc _;have hqa:(σ.alloc (.cells [.map (some mv)] 101 false)).get σ.n=some (.cells [.map (some mv)] 101 false):=by simp
 have hna:(σ.alloc (.cells [.map (some mv)] 101 false)).n=σ.n+1:=by simp
 have hra:=h.grow ga;simp [qa0];generalize σ.alloc (.cells [.map (some mv)] 101 false)=s1 at ga hqa hna hra⊢;have hnd:=h.rel.nodup hok.ks;have hSz:=qfk hok;have hVS:VL.length=P.S.length:=by have:=h.rel.1.length_eq;simpa using this
 have hmk:(VL.map λq=>(q.1,Sv q.1)).map (·.1)=VL.map (·.1):=by rw [List.map_map];rfl
 have hwl:t.wr.length≤P.size:=by
  have:=qjs hok.nums hm;unfold PM.size;omega
 refine KyVs.sorted_keys σ.n mv false _ s1 hqa (by omega) hra.lmv hra.vers (by rw [List.length_map];omega) _ λv6 K1 w6 hpK hsK ho6 g6=> ?_
 rw [hmk] at hpK;have gσ:=ga.trans g6;have hr6:=h.grow gσ;have hx6:=gσ.get hx hxl;have hm6:m<w6.n:=hr6.lm;have ho6:qbj σ.n w6 9 Str.encS v6 K1:=(ho6.weaken (by omega)).z
 have hK1l:K1.length=VL.length:=by rw [hpK.length_eq,List.length_map]
 simp [qa0,-qim];refine qt8 (λo s=>∃tm,o= .code .normal ⟨tm,172, [],false⟩∧tm.get 0=some (.pointer (some ⟨m,0,none⟩))∧tm.get 1=some (.int .i64 n)∧tm.get 2=some (.string fr)∧tm.get 3=some (.string til)∧tm.get 4=some (.int .i64 many)∧tm.get 12=some (.pointer (some ⟨X n,0,none⟩))∧tm.get 14=some (.int .u64 0)∧tm.get 15=some (.slice none 0 0)∧tm.get 16=some v6∧tm.get 69=some (.pointer (some ⟨w6.n,0,none⟩))∧Grow w6 s∧w6.n<s.n∧((t.snap=true∧s.get w6.n=some (.miter none 0 #[] 0))∨(t.snap=false∧∃W,MIt Value.string s w6.n (Wn n) W W∧W.Perm (qed t.wr)))) ?_ ?_
 ·cases hs:t.snap with
  |true=>
   have hwv:wv t (Wn n)=Value.map none:=by unfold wv;rw [hs];rfl
   rw [hwv] at hx6;simp [qa0,hx6,qic];exact(Grow.refl w6).alloc _
  |false=>
   have hwv:wv t (Wn n)=Value.map (some (Wn n)):=by unfold wv;rw [hs];rfl
   obtain⟨hFw,hlw,W,hmW,hpW⟩:=(hr6.lv.tx _ hm).wr hs;obtain⟨ob,ho,hit⟩:=qb3 (P:=Tryz.prog) (t:=111) Tryz.underlying111 hmW hlw;rw [hwv] at hx6;simp [qa0,hx6,ho];exact⟨(Grow.refl w6).alloc _,W,hit,hpW⟩
 ·rintro o s0 ⟨tm,rfl,e0,e1,e2,e3,e4,e12,e14,e15,e16,e69,g0,hn0,hit⟩;rw [qfz];have gσ0:=gσ.trans g0;have ho0:qbj σ.n s0 9 Str.encS v6 (K1++qgg VL []):=by
   show qbj σ.n s0 9 Str.encS v6 (K1++ [])
   rw [List.append_nil];exact ho6.grow g0
  have hv6:qb1 v6≠some w6.n:=λe=>by have:=(ho6.lt e).2.1;omega
  --one's own keys
  refine qt8 (λo s=>∃tm v K,o= .code .normal ⟨tm,172, [],false⟩∧tm.get 0=some (.pointer (some ⟨m,0,none⟩))∧tm.get 1=some (.int .i64 n)∧tm.get 2=some (.string fr)∧tm.get 3=some (.string til)∧tm.get 4=some (.int .i64 many)∧tm.get 12=some (.pointer (some ⟨X n,0,none⟩))∧tm.get 14=some (.int .u64 0)∧tm.get 15=some (.slice none 0 0)∧tm.get 16=some v∧K.Perm (K1++qgg VL t.wr)∧qbj σ.n s 9 Str.encS v K∧Grow σ s) ?_ ?_
  ·rw [qyh];have hwr0:t.snap=true→t.wr= []:=λhs=>(hto.s hs).2.2.2
   refine qak (λk a s=>∃tm v,a=⟨tm,172, [],false⟩∧tm.get 0=some (.pointer (some ⟨m,0,none⟩))∧tm.get 1=some (.int .i64 n)∧tm.get 2=some (.string fr)∧tm.get 3=some (.string til)∧tm.get 4=some (.int .i64 many)∧tm.get 12=some (.pointer (some ⟨X n,0,none⟩))∧tm.get 14=some (.int .u64 0)∧tm.get 15=some (.slice none 0 0)∧tm.get 16=some v∧tm.get 69=some (.pointer (some ⟨w6.n,0,none⟩))∧((t.snap=true∧qbj σ.n s 9 Str.encS v K1∧Grow σ s∧s.get w6.n=some (.miter none 0 #[] 0))∨(t.snap=false∧∃W,W.Perm (qed t.wr)∧ScW VL K1 σ w6.n (Wn n) W k v s)))
    (λo s=>∃tm v K,o= .code (.exit 1) ⟨tm,172, [],false⟩∧tm.get 0=some (.pointer (some ⟨m,0,none⟩))∧tm.get 1=some (.int .i64 n)∧tm.get 2=some (.string fr)∧tm.get 3=some (.string til)∧tm.get 4=some (.int .i64 many)∧tm.get 12=some (.pointer (some ⟨X n,0,none⟩))∧tm.get 14=some (.int .u64 0)∧tm.get 15=some (.slice none 0 0)∧tm.get 16=some v∧K.Perm (K1++qgg VL t.wr)∧qbj σ.n s 9 Str.encS v K∧Grow σ s) ?_ t.wr.length _ _ ?_ ?_
   ·rintro k a s ⟨tm,v,rfl,e0,e1,e2,e3,e4,e12,e14,e15,e16,e69,hcase⟩;rcases hcase with⟨hs,ho,gs,hit⟩|⟨hs,W,hpW,D,S,hk,hi,hpm,ho,hv,gs,hrn⟩
    ·have hnx:=qkm hit;simp [qa0,e0,e1,e2,e3,e4,e12,e14,e15,e16,e69,hnx];exact⟨K1,by rw [hwr0 hs];show K1.Perm (K1++ []);rw [List.append_nil],ho,gs⟩
    ·simp [qa0,e0,e1,e2,e3,e4,e12,e14,e15,e16,e69];refine qbb hi (λhS0=> ?_) (λj hj o' hi' he=> ?_)
     ·subst hS0;rw [List.append_nil] at hpm;have hDp:D.Perm t.wr:=qrc (hpm.symm.trans hpW);simp [qa0,e0,e1,e2,e3,e4,e12,e14,e15,e16,e69];refine⟨_, ?_,ho,gs⟩;refine List.Perm.append_left _ ?_;unfold qgg;exact(hDp.map _).filter _
     ·have hSm:S[j]∈qed t.wr:=hpW.mem_iff.1 (hpm.mem_iff.2 (by simp))
      obtain⟨q,hq,hqe⟩:=List.mem_map.1 hSm;have hku:S[j]=(q.1, .agg (qad q.2).toArray):=hqe.symm;rw [hku] at he⊢;have hpk:=qbn hj;rw [hku] at hpk;have hpm':W.Perm (qed (D++ [q])++S.eraseIdx j):=by
       refine hpm.trans ?_;unfold qed;rw [List.map_append,List.append_assoc];exact List.Perm.append_left _ hpk
      have hl:(S.eraseIdx j).length<k:=by rw [hk,List.length_eraseIdx_of_lt hj];omega
      have hw6:σ.n≤w6.n:=gσ.n;have gs':Grow σ (s.put w6.n o'):=gs.put hw6 _;have ho':qbj σ.n (s.put w6.n o') 9 Str.encS v (K1++qgg VL D):=by
       rcases ho with⟨a,b⟩|⟨i,cap,zs,a1,a2,a3,a4,a5,a6⟩
       ·exact .inl ⟨a,b⟩
       ·refine .inr ⟨i,cap,zs,a1,a2,a3, ?_,a5,a6⟩;rw [CSt.get_put,if_neg (by rintro rfl;exact hv (by rw [a1];rfl))]
        exact a4
      have hrn':w6.n<(s.put w6.n o').n:=hrn;have hxs:=gs'.get hx hxl;generalize s.put w6.n o'=s5 at hi' he gs' ho' hrn' hxs⊢;have hr5:=h.grow gs';have hg5:=hr5.cell;have hlk5:=vlookupT hr5 q.1;simp [qa0,he,e0,e1,e2,e3,e4,e12,e14,e15,e16,e69,hg5,hlk5];have hsn:=qxv VL D q;have hDl:D.length+S.length=t.wr.length:=by
       have:=(hpm.symm.trans hpW).length_eq;unfold qed at this;simpa using this
      have hKl:(K1++qgg VL D).length<2^38:=by
       have h1:(qgg VL D).length≤D.length:=by unfold qgg;exact Nat.le_trans (List.length_filter_le _ _) (by simp)
       rw [List.length_append];omega
      cases hv2:qaw VL q.1 with
      |some l=>
       rw [hv2] at hsn;simp at hsn;simp [qa0,e0,e1,e2,e3,e4,e12,e14,e15,e16,e69];exact⟨_,hl, .inr ⟨hs,W,hpW,D++ [q],S.eraseIdx j,rfl,hi',hpm',by rw [hsn];exact ho',hv,gs',hrn'⟩⟩
      |none=>
       rw [hv2] at hsn;simp at hsn;obtain⟨KL,hKLe⟩:∃KL,K1++qgg VL D=KL:=⟨_,rfl⟩
       rw [hKLe] at ho' hKl;obtain⟨p,c,rfl⟩:=(ho'.sl (sz:=1) Str.lenS).form;obtain⟨p9,c9,s9,a1,a2,a3,a4⟩:=app_key (k:=q.1) ho' gs'.n hKl;have ga5:Grow s5 (s5.alloc (.cells [.string q.1] 9 false)):=(Grow.refl s5).alloc _;have hgo:Grow σ s9:=(a3.growO (gs'.trans ga5) λi hi=>(ho'.lt hi).1)
       have hi9:MIt Value.string s9 w6.n (Wn n) W (S.eraseIdx j):=by
        have hwn:Wn n<w6.n:=((hr6.lv.tx _ hm).wr hs).2.1;have hb:=hi'.grow hrn' (by omega) ga5
        refine hb.congr (a3.2 _ (by simp;omega) λe=>hv e) (a3.2 _ ?_ λe=> ?_)
        ·simp;omega
        ·obtain⟨row,hrow⟩:=(ho'.lt e).2.2;obtain⟨es,cc,hmap⟩:=hi'.mp.isMap;rw [hrow] at hmap;cases hmap
       simp [qa0,e0,e1,e2,e3,e4,e12,e14,e15,e16,e69,a1];refine⟨_,hl, .inr ⟨hs,W,hpW,D++ [q],S.eraseIdx j,rfl,hi9,hpm', ?_, ?_,hgo, ?_⟩⟩
       ·rw [hsn,←List.append_assoc,hKLe];exact a2
       ·rcases a4 with e|e
        ·rw [e];exact hv
        ·rw [e];intro e2;have:=Option.some.inj e2;omega
       ·have:=a3.1;simp at this;omega
   ·refine⟨_,v6,rfl, ?_⟩;simp [e0,e1,e2,e3,e4,e12,e14,e15,e16,e69];rcases hit with⟨hs,hit⟩|⟨hs,W,hit,hpW⟩
    ·exact .inl ⟨hs,by rw [show K1=K1++qgg VL [] by show K1=K1++ [];rw [List.append_nil]];exact ho0,gσ0,hit⟩
    ·refine .inr ⟨hs,W,hpW, [],W, ?_,hit,by simp [qed],ho0,hv6,gσ0,hn0⟩
     rw [hpW.length_eq];unfold qed;rw [List.length_map]
   ·rintro o s ⟨tm,v,K,rfl,h⟩;exact⟨tm,v,K,rfl,h⟩
  ·rintro o s2 ⟨tm,v,K,rfl,e0,e1,e2,e3,e4,e12,e14,e15,e16,hKp,hoK,g2⟩;have hexl:(qgg VL t.wr).length≤t.wr.length:=by unfold qgg;exact Nat.le_trans (List.length_filter_le _ _) (by simp)
   have hKl:K.length<2^36:=by rw [hKp.length_eq,List.length_append];omega
   simp [qa0,e0,e1,e2,e3,e4,e12,e14,e15,e16];refine Str.sort_ownZ σ.n K v s2 g2.n hoK (by omega) _ λKK s3 hp3 hs3 ho3 g3 _=> ?_
   have g3σ:Grow σ s3:=Grow.thenB g2 g3 (Nat.le_refl _);have hKK:=hp3.trans hKp;have hn1:(K1.map λk=>k).Nodup:=by rw [List.map_id'];exact hpK.nodup_iff.2 hnd
   rw [List.map_id'] at hn1
   have hnn:KK.Nodup:=hKK.nodup_iff.2 (own_keys (λk hk e=>by
    have:=qfv.2 (hpK.mem_iff.1 e)
    simp [this] at hk) hn1 (qce hto.up))
   have hrise:=rise_of hnn hs3;have hallS:∀k,(qdj P.S k t.sp.hi).isSome=true→k∈KK:=λk hk=>by
    refine hKK.mem_iff.2 (List.mem_append_left _ (hpK.mem_iff.2 ?_));have h3:k∈P.S.map (·.1):=by
     rw [←qfv];cases hg3:qaw P.S k with
     |some x=>rfl
     |none=>
      unfold qdj qbk at hk;rw [hg3] at hk;cases hk
    have h4:=(h.rel.1.map (·.1)).mem_iff.2 h3
    rwa [List.map_map] at h4
   have hallW:∀k,(qaw t.wr k).isSome=true→k∈KK:=λk hk=>by
    by_cases c:k∈VL.map (·.1)
    ·exact hKK.mem_iff.2 (List.mem_append_left _ (hpK.mem_iff.2 c))
    ·refine hKK.mem_iff.2 (List.mem_append_right _ (List.mem_filter.2 ⟨qfv.1 hk, ?_⟩));cases hg3:qaw VL k with
     |none=>rfl
     |some x=>exact absurd (qfv.1 (by rw [hg3];rfl)) c
   have hout:=outM_eq hok.ks hto.up fr til t.sp.hi hrise λk hk=>hk.elim (hallS k) (hallW k)
   have hnew:=seenM_eq hok.ks t.wr fr til t.sp.hi hrise hallS;obtain⟨p3,c3,rfl⟩:=(ho3.sl (sz:=1) Str.lenS).form;have hslK:=ho3.sl (sz:=1) Str.lenS;have hKKl:KK.length<2^36:=by rw [hp3.length_eq];exact hKl
   simp [qa0,e0,e1,e2,e3,e4,e12,e14,e15,e16];refine qak (λk a s=>∃tm j vo,a=⟨tm,172, [],false⟩∧tm.get 0=some (.pointer (some ⟨m,0,none⟩))∧tm.get 1=some (.int .i64 n)∧tm.get 2=some (.string fr)∧tm.get 3=some (.string til)∧tm.get 4=some (.int .i64 many)∧tm.get 12=some (.pointer (some ⟨X n,0,none⟩))∧tm.get 14=some (.int .u64 (qbf ((KK.take j).filterMap (qfg P.S t.wr fr til t.sp.hi))))∧tm.get 15=some vo∧tm.get 91=some (.slice p3 KK.length c3)∧tm.get 92=some (.int .i64 KK.length)∧tm.get 93=some (.int .i64 (j:Nat))∧j≤KK.length∧k=KK.length-j∧Own s3.n s 196 qgc vo ((KK.take j).filterMap (qm7 P.S t.wr fr til t.sp.hi))∧Grow s3 s)
    (λo s=>∃tm vo,o= .code (.exit 3) ⟨tm,172, [],false⟩∧tm.get 0=some (.pointer (some ⟨m,0,none⟩))∧tm.get 1=some (.int .i64 n)∧tm.get 2=some (.string fr)∧tm.get 3=some (.string til)∧tm.get 4=some (.int .i64 many)∧tm.get 12=some (.pointer (some ⟨X n,0,none⟩))∧tm.get 14=some (.int .u64 (qbf (qbq P.S t.wr fr til t.sp.hi)))∧tm.get 15=some vo∧Own s3.n s 196 qgc vo (qe4 P.S t.wr fr til t.sp.hi)∧Grow s3 s) ?_ KK.length _ _ ?_ ?_
   ·rintro k a s ⟨tm,j,vo,rfl,e0,e1,e2,e3,e4,e12,e14,e15,e91,e92,e93,hj,hk,hov,gs⟩;by_cases hjl:j<KK.length
    ·obtain⟨i,off,row,ro,hpp,hgi,hin,hrow,hle⟩:=(hslK.grow gs).at hjl;subst hpp;have hcc:=qb2 (enc:=Str.encS) Str.lenS hrow j 0 hjl (by omega)
     have hcc':row[off+j]? =some (.string KK[j]):=by simpa [Str.encS] using hcc
     have hw2:=qb7 j (by omega)
     have hjl':(j:Int)<KK.length:=by omega
     have htk:KK.take (j+1)=KK.take j++ [KK[j]]:=List.take_succ_eq_append_getElem hjl;have eN:(KK.take (j+1)).filterMap (qfg P.S t.wr fr til t.sp.hi)=(KK.take j).filterMap (qfg P.S t.wr fr til t.sp.hi)++(qfg P.S t.wr fr til t.sp.hi KK[j]).toList:=by
      rw [htk,List.filterMap_append];cases hq:qfg P.S t.wr fr til t.sp.hi KK[j]<;>simp [hq]
     have eO:(KK.take (j+1)).filterMap (qm7 P.S t.wr fr til t.sp.hi)=(KK.take j).filterMap (qm7 P.S t.wr fr til t.sp.hi)++(qm7 P.S t.wr fr til t.sp.hi KK[j]).toList:=by
      rw [htk,List.filterMap_append];cases hq:qm7 P.S t.wr fr til t.sp.hi KK[j]<;>simp [hq]
     have hoL:((KK.take j).filterMap (qm7 P.S t.wr fr til t.sp.hi)).length<2^38:=by
      have:=List.length_filterMap_le (qm7 P.S t.wr fr til t.sp.hi) (KK.take j);rw [List.length_take] at this;omega
     have hkle:=qi5 KK[j] til;obtain⟨kj,hkj⟩:∃kj,KK[j]=kj:=⟨_,rfl⟩
     rw [hkj] at hcc' eN eO hkle;obtain⟨LN,hLN⟩:∃LN,(KK.take j).filterMap (qfg P.S t.wr fr til t.sp.hi)=LN:=⟨_,rfl⟩
     obtain⟨LO,hLO⟩:∃LO,(KK.take j).filterMap (qm7 P.S t.wr fr til t.sp.hi)=LO:=⟨_,rfl⟩
     rw [hLN] at eN e14;rw [hLO] at eO hov hoL;have skip:∀s':CSt,Grow s s'→qfg P.S t.wr fr til t.sp.hi kj=none→qm7 P.S t.wr fr til t.sp.hi kj=none→∃LN' LO',(KK.take (j+1)).filterMap (qfg P.S t.wr fr til t.sp.hi)=LN'∧(KK.take (j+1)).filterMap (qm7 P.S t.wr fr til t.sp.hi)=LO'∧LN'=LN∧Own s3.n s' 196 qgc vo LO'∧Grow s3 s':=λs' g h1 h2=>⟨LN,LO,by rw [eN,h1];simp,by rw [eO,h2];simp,rfl,hov.grow g,gs.trans g⟩
     cases b1:klt kj fr with
     |true=>
      obtain⟨LN',LO',q1,q2,rfl,q4,q5⟩:=skip s (Grow.refl s) (by unfold qfg;rw [b1];rfl) (by unfold qm7;rw [b1];rfl)
      simp [qa0,qa2,qa4,e0,e1,e2,e3,e4,e12,e14,e15,e91,e92,e93,hjl,hjl',hgi,hcc',b1,hw2];exact⟨KK.length-(j+1),by omega,j+1,by rw [q1],rfl,by omega,rfl,by rw [q2];exact q4,q5⟩
     |false=>
      cases b2:klt til kj with
      |true=>
       rw [b2] at hkle;simp at hkle;obtain⟨LN',LO',q1,q2,rfl,q4,q5⟩:=skip s (Grow.refl s) (by unfold qfg;rw [b1,b2];rfl) (by unfold qm7;rw [b1,b2];rfl)
       simp [qa0,qa2,qa4,e0,e1,e2,e3,e4,e12,e14,e15,e91,e92,e93,hjl,hjl',hgi,hcc',b1,hkle,hw2];exact⟨KK.length-(j+1),by omega,j+1,by rw [q1],rfl,by omega,rfl,by rw [q2];exact q4,q5⟩
      |false=>
       rw [b2] at hkle;simp at hkle;have gσs:=g3σ.trans gs;have hrs:=h.grow gσs;have hxs:=gσs.get hx hxl;have hlw:=qgo (hrs.lv.tx _ hm) hto kj true;simp only [if_true] at hlw;obtain⟨u0,hu0⟩:∃u0,(qaw t.wr kj).getD qcx=u0:=⟨_,rfl⟩
       rw [hu0] at hlw;simp only [qad] at hlw;have hbf:(!klt kj til&& !kj.toList==til.toList)=false:=by rcases hkle with e|e<;>simp [e]
       have hne:¬X n=s.n:=by have:=gσs.n;omega
       simp [qa0,e0,e1,e2,e3,e4,e12,e14,e15,e91,e92,e93,hjl',-qg0];rw [W_cond_t (by simp)]
       simp [qa0,qa2,qa4,e0,e1,e2,e3,e4,e12,e14,e15,e91,e92,e93,hjl,hjl',hgi,hcc',b1,hbf,-qg0];rw [W_cond_f (by simp)]
       simp [qa0,e12,hxs,-qg0];rw [hlw];simp [qa0,-qg0,-qsg];have g5:Grow s ((s.alloc (.cells [.int .u64 0, .string ⟨#[]⟩, .bool false] 40 false)).put s.n (.cells [.int .u64 u0.at_, .string u0.val, .bool u0.gone] 40 false)):=((Grow.refl s).alloc _).put (Nat.le_refl _) _;have hc5:((s.alloc (.cells [.int .u64 0, .string ⟨#[]⟩, .bool false] 40 false)).put s.n (.cells [.int .u64 u0.at_, .string u0.val, .bool u0.gone] 40 false)).get s.n=some (.cells [.int .u64 u0.at_, .string u0.val, .bool u0.gone] 40 false):=by simp
       have hn5:((s.alloc (.cells [.int .u64 0, .string ⟨#[]⟩, .bool false] 40 false)).put s.n (.cells [.int .u64 u0.at_, .string u0.val, .bool u0.gone] 40 false)).n=s.n+1:=by simp
       generalize (s.alloc (.cells [.int .u64 0, .string ⟨#[]⟩, .bool false] 40 false)).put s.n (.cells [.int .u64 u0.at_, .string u0.val, .bool u0.gone] 40 false)=s5 at g5 hc5 hn5⊢;rw [qsg];simp [qa0,-qg0,-qsg];rw [qsg];refine qt8 (λo w=>∃tm,o= .code .normal ⟨tm,172, [],false⟩∧tm.get 0=some (.pointer (some ⟨m,0,none⟩))∧tm.get 1=some (.int .i64 n)∧tm.get 2=some (.string fr)∧tm.get 3=some (.string til)∧tm.get 4=some (.int .i64 many)∧tm.get 12=some (.pointer (some ⟨X n,0,none⟩))∧tm.get 14=some (.int .u64 (qbf (LN++(qfg P.S t.wr fr til t.sp.hi kj).toList)))∧tm.get 15=some vo∧tm.get 21=some (.string kj)∧tm.get 22=some (.pointer (some ⟨s.n,0,none⟩))∧tm.get 24=some (.bool (comb P t kj).isSome)∧tm.get 91=some (.slice (some ⟨i,off,none⟩) KK.length c3)∧tm.get 92=some (.int .i64 KK.length)∧tm.get 93=some (.int .i64 (j:Nat))∧w.get s.n=some (.cells (qad (qdl (comb P t kj))) 40 false)∧Grow s w∧s.n<w.n) ?_ ?_
       ·cases hkw:qaw t.wr kj with
        |some u1=>
         have:u1=u0:=by rw [hkw] at hu0;exact hu0
         subst this;have hsn:qfg P.S t.wr fr til t.sp.hi kj=none:=by unfold qfg;rw [b1,b2,hkw];rfl
         have hcb:comb P t kj=some u1:=by unfold comb;rw [hkw];rfl
         simp [qa0,e0,e1,e2,e3,e4,e12,e14,e15,e91,e92,e93,hkw,hsn,hcb];exact⟨hc5,g5,by omega⟩
        |none=>
         have hz:u0=qcx:=by rw [hkw] at hu0;exact hu0.symm
         have hcb:comb P t kj=qdj P.S kj t.sp.hi:=by unfold comb;rw [hkw];rfl
         have hsn:qfg P.S t.wr fr til t.sp.hi kj=(qdj P.S kj t.sp.hi).map λv=>(kj,v):=by unfold qfg;rw [b1,b2,hkw];rfl
         have hr5:=hrs.grow g5;have hx5:=g5.get hxs (by have:=gσs.n;omega)
         have hat:=λQ=>qvo hr5 hok hsz kj t.sp.hi Q
         unfold ptr at hat;simp [qa0,e0,e1,e2,e3,e4,e12,e14,e15,e91,e92,e93,hkw,hx5];refine hat _ λs7 g7=> ?_
         rw [hsn,hcb];have hc7:=g7.get hc5 (by omega)
         have gn7:=g7.n;have gs7:Grow s (s7.put s.n (.cells (qad (qdl (qdj P.S kj t.sp.hi))) 40 false)):=(g5.trans g7).put (Nat.le_refl _) _;cases hst:qdj P.S kj t.sp.hi with
         |none=>
          rw [hst] at gs7;simp [qad,qdl] at gs7;simp [qa0,qad,qdl,e0,e1,e2,e3,e4,e12,e14,e15,e91,e92,e93,hc7];exact⟨gs7,by omega⟩
         |some v7=>
          rw [hst] at gs7;simp [qad,qdl] at gs7;have hnw:=qhw LN (kj,v7);simp only at hnw;simp [qa0,qad,qdl,e0,e1,e2,e3,e4,e12,e14,e15,e91,e92,e93,hc7,maxK];exact⟨by rw [hnw];split<;>omega,gs7,by omega⟩
       ·rintro o w ⟨tm,rfl,e0,e1,e2,e3,e4,e12,e14,e15,e21,e22,e24,e91,e92,e93,hcw,gw,hnw⟩;rw [←eN] at e14;have hone:qm7 P.S t.wr fr til t.sp.hi kj=match comb P t kj with|some v=>if v.gone then none else some (kj,v.val)|none=>none:=by
         unfold qm7 comb;rw [b1,b2]
         rfl
        rw [hone] at eO;have gsw:=gs.trans gw;cases hcb:comb P t kj with
        |none=>
         rw [hcb] at e24 eO;simp at eO;simp [qa0,qa2,qa4,e0,e1,e2,e3,e4,e12,e14,e15,e21,e22,e24,e91,e92,e93,hw2];exact⟨KK.length-(j+1),by omega,j+1,rfl,rfl,by omega,rfl,by rw [eO];exact hov.grow gw,gsw⟩
        |some v8=>
         rw [hcb] at e24 eO hcw;simp only [qad,qdl,Option.getD_some] at hcw;cases hg8:v8.gone with
         |true=>
          rw [hg8] at hcw;simp [hg8] at eO;simp [qa0,qa2,qa4,e0,e1,e2,e3,e4,e12,e14,e15,e21,e22,e24,e91,e92,e93,hcw,hw2];exact⟨KK.length-(j+1),by omega,j+1,rfl,rfl,by omega,rfl,by rw [eO];exact hov.grow gw,gsw⟩
         |false=>
          rw [hg8] at hcw;simp [hg8] at eO;have hovw:=hov.grow gw;obtain⟨po,co,rfl⟩:=(hovw.sl (sz:=2) lenP).form;obtain⟨p9,c9,s9,a1,a2,a3⟩:=qug (x:=(kj,v8.val)) hovw gsw.n hoL;simp only [qgc] at a1;simp [qa0,qa2,qa4,e0,e1,e2,e3,e4,e12,e14,e15,e21,e22,e24,e91,e92,e93,hcw,a1,hw2];exact⟨KK.length-(j+1),by omega,j+1,rfl,rfl,by omega,rfl,by rw [eO];exact a2,gsw.thenB a3 (Nat.le_refl _)⟩
    ·have hjl':j=KK.length:=by omega
     subst hjl';rw [List.take_length] at e14 hov;rw [hnew] at e14;rw [hout] at hov;simp [qa0,e0,e1,e2,e3,e4,e12,e14,e15,e91,e92,e93];exact⟨hov,gs⟩
   ·refine⟨_,0, .slice none 0 0,rfl, ?_⟩;simp [e0,e1,e2,e3,e4,e12,e14,e15];exact⟨rfl,Own.nil,Grow.refl _⟩
   ·rintro o s ⟨tm,vo,rfl,e0,e1,e2,e3,e4,e12,e14,e15,hov,gs⟩;have gσs:=g3σ.trans gs;have hrs:=h.grow gσs;have hxs:=gσs.get hx hxl;have hnc:qbf (qbq P.S t.wr fr til t.sp.hi)≤P.clock:=(qrj _ _ (by have:=hok.clock;omega)).2 λp hp=>(qgb hok ((qiq hok.ks).1 hp).2).2.1
    have hnn:=qfp (qbq P.S t.wr fr til t.sp.hi);have hck:=hok.clock;have hfl:(qe4 P.S t.wr fr til t.sp.hi).length<2^36:=by
     have:=List.length_filterMap_le (qm7 P.S t.wr fr til t.sp.hi) KK;rw [hout] at this;omega
    generalize qbf (qbq P.S t.wr fr til t.sp.hi)=nw at h1 e14 hnc hnn;generalize qe4 P.S t.wr fr til t.sp.hi=fd at h1 hov hfl;obtain⟨po,co,rfl⟩:=(hov.sl (sz:=2) lenP).form;obtain⟨hi,hhi⟩:∃hi:Nat,hi=min many.toNat fd.length:=⟨_,rfl⟩
    have hmin:(if(fd.length:Int)<many then(fd.length:Int) else many)=(hi:Int):=by split<;>omega
    have hcut:∀s':CSt,Sl s' 196 2 qgc (.slice po fd.length co) fd→∃q c,qd7 Tryz.prog s' 91 (.slice po fd.length co) none (some (.int .i64 (hi:Int))) none=some (.slice q hi c)∧Sl s' 196 2 qgc (.slice q hi c) (fd.take many.toNat):=λs' hs'=>by
     obtain⟨q,c,a1,a2⟩:=Sl.mid (P:=Tryz.prog) (t:=91) ef91 rfl (by decide) lenP hs' 0 hi (Nat.zero_le _) (by omega) (bl:=none) (bh:=some (.int .i64 (hi:Int))) rfl (by simp [qai])
     refine⟨q,c,a1, ?_⟩;have:(fd.take hi).drop 0=fd.take many.toNat:=by
      rw [List.drop_zero,hhi];rcases Nat.le_total many.toNat fd.length with h|h
      ·rw [Nat.min_eq_left h]
      ·rw [Nat.min_eq_right h,List.take_of_length_le h,List.take_length]
     rw [this] at a2;exact a2
    cases hs:t.snap with
    |true=>
     rw [hs] at h1 hxs;simp only [if_true] at h1;obtain⟨q,c,a1,a2⟩:=hcut s (hov.sl lenP);have:=h1 _ s ⟨mv,ml,lv,tv,X,Wn,Sv,VL,hrs⟩ gσs.ch a2;simpa [qa0,e0,e1,e2,e3,e4,e12,e14,e15,hxs,qza,hmin,a1] using this
    |false=>
     rw [hs] at h1 hxs;simp only [Bool.false_eq_true,if_false] at h1;have hLs:P.L.length<2^36:=by
      have:P.L.length≤P.size:=by unfold PM.size;omega
      omega
     have hsee:=λQ=>qq7 hrs (λi hi=>hF i (Nat.le_trans gσs.n hi)) hok hLs hm hs nw (by omega) fr til ⟨1,t.sp.hi⟩ Q
     simp only [qag,ptr] at hsee;simp [qa0,e0,e1,e2,e3,e4,e12,e14,e15,hxs];refine hsee _ λs9 hr9 hc9=> ?_
     have hfin:=h1;generalize P.see n t nw fr til ⟨1,t.sp.hi⟩=rr at hr9 hfin⊢;cases hr1:rr.1 with
     |true=>
      rw [hr1] at hfin;simp only [if_true] at hfin;obtain⟨q,c,a1,a2⟩:=hcut s9 ((hov.sl lenP).chT hc9 (by unfold mT;decide))
      have:=hfin _ s9 hr9 (gσs.ch.trans hc9) a2;simpa [qa0,e0,e1,e2,e3,e4,e12,e14,e15,qza,hmin,a1] using this
     |false=>
      rw [hr1] at hfin;simp only [Bool.false_eq_true,if_false] at hfin;have:=hfin (.slice none 0 0) s9 hr9 (gσs.ch.trans hc9) Sl.nil;simpa [qa0,e0,e1,e2,e3,e4,e12,e14,e15] using this
end
theorem qs4 (l:List Ver) (v:Value) (σ:CSt) (hsl:Sl σ 40 3 qad v l) (hbig:l.length<2^40) (Q:Out→CSt→Prop)
  (h:∀(v':Value) (σ':CSt),Own σ.n σ' 40 qad v' l→Grow σ σ'→Q (.ret v' false) σ'):W E1 (.fn 183 #[v] none) σ Q:=by
 rw [qap (fn:=Tryz.f183) Tryz.func183 rfl rfl rfl];have h0:(0:Nat)≠qa1:=by simp [qa1]
 rcases hsl with⟨rfl,rfl⟩|⟨i,off,cap,row,ro,rfl,hg,hin,hrow,hlen,hcap⟩
 ·have:=h _ σ Own.nil (Grow.refl σ);simpa [qa0] using this
 by_cases hl:l.length=0
 ·have hnil:l= []:=List.eq_nil_of_length_eq_zero hl;subst hnil;have:=h (.slice (some ⟨σ.n,0,none⟩) 0 0) (σ.alloc (.cells [] 40 false)) (.inr ⟨σ.n,0,rfl,Nat.le_refl _,by simp,by simp, .inr ⟨rfl,rfl⟩⟩) ((Grow.refl σ).alloc _)
  have hin':¬i=σ.n:=by omega
  have hoff:off≤row.length:=by simp at hlen;omega
  simpa [qa0,qat,qhk,qau,hg,h0,hin',hoff] using this
 ·have hn0:¬l= []:=by rintro rfl;simp at hl
  have hb:l.length*32≤140737488355328:=by omega
  have hrl:((l.flatMap qad).length:Nat)=l.length*3:=qa5 qad (λ_=>rfl) l
  have hck:qc9 (l.flatMap qad)=true:=qdz (λ_=>rfl) l
  have:=h (.slice (some ⟨σ.n+1,0,none⟩) l.length qa1) ((σ.alloc (.cells [] 40 false)).alloc (.cells (l.flatMap qad) 40 false))
   (.inr ⟨σ.n+1,qa1,rfl,by omega,by simp,by simp, .inl rfl⟩) (((Grow.refl σ).alloc _).alloc _)
  have hin':¬i=σ.n:=by omega
  simpa [qa0,qat,qhk,qau,hg,h0,hin',hlen,hrow,hrl,hl,hb,hck,hn0,-List.length_flatMap] using this
theorem qqp (a:Addr):qb6 Tryz.prog .eql 79 (.pointer (some a)) (.pointer none)=some (.bool false):=by
 have hu:∃e,Tryz.prog.underlying 79=some (.pointer e):=⟨_,Tryz.underlying79⟩
 obtain⟨e,hu⟩:=hu;simp [qb6,qg2,hu]
theorem qpj (F:Nat→Prop) (σ:CSt) (hF:∀i,σ.n≤i→F i) (Q:Out→CSt→Prop) (h:∀g σ',RG F σ' g PM.new→σ.n≤g→Grow σ σ'→Q (.ret (ptr g) false) σ'):W E1 (.fn 34 #[] none) σ Q:=by
 rw [qap (fn:=Tryz.f34) Tryz.func34 rfl rfl rfl];simp [qa0];refine new_spec F σ hF _ λs1 hst g1=> ?_
 have hs1:σ.n<s1.n:=by obtain⟨_,_,_,_,a,_⟩:=hst;exact a
 simp [qa0,qqp];rw [qap (fn:=Tryz.f92) Tryz.func92 rfl rfl rfl];have g2:Grow s1 (((s1.alloc (.map #[] 0)).alloc (.map #[] 0)).alloc (.cells [ptr σ.n, .slice none 0 0, .int .u64 0, .int .i64 0, .map (some s1.n), .map (some (s1.n+1))] 85 false)):=(((Grow.refl s1).alloc _).alloc _).alloc _;have hF1:∀i,s1.n≤i→F i:=λi hi=>hF i (by omega)
 have:=h (s1.n+2) _ ⟨σ.n,s1.n,s1.n+1, .slice none 0 0,λ_=>0,λ_=>0, [],hF1 _ (by omega),⟨by simp [PM.new],Nat.zero_le _,by simp<;>omega,qbj.nil⟩,qob,hst.grow g2,
  ⟨hF1 _ (by omega),(by simp<;>omega),⟨#[],0,(by simp<;>omega),qdp _ _⟩,(λq hq=>by cases hq),(λq hq=>by cases hq),(λq hq=>by cases hq),(λq hq=>by cases hq)⟩,hF1 _ (by omega),(by simp<;>omega),⟨#[],0,(by simp<;>omega),qdp _ _⟩,(λa=>by simp [PM.new]),by omega,(λq hq=>by cases hq)⟩ (by omega) (g1.trans g2)
 simpa [qa0,qcf Tryz.underlying82,qcf Tryz.underlying83,ptr,Nat.add_assoc] using this
theorem zba {l l':List Ver} (hu:Uni l) (hp:l'.Perm l) (hs:l'.Pairwise λx y=>x.at_≤y.at_):l'=qcs l:=by
 refine qty ?_ (qf3 l) λu=> ?_
 ·have hu':Uni l':=hp.symm.pairwise hu λh=>λe=>h e.symm
  unfold Srt;unfold Uni at hu';exact(hs.and hu').imp λ⟨h1,h2⟩=>by omega
 ·rw [qde l hu,hp.mem_iff]
theorem nil_func (q:Nat):qb6 Tryz.prog .eql 189 (allF q) .nilFunc=some (.bool false):=by
 have hu:∃a b c,Tryz.prog.underlying 189=some (.func a b c):=⟨_,_,_,Tryz.underlying189⟩
 obtain⟨a,b,c,hu⟩:=hu;simp [qb6,qg2,hu,allF]
section
variable {F F':Nat→Prop} {σ:CSt} {m mv ml sp:Nat} {lv tv:Value} {X Wn:Int→Nat} {Sv:ByteArray→Value} {VL:Vl} {P:PM}
theorem qtz (hst:St F' σ sp P.S) (h:RMx F σ m mv ml lv tv X Wn Sv VL P) (hok:P.Ok) (hsz:P.size<2^30) (Q:Out→CSt→Prop) (h1:∀σ',Grow σ σ'→Q (.ret (.bool true) false) σ'):W E1 (.fn 128 #[ptr sp, .map (some mv)] none) σ Q:=by
 rw [qap (fn:=Tryz.f128) Tryz.func128 rfl rfl rfl];have ga:Grow σ ((σ.alloc (.cells [.map (some mv)] 101 false)).alloc (.cells [.bool false] 4 false)):=((Grow.refl σ).alloc _).alloc _;have hq3:((σ.alloc (.cells [.map (some mv)] 101 false)).alloc (.cells [.bool false] 4 false)).get σ.n=some (.cells [.map (some mv)] 101 false):=by simp
 have hq4:((σ.alloc (.cells [.map (some mv)] 101 false)).alloc (.cells [.bool false] 4 false)).get (σ.n+1)=some (.cells [.bool false] 4 false):=by simp
 have hna:((σ.alloc (.cells [.map (some mv)] 101 false)).alloc (.cells [.bool false] 4 false)).n=σ.n+2:=by simp
 simp [qa0,ptr,Nat.add_assoc];generalize (σ.alloc (.cells [.map (some mv)] 101 false)).alloc (.cells [.bool false] 4 false)=s0 at ga hq3 hq4 hna⊢;simp [qa0,qa2,qa4,ptr,qqp];refine all33 _ _ _ ?_;have hnf:=nil_func;unfold allF at hnf;have gb:Grow s0 (((s0.alloc (.cells [.pointer (some ⟨sp,0,none⟩)] 79 false)).alloc (.cells [.int .i64 0] 3 false)).put (s0.n+1) (.cells [.int .i64 0] 3 false)):=(((Grow.refl s0).alloc _).alloc _).put (by omega) _
 have hq5:(((s0.alloc (.cells [.pointer (some ⟨sp,0,none⟩)] 79 false)).alloc (.cells [.int .i64 0] 3 false)).put (s0.n+1) (.cells [.int .i64 0] 3 false)).get (s0.n+1)=some (.cells [.int .i64 0] 3 false):=by simp
 have hnb:(((s0.alloc (.cells [.pointer (some ⟨sp,0,none⟩)] 79 false)).alloc (.cells [.int .i64 0] 3 false)).put (s0.n+1) (.cells [.int .i64 0] 3 false)).n=s0.n+2:=by simp
 simp [qa0,qa2,qa4,hnf,allF,Nat.add_assoc];generalize ((s0.alloc (.cells [.pointer (some ⟨sp,0,none⟩)] 79 false)).alloc (.cells [.int .i64 0] 3 false)).put (s0.n+1) (.cells [.int .i64 0] 3 false)=s1 at gb hq5 hnb⊢;refine all33 _ _ _ ?_;have gc:Grow s1 (s1.alloc (.cells [.pointer (some ⟨sp,0,none⟩)] 79 false)):=(Grow.refl s1).alloc _;have hq6:(s1.alloc (.cells [.pointer (some ⟨sp,0,none⟩)] 79 false)).get s1.n=some (.cells [.pointer (some ⟨sp,0,none⟩)] 79 false):=by simp
 have hnc:(s1.alloc (.cells [.pointer (some ⟨sp,0,none⟩)] 79 false)).n=s1.n+1:=by simp
 have hq51:=gc.get hq5 (by omega)
 have hq31:=(gb.trans gc).get hq3 (by omega)
 have hq41:=(gb.trans gc).get hq4 (by omega)
 simp [qa0];generalize s1.alloc (.cells [.pointer (some ⟨sp,0,none⟩)] 79 false)=s2 at gc hq6 hnc hq51 hq31 hq41⊢;have gσ:=(ga.trans gb).trans gc;have hcl:∀s∈P.S,s.2.length<2^38:=λs hs=>by have:=qdt hs;omega
 have hSl:P.S.length<2^38:=by have:=qfk hok;omega
 have hVS:VL.length=P.S.length:=by have:=h.rel.1.length_eq;simpa using this
 have hln:∀s,Grow σ s→lenF Tryz.prog s (some 101) (.map (some mv))= .val (.int .i64 VL.length) s:=λs g=>by
  have:=qyd (P:=Tryz.prog) Tryz.underlying101 (h.grow g).vers
  rwa [List.length_map] at this
 refine qwv (F:=F') (qo:=false) (S:=P.S) (i:=sp) (q:=s1.n) (by simp [allF]) rfl (hst.grow gσ) hq6 (by omega) hSl hcl (by simp) (by simp)
  (λj s=>s2.n<s.n∧(∀k,k<s2.n→k≠s0.n+1→s.get k=s2.get k)∧s.get (s0.n+1)=some (.cells [.int .i64 (j:Nat)] 3 false)) (λ_ _=>False) ?_ ?_ ?_ ?_ ?_ ?_
 ·rintro j s ⟨a1,a2,a3⟩;refine⟨⟨by omega,λk hk row e ro hg he=>a2 k hk λe2=> ?_⟩,a1⟩
  subst e2;rw [hq51] at hg;cases hg;rcases he with he|he|he|he<;>cases he
 ·rintro j s s' ⟨a1,a2,a3⟩ g;have:=g.n;exact⟨by omega,λk hk hne=>by rw [g.old k (by omega)];exact a2 k hk hne,g.get a3 (by omega)⟩
 ·intro o;refine⟨by simp,λk hk _=> ?_, ?_⟩
  ·rw [CSt.get_alloc,if_neg (by omega)]
  ·rw [CSt.get_alloc,if_neg (by omega)];exact hq51
 ·rintro j hj s v b' ⟨a1,a2,a3⟩ hb1 hb2 ho hL;refine⟨_,s,by simp [qa0];rfl,hL,λob=> ?_⟩
  have hσ2:=gσ.n;have hσ0:=ga.n
  have g2:Grow σ (s.put s2.n ob):=⟨by show σ.n≤s.n;omega,λk hk=>by
   rw [CSt.get_put,if_neg (by omega),a2 k (by omega) (by omega)]
   exact gσ.old k hk⟩
  have h3:(s.put s2.n ob).get σ.n=some (.cells [.map (some mv)] 101 false):=by
   rw [CSt.get_put,if_neg (by omega),a2 _ (by omega) (by omega)];exact hq31
  have h5:(s.put s2.n ob).get (s0.n+1)=some (.cells [.int .i64 (j:Nat)] 3 false):=by
   rw [CSt.get_put,if_neg (by omega)];exact a3
  have hob:(s.put s2.n ob).get s2.n=some ob:=by simp
  have hnu:(s.put s2.n ob).n=s.n:=rfl;have hold:∀k,k<s2.n→k≠s0.n+1→(s.put s2.n ob).get k=s2.get k:=λk hk hne=>by rw [CSt.get_put,if_neg (by omega)];exact a2 k hk hne
  have hslv:Sl (s.put s2.n ob) 40 3 qad v P.S[j].2:=(ho.put hb1 ob).sl (λ_=>rfl)
  have hvb:∀i,qb1 v=some i→b'≤i:=λi hi=>(ho.z.lt hi).1
  generalize s.put s2.n ob=u at g2 h3 h5 hob hnu hold hslv⊢;have hw2:=qb7 j (by omega)
  have hne0:¬σ.n=s0.n+1:=by omega
  have g3:=g2.put (i:=s0.n+1) (by omega) (.cells [.int .i64 ((j:Int)+1)] 3 false)
  have h33:(u.put (s0.n+1) (.cells [.int .i64 ((j:Int)+1)] 3 false)).get σ.n=some (.cells [.map (some mv)] 101 false):=by rw [CSt.get_put,if_neg (by omega)];exact h3
  have hlk:=qew (h.grow g3) P.S[j].1;have hslv3:Sl (u.put (s0.n+1) (.cells [.int .i64 ((j:Int)+1)] 3 false)) 40 3 qad v P.S[j].2:=by
   rcases hslv with⟨b1,b2⟩|⟨i,off,cap,row,ro,b1,b2,b3,b4⟩
   ·exact .inl ⟨b1,b2⟩
   ·refine .inr ⟨i,off,cap,row,ro,b1, ?_,b3,b4⟩;have:=hvb i (by rw [b1];rfl)
    rw [CSt.get_put,if_neg (by omega)];exact b2
  simp [qa0,h5,hw2,h3,hne0];have h35:(u.put (s0.n+1) (.cells [.int .i64 ((j:Int)+1)] 3 false)).get (s0.n+1)=some (.cells [.int .i64 ((j:Int)+1)] 3 false):=by simp
  have h3o:(u.put (s0.n+1) (.cells [.int .i64 ((j:Int)+1)] 3 false)).get s2.n=some ob:=by rw [CSt.get_put,if_neg (by omega)];exact hob
  have h3k:∀k,k<s2.n→k≠s0.n+1→(u.put (s0.n+1) (.cells [.int .i64 ((j:Int)+1)] 3 false)).get k=s2.get k:=λk hk hne=>by rw [CSt.get_put,if_neg hne];exact hold k hk hne
  have h3n:(u.put (s0.n+1) (.cells [.int .i64 ((j:Int)+1)] 3 false)).n=s.n:=hnu;generalize u.put (s0.n+1) (.cells [.int .i64 ((j:Int)+1)] 3 false)=w at g3 h33 hlk hslv3 h35 h3o h3k h3n⊢;obtain⟨hst1,huni⟩:=h.rel.get hok.ks P.S[j].1;have hSj:qbk P.S P.S[j].1=P.S[j].2:=by
   unfold qbk;rw [(qav (l:=P.S) hok.ks (k:=P.S[j].1) (x:=P.S[j].2)).2 (List.getElem_mem hj)]
   rfl
  rw [hSj] at hst1;have hvl:=qtv h hok P.S[j].1;have hbnd:∀x∈qm6 VL P.S[j].1,0≤x.at_∧x.at_≤2^40:=λx hx=>by
   have h8:=(qde _ huni x).2 hx;rw [←hst1] at h8;have h9:=(hok.st _ (List.getElem_mem hj)).2.2.2 x h8;have:=hok.clock;omega
  obtain⟨hlk,hsl⟩:=hlk;have hskl:=hcl _ (List.getElem_mem hj);obtain⟨KV,hKV⟩:∃KV,P.S[j]=KV:=⟨_,rfl⟩
  rw [hKV] at hlk hsl hst1 huni hvl hbnd hslv3 hskl;simp [qa0,h33,hKV,hlk];refine qs4 _ _ w hsl (by omega) _ λv8 w8 ho8 g8=> ?_
  simp [qa0];refine qyj w.n _ hbnd v8 w8 g8.n ho8.z (by omega) _ λl' w9 hp9 hs9 ho9 g9=> ?_
  have hl':=zba huni hp9 hs9;rw [←hst1] at hl';subst hl';have g89:=Grow.thenB g8 g9 (Nat.le_refl _);simp [qa0];refine equal_ch _ _ v v8 w9 (hslv3.grow g89) (ho9.sl λ_=>rfl) (by omega) _ λwa ga'=> ?_
  have gwa:=g89.trans ga';have hgn:=gwa.n;simp [qa0];refine⟨.normal,_,none,rfl,rfl,gwa.get h3o (by omega),λ_ ob'=>⟨by show s2.n<wa.n;omega,λk hk hne=> ?_, ?_⟩,λc hc=>by cases hc⟩
  ·rw [CSt.get_put,if_neg (by omega),gwa.old k (by omega)];exact h3k k hk hne
  ·rw [CSt.get_put,if_neg (by omega),gwa.old _ (by omega)]
   rw [h35]
 ·rintro s o ⟨a1,a2,a3⟩
  have g2:Grow σ (s.put s2.n o):=⟨by show σ.n≤s.n;have:=gσ.n;omega,λk hk=>by
   have:=gσ.n;have:=ga.n;rw [CSt.get_put,if_neg (by omega),a2 k (by omega) (by omega)]
   exact gσ.old k hk⟩
  have h3:(s.put s2.n o).get σ.n=some (.cells [.map (some mv)] 101 false):=by
   rw [CSt.get_put,if_neg (by omega),a2 _ (by omega) (by omega)];exact hq31
  have h4:(s.put s2.n o).get (σ.n+1)=some (.cells [.bool false] 4 false):=by
   rw [CSt.get_put,if_neg (by omega),a2 _ (by omega) (by omega)];exact hq41
  have h5:(s.put s2.n o).get (s0.n+1)=some (.cells [.int .i64 (P.S.length:Nat)] 3 false):=by
   rw [CSt.get_put,if_neg (by omega)];exact a3
  have hl:=hln _ g2;generalize s.put s2.n o=u at g2 h3 h4 h5 hl⊢;have fin:=h1 _ (g2.put (i:=σ.n+1) (by omega) (.cells [.bool true] 4 false))
  have hvv:((P.S.length:Int)=VL.length):=by omega
  simpa [qa0,h3,h4,h5,hl,hvv] using fin
 ·exact λc s o h=>h.elim
end
end Go.Sm
namespace Go.Sm.KyV
open Go Go.Proofs Go.Sm Go.Sm.Str
set_option maxRecDepth 100000
set_option maxHeartbeats 4000000
def qcw (q:Nat):Value:= .func (.func 206) #[] #[.pointer (some ⟨q,0,none⟩)]
theorem qbd {α:Type} (l:List α) (j:Nat) (h:j<l.length):(l[j]::l.eraseIdx j).Perm l:=by
 rw [List.eraseIdx_eq_take_drop_succ];have h1:l=l.take j++l[j]::l.drop (j+1):=by rw [←List.drop_eq_getElem_cons h,List.take_append_drop]
 conv=>rhs;rw [h1]
 exact List.perm_middle.symm
theorem keys_spec (m:Nat) (σ:CSt) (Q:Out→CSt→Prop) (h:Q (.ret (qcw σ.n) false) (σ.alloc (.cells [.map (some m)] 111 false))):W E1 (.fn 124 #[.map (some m)] none) σ Q:=by
 rw [qap (fn:=Tryz.f124) Tryz.func124 rfl rfl rfl];simpa [qa0,qcw] using h
theorem qco {x:Ctx} {a:CAct} {f:Operand} {p:Tmp} {asg body:Code} {K:Out→CSt→Prop} {q m:Nat} {qo:Bool} {M:MlG ByteArray} (σ:CSt) (hf:a.eval f=qcw q) (ha:qdc σ x.rnd=true) (hp:p<a.sz) (hq:σ.get q=some (.cells [.map (some m)] 111 qo)) (hqn:q<σ.n) (hmn:m<σ.n) (hm:MpG Value.string σ m M)
  (Inv:List ByteArray→CSt→Prop) (h0:∀o1 o2,Inv [] ((σ.alloc o1).alloc o2))
  (hput:∀D s o,Inv D s→Inv D (s.put (σ.n+1) o)) (hputL:∀D s o,Inv D s→Inv D (s.put σ.n o))
  (hround:∀(D:List ByteArray) (k:ByteArray) (s:CSt) (v:Value),Inv D s→(k,v)∈M→D.length<M.length→σ.n+2≤s.n→s.get q=some (.cells [.map (some m)] 111 qo)→MpG Value.string s m M→
   W E1 (.code ⟨x.f,some σ.n,none⟩ asg {tm:=a.tm.set p (.string k),sz:=a.sz,df:= [],tk:=false}) s λo s1=>∃a',o= .code .normal a'∧s1=s∧∀ob:CObj,
    W E1 (.code ⟨x.f,some σ.n,none⟩ body a') (s.put σ.n ob) λo2 s2=>(∃a2,o2= .code .normal a2)∧(∀ob',Inv (D++ [k]) (s2.put σ.n ob'))∧s.n≤s2.n∧s2.get σ.n=some ob∧s2.get (σ.n+1)=s.get (σ.n+1)∧s2.get q=s.get q∧s2.get m=s.get m)
  (h:∀(D:List ByteArray) (s:CSt),Inv D s→D.Perm (M.map (·.1))→σ.n+2≤s.n→K (.code .normal a) s):W E1 (.code x (.rangeFunc f #[p] asg body) a) σ K:=by
 rw [qcc hf ha,qap (fn:=Tryz.f206) Tryz.func206 rfl rfl rfl];obtain⟨hmp⟩:Nonempty True:=⟨trivial⟩;have hq1:(σ.alloc (.loop .ready none x.f a.tm a.sz #[p] asg body)).get q=some (.cells [.map (some m)] 111 qo):=by rw [CSt.get_alloc,if_neg (by omega)];exact hq
 have hm1:MpG Value.string (σ.alloc (.loop .ready none x.f a.tm a.sz #[p] asg body)) m M:=by
  obtain⟨es,clock,h1,h2⟩:=hm;exact⟨es,clock,by rw [CSt.get_alloc,if_neg (by omega)];exact h1,h2⟩
 obtain⟨o,ho1,ho2⟩:=qb3 (P:=Tryz.prog) (t:=111) (kt:=9) (et:=40) Tryz.underlying111 hm1 (by simp;omega)
 simp at ho1;simp [qa0,hq1,ho1];have hi0:=h0 (.loop .ready none x.f a.tm a.sz #[p] asg body) o;have hL0:((σ.alloc (.loop .ready none x.f a.tm a.sz #[p] asg body)).alloc o).get σ.n=some (.loop .ready none x.f a.tm a.sz #[p] asg body):=by simp
 have hq2:((σ.alloc (.loop .ready none x.f a.tm a.sz #[p] asg body)).alloc o).get q=some (.cells [.map (some m)] 111 qo):=by rw [CSt.get_alloc,if_neg (by simp;omega)];exact hq1
 have hn0:σ.n+2≤((σ.alloc (.loop .ready none x.f a.tm a.sz #[p] asg body)).alloc o).n:=by simp
 generalize (σ.alloc (.loop .ready none x.f a.tm a.sz #[p] asg body)).alloc o=σ2 at ho2 hi0 hL0 hq2 hn0⊢;refine qaj (λn A s=>∃tm S D,A=⟨tm,14, [],false⟩∧tm.get 0=some (.func (.yield σ.n) #[] #[])∧tm.get 5=some (.pointer (some ⟨σ.n+1,0,none⟩))∧n=List.length S∧MIt Value.string s (σ.n+1) m M S∧(D++S.map (·.1)).Perm (M.map (·.1))∧(∀e∈S,e∈M)∧Inv D s∧s.get σ.n=some (.loop .ready none x.f a.tm a.sz #[p] asg body)∧s.get q=some (.cells [.map (some m)] 111 qo)∧σ.n+2≤s.n) ?_ (List.length M) _ _ ?_
 ·rintro n A s ⟨tm,S,D,rfl,e0,e5,hn,hit,hpm,hmem,hinv,hL,hqs,hsn⟩;simp [qa0,e0,e5];refine qbb hit (λhS=> ?_) (λj hj ob hit' hent=> ?_)
  ·subst hS;simp at hpm;simp [qa0,e0,e5];unfold qgr;rw [hL];simp only;rw [if_neg (by decide)]
   exact h D _ (hputL D _ _ hinv) hpm (by simpa using hsn)
  ·have hSj:=List.getElem_mem hj;have hinv':=hput D s ob hinv;have hL':(s.put (σ.n+1) ob).get σ.n=some (.loop .ready none x.f a.tm a.sz #[p] asg body):=by rw [CSt.get_put,if_neg (by omega)];exact hL
   have hq':(s.put (σ.n+1) ob).get q=some (.cells [.map (some m)] 111 qo):=by rw [CSt.get_put,if_neg (by omega)];exact hqs
   have hn':σ.n+2≤(s.put (σ.n+1) ob).n:=by simpa using hsn
   generalize s.put (σ.n+1) ob=s1 at hit' hent hinv' hL' hq' hn'⊢;simp [qa0,e0,e5,hent];rw [qjj hL' rfl];have hDl:D.length<List.length M:=by
    have:=hpm.length_eq;simp at this;omega
   have hr:=hround D S[j].1 s1 S[j].2 hinv' (hmem _ hSj) hDl hn' hq' hit'.mp;simp only [List.zip_cons_cons,List.zip_nil_left,List.foldl_cons,List.foldl_nil,hp,if_true];refine W.weaken hr λo1 s2 h1=> ?_
   obtain⟨a',rfl,rfl,h2⟩:=h1;unfold qhu;rw [hL'];simp only;refine W.weaken (h2 _) λo2 s3 h3=> ?_
   obtain⟨⟨a2,rfl⟩,h4,h5,h6,h7,h8,h9⟩:=h3;simp only [qgm];rw [h6];simp only [Option.isNone_none,if_true];simp [qa0,e0,e5];have hne1:σ.n+1≠σ.n:=by omega
   refine⟨S.length-1,by omega,S.eraseIdx j,by rw [List.length_eraseIdx_of_lt hj], ?_,D++ [S[j].1], ?_,λa b he=>hmem (a,b) (List.mem_of_mem_eraseIdx he),h4 _, ?_,by omega⟩
   ·refine hit'.congr ?_ ?_
    ·rw [CSt.get_put,if_neg hne1];exact h7
    ·rw [CSt.get_put,if_neg (by omega)];exact h9
   ·refine List.Perm.trans ?_ hpm;rw [List.append_assoc];refine List.Perm.append_left D ?_;have:=(qbd S j hj).map (·.1)
    simpa using this
   ·rw [if_neg (by omega),h8];exact hq'
 ·refine⟨_,M, [],rfl, ?_⟩;simp;exact⟨ho2,hi0,hL0,hq2,hn0⟩
theorem qbm (q m:Nat) (qo:Bool) (M:MlG ByteArray) (σ:CSt) (hq:σ.get q=some (.cells [.map (some m)] 111 qo)) (hqn:q<σ.n) (hmn:m<σ.n) (hm:MpG Value.string σ m M) (hbig:M.length<2^38) (Q:Out→CSt→Prop)
  (h:∀(v:Value) (D:List ByteArray) (σ':CSt),D.Perm (M.map (·.1))→Own σ.n σ' 9 Str.encS v D→Grow σ σ'→Q (.ret v false) σ'):W E1 (.fn 200 #[qcw q] none) σ Q:=by
 rw [qap (fn:=Tryz.f200) Tryz.func200 rfl rfl rfl];simp [qa0];rw [qap (fn:=Tryz.f244) Tryz.func244 rfl rfl rfl];simp [qa0];have hg0:Grow σ (σ.alloc (.cells [.slice none 0 0] 119 false)):=(Grow.refl σ).alloc _;have hb0:(σ.alloc (.cells [.slice none 0 0] 119 false)).n=σ.n+1:=by simp
 have hc0:(σ.alloc (.cells [.slice none 0 0] 119 false)).get σ.n=some (.cells [.slice none 0 0] 119 false):=by simp
 have hq0:=hg0.get hq hqn;have hm0:MpG Value.string (σ.alloc (.cells [.slice none 0 0] 119 false)) m M:=by
  obtain⟨es,clock,h1,h2⟩:=hm;exact⟨es,clock,hg0.get h1 hmn,h2⟩
 generalize σ.alloc (.cells [.slice none 0 0] 119 false)=σ1 at hg0 hb0 hc0 hq0 hm0⊢;have hML:∀(D:List ByteArray) (s:CSt) (k:ByteArray) (v:Value),(D++ [k]).length≤M.length+1→True:=λ_ _ _ _ _=>trivial
 refine qco (q:=q) (m:=m) (qo:=qo) (M:=M) σ1 rfl (by simp;rfl) (by simp) hq0 (by omega) (by omega) hm0
  (λD s=>∃v,s.get σ.n=some (.cells [v] 119 false)∧Own (σ1.n+2) s 9 Str.encS v D∧σ1.n+2≤s.n∧∀j,j<σ.n→s.get j=σ.get j) ?_ ?_ ?_ ?_ ?_
 ·intro o1 o2;refine⟨_, ?_,Own.nil,by simp,λj hj=> ?_⟩
  ·rw [CSt.get_alloc,if_neg (by simp;omega),CSt.get_alloc,if_neg (by omega)];exact hc0
  ·rw [CSt.get_alloc,if_neg (by simp;omega),CSt.get_alloc,if_neg (by omega)];exact hg0.old j hj
 ·rintro D s o ⟨v,h1,h2,h3,h4⟩;exact⟨v,by rw [CSt.get_put,if_neg (by omega)];exact h1,h2.put (by omega) o,h3,λj hj=>by rw [CSt.get_put,if_neg (by omega)];exact h4 j hj⟩
 ·rintro D s o ⟨v,h1,h2,h3,h4⟩;exact⟨v,by rw [CSt.get_put,if_neg (by omega)];exact h1,h2.put (by omega) o,h3,λj hj=>by rw [CSt.get_put,if_neg (by omega)];exact h4 j hj⟩
 ·rintro D k s vv ⟨v,h1,h2,h3,h4⟩ hk hDl hsn hqs hms;have hne:¬σ.n=σ1.n:=by omega
  have hcap:D.length<2^38:=by omega
  simp [qa0,hne,h1];intro ob;have h1':(s.put σ1.n ob).get σ.n=some (.cells [v] 119 false):=by rw [CSt.get_put,if_neg hne];exact h1
  have h2':=h2.put (i:=σ1.n) (by omega) ob
  have hpn:(s.put σ1.n ob).n=s.n:=rfl;have hob:(s.put σ1.n ob).get σ1.n=some ob:=by simp
  have hoth:∀j,j≠σ1.n→(s.put σ1.n ob).get j=s.get j:=λj hj=>by rw [CSt.get_put,if_neg hj]
  generalize s.put σ1.n ob=s1 at h1' h2' hpn hob hoth⊢;have hga:Grow s1 (s1.alloc (.cells [.string k] 9 false)):=(Grow.refl s1).alloc _;obtain⟨v9,σ9,a1,a2,a3,a4,a5⟩:=qay (P:=Tryz.prog) (ts:= #[119,119]) (e:=9) (sz:=1) (enc:=Str.encS) (l:=D) (m:= [k]) (b:=σ1.n+2) ef119 (by simp) Str.lenS Str.cokS rfl (by decide) (by decide) rfl (σ:=s1.alloc (.cells [.string k] 9 false))
   (h2'.grow hga) (by simp;omega) (Sl.all (l:= [k]) (i:=s.n) (cap:=1) (ro:=false) Str.lenS (by rw [←hpn];simp [Str.encS]) (by rw [←hpn];simp) (.inr ⟨by simp,by simp [qa1]⟩)) (by simp;omega) (by omega)
  have hlt:σ.n<s1.n:=by omega
  have hold:∀j,j<σ1.n+2→σ9.get j=s1.get j:=λj hj=>by rw [a3.2 j hj];exact hga.old j (by omega)
  have h19:σ9.get σ.n=some (.cells [v] 119 false):=by rw [hold _ (by omega)];exact h1'
  obtain⟨p9,c9,rfl⟩:=(a2.sl (sz:=1) Str.lenS).form;have a1':qas Tryz.prog (s1.alloc (.cells [.string k] 9 false)) #[119,119] v (.slice (some ⟨s.n,0,none⟩) 1 1)=some (.slice p9 (D++ [k]).length c9,σ9):=a1;have hn9:=a3.1;simp at hn9 a1';simp [qa0,a1',h19];have e1:¬σ1.n=σ.n:=by omega
  have a2':Own (σ1.n+2) (σ9.put σ.n (.cells [.slice p9 (D.length+1) c9] 119 false)) 9 Str.encS (.slice p9 (D.length+1) c9) (D++ [k]):=by
   have:=a2.put (i:=σ.n) (by omega) (.cells [.slice p9 (D.length+1) c9] 119 false)
   rwa [List.length_append] at this
  refine⟨λob'=>⟨a2'.put (by omega) ob',by omega,λj hj=> ?_⟩,by omega, ?_, ?_, ?_, ?_⟩
  ·rw [if_neg (by omega),if_neg (by omega),hold j (by omega),hoth j (by omega)];exact h4 j hj
  ·rw [if_neg e1,hold _ (by omega)];exact hob
  ·rw [if_neg (by omega),hold _ (by omega),hoth _ (by omega)]
  ·by_cases e:q=σ.n
   ·omega
   ·rw [if_neg e,hold q (by omega),hoth q (by omega)]
  ·by_cases e:m=σ.n
   ·omega
   ·rw [if_neg e,hold m (by omega),hoth m (by omega)]
 ·rintro D s ⟨v,h1,h2,h3,h4⟩ hpm hsn;have:=h v D s hpm (h2.weaken (by omega)) ⟨by omega,h4⟩
  simpa [qa0,h1] using this
theorem sorted_keys (q m:Nat) (qo:Bool) (M:MlG ByteArray) (σ:CSt) (hq:σ.get q=some (.cells [.map (some m)] 111 qo)) (hqn:q<σ.n) (hmn:m<σ.n) (hm:MpG Value.string σ m M) (hbig:M.length<2^38) (Q:Out→CSt→Prop)
  (h:∀(v:Value) (D:List ByteArray) (σ':CSt),D.Perm (M.map (·.1))→(D.Pairwise λx y=>klt y x=false)→Own σ.n σ' 9 Str.encS v D→Grow σ σ'→Q (.ret v false) σ'):W E1 (.fn 116 #[qcw q] none) σ Q:=by
 rw [qap (fn:=Tryz.f116) Tryz.func116 rfl rfl rfl];simp [qa0];refine qbm q m qo M σ hq hqn hmn hm hbig _ λv D σ1 hpm hown hg=> ?_
 simp [qa0];have hlen:=hpm.length_eq;simp at hlen;refine Str.sort_own σ.n D v σ1 hg.n hown (by omega) _ λD' σ2 hp2 hs2 ho2 hg2=> ?_
 have:=h v D' σ2 (hp2.trans hpm) hs2 ho2 (Grow.thenB hg hg2 (Nat.le_refl _));simpa [qa0] using this
end Go.Sm.KyV
namespace Go.Sm
open Go Go.Proofs
set_option maxRecDepth 100000
set_option maxHeartbeats 4000000
section
variable {F:Nat→Prop} {σ:CSt} {g:Nat} {P:PM}
theorem qt0 (h:RG F σ g P) (hok:P.Ok) (hsz:P.size<2^30) {n:Int} {t:Tx} (ht:P.get n=some t) (hs:t.snap=false) (Q:Out→CSt→Prop)
  (h1:∀v σ',Sl σ' 9 1 Str.encS v (t.wr.map (·.1))→Grow σ σ'→Q (.ret v false) σ'):W E1 (.fn 56 #[ptr g, .int .i64 n] none) σ Q:=by
 obtain⟨sp,ml,mt,v,X,Wn,ks,h⟩:=h;rw [qap (fn:=Tryz.f56) Tryz.func56 rfl rfl rfl];have hgt:=λQ=>qci h n Q
 unfold ptr at hgt;simp [qa0,ptr];refine hgt _ (λt' ht'=> ?_) λhn'=>(by rw [ht] at hn';cases hn')
 have hm:=(qao hok).1 ht;have hto:=hok.tx _ hm;have htx:=h.lv.tx _ hm;simp only at hto htx;have hx:=htx.cell;unfold qfo hdK at hx;obtain⟨hFw,hlw,W,hmW,hpW⟩:=htx.wr hs;have hwv:wv t (Wn n)=Value.map (some (Wn n)):=by unfold wv;rw [hs];rfl
 rw [hwv] at hx;have hwl:t.wr.length≤P.size:=by
  have:=qjs hok.nums hm;unfold PM.size;omega
 have hWl:W.length=t.wr.length:=by rw [hpW.length_eq];unfold qed;rw [List.length_map]
 simp [qa0,hx];refine KyV.keys_spec _ _ _ ?_;have ga:Grow σ (σ.alloc (.cells [.map (some (Wn n))] 111 false)):=(Grow.refl σ).alloc _;have hqa:(σ.alloc (.cells [.map (some (Wn n))] 111 false)).get σ.n=some (.cells [.map (some (Wn n))] 111 false):=by simp
 have hna:(σ.alloc (.cells [.map (some (Wn n))] 111 false)).n=σ.n+1:=by simp
 have hma:=hmW.ch (T:=λ_=>False) (M:=noM) (F:=λ_=>False) hlw ga.ch λh=>h.elim
 simp [qa0];generalize σ.alloc (.cells [.map (some (Wn n))] 111 false)=s1 at ga hqa hna hma⊢;refine KyV.sorted_keys σ.n (Wn n) false _ s1 hqa (by omega) (by omega) hma (by omega) _ λv6 K w6 hpK hsK ho6 g6=> ?_
 have hKe:K=t.wr.map (·.1):=by
  refine qgq hto.up (hpK.trans ?_) hsK;refine(hpW.map (·.1)).trans ?_
  unfold qed;rw [List.map_map];exact .refl _
 subst hKe;have:=h1 v6 w6 (ho6.sl Str.lenS) (ga.trans g6);simpa [qa0] using this
end
end Go.Sm
namespace Go.Sm.KyV
open Go Go.Proofs Go.Sm Go.Sm.Str
set_option maxRecDepth 100000
set_option maxHeartbeats 4000000
theorem keys_nil (σ:CSt) (Q:Out→CSt→Prop) (h:Q (.ret (qcw σ.n) false) (σ.alloc (.cells [.map none] 111 false))):W E1 (.fn 124 #[.map none] none) σ Q:=by
 rw [qap (fn:=Tryz.f124) Tryz.func124 rfl rfl rfl];simpa [qa0,qcw] using h
theorem sorted_nil (q:Nat) (qo:Bool) (σ:CSt) (hq:σ.get q=some (.cells [.map none] 111 qo)) (hqn:q<σ.n) (Q:Out→CSt→Prop)
  (h:∀(σ':CSt),Grow σ σ'→Q (.ret (.slice none 0 0) false) σ'):W E1 (.fn 116 #[qcw q] none) σ Q:=by
 rw [qap (fn:=Tryz.f116) Tryz.func116 rfl rfl rfl];simp [qa0];rw [qap (fn:=Tryz.f200) Tryz.func200 rfl rfl rfl];simp [qa0];rw [qap (fn:=Tryz.f244) Tryz.func244 rfl rfl rfl];simp [qa0];have g0:Grow σ (σ.alloc (.cells [.slice none 0 0] 119 false)):=(Grow.refl σ).alloc _;have hc0:(σ.alloc (.cells [.slice none 0 0] 119 false)).get σ.n=some (.cells [.slice none 0 0] 119 false):=by simp
 have hn0:(σ.alloc (.cells [.slice none 0 0] 119 false)).n=σ.n+1:=by simp
 have hq0:=g0.get hq hqn;generalize σ.alloc (.cells [.slice none 0 0] 119 false)=s1 at g0 hc0 hn0 hq0⊢;rw [qcc (by simp [qcw];exact⟨rfl,rfl,rfl⟩) rfl]
 generalize hlo:CObj.loop LoopState.ready _ _ _ _ _ _ _=lo;have g1:Grow s1 (s1.alloc lo):=(Grow.refl s1).alloc _;have hl1:(s1.alloc lo).get s1.n=some lo:=by simp
 have hn1:(s1.alloc lo).n=s1.n+1:=by simp
 have hq1:=g1.get hq0 (by omega)
 have hc1:=g1.get hc0 (by omega)
 generalize s1.alloc lo=s2 at g1 hl1 hn1 hq1 hc1⊢;rw [qap (fn:=Tryz.f206) Tryz.func206 rfl rfl rfl];have g2:Grow s2 (s2.alloc (.miter none 0 #[] 0)):=(Grow.refl s2).alloc _;have hit:(s2.alloc (.miter none 0 #[] 0)).get s2.n=some (.miter none 0 #[] 0):=by simp
 have hnx:=qkm hit;have hl2:=g2.get hl1 (by omega)
 have hc2:=g2.get hc1 (by omega)
 have hrn:=qic s2;simp [qa0,hq1,hrn];generalize s2.alloc (.miter none 0 #[] 0)=s3 at g2 hnx hl2 hc2⊢;rw [qeq];simp [qa0,hnx];unfold qgr;rw [hl2,←hlo];simp only;rw [if_neg (by decide)]
 have g3:=(g0.trans g1).trans g2;have hg4:=g3.put (i:=s1.n) (by omega)
 have hc3:∀o,(s3.put s1.n o).get σ.n=some (.cells [.slice none 0 0] 119 false):=λo=>by rw [CSt.get_put,if_neg (by omega)];exact hc2
 have hgo:=λo=>h _ (hg4 o)
 simp [qa0,hc3];rw [qj1 (g:=qs2 9 1 qri) rfl rfl (args:= #[.slice none 0 0]) (v:= .tuple #[]) rfl];simp [qa0];exact hgo _
end Go.Sm.KyV
namespace Go.Sm
open Go Go.Proofs
set_option maxRecDepth 100000
set_option maxHeartbeats 4000000
section
variable {F:Nat→Prop} {σ:CSt} {g:Nat} {P:PM}
theorem qwg (h:RG F σ g P) (hok:P.Ok) (hsz:P.size<2^30) {n:Int} {t:Tx} (ht:P.get n=some t) (Q:Out→CSt→Prop)
  (h1:∀v σ',Sl σ' 9 1 Str.encS v (t.wr.map (·.1))→Grow σ σ'→Q (.ret v false) σ'):W E1 (.fn 56 #[ptr g, .int .i64 n] none) σ Q:=by
 cases hs:t.snap with
 |false=>exact qt0 h hok hsz ht hs Q h1
 |true=>
  obtain⟨sp,ml,mt,v,X,Wn,ks,h⟩:=h;rw [qap (fn:=Tryz.f56) Tryz.func56 rfl rfl rfl];have hgt:=λQ=>qci h n Q
  unfold ptr at hgt;simp [qa0,ptr];refine hgt _ (λt' ht'=> ?_) λhn'=>(by rw [ht] at hn';cases hn')
  have hm:=(qao hok).1 ht;have hto:=hok.tx _ hm;have htx:=h.lv.tx _ hm;simp only at hto htx;have hx:=htx.cell;unfold qfo hdK at hx;have hwr:t.wr= []:=(hto.s hs).2.2.2;have hwv:wv t (Wn n)=Value.map none:=by unfold wv;rw [hs];rfl
  rw [hwv] at hx;simp [qa0,hx];refine KyV.keys_nil _ _ ?_;have ga:Grow σ (σ.alloc (.cells [.map none] 111 false)):=(Grow.refl σ).alloc _;have hqa:(σ.alloc (.cells [.map none] 111 false)).get σ.n=some (.cells [.map none] 111 false):=by simp
  have hna:(σ.alloc (.cells [.map none] 111 false)).n=σ.n+1:=by simp
  simp [qa0];generalize σ.alloc (.cells [.map none] 111 false)=s1 at ga hqa hna⊢;refine KyV.sorted_nil σ.n false s1 hqa (by omega) _ λw6 g6=> ?_
  have:=h1 (.slice none 0 0) w6 (by rw [hwr];exact Sl.nil) (ga.trans g6)
  simpa [qa0] using this
end
end Go.Sm
namespace Go.Sm
open Go Go.Proofs
set_option maxRecDepth 100000
set_option maxHeartbeats 4000000
theorem frz_eq (n a:Int) (L:List Lk):(L.map (qkl n a)).filter (λx=>full x.sp)=qqk n a L:=by
 unfold qqk
 induction L with
 |nil=>rfl
 |cons l L ih=>
  rw [List.map_cons,List.map_cons,List.filter_cons,List.filter_cons,ih];unfold qkl;by_cases e:l.owner=n
  ·rw [if_pos e,if_pos e];simp only;unfold qc7;by_cases c:a+1≤l.sp.lo
   ·rw [if_pos c,if_neg (by decide),if_neg (by simp [full];omega)]
   ·rw [if_neg c];unfold qd4;by_cases c2:l.sp.lo≤min l.sp.hi (a+1-1)
    ·simp only [c2,if_true];have:min l.sp.hi (a+1-1)=min l.sp.hi a:=by omega
     rw [this]
    ·simp only [c2,if_false];rw [if_neg (by decide),if_neg (by simp [full];omega)]
  ·rw [if_neg e,if_neg e]
theorem prg_eq (t:Int) (L:List Lk):(L.map (qja t)).filter (λx=>full x.sp)=qkb t L:=by
 unfold qkb
 induction L with
 |nil=>rfl
 |cons l L ih=>
  rw [List.map_cons,List.map_cons,List.filter_cons,List.filter_cons,ih];unfold qja;by_cases e:l.owner=0
  ·rw [if_pos e,if_pos e];simp only;unfold qbi;by_cases c:l.sp.hi≤t
   ·rw [if_pos c,if_neg (by decide),if_neg (by simp [full];omega)]
   ·rw [if_neg c];unfold qd4;by_cases c2:max l.sp.lo (t+1)≤l.sp.hi
    ·simp only [c2,if_true]
    ·simp only [c2,if_false];rw [if_neg (by decide),if_neg (by simp [full];omega)]
  ·rw [if_neg e,if_neg e]
theorem MIt.ch {κ:Type} {key:κ→Value} {s s':CSt} {r m:Nat} {M S:MlG κ} {T:TypeId→Prop} {Mm F:Nat→Prop} (h:MIt key s r m M S) (hr:r<s.n) (hm:m<s.n) (k:Ch T Mm F s s') (hn:F m→¬Mm m):MIt key s' r m M S:=by
 obtain⟨es,clock,seen,a,b,c,d⟩:=id h;refine h.congr (k.2 r hr λ⟨_,h2⟩=> ?_) (k.2 m hm λ⟨h1,h2⟩=> ?_)
 ·rw [c] at h2;rcases h2 with⟨_,_,_,h3,_⟩|⟨_,_,h3,_⟩<;>cases h3
 ·rw [a] at h2;exact hn h1 (zav.1 h2)
def CmI (P:PM) (a:Int) (W:Ml) (F:Nat→Prop) (σ s:CSt) (g sp ml mt:Nat) (v:Value) (X Wn:Int→Nat) (ks:List Int) (it w m:Nat):Prop:=∃(D:List (ByteArray×Ver)) (S:Ml),m=List.length S∧MIt Value.string s it w W S∧W.Perm (qed D++S)∧RGx F s g sp ml mt v X Wn ks {P with S:=qcp a D P.S}∧Ch gT qcd F σ s∧it<s.n∧w<s.n∧SOk (max P.clock a) (qcp a D P.S)∧vsz (qcp a D P.S)+List.length S≤P.size
section
variable {F:Nat→Prop} {σ:CSt} {g sp ml mt:Nat} {v:Value} {X Wn:Int→Nat} {ks:List Int} {P:PM}
theorem qpx (h:RG F σ g P) (hF:∀i,σ.n≤i→F i) (hn:gnone σ) (hok:P.Ok) (hsz:P.size<2^15) (n:Int) (Q:Out→CSt→Prop)
  (h1:∀σ',RG F σ' g (P.commit n).2→Ch gT qcd F σ σ'→Q (.ret (.tuple #[.int .u64 (P.commit n).1.1, .int .i64 (P.commit n).1.2]) false) σ'):W E1 (.fn 39 #[ptr g, .int .i64 n] none) σ Q:=by
 obtain⟨sp,ml,mt,v,X,Wn,ks,h⟩:=h;rw [qap (fn:=Tryz.f39) Tryz.func39 rfl rfl rfl];have hpt:=λQ=>qlq h hn hok hsz n Q
 unfold ptr at hpt;have hz:0<σ.n:=by have:=h.lt;omega
 have hL:P.L.length<2^36:=by
  have:P.L.length≤P.size:=by unfold PM.size;omega
  omega
 simp [qa0,ptr];refine hpt _ λs1 g1=> ?_
 have hr1:=h.grow g1;have hg1:=hr1.cell;have hlk:qbr Tryz.prog s1 82 (.map (some ml)) (.int .i64 n) false=_:=qd2 (P:=Tryz.prog) (key:=Value.int .i64) (kd:= .int .i64) (t:=82) (kt:=3) (et:=73) (k:=n) Tryz.underlying82 (by kernel_rfl) (qbv .i64) (z:= .pointer none) (by kernel_rfl) hr1.lv.map false
 rw [qh0] at hlk;have hgm:(P.live.find? λx=>decide (x.1=n)).map (λ_=>ptr (X n))=(P.get n).map λ_=>ptr (X n):=by unfold PM.get;cases P.live.find? λx=>decide (x.1=n)<;>rfl
 rw [hgm] at hlk;simp only [Bool.false_eq_true,if_false] at hlk;have hF1:∀i,s1.n≤i→F i:=λi hi=>hF i (Nat.le_trans g1.n hi)
 have hdr:=λQ s (k:Grow s1 s)=>qjr ⟨sp,ml,mt,v,X,Wn,ks,hr1.grow k⟩ (λi hi=>hF1 i (Nat.le_trans k.n hi)) hok hL n Q
 unfold ptr at hg1 hlk hdr;cases hgn:P.get n with
 |none=>
  rw [hgn] at hlk;simp at hlk;have e:P.point n=(0,4):=by unfold PM.point;rw [hgn]
  have e2:P.commit n=((0,4),P):=by unfold PM.commit;rw [hgn]
  have:=h1 s1 (by rw [e2];exact⟨sp,ml,mt,v,X,Wn,ks,hr1⟩) g1.ch
  rw [e2] at this;rw [e];simpa [qa0,qa2,qa4,hg1,hlk] using this
 |some t=>
  rw [hgn] at hlk;simp at hlk;have hm:=(qao hok).1 hgn;have hto:=hok.tx _ hm;have htx:=hr1.lv.tx _ hm;simp only at hto htx;have hx1:=htx.cell;have hxl:=htx.lx;unfold qfo hdK at hx1;cases hs:t.snap with
  |true=>
   have e:=qf0 hgn hs;have e2:=qem hgn hs;rw [e2] at h1;rw [e];rw [hs] at hx1;simp [qa0,qa2,qa4,hg1,hlk,hx1];refine hdr _ s1 (Grow.refl _) λs2 hr2 hc2=> ?_
   have:=h1 s2 hr2 (g1.ch.trans hc2);simpa [qa0] using this
  |false=>
   rcases qbw hok hgn hs with⟨hp,_⟩|⟨a,hp,ha1,ha2,hfree,_⟩
   ·have e2:=qcm hgn hp;rw [e2] at h1;rw [hp];simp [qa0,qa2,qa4,hg1,hlk];refine hdr _ s1 (Grow.refl _) λs2 hr2 hc2=> ?_
    have:=h1 s2 hr2 (g1.ch.trans hc2);simpa [qa0] using this
   ·have e2:=qda hgn hs hp;rw [e2] at h1;rw [hp];rw [hs] at hx1;have hxw:=hto.w hs;obtain⟨hFw,hlw,W,hW,hpW⟩:=htx.wr hs;have hwv:wv t (Wn n)= .map (some (Wn n)):=by unfold wv;rw [hs];rfl
    rw [hwv] at hx1;obtain⟨o,ho,hit⟩:=qb3 (P:=Tryz.prog) (t:=111) Tryz.underlying111 hW hlw;simp [qa0,qa2,qa4,hg1,hlk,hx1,ho];have ga:Grow s1 (s1.alloc o):=(Grow.refl s1).alloc o;generalize hsae:s1.alloc o=sa at hit ga⊢;have hsan:s1.n<sa.n:=by rw [←hsae];simp
    have hWl:W.length=t.wr.length:=by have:=hpW.length_eq;rw [this];unfold qed;simp
    have hWs:vsz P.S+List.length W≤P.size:=by
     rw [hWl];have:t.wr.length≤wsz P.live:=by
      unfold wsz;exact qlr (List.mem_map.2 ⟨(n,t),hm,rfl⟩)
     unfold PM.size;omega
    have hso:SOk (max P.clock a) P.S:=(Ok.sok hok).later (by omega)
    refine qak (λm ac s=>∃tm,ac=⟨tm,90, [],false⟩∧tm.get 0=some (.pointer (some ⟨g,0,none⟩))∧tm.get 1=some (.int .i64 n)∧tm.get 6=some (.int .u64 a)∧tm.get 48=some (.pointer (some ⟨s1.n,0,none⟩))∧CmI P a W F σ s g sp ml mt v X Wn ks s1.n (Wn n) m)
     (λout s=>∃tm,out= .code (.exit 1) ⟨tm,90, [],false⟩∧tm.get 0=some (.pointer (some ⟨g,0,none⟩))∧tm.get 1=some (.int .i64 n)∧tm.get 6=some (.int .u64 a)∧RGx F s g sp ml mt v X Wn ks {P with S:=qcp a t.wr P.S}∧Ch gT qcd F σ s) ?_ (List.length W) _ _ ?_ ?_
    ·rintro m ac s ⟨tm,rfl,e0,e1,e6,e48,⟨D,S,hm1,hi,hpm,hrs,hcs,hits,hws,hsok,hvs⟩⟩;simp [qa0,e0,e1,e6,e48];refine qbb hi (λhS=> ?_) (λj hj o' hi' he=> ?_)
     ·subst hS;simp [qa0];refine⟨e0,e1,e6, ?_,hcs⟩;rw [List.append_nil] at hpm;have hDw:(qed D).Perm (qed t.wr):=hpm.symm.trans hpW;have hDp:D.Perm t.wr:=by
       have h3:=hDw.map (λp:ByteArray×Value=>(p.1,match p.2 with| .agg ⟨[.int _ x, .string y, .bool z]⟩=>(⟨x,y,z⟩:Ver)|_=>⟨0,⟨#[]⟩,false⟩))
       unfold qed at h3;rw [List.map_map,List.map_map] at h3;have hid:∀l:List (ByteArray×Ver),l.map ((λp:ByteArray×Value=>(p.1,match p.2 with| .agg ⟨[.int _ x, .string y, .bool z]⟩=>(⟨x,y,z⟩:Ver)|_=>⟨0,⟨#[]⟩,false⟩))∘λp=>(p.1, .agg (qad p.2).toArray))=l:=λl=>by
        conv=>rhs;rw [←List.map_id l]
        rfl
       rw [hid,hid] at h3;exact h3
      rw [qqg a hDp ((hDp.map _).nodup_iff.2 (qce hto.up)) hok.ks] at hrs;exact hrs
     ·have hSm:S[j]∈qed t.wr:=hpW.mem_iff.1 (hpm.mem_iff.2 (by simp))
      obtain⟨q,hq,hqe⟩:=List.mem_map.1 hSm;have hku:S[j]=(q.1, .agg (qad q.2).toArray):=hqe.symm;have hqo:=hto.wr q hq;rw [hku] at he⊢;simp only [qad] at he;have hcs':Ch gT qcd F σ (s.put s1.n o'):=hcs.new g1.n _;have hrs':=hrs.cm (hi.cm o');have hn':(s.put s1.n o').n=s.n:=rfl;generalize s.put s1.n o'=s5 at hi' he hcs' hrs' hn'⊢;have hσ5:σ.n≤s5.n:=hcs'.1;have g6:Grow s5 (((s5.alloc (.cells [.int .u64 0, .string ⟨#[]⟩, .bool false] 40 false)).put s5.n (.cells [.int .u64 q.2.at_, .string q.2.val, .bool q.2.gone] 40 false)).put s5.n (.cells [.int .u64 a, .string q.2.val, .bool q.2.gone] 40 false)):=(((Grow.refl s5).alloc _).put (Nat.le_refl _) _).put (Nat.le_refl _) _;have hc6:(((s5.alloc (.cells [.int .u64 0, .string ⟨#[]⟩, .bool false] 40 false)).put s5.n (.cells [.int .u64 q.2.at_, .string q.2.val, .bool q.2.gone] 40 false)).put s5.n (.cells [.int .u64 a, .string q.2.val, .bool q.2.gone] 40 false)).get s5.n=some (.cells [.int .u64 a, .string q.2.val, .bool q.2.gone] 40 false):=by simp
      simp [qa0,he,e0,e1,e6,e48];generalize ((s5.alloc (.cells [.int .u64 0, .string ⟨#[]⟩, .bool false] 40 false)).put s5.n (.cells [.int .u64 q.2.at_, .string q.2.val, .bool q.2.gone] 40 false)).put s5.n (.cells [.int .u64 a, .string q.2.val, .bool q.2.gone] 40 false)=s6 at g6 hc6⊢;have hr6:=hrs'.grow g6;have hg6:=hr6.cell;have hxv:1≤a∧a≤max P.clock a∧q.2.val.size≤200∧Gv ⟨a,q.2.val,q.2.gone⟩:=⟨by omega,by omega,hqo.2.2.1,hqo.2.2.2⟩
      have hsok2:=hsok.put (k:=q.1) (x:=⟨a,q.2.val,q.2.gone⟩) hqo.1 hxv;have hvs2:=za3 (qcp a D P.S) q.1 ⟨a,q.2.val,q.2.gone⟩;have hps:=λQ=>za9 F sp (qcp a D P.S) hsok.1 (λs hs=>(hsok.2 s hs).2.2.1) (λs hs=>by have:=qxp hs;omega) q.1 ⟨a,q.2.val,q.2.gone⟩ s6 (λi hi=>hF i (Nat.le_trans (Nat.le_trans hσ5 g6.n) hi)) hr6.st (by have:=qus (S:=qcp a D P.S) λs hs=>(hsok.2 s hs).2.1;omega) Q
      simp only [qad] at hps;unfold ptr at hg6;refine qba (by kernel_rfl) ?_
      simp [qa6,e0,hg6,hc6];refine hps _ λs7 hst7 hc7=> ?_
      have hr7:=hr6.stCh hst7 hc7;have hsn:(qcp a (D++ [q]) P.S)=qjt (qcp a D P.S) q.1 ⟨a,q.2.val,q.2.gone⟩:=by unfold qcp;rw [List.foldl_append];rfl
      simp [qa6,qa0,e0,e1,e6,e48];refine⟨(S.eraseIdx j).length,by rw [hm1,List.length_eraseIdx_of_lt hj];omega,D++ [q],S.eraseIdx j,rfl, ?_, ?_, ?_,(hcs'.trans g6.ch).trans (qve hc7), ?_, ?_, ?_, ?_⟩
      ·exact(hi'.grow (by omega) (by omega) g6).ch (by have:=g6.n;omega) (by have:=g6.n;omega) hc7 λ_ h=>h
      ·refine hpm.trans ?_;have:=qbn hj;rw [hku] at this;unfold qed;rw [List.map_append,List.append_assoc];exact List.Perm.append_left _ this
      ·rw [hsn];exact hr7
      ·have:=g6.n;have:=hc7.1;omega
      ·have:=g6.n;have:=hc7.1;omega
      ·rw [hsn];exact hsok2
      ·rw [hsn,List.length_eraseIdx_of_lt hj];omega
    ·refine⟨_,rfl, ?_⟩;simp;exact⟨[],W,rfl,hit, .refl _,hr1.grow ga,(g1.trans ga).ch,hsan,by omega,hso,hWs⟩
    ·rintro out s ⟨tm,rfl,e0,e1,e6,hrs,hcs⟩;have hLok:∀l∈P.L,l.sp.ok:=λl hl=>by have:=(hok.lk l hl).2;unfold Sn.ok;omega
     simp [qa0,e0,e1,e6];refine qqe 0 g v P.L hLok n a (by omega) (by omega) s (qoc hn hz hcs gT0) hrs.tb hL _ λv' s2 htb2 hob hbt=> ?_
     rw [frz_eq] at htb2;have hv':inF F v':=λj hj=>h.fv j (by rw [←hob];exact hj)
     have hr2:=hrs.tbCh htb2 hv' hbt;have hc2:=hcs.trans (qp2 (hrs.btCh hbt));obtain⟨o3,ho3,hm3⟩:=qct (P:=Tryz.prog) (key:=Value.int .u64) (kd:= .int .u64) (t:=83) (kt:=22) (et:=206) (k:=a) Tryz.underlying83 (by kernel_rfl) (qbv .u64) hr2.tk (.agg #[])
     have hnk:a∉ks:=λhk=>qn2 hfree ((h.tkp a).1 hk)
     rw [qiw λp hp e=>hnk (by obtain⟨b,hb,rfl⟩:=List.mem_map.1 hp;simp only at e;rw [←e];exact hb)] at hm3
     have hm3':MpG (Value.int .u64) (s2.put mt o3) mt ((ks++ [a]).map λa=>(a, .agg #[])):=by rw [List.map_append];exact hm3
     obtain⟨hr3,hc3⟩:=hr2.tkCh hm3' (tk':=P.taken++ [a]) λb=>by simp only [List.mem_append,List.mem_singleton,h.tkp]
     have hmax:(if P.clock<a then a else P.clock)=max P.clock a:=by split<;>omega
     have hr4:=hr3.setC (max P.clock a) P.last;have hc4:=hr3.chC (.cells [ptr sp,v', .int .u64 (max P.clock a), .int .i64 P.last, .map (some ml), .map (some mt)] 85 false);obtain⟨o5,ho5,hm5,_⟩:=qdo (P:=Tryz.prog) (key:=Value.int .i64) (kd:= .int .i64) (ts:= #[82,3]) (t:=82) (kt:=3) (et:=73) (k:=n) rfl Tryz.underlying82 (by kernel_rfl) (qbv .i64) hr4.lv.map
     have hlv5:=hr4.lv.del n hm5;have kml:=hr4.chMl o5;have hr5:=hr4.lvCh kml hlv5 λq hq hs=>hr4.tw q (List.mem_filter.1 hq).1 hs
     have fin:=h1 _ ⟨sp,ml,mt,v',X,Wn,ks++ [a],hr5⟩ (((hc2.trans (gT_tk hc3)).trans hc4).trans (qre kml));have hg2:=hr2.cell;have hg3:=hr3.cell;unfold ptr at hg2 hg3 ho5 fin;have hgmt:¬g=mt:=by
      rintro rfl;obtain⟨es,c,e⟩:=hr2.tk.isMap;rw [e] at hg2;cases hg2
     simp only [←hmax] at ho5 fin;simp [qa0,e0,e1,e6,hg2,ho3,hgmt,maxK];simpa [qa0,ho5,e6] using fin
end
theorem qsq (g:FuncId) (caps:Array Value) (hext:∀args s,qcr E1 (.func (.func g) #[] caps) args s=none) (p:RV→Bool) (Ok:CSt→Prop) (hog:∀s s',Ok s→Grow s s'→Ok s') (l:List RV) (v:Value) (σ:CSt) (hsl:Sl σ 267 2 qb4 v l) (hok:Ok σ)
  (hpred:∀x∈l,∀s Q,Ok s→(∀s',Grow s s'→Q (.ret (.bool (p x)) false) s')→W E1 (.fn g (#[.agg (qb4 x).toArray]++caps) none) s Q) (hbig:l.length<2^40) (Q:Out→CSt→Prop)
  (h:∀(r:Int) (σ':CSt),((r= -1∧∀x∈l,p x=false)∨∃k:Nat,r=k∧∃hk:k<l.length,p l[k]=true∧∀i (hi:i<l.length),i<k→p l[i]=false)→Grow σ σ'→Q (.ret (.int .i64 r) false) σ'):W E1 (.fn 245 #[v, .func (.func g) #[] caps] none) σ Q:=by
 rw [qap (fn:=Tryz.f245) Tryz.func245 rfl rfl rfl];obtain⟨pp,c,rfl⟩:=hsl.form;simp [qa0];refine qaj (λn a σ'=>∃tm j,a=⟨tm,19, [],false⟩∧tm.get 0=some (.slice pp l.length c)∧tm.get 1=some (.func (.func g) #[] caps)∧tm.get 7=some (.int .i64 l.length)∧tm.get 8=some (.int .i64 (j:Nat))∧j≤l.length∧n=l.length-j∧(∀i (h:i<l.length),i<j→p l[i]=false)∧Grow σ σ') ?_ l.length _ _ ?_
 ·rintro n a σ1 ⟨tm,j,rfl,e0,e1,e7,e8,hj,hn,hno,hgr⟩;by_cases hjl:j<l.length
  ·obtain⟨i,off,row,ro,rfl,hg,hin,hrow,hle⟩:=(hsl.grow hgr).at hjl;have hld:=qam (enc:=qb4) qga hrow j hjl;have hl1:=qbe hle j hjl;have hw2:=qb7 j (by omega)
   simp [qa0,e0,e1,e7,e8,hjl,hg,hld,hl1,hext];have hpr:=λQ=>hpred l[j] (List.getElem_mem hjl) σ1 Q (hog _ _ hok hgr)
   try simp at hpr
   refine hpr _ fun σ2 g2=> ?_
   cases hat:p l[j] with
   |true=>
    have:=h j σ2 (.inr ⟨j,rfl,hjl,hat,hno⟩) (hgr.trans g2);simpa [qa0,hat] using this
   |false=>
    simp [qa0,hat,e0,e1,e7,e8,hw2];refine⟨_, ?_,j+1,rfl,by omega,rfl,λi h hi=> ?_,hgr.trans g2⟩
    ·omega
    ·by_cases e:i=j
     ·subst e;exact hat
     ·exact hno i h (by omega)
  ·have hjl':j=l.length:=by omega
   have:=h (-1) σ1 (.inl ⟨rfl,λx hx=>by
    obtain⟨i,hi,rfl⟩:=List.mem_iff_getElem.1 hx
    exact hno i hi (by omega)⟩) hgr
   simpa [qa0,e0,e1,e7,e8,hjl] using this
 ·refine⟨_,0,rfl, ?_⟩;simp;exact Grow.refl σ
theorem qqf (g:FuncId) (caps:Array Value) (hext:∀args s,qcr E1 (.func (.func g) #[] caps) args s=none) (p:RV→Bool) (Ok:CSt→Prop) (b:Nat) (l:List RV) (v:Value) (σ:CSt) (hog:∀s s',Ok s→qd3 v s s'→Ok s') (hown:qbj b σ 267 qb4 v l) (hok:Ok σ)
  (hpred:∀x∈l,∀s Q,Ok s→(∀s',Grow s s'→Q (.ret (.bool (p x)) false) s')→W E1 (.fn g (#[.agg (qb4 x).toArray]++caps) none) s Q) (hbig:l.length<2^38) (Q:Out→CSt→Prop)
  (h:∀(v':Value) (σ':CSt),qbj b σ' 267 qb4 v' (l.filter λx=> !p x)→(qb1 v'=qb1 v)→qd3 v σ σ'→Q (.ret v' false) σ'):W E1 (.fn 203 #[v, .func (.func g) #[] caps] none) σ Q:=by
 rw [qap (fn:=Tryz.f203) Tryz.func203 rfl rfl rfl];obtain⟨pp,c,rfl⟩:=(hown.sl (sz:=2) qga).form;simp [qa0];refine qsq g caps hext p Ok (λs s' h1 h2=>hog s s' h1 h2.butV) l _ σ (hown.sl qga) hok hpred (by omega) _ λr σ1 hr g1=> ?_
 rcases hr with⟨rfl,hall⟩|⟨k,rfl,hk,hpk,hno⟩
 ·have hf:(l.filter λx=> !p x)=l:=List.filter_eq_self.2 λx hx=>by simp [hall x hx]
  have:=h _ σ1 (by rw [hf];exact hown.grow g1) rfl g1.butV
  simpa [qa0] using this
 ·have hk1:¬((k:Nat):Int)= -1:=by omega
  have hwk:=qb7 k (by omega)
  rcases hown with⟨h0,h1⟩|⟨i0,cap,zs,h0,hbi,hin,hg0,hzs,hcap⟩
  ·rw [h1] at hk;simp at hk
  injection h0 with h0 _ h00
  subst h0;subst h00;have hcap:c=qa1:=by
   rcases hcap with hc|⟨hc,_⟩
   ·exact hc
   ·rw [hc] at hk;simp at hk
  subst hcap;have hobj:qb1 (.slice (some ⟨i0,0,none⟩) l.length qa1)=some i0:=rfl;simp [qa0,hk1,hwk];refine qak (λn a s=>∃(tm:Tr Value) (i j:Nat) (d:List RV),a=⟨tm,42, [],false⟩∧tm.get 0=some (.slice (some ⟨i0,0,none⟩) l.length qa1)∧tm.get 1=some (.func (.func g) #[] caps)∧tm.get 5=some (.int .i64 (i:Nat))∧tm.get 6=some (.int .i64 (j:Nat))∧j≤l.length∧n=l.length-j∧d.length=l.length∧d.take i=((l.take j).filter λx=> !p x)∧i=((l.take j).filter λx=> !p x).length∧d.drop j=l.drop j∧i<j∧s.get i0=some (.cells (d.flatMap qb4++zs) 267 false)∧qd3 (.slice (some ⟨i0,0,none⟩) l.length qa1) σ s)
   (λo s=>∃(tm:Tr Value) (i:Nat) (d:List RV),o= .code (.exit 0) ⟨tm,42, [],false⟩∧tm.get 0=some (.slice (some ⟨i0,0,none⟩) l.length qa1)∧tm.get 5=some (.int .i64 (i:Nat))∧d.length=l.length∧d.take i=(l.filter λx=> !p x)∧i=(l.filter λx=> !p x).length∧i<l.length∧s.get i0=some (.cells (d.flatMap qb4++zs) 267 false)∧qd3 (.slice (some ⟨i0,0,none⟩) l.length qa1) σ s) ?_ (l.length-(k+1)) _ _ ?_ ?_
  ·rintro n a s ⟨tm,i,j,d,rfl,e0,e1,e5,e6,hj,hn,hd,ht,hi,hdr,hij,hgs,hbs⟩;by_cases hjl:j<l.length
   ·have hjl':(j:Int)<l.length:=by omega
    have hjd:j<d.length:=by omega
    have hdj:=qh9 hjl hd hdr;have hrow:=rowZ qga d zs;have hrl:(d.flatMap qb4++zs).length=d.length*2+zs.length:=by rw [List.length_append,qa5 qb4 qga]
    have hld:=qam (enc:=qb4) qga hrow j hjd;rw [Nat.zero_add,hdj] at hld;have hset:=λx=>qin qga d i x (by omega) zs
    have hw6:=qb7 j (by omega)
    have hw5:=qb7 i (by omega)
    have hil:i<l.length:=by omega
    have hsn:=hbs.1;generalize hrw:d.flatMap qb4++zs=row at hgs hrow hrl hld hset;have hle1:j*2+2≤row.length:=by omega
    have hle2:i*2+2≤row.length:=by omega
    have hne:¬i0=s.n:=by omega
    have hgw:Grow s ((s.alloc (.cells [.string ⟨#[]⟩, .slice none 0 0] 267 false)).put s.n (.cells (qb4 l[j]) 267 false)):=((Grow.refl s).alloc _).put (Nat.le_refl _) _;have hcw:((s.alloc (.cells [.string ⟨#[]⟩, .slice none 0 0] 267 false)).put s.n (.cells (qb4 l[j]) 267 false)).get s.n=some (.cells (qb4 l[j]) 267 false):=by simp
    have htk:List.take 2 (qb4 l[j])=qb4 l[j]:=List.take_of_length_le (by rw [qga];exact Nat.le_refl _)
    have hlen2:(qb4 l[j]).length=2:=qga _;have hcok2:qc9 (qb4 l[j])=true:=cokR _;have hnw:((s.alloc (.cells [.string ⟨#[]⟩, .slice none 0 0] 267 false)).put s.n (.cells (qb4 l[j]) 267 false)).n=s.n+1:=by simp
    simp [qa0,e0,e1,e5,e6,hjl,hjl',hgs,hld,hle1,hext,htk,hlen2,hcok2];generalize (s.alloc (.cells [.string ⟨#[]⟩, .slice none 0 0] 267 false)).put s.n (.cells (qb4 l[j]) 267 false)=s1 at hgw hcw hnw⊢;have hpr:=λQ=>hpred l[j] (List.getElem_mem hjl) s1 Q (hog _ _ hok (hbs.trans hgw.butV))
    try simp at hpr
    refine hpr _ λs2 g2=> ?_
    have g02:=hgw.trans g2;have hgs2:=g02.get hgs (by omega)
    have hcw2:=g2.get hcw (by omega)
    have hb2:=hbs.trans g02.butV;cases hp:p l[j] with
    |true=>
     obtain⟨k1,k2,k3⟩:=qc1 hjl ht hi hdr hp;simp [qa0,e0,e1,e5,e6,hw6];exact⟨n-1,by omega,i,rfl,j+1,rfl,by omega,by omega,d,hd,k1,k2,k3,by omega,by rw [hrw];exact hgs2,hb2⟩
    |false=>
     obtain⟨k0,k1,k2,k3⟩:=qc0 hjl hd ht hi hdr (by omega) hp
     have hset2:=hset l[j];have hil':(i:Int)<l.length:=by omega
     simp [qa0,e0,e1,e5,e6,hw5,hw6,hil,hil',hgs2,hcw2,htk,hlen2,hcok2,hle2];exact⟨n-1,by omega,i+1,rfl,j+1,rfl,by omega,by omega,d.set i l[j],k0,k1,k2,k3,by omega,by rw [←hset2,List.append_assoc],hb2.putV hobj _⟩
   ·have hjl':¬(j:Int)<l.length:=by omega
    have hje:j=l.length:=by omega
    rw [hje,List.take_length] at ht hi;simp [qa0,e0,e1,e5,e6,hjl,hjl'];exact⟨i,rfl,d,hd,ht,hi,by omega,hgs,hbs⟩
  ·have hft:=qfc hk hno hpk;refine⟨_,k,k+1,l,rfl, ?_⟩;simp;refine⟨by omega,by rw [hft],by rw [hft];simp;omega, ?_, ?_⟩
   ·exact g1.get hg0 hin
   ·exact g1.butV
  ·rintro o s ⟨tm,i,d,rfl,e0,e5,hd,ht,hi,hil,hgs,hbs⟩;have hzl:((List.replicate (l.length-i) ([.string ⟨#[]⟩, .slice none 0 0]:List Value)).flatten).length=(l.length-i)*2:=by
    rw [List.length_flatten];simp
   have hzc:qc9 ((List.replicate (l.length-i) ([.string ⟨#[]⟩, .slice none 0 0]:List Value)).flatten)=true:=qho _ _ rfl;have hrl:(d.flatMap qb4++zs).length=d.length*2+zs.length:=by rw [List.length_append,qa5 qb4 qga]
   have hcl:=qp7 qga d i (by omega) zs ((List.replicate (l.length-i) ([.string ⟨#[]⟩, .slice none 0 0]:List Value)).flatten) (by rw [hzl,hd])
   have hst:st (d.flatMap qb4++zs) (i*2) ((List.replicate (l.length-i) ([.string ⟨#[]⟩, .slice none 0 0]:List Value)).flatten)=some ((d.take i).flatMap qb4++((List.replicate (l.length-i) ([.string ⟨#[]⟩, .slice none 0 0]:List Value)).flatten++zs)):=by
    rw [←hcl];unfold st;rw [if_pos (by rw [hzl,hrl,hd];omega)]
   generalize hrw:d.flatMap qb4++zs=row at hgs hrl hcl hst;have hil':¬l.length-i=0:=by omega
   have hi2:i≤l.length:=by omega
   have hle3:l.length*2≤row.length:=by omega
   have hle4:i*2≤row.length:=by omega
   simp [qa0,e0,e5,qb5,qdn,qgy,qiz,hgs,hi2,hil',hst,hle3,hle4,-qi0];rw [ht,hi];refine h _ _ (.inr ⟨i0,qa1,_,rfl,hbi,Nat.lt_of_lt_of_le hin hbs.1,by rw [CSt.get_put,if_pos rfl], ?_, .inl rfl⟩) rfl (hbs.putV hobj _)
   rw [qcb,hzs,←hi,hzc];rfl
theorem Rws.nil_ {σ:CSt}:Rws σ [] []:=⟨rfl,λj h=>by simp at h⟩
theorem Rws.cons_ {σ:CSt} {r:RV} {s:ByteArray×List Ver} {R:List RV} {S:Stl} (h:Rws σ (r::R) (s::S)):(r.key=s.1∧Sl σ 40 3 qad (.slice r.p r.n r.c) s.2)∧Rws σ R S:=
 ⟨h.2 0 (by simp) (by simp),by have:=h.1;simpa using this,λj h1 h2=>h.2 (j+1) (by simpa using h1) (by simpa using h2)⟩
theorem Rws.mk_ {σ:CSt} {r:RV} {s:ByteArray×List Ver} {R:List RV} {S:Stl} (h1:r.key=s.1∧Sl σ 40 3 qad (.slice r.p r.n r.c) s.2) (h:Rws σ R S):Rws σ (r::R) (s::S):=
 ⟨by simp [h.1],λj a b=>by
  cases j with
  |zero=>exact h1
  |succ j=>exact h.2 j (by simpa using a) (by simpa using b)⟩
theorem sl_len {α:Type} {σ:CSt} {e:TypeId} {sz:Nat} {enc:α→List Value} {p:Option Addr} {n c:Nat} {l:List α} (h:Sl σ e sz enc (.slice p n c) l):n=l.length:=by
 obtain⟨p',c',h1⟩:=h.form;cases h1;rfl
theorem Rws.filter_ {σ:CSt}:∀{R:List RV} {S:Stl},Rws σ R S→Rws σ (R.filter λr=> !decide (r.n=0)) (S.filter λs=> !decide (s.2.length=0))
 | [], [],_=>Rws.nil_
 | [],_::_,h=>by have:=h.1;simp at this
 |_::_, [],h=>by have:=h.1;simp at this
 |r::R,s::S,h=>by
  obtain⟨h1,h2⟩:=h.cons_;have ih:=Rws.filter_ h2;have hn:=sl_len h1.2;rw [List.filter_cons,List.filter_cons];by_cases e:s.2.length=0
  ·have e2:r.n=0:=by omega
   simp only [e,e2,decide_true,Bool.not_true,Bool.false_eq_true,if_false];exact ih
  ·have e2:¬r.n=0:=by omega
   simp only [e,e2,decide_false,Bool.not_false,if_true];exact Rws.mk_ h1 ih
theorem qw7 {t:Int} {S:Stl} {j:Nat} (h:j<S.length):qel t (S.take (j+1))=qel t (S.take j)+(S[j].2.length-(qer S[j].2 t).length):=by
 unfold qel;rw [List.take_succ_eq_append_getElem h,List.map_append,List.sum_append];simp
def qkh (S:Stl):Nat:=(S.map λs=>s.2.length).sum
theorem qog (t:Int):∀S:Stl,qel t S≤qkh S
 | []=>by simp [qel,qkh]
 |s::S=>by
  have:=qog t S;unfold qel qkh at*;simp;omega
theorem qwh (S:Stl) (j:Nat):qkh (S.take j)≤qkh S:=by
 have h:qkh S=qkh (S.take j)+qkh (S.drop j):=by
  unfold qkh;rw [←List.sum_append,←List.map_append,List.take_append_drop]
 omega
theorem cut_len (c:List Ver) (t:Int):(qer c t).length≤c.length:=by
 unfold qer;split
 ·exact Nat.le_refl _
 ·split<;>simp
theorem pred60 (r:RV) (s:CSt) (Q:Out→CSt→Prop) (h:∀s',Grow s s'→Q (.ret (.bool (decide (r.n=0))) false) s'):W E1 (.fn 204 (#[.agg (qb4 r).toArray]++ #[]) none) s Q:=by
 simp only [Array.append_empty];rw [qap (fn:=Tryz.f204) Tryz.func204 rfl rfl rfl];have hg:=h _ ((Grow.refl s).alloc (.cells (qb4 r) 267 false));simp only [qb4] at hg;by_cases e:r.n=0
 ·simpa [qa0,qb4,e] using hg
 ·have e2:¬(r.n:Int)=0:=by omega
  simpa [qa0,qb4,e,e2] using hg
theorem qtb (F:Nat→Prop) (i:Nat) (S:Stl) (hc:∀s∈S,Srt s.2) (hcl:∀s∈S,s.2.length<2^38) (t:Int) (σ:CSt) (hst:St F σ i S) (hbig:S.length<2^38) (hsum:qkh S<2^60) (Q:Out→CSt→Prop)
  (h:∀(σ':CSt),St F σ' i (qen t S)→Ch stT noM F σ σ'→Q (.ret (.int .i64 (qel t S)) false) σ'):
  W E1 (.fn 121 #[.pointer (some ⟨i,0,none⟩), .int .u64 t] none) σ Q:=by
 obtain⟨vr,R,hFI,hFv,hin,hg,hown,hrw⟩:=hst;rw [qap (fn:=Tryz.f121) Tryz.func121 rfl rfl rfl];obtain⟨pr,cr,rfl⟩:=(hown.sl (sz:=2) qga).form;have hl:=hrw.1;simp [qa0,hg];refine qak (λn a s=>∃(tm:Tr Value) (j:Nat) (R':List RV) (S':Stl),a=⟨tm,49, [],false⟩∧tm.get 0=some (.pointer (some ⟨i,0,none⟩))∧tm.get 1=some (.int .u64 t)∧tm.get 5=some (.int .i64 (qel t (S.take j)))∧tm.get 12=some (.slice pr R.length cr)∧tm.get 13=some (.int .i64 R.length)∧tm.get 14=some (.int .i64 (j:Nat))∧j≤R.length∧n=R.length-j∧R'.length=R.length∧S'.length=S.length∧Rws s R' S'∧S'.take j=(S.take j).map (qw6 t)∧S'.drop j=S.drop j∧s.get i=some (.cells [.slice pr R.length cr] 269 false)∧qbj 0 s 267 qb4 (.slice pr R.length cr) R'∧Ch stT noM F σ s)
  (λo s=>∃(tm:Tr Value) (R':List RV),o= .code (.exit 0) ⟨tm,49, [],false⟩∧tm.get 0=some (.pointer (some ⟨i,0,none⟩))∧tm.get 5=some (.int .i64 (qel t S))∧R'.length=R.length∧Rws s R' (S.map (qw6 t))∧s.get i=some (.cells [.slice pr R.length cr] 269 false)∧qbj 0 s 267 qb4 (.slice pr R.length cr) R'∧Ch stT noM F σ s) ?_ R.length _ _ ?_ ?_
 ·rintro n a s ⟨tm,j,R',S',rfl,e0,e1,e5,e12,e13,e14,hj,hn,hR',hS',hrw',htk,hdr,hgi,hown',hfr⟩;by_cases hjl:j<R.length
  ·have hjR:j<R'.length:=by omega
   have hjS:j<S.length:=by omega
   have hjS':j<S'.length:=by omega
   have hSj:=qh9 hjS hS' hdr;obtain⟨hkey,hch⟩:=hrw'.2 j hjR hjS';rw [hSj] at hkey hch;rcases hown' with⟨h0,h1⟩|⟨o,cap,zs,h0,hbo,hon,hgo,hzs,hcap⟩
   ·rw [h1] at hjR;simp at hjR
   rw [hR'] at h0;cases h0;have hrl:(R'.flatMap qb4++zs).length=R'.length*2+zs.length:=by rw [List.length_append,qa5 qb4 qga]
   have hrow:=rowZ qga R' zs;have hld:=qam (enc:=qb4) qga hrow j hjR;rw [Nat.zero_add] at hld;have hsetz:∀(p:Option Addr) (m c:Nat),(R'.flatMap qb4++zs).take (j*2+1)++ .slice p m c::(R'.flatMap qb4++zs).drop (j*2+1+1)=(R'.set j ⟨R'[j].key,p,m,c⟩).flatMap qb4++zs:=λp m c=>by
    have hrl1:=qa5 qb4 qga R';rw [List.take_append_of_le_length (by omega),List.drop_append_of_le_length (by omega),←List.cons_append,←List.append_assoc,qlx R' j hjR p m c]
   generalize hrwd:R'.flatMap qb4++zs=row at hgo hrl hrow hld hsetz;have hle1:j*2+2≤row.length:=by omega
   have hle2:j*2+1+1≤row.length:=by omega
   have hw2:=qb7 j (by omega)
   have hRn:=sl_len hch;have hne:¬o=s.n:=by omega
   have hgw:Grow s ((s.alloc (.cells [.string ⟨#[]⟩, .slice none 0 0] 267 false)).put s.n (.cells [.string R'[j].key, .slice R'[j].p R'[j].n R'[j].c] 267 false)):=((Grow.refl s).alloc _).put (Nat.le_refl _) _;have hcw:((s.alloc (.cells [.string ⟨#[]⟩, .slice none 0 0] 267 false)).put s.n (.cells [.string R'[j].key, .slice R'[j].p R'[j].n R'[j].c] 267 false)).get s.n=some (.cells [.string R'[j].key, .slice R'[j].p R'[j].n R'[j].c] 267 false):=by simp
   have hnw:((s.alloc (.cells [.string ⟨#[]⟩, .slice none 0 0] 267 false)).put s.n (.cells [.string R'[j].key, .slice R'[j].p R'[j].n R'[j].c] 267 false)).n=s.n+1:=by simp
   simp [qa0,e0,e1,e5,e12,e13,e14,hjl,hgo,hld,hle1];simp [qa0,qb4,e0,e1,e5,e12,e13,e14];generalize (s.alloc (.cells [.string ⟨#[]⟩, .slice none 0 0] 267 false)).put s.n (.cells [.string R'[j].key, .slice R'[j].p R'[j].n R'[j].c] 267 false)=s1 at hgw hcw hnw⊢;refine qxy S[j].2 (hc _ (List.getElem_mem hjS)) _ t s1 (hch.grow hgw) (by have:=hcl _ (List.getElem_mem hjS);omega) _ λv2 s2 h2 g2=> ?_
   obtain⟨p2,c2,rfl⟩:=(h2.sl (sz:=3) (λ_=>rfl)).form
   have gs2:=hgw.trans g2;have hcw2:=g2.get hcw (by omega)
   have his:i<s.n:=Nat.lt_of_lt_of_le hin hfr.1;have hgi2:=gs2.get hgi his;have hgo2:=gs2.get hgo hon;have hcl2:=cut_len S[j].2 t;have hcl3:=hcl _ (List.getElem_mem hjS);have hw1:IntKind.i64.wrap ((S[j].2.length:Int)-(qer S[j].2 t).length)=((S[j].2.length-(qer S[j].2 t).length:Nat):Int):=by rw [IntWalk.i64_in _ (by omega)];omega
   have hsucc:=qw7 (t:=t) hjS;have hwle:=Nat.le_trans (qog t (S.take (j+1))) (qwh S (j+1));have hw3:IntKind.i64.wrap ((qel t (S.take j):Int)+((S[j].2.length-(qer S[j].2 t).length:Nat):Int))=(qel t (S.take (j+1)):Nat):=by rw [IntWalk.i64_in _ (by omega)];omega
   simp [qa0,e0,e1,e5,e12,e13,e14,hcw2,hRn,hw1,hw3,hgi2,hjl,hgo2,hle2,hw2,hsetz];have hoi:¬i=o:=by
    rintro rfl;rw [hgi] at hgo;cases hgo
   have hfo:Fr (λt=>t=267) 0 s2 (s2.put o (.cells ((R'.set j ⟨R'[j].key,p2,(qer S[j].2 t).length,c2⟩).flatMap qb4++zs) 267 false)):=(Fr.refl (λt=>t=267) 0 s2).put (Nat.zero_le _) hgo2 rfl _
   have hrw2:=((hrw'.grow gs2).set j ⟨R'[j].key,p2,(qer S[j].2 t).length,c2⟩ (qw6 t S[j]) hkey (h2.sl (λ_=>rfl))).fr (T:=λt=>t=267) (by decide) hfo
   have htk2:(S'.set j (qw6 t S[j])).take (j+1)=(S.take (j+1)).map (qw6 t):=by
    rw [List.take_succ_eq_append_getElem (by simpa using hjS'),List.take_set_of_le (Nat.le_refl _),htk,List.take_succ_eq_append_getElem hjS,List.map_append]
    simp
   have hdr2:(S'.set j (qw6 t S[j])).drop (j+1)=S.drop (j+1):=by
    rw [List.drop_set_of_lt (by omega)]
    have:=congrArg (List.drop 1) hdr;simpa [List.drop_drop] using this
   refine⟨n-1,by omega,j+1,rfl,rfl,by omega,by omega,R'.set j ⟨R'[j].key,p2,(qer S[j].2 t).length,c2⟩,by simpa using hR',S'.set j (qw6 t S[j]),by simpa using hS',hrw2,by rw [htk2,List.map_take],hdr2,hoi, .inr ⟨o,cr,zs,by simp [hR'],hbo,Nat.lt_of_lt_of_le hon gs2.n,by rw [CSt.get_put,if_pos rfl],hzs, ?_⟩,(hfr.trans gs2.ch).put hgo2 (.inl rfl) (hFv o rfl) _⟩
   rcases hcap with hc1|⟨hc1,_⟩
   ·exact .inl hc1
   ·rw [hc1] at hjR;simp at hjR
  ·have hje:j=R.length:=by omega
   subst hje;rw [hl,←hS',List.take_length] at htk;rw [hS',List.take_length] at htk;rw [hl,List.take_length] at e5;subst htk;simp [qa0,e0,e1,e5,e12,e13,e14];exact⟨R',hR',hrw',hgi,hown',hfr⟩
 ·refine⟨_,0,R,S,rfl, ?_⟩;simp;exact⟨rfl,hrw,hg,hown,Ch.refl _ _ _ _⟩
 ·rintro o s ⟨tm,R',rfl,e0,e5,hR',hrw',hgi,hown',hfr⟩;simp [qa0,e0,e5,hgi];have hdf:=λQ=>qqf 204 #[] (λargs s=>by simp) (λr=>decide (r.n=0)) (λ_=>True) 0 R' (.slice pr R.length cr) s (λ_ _ _ _=>trivial) hown' trivial (λx _ s Q _ h=>pred60 x s Q h) (by omega) Q
  refine hdf _ λv' s2 ho2 hobj hb2=> ?_
  obtain⟨p2,c2,rfl⟩:=(ho2.sl (sz:=2) qga).form;have hf1:Fr (λt=>t=267) 0 s s2:=hown'.frV hb2
  have hc1:Ch stT noM F s s2:=hown'.butV hb2 hFv (.inl rfl);have his:i<s.n:=Nat.lt_of_lt_of_le hin hfr.1;have hgi2:s2.get i=some (.cells [.slice pr R.length cr] 269 false):=hf1.get hgi his (.inr λrow e ro he=>by cases he;decide)
  have hrw2:=(hrw'.filter_).fr (T:=λt=>t=267) (by decide) hf1
  have hfr2:Ch stT noM F σ (s2.put i (.cells [.slice p2 (R'.filter λr=> !decide (r.n=0)).length c2] 269 false)):=(hfr.trans hc1).put hgi2 (.inr rfl) hFI _
  have hFi:Fr (λt=>t=269) 0 s2 (s2.put i (.cells [.slice p2 (R'.filter λr=> !decide (r.n=0)).length c2] 269 false)):=(Fr.refl (λt=>t=269) 0 s2).put (Nat.zero_le _) hgi2 rfl _
  have fin:=h (s2.put i (.cells [.slice p2 (R'.filter λr=> !decide (r.n=0)).length c2] 269 false)) ⟨_,_,hFI,(λj hj=>hFv j (by rw [←hobj];exact hj)),Nat.lt_of_lt_of_le his hf1.1,by rw [CSt.get_put,if_pos rfl],ho2.fr (T:=λt=>t=269) (by decide) hFi,hrw2.fr (T:=λt=>t=269) (by decide) hFi⟩ hfr2
  simpa [qa0,e0,e5,hgi2] using fin
def qkc (ks:List Int):MlG Int:=ks.map λa=>(a, .agg #[])
theorem qtq (b t:Int) (c:Nat) (s:CSt) (hc:s.get c=some (.cells [.int .u64 t] 22 false)) (hcn:c<s.n) (Q:Out→CSt→Prop) (h:∀s',Grow s s'→Q (.ret (.bool (decide (b≤t))) false) s'):W E1 (.fn 120 #[.int .u64 b, .agg #[], .pointer (some ⟨c,0,none⟩)] none) s Q:=by
 rw [qap (fn:=Tryz.f120) Tryz.func120 rfl rfl rfl];have hg:=h _ ((Grow.refl s).alloc (.cells [] 206 false));have hcn':¬c=s.n:=by omega
 simpa [qa0,hc,hcn'] using hg
theorem qzc (ks:List Int) (b:Int):qrt (qkc ks) b=qkc (ks.filter λa=> !decide (a=b)):=by
 unfold qrt qkc;rw [List.filter_map]
 rfl
def DlI (ks:List Int) (t:Int) (σ s:CSt) (it mt m:Nat):Prop:=∃(K D:List Int) (S:MlG Int),m=List.length S∧MIt (Value.int .u64) s it mt (qkc K) S∧(S.map (·.1)).Nodup∧(∀p∈S,p.1∉D∧p.1∈ks∧p.2= .agg #[])∧(∀b,b∈ks→b∈D∨b∈S.map (·.1))∧(∀b,b∈K↔b∈ks∧(b∈D→t<b))∧Ch (λ_=>False) (λj=>j=mt) (λj=>j=mt) σ s∧it<s.n
theorem qtx (mt c:Nat) (ks:List Int) (t:Int) (σ:CSt) (hc:σ.get c=some (.cells [.int .u64 t] 22 false)) (hcn:c<σ.n) (hm:MpG (Value.int .u64) σ mt (qkc ks)) (hmt:mt<σ.n) (Q:Out→CSt→Prop)
  (h:∀(K:List Int) (σ':CSt),MpG (Value.int .u64) σ' mt (qkc K)→(∀b,b∈K↔b∈ks∧t<b)→Ch (λ_=>False) (λj=>j=mt) (λj=>j=mt) σ σ'→Q (.ret (.tuple #[]) false) σ'):W E1 (.fn 119 #[.map (some mt), .func (.func 120) #[] #[.pointer (some ⟨c,0,none⟩)]] none) σ Q:=by
 rw [qap (fn:=Tryz.f119) Tryz.func119 rfl rfl rfl];obtain⟨o,ho,hit⟩:=qb3 (P:=Tryz.prog) (t:=83) Tryz.underlying83 hm hmt;simp [qa0,ho];have ga:Grow σ (σ.alloc o):=(Grow.refl σ).alloc o;have hgan:σ.n<(σ.alloc o).n:=by simp
 generalize σ.alloc o=s0 at hit ga hgan⊢;have hnd:((qkc ks).map (·.1)).Nodup:=by obtain⟨_,_,_,e⟩:=hm;exact e.keys
 have hid:∀l:List Int,(qkc l).map (·.1)=l:=λl=>by
  unfold qkc;rw [List.map_map]
  conv=>rhs;rw [←List.map_id l]
  rfl
 refine qak (λm a s=>∃tm,a=⟨tm,19, [],false⟩∧tm.get 0=some (.map (some mt))∧tm.get 1=some (.func (.func 120) #[] #[.pointer (some ⟨c,0,none⟩)])∧tm.get 7=some (.pointer (some ⟨σ.n,0,none⟩))∧DlI ks t σ s σ.n mt m)
  (λout s=>∃tm K,out= .code (.exit 0) ⟨tm,19, [],false⟩∧MpG (Value.int .u64) s mt (qkc K)∧(∀b,b∈K↔b∈ks∧t<b)∧Ch (λ_=>False) (λj=>j=mt) (λj=>j=mt) σ s) ?_ ks.length _ _ ?_ ?_
 ·rintro m a s ⟨tm,rfl,e0,e1,e7,⟨K,D,S,hm1,hi,hSn,hS,hcov,hK,hch,hits⟩⟩;simp [qa0,e0,e1,e7];refine qbb hi (λhS0=> ?_) (λj hj o' hi' he=> ?_)
  ·subst hS0;simp [qa0];refine⟨K,hi.mp,λb=> ?_,hch⟩
   rw [hK];refine and_congr_right λhb=>⟨λh=>h ?_,λh _=>h⟩
   have:=hcov b hb;simpa using this
  ·obtain⟨b,hb⟩:∃b,S[j].1=b:=⟨_,rfl⟩
   obtain⟨hbD,hbk,hbv⟩:=hS S[j] (List.getElem_mem hj);have hku:S[j]=(b, .agg #[]):=Prod.ext hb hbv;rw [hb] at hbD hbk;rw [hku] at he⊢;simp only at he;have hch':Ch (λ_=>False) (λj=>j=mt) (λj=>j=mt) σ (s.put σ.n o'):=hch.new (Nat.le_refl _) _
   have hn':(s.put σ.n o').n=s.n:=rfl;generalize s.put σ.n o'=s5 at hi' he hch' hn'⊢;have g6:Grow s5 ((s5.alloc (.cells [] 206 false)).put s5.n (.cells [] 206 false)):=((Grow.refl s5).alloc _).put (Nat.le_refl _) _;have hc6:((s5.alloc (.cells [] 206 false)).put s5.n (.cells [] 206 false)).get s5.n=some (.cells [] 206 false):=by simp
   simp [qa0,he,e0,e1,e7];generalize (s5.alloc (.cells [] 206 false)).put s5.n (.cells [] 206 false)=s6 at g6 hc6⊢;have hch6:=hch'.trans g6.ch;have hi6:=hi'.grow (by omega) (by have:=hch.1;omega) g6
   refine qtq b t c s6 (hch6.cell hc hcn λ_ h=>h) (Nat.lt_of_lt_of_le hcn hch6.1) _ λs7 g7=> ?_
   have hi7:=hi6.grow (by have:=g6.n;omega) (by have:=g6.n;have:=hch.1;omega) g7
   have hch7:=hch6.trans g7.ch;have hSe:∀p∈S.eraseIdx j,p∈S∧p.1≠b:=λp hp=>by
    refine⟨List.mem_of_mem_eraseIdx hp,λe=> ?_⟩
    have h3:((S.eraseIdx j).map (·.1))=(S.map (·.1)).eraseIdx j:=qe5 _ _ _
    have h4:b∈(S.map (·.1)).eraseIdx j:=by rw [←h3,←e];exact List.mem_map_of_mem (f:=(·.1)) hp
    have h5:=qbn (S:=S.map (·.1)) (j:=j) (by simpa using hj)
    have h6:=h5.nodup_iff.1 hSn;rw [List.nodup_cons] at h6;refine h6.1 ?_;have:(S.map (·.1))[j]'(by simpa using hj)=b:=by simp [hb]
    rw [this];exact h4
   have hSn':((S.eraseIdx j).map (·.1)).Nodup:=by rw [qe5];exact hSn.sublist (List.eraseIdx_sublist _ _)
   have hcov':∀x,x∈ks→x∈D++ [b]∨x∈(S.eraseIdx j).map (·.1):=λx hx=>by
    rcases hcov x hx with h|h
    ·exact .inl (by simp [h])
    ·obtain⟨p,hp,rfl⟩:=List.mem_map.1 h;have:=(qbn hj).mem_iff.1 hp;rcases List.mem_cons.1 this with e|e
     ·left;rw [e,hku];simp
     ·exact .inr (List.mem_map_of_mem (f:=(·.1)) e)
   have hS':∀p∈S.eraseIdx j,p.1∉D++ [b]∧p.1∈ks∧p.2= .agg #[]:=λp hp=>by
    obtain⟨a1,a2⟩:=hSe p hp;obtain⟨b1,b2,b3⟩:=hS p a1;exact⟨by simp [b1,a2],b2,b3⟩
   have hl:(S.eraseIdx j).length<m:=by rw [hm1,List.length_eraseIdx_of_lt hj];omega
   by_cases c1:b≤t
   ·obtain⟨o8,ho8,hm8,hit8⟩:=qdo (P:=Tryz.prog) (key:=Value.int .u64) (kd:= .int .u64) (ts:= #[83,22]) (t:=83) (kt:=22) (et:=206) (k:=b) rfl Tryz.underlying83 (by kernel_rfl) (qbv .u64) hi7.mp
    have hi8:=hit8 _ _ hi7 λp hp=>(hSe p hp).2
    rw [qzc] at hi8;simp [qa0,c1,e0,e1,e7,ho8];refine⟨_,hl,K.filter λa=> !decide (a=b),D++ [b],S.eraseIdx j,rfl,hi8,hSn',hS',hcov',λx=> ?_,hch7.putMp hi7.mp rfl rfl _,by have:=g6.n;have:=g7.n;show σ.n<s7.n;omega⟩
    rw [List.mem_filter,hK];simp only [Bool.not_eq_true',decide_eq_false_iff_not,List.mem_append,List.mem_singleton]
    constructor
    ·rintro⟨⟨h1,h2⟩,h3⟩;exact⟨h1,λh=>h.elim h2 λe=>absurd e h3⟩
    ·rintro⟨h1,h2⟩;exact⟨⟨h1,λh=>h2 (.inl h)⟩,λe=>by have:=h2 (.inr e);omega⟩
   ·simp [qa0,c1,e0,e1,e7];refine⟨_,hl,K,D++ [b],S.eraseIdx j,rfl,hi7,hSn',hS',hcov',λx=> ?_,hch7,by have:=g6.n;have:=g7.n;omega⟩
    rw [hK];simp only [List.mem_append,List.mem_singleton];refine and_congr_right λ_=>⟨λh h'=>h'.elim h λe=>by omega,λh h'=>h (.inl h')⟩
 ·refine⟨_,rfl, ?_⟩;simp;refine⟨ks, [],qkc ks,by simp [qkc],hit,hnd,λp hp=> ?_,λb hb=> .inr (by rw [hid];exact hb),λb=>by simp,ga.ch,hgan⟩
  obtain⟨b,hb,rfl⟩:=List.mem_map.1 hp;exact⟨by simp,hb,rfl⟩
 ·rintro out s ⟨tm,K,rfl,h1,h2,h3⟩;simpa [qa0] using h K s h1 h2 h3
section
variable {F:Nat→Prop} {σ:CSt} {g sp ml mt:Nat} {v:Value} {X Wn:Int→Nat} {ks:List Int} {P:PM}
theorem RGx.tkCh2 {s s':CSt} (h:RGx F s g sp ml mt v X Wn ks P) {ks' tk':List Int} (k:Ch (λ_=>False) (λj=>j=mt) F s s') (hm:MpG (Value.int .u64) s' mt (ks'.map λa=>(a, .agg #[]))) (hp:∀a,a∈ks'↔a∈tk'):RGx F s' g sp ml mt v X Wn ks' {P with taken:=tk'}:=
 ⟨h.fg,⟨k.cell h.cell h.lt λ_ h=>h,Nat.zero_le _,Nat.lt_of_lt_of_le h.lt k.1,h.own.chT k λh=>h⟩,h.fv,h.st.ch k (λh=>h) λ_ _ _=>⟨λh=>h,λh=>h⟩,h.lv.ch k (λ_ _ _ h=>h) λj _ _ e=>⟨by rw [e];exact h.tml,λq hq hs=>by rw [e];exact h.tw q hq hs⟩,h.fm,Nat.lt_of_lt_of_le h.lm k.1,hm,hp,h.tml,h.tw⟩
theorem qt3 (h:RG F σ g P) (hF:∀i,σ.n≤i→F i) (hn:gnone σ) (hok:P.Ok) (hsz:P.size<2^30) (t:Int) (ht:0≤t∧t<2^64) (Q:Out→CSt→Prop)
  (h1:∀σ',RG F σ' g (P.purge t).2→Ch gT qcd F σ σ'→Q (.ret (.tuple #[.int .i64 (P.purge t).1.1, .int .i64 (P.purge t).1.2]) false) σ'):W E1 (.fn 50 #[ptr g, .int .u64 t] none) σ Q:=by
 obtain⟨sp,ml,mt,v,X,Wn,ks,h⟩:=h;rw [qap (fn:=Tryz.f50) Tryz.func50 rfl rfl rfl];have hz:0<σ.n:=by have:=h.lt;omega
 have g0:Grow σ (σ.alloc (.cells [.int .u64 t] 22 false)):=(Grow.refl σ).alloc _;have hc0:(σ.alloc (.cells [.int .u64 t] 22 false)).get σ.n=some (.cells [.int .u64 t] 22 false):=by simp
 have hn0:σ.n<(σ.alloc (.cells [.int .u64 t] 22 false)).n:=by simp
 simp [qa0,ptr];generalize σ.alloc (.cells [.int .u64 t] 22 false)=s0 at g0 hc0 hn0⊢;have hr0:=h.grow g0;have hle:=λQ=>qlt hr0 hok Q
 unfold ptr at hle;have hln:=qk0 hok;have hlc:=Int.le_trans (qvx P) (qtt P);have hck:=hok.clock;have hSl:=qfk hok;have hL:P.L.length<2^36:=by
  have:P.L.length≤P.size:=by unfold PM.size;omega
  omega
 refine qcv (l:= [0,1,2,3]) (b:= #[0,0,2,7]) (by kernel_rfl) (by kernel_rfl) (by kernel_rfl) ?_
 simp [qa7,qal,qab,qb9,qa3,qa9,Nat.add_assoc,Nat.testBit_eq_decide_div_mod_eq,hc0];refine hle _ λs1 g1=> ?_
 have hc1:=g1.get hc0 hn0;simp [qa7,qa0,qal,qab,qb9,qa3,qa9,Nat.add_assoc,Nat.testBit_eq_decide_div_mod_eq,hc1];have g01:=g0.trans g1;have hr1:=hr0.grow g1;by_cases c:P.least<t
 ·have e:P.purge t=((0,1),P):=if_pos c;have:=h1 s1 (by rw [e];exact⟨sp,ml,mt,v,X,Wn,ks,hr1⟩) g01.ch
  rw [e] at this;simpa [qa0,c] using this
 ·have e:P.purge t=((((qel t P.S:Nat):Int),0),{P with S:=qen t P.S,L:=qkb t P.L,taken:=P.taken.filter λa=> !decide (a≤t)}):=if_neg c
  rw [e] at h1;have hLok:∀l∈P.L,l.sp.ok:=λl hl=>by have:=(hok.lk l hl).2;unfold Sn.ok;omega
  have hc1n:σ.n<s1.n:=Nat.lt_of_lt_of_le hn0 g1.n;simp [qa0,c];refine qba (by kernel_rfl) ?_
  simp [qa6,hc1];refine qs6 0 g v P.L hLok t ht.1 (by omega) s1 (qar hn hz g01) hr1.tb hL _ λv' s2 htb2 hob hbt=> ?_
  rw [prg_eq] at htb2;have hv':inF F v':=λj hj=>h.fv j (by rw [←hob];exact hj)
  have hr2:=hr1.tbCh htb2 hv' hbt;have hc12:=hr1.btCh hbt;have hg2:=hr2.cell;have hc2:=hc12.cell hc1 hc1n λ_=>by decide
  have hc2n:σ.n<s2.n:=Nat.lt_of_lt_of_le hc1n hc12.1;unfold ptr at hg2;simp [qa6,qa0,hg2];refine qtx mt σ.n ks t s2 hc2 hc2n hr2.tk hr2.lm _ λK s3 hm3 hK hc23=> ?_
  have hc23':Ch (λ_=>False) (λj=>j=mt) F s2 s3:=hc23.mono (λ_ h=>h) (λ_ h=>h) λj e=>by rw [e];exact h.fm
  have hr3:=hr2.tkCh2 (tk':=P.taken.filter λa=> !decide (a≤t)) hc23' hm3 λb=>by
   rw [hK,List.mem_filter,h.tkp];simp
  have hg3:=hr3.cell;have hc3:=hc23.cell hc2 hc2n λ_ h=>h
  unfold ptr at hg3;simp [qa0];refine qba (by kernel_rfl) ?_
  simp [qa6,hg3,hc3];have hsum:qkh P.S<2^60:=by
   have:vsz P.S≤P.size:=by unfold PM.size;omega
   show vsz P.S<_;omega
  refine qtb F sp P.S (λs hs=>(hok.st s hs).2.2.1) (λs hs=>by have:=qdt hs;omega) t s3 hr3.st (by omega) hsum _ λs4 hst4 hc34=> ?_
  have hr4:=hr3.stCh hst4 hc34;have:=h1 s4 ⟨sp,ml,mt,v',X,Wn,K,hr4⟩ (((g01.ch.trans (qp2 hc12)).trans (gT_tk hc23')).trans (qve hc34));simpa [qa6,qa0] using this
end
theorem Tr.setF_setF {α:Type} (a b:α):∀(f:Nat) (t:Tr α) (i:Nat),Tr.setF b f (Tr.setF a f t i) i=Tr.setF b f t i
 |0,t,i=>rfl
 |f+1,t,i=>by
  have e:∀(c:α) (u:Tr α),Tr.setF c (f+1) u i=if i=0 then .node u.lft (some c) u.rgt else if i %2=1 then .node (Tr.setF c f u.lft (i/2)) u.mid u.rgt else .node u.lft u.mid (Tr.setF c f u.rgt (i/2-1)):=λc u=>rfl
  rw [e b (Tr.setF a (f+1) t i),e a t,e b t];by_cases h0:i=0
  ·simp only [h0,if_true];rfl
  ·by_cases h1:i %2=1
   ·simp only [h0,h1,if_false,if_true];show Tr.node (Tr.setF b f (Tr.setF a f t.lft (i/2)) (i/2)) t.mid t.rgt=_
    rw [Tr.setF_setF a b f]
   ·simp only [h0,h1,if_false];show Tr.node t.lft t.mid (Tr.setF b f (Tr.setF a f t.rgt (i/2-1)) (i/2-1))=_
    rw [Tr.setF_setF a b f]
theorem put_put (s:CSt) (i:Nat) (x y:CObj):(s.put i x).put i y=s.put i y:=by
 unfold CSt.put Tr.set;rw [Tr.setF_setF]
end Go.Sm
