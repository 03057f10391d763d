/- Part F of the proof. -/
import Derived.Shelf.SlSortCmp.NoneTotal
import Derived.Shelf.Slices.In.SortNone
import Derived.Shelf.Sort.Plain
import Derived.Shelf.Strconv.Itoa3
import Derived.Test.YtmdielggbailgaaGreatDoorProg
import Derived.WalkKit
import Derived.Test.YtmdielggbailgaaGreatDoorPartC
import Derived.Test.YtmdielggbailgaaGreatDoorPartD
import Derived.Test.YtmdielggbailgaaGreatDoorPartE
set_option linter.unusedVariables false
set_option linter.unusedSimpArgs false
namespace Go.Sm
open Go Go.Proofs
set_option maxRecDepth 100000
set_option maxHeartbeats 4000000
theorem ql7 (Sv:ByteArray→Value) (k:ByteArray) (l:List Ver) (u:Value):∀VL:Vl,(VL.map (·.1)).Nodup→ql3 (VL.map λq=>(q.1,Sv q.1)) k u=(setV VL k l).map λq=>(q.1,(λq=>if q=k then u else Sv q) q.1)
 | [],_=>by simp [ql3,setV]
 |p::VL,hn=>by
  rw [List.map_cons,List.nodup_cons] at hn;rw [List.map_cons];unfold ql3 setV;by_cases e:p.1=k
  ·rw [if_pos e,if_pos e,List.map_cons];simp only [if_true]
   congr 1
   refine List.map_congr_left λq hq=> ?_
   have:q.1≠k:=λe2=>hn.1 (by rw [e,←e2];exact List.mem_map_of_mem (f:=(·.1)) hq)
   simp [this]
  ·rw [if_neg e,if_neg e,List.map_cons,ql7 Sv k l u VL hn.2];simp [e]
theorem za2 {b:Nat} {s1:CSt} {l:List Ver} {x:Ver} {v:Value} (ho:Own b s1 40 qad v l) (hb:b≤s1.n) (hl:l.length<2^38):
  ∃p9 c9 s9,qas Tryz.prog (s1.alloc (.cells (qad x) 40 false)) #[103,103] v (.slice (some ⟨s1.n,0,none⟩) 1 1)=some (.slice p9 (l.length+1) c9,s9)∧Own b s9 40 qad (.slice p9 (l.length+1) c9) (l++ [x])∧qbx b s1 s9:=by
 have hga:Grow s1 (s1.alloc (.cells (qad x) 40 false)):=(Grow.refl s1).alloc _;obtain⟨v9,s9,a1,a2,a3,_,_⟩:=qay (P:=Tryz.prog) (ts:= #[103,103]) (e:=40) (sz:=3) (enc:=qad) (l:=l) (m:= [x]) (b:=b) ef103 (by simp) (λ_=>rfl) (λ_=>rfl) rfl (by decide) (by decide) rfl (σ:=s1.alloc (.cells (qad x) 40 false))
  (ho.grow hga) (by simp;omega) (Sl.all (l:= [x]) (i:=s1.n) (cap:=1) (ro:=false) (λ_=>rfl) (by simp) (by simp) (.inr ⟨by simp,by simp [qa1]⟩)) (by show(_+1)*_≤_;simp;omega) (by omega)
 obtain⟨p9,c9,rfl⟩:=(a2.sl (sz:=3) (λ_=>rfl)).form
 rw [List.length_append] at a1 a2;exact⟨p9,c9,s9,a1,a2,(hga.toB hb).trans a3⟩
theorem app_ver2 {b:Nat} {s1:CSt} {l:List Ver} {x:Ver} {v:Value} (ho:Own b s1 40 qad v l) (hb:b≤s1.n) (hl:l.length<2^38) {c:Nat} (hc:s1.get c=some (.cells (qad x) 40 false)) (hcn:c<s1.n):
  ∃p9 c9 s9,qas Tryz.prog s1 #[103,103] v (.slice (some ⟨c,0,none⟩) 1 1)=some (.slice p9 (l.length+1) c9,s9)∧Own b s9 40 qad (.slice p9 (l.length+1) c9) (l++ [x])∧qbx b s1 s9:=by
 obtain⟨v9,s9,a1,a2,a3,_,_⟩:=qay (P:=Tryz.prog) (ts:= #[103,103]) (e:=40) (sz:=3) (enc:=qad) (l:=l) (m:= [x]) (b:=b) ef103 (by simp) (λ_=>rfl) (λ_=>rfl) rfl (by decide) (by decide) rfl (σ:=s1)
  ho hb (Sl.all (l:= [x]) (i:=c) (cap:=1) (ro:=false) (λ_=>rfl) (by simpa using hc) hcn (.inr ⟨by simp,by simp [qa1]⟩)) (by show(_+1)*_≤_;simp;omega) (by omega)
 obtain⟨p9,c9,rfl⟩:=(a2.sl (sz:=3) (λ_=>rfl)).form
 rw [List.length_append] at a1 a2;exact⟨p9,c9,s9,a1,a2,a3⟩
theorem qib {b:Nat} {s1:CSt} {L:List Lk} {x:Lk} {v:Value} (ho:Own b s1 99 qag v L) (hb:b≤s1.n) (hl:L.length<2^36):
  ∃p9 c9 s9,qas Tryz.prog (s1.alloc (.cells (qag x) 99 false)) #[78,78] v (.slice (some ⟨s1.n,0,none⟩) 1 1)=some (.slice p9 (L.length+1) c9,s9)∧Own b s9 99 qag (.slice p9 (L.length+1) c9) (L++ [x])∧qbx b s1 s9:=by
 have hga:Grow s1 (s1.alloc (.cells (qag x) 99 false)):=(Grow.refl s1).alloc _;obtain⟨v9,s9,a1,a2,a3,_,_⟩:=qay (P:=Tryz.prog) (ts:= #[78,78]) (e:=99) (sz:=5) (enc:=qag) (l:=L) (m:= [x]) (b:=b) ef78 (by simp) qe1 cokK rfl (by decide) (by decide) rfl (σ:=s1.alloc (.cells (qag x) 99 false))
  (ho.grow hga) (by simp;omega) (Sl.all (l:= [x]) (i:=s1.n) (cap:=1) (ro:=false) qe1 (by simp) (by simp) (.inr ⟨by simp,by simp [qa1]⟩)) (by show(_+1)*_≤_;simp;omega) (by omega)
 obtain⟨p9,c9,rfl⟩:=(a2.sl (sz:=5) qe1).form;rw [List.length_append] at a1 a2;exact⟨p9,c9,s9,a1,a2,(hga.toB hb).trans a3⟩
theorem app_numZ {s:CSt} {v:Value} {L:List Int} {k:Int} (ho:qbj 0 s 22 qg5 v L) (hL:L.length<2^36):∃p9 c9 s9,qas Tryz.prog (s.alloc (.cells (qg5 k) 22 false)) #[105,105] v (.slice (some ⟨s.n,0,none⟩) 1 1)=some (.slice p9 (L.length+1) c9,s9)∧qbj 0 s9 22 qg5 (.slice p9 (L.length+1) c9) (L++ [k])∧qd3 v (s.alloc (.cells (qg5 k) 22 false)) s9∧(qb1 (.slice p9 (L.length+1) c9)=qb1 v∨qb1 (.slice p9 (L.length+1) c9)=some (s.n+1)):=by
 have hga:Grow s (s.alloc (.cells (qg5 k) 22 false)):=(Grow.refl s).alloc _;obtain⟨v9,s9,a1,a2,a3,a4⟩:=qkp (P:=Tryz.prog) (ts:= #[105,105]) (e:=22) (sz:=1) (enc:=qg5) (l:=L) (m:= [k]) (b:=0) ef105 (by simp) qru cokN rfl (by decide) (by decide) rfl (σ:=s.alloc (.cells (qg5 k) 22 false))
  (ho.grow hga) (Nat.zero_le _) (Sl.all (l:= [k]) (i:=s.n) (cap:=1) (ro:=false) qru (by simp) (by simp) (.inr ⟨by simp,by simp [qa1]⟩)) (by show(_+1)*_≤_;simp;omega) (by omega)
 obtain⟨p9,c9,rfl⟩:=(a2.sl (sz:=1) qru).form;rw [List.length_append] at a1 a2 a4;exact⟨p9,c9,s9,a1,a2,a3,a4⟩
def CmJ (P:PM) (a:Int) (W:Ml) (F:Nat→Prop) (σ s:CSt) (m mv ml:Nat) (lv tv:Value) (X Wn:Int→Nat) (it w k:Nat):Prop:=∃(D:List (ByteArray×Ver)) (S:Ml) (Sv:ByteArray→Value) (VL:Vl),k=List.length S∧MIt Value.string s it w W S∧W.Perm (qed D++S)∧RMx F s m mv ml lv tv X Wn Sv VL {P with S:=qcp a D P.S}∧Ch mT qcd F σ s∧it<s.n∧w<s.n
section
variable {F:Nat→Prop} {σ:CSt} {m mv ml:Nat} {lv tv:Value} {X Wn:Int→Nat} {Sv:ByteArray→Value} {VL:Vl} {P:PM}
theorem qpq (h:RM F σ m P) (hF:∀i,σ.n≤i→F i) (hok:P.Ok) (hap:∃b,qdi P b) (hsz:P.size<2^30) (n:Int) (Q:Out→CSt→Prop)
  (h1:∀σ',RM F σ' m (P.commit n).2→Ch mT qcd F σ σ'→Q (.ret (.tuple #[.int .u64 (P.commit n).1.1, .int .i64 (P.commit n).1.2]) false) σ'):W E1 (.fn 105 #[ptr m, .int .i64 n] none) σ Q:=by
 obtain⟨mv,ml,lv,tv,X,Wn,Sv,VL,h⟩:=h;rw [qap (fn:=Tryz.f105) Tryz.func105 rfl rfl rfl];have hpt:=λQ=>qla h hok hsz n Q
 unfold ptr at hpt;have hL:P.L.length<2^30:=by
  have:P.L.length≤P.size:=by unfold PM.size;omega
  omega
 have hTl:P.taken.length<2^30:=by
  have:P.taken.length≤P.size:=by unfold PM.size;omega
  omega
 simp [qa0,ptr];refine hpt _ λs1 g1=> ?_
 have hr1:=h.grow g1;have hg1:=hr1.cell;have hlk:=qgd hr1 n false;simp only [Bool.false_eq_true,if_false] at hlk;have hF1:∀i,s1.n≤i→F i:=λi hi=>hF i (Nat.le_trans g1.n hi)
 have hdr:=λQ=>qjl ⟨mv,ml,lv,tv,X,Wn,Sv,VL,hr1⟩ hF1 hok (by omega) n Q
 unfold ptr at hlk hdr;cases hgn:P.get n with
 |none=>
  rw [hgn] at hlk;simp at hlk;have e:P.point n=(0,4):=by unfold PM.point;rw [hgn]
  have e2:P.commit n=((0,4),P):=by unfold PM.commit;rw [hgn]
  have:=h1 s1 (by rw [e2];exact⟨mv,ml,lv,tv,X,Wn,Sv,VL,hr1⟩) g1.ch
  rw [e2] at this;rw [e];simpa [qa0,qa2,qa4,hg1,hlk] using this
 |some t=>
  rw [hgn] at hlk;simp at hlk;have hm:=(qao hok).1 hgn;have hto:=hok.tx _ hm;have htx:=hr1.lv.tx _ hm;simp only at hto htx;have hx1:=htx.cell;have hxl:=htx.lx;unfold qfo hdB at hx1;cases hs:t.snap with
  |true=>
   have e:=qf0 hgn hs;have e2:=qem hgn hs;rw [e2] at h1;rw [e];rw [hs] at hx1;obtain⟨o,ho1,ho2,_⟩:=qdo (P:=Tryz.prog) (key:=Value.int .i64) (kd:= .int .i64) (ts:= #[104,3]) (t:=104) (kt:=3) (et:=110) (k:=n) rfl Tryz.underlying104 (by kernel_rfl) (qbv .i64) hr1.lv.map
   have hlv:=hr1.lv.del n ho2;have kml:=hr1.chMl o;have hr2:=hr1.lvCh kml hlv λq hq hs=>hr1.mw q (List.mem_filter.1 hq).1 hs
   have hdrop:P.drop n={P with live:=P.live.filter λx=> !decide (x.1=n)}:=by
    unfold PM.drop PM.del;have:(P.L.filter λl=> !decide (l.owner=n))=P.L:=List.filter_eq_self.2 λl hl=>by
     have hlo:=(hok.lk l hl).1;have hn1:=(hok.last _ hm).1;simp only at hn1;simp;rintro rfl;rcases hlo with h0|⟨x,hx,hxe,hxs⟩
     ·omega
     ·have:=uniq hok.nums hx hm (by simpa using hxe)
      subst this;simp only at hxs;rw [hs] at hxs;cases hxs
    rw [this]
   have:=h1 (s1.put ml o) (by rw [hdrop];exact⟨mv,ml,lv,tv,X,Wn,Sv,VL,hr2⟩) (g1.ch.trans (qn7 kml))
   simpa [qa0,qa2,qa4,hg1,hlk,hx1,ho1] using this
  |false=>
   rcases qbw hok hgn hs with⟨hp,_⟩|⟨a,hp,ha1,ha2,hfree,_⟩
   ·have e2:=qcm hgn hp;rw [e2] at h1;rw [hp];simp [qa0,qa2,qa4,hg1,hlk];refine hdr _ λs2 hr2 hc2=> ?_
    have:=h1 s2 hr2 (g1.ch.trans hc2);simpa [qa0] using this
   ·have e2:=qda hgn hs hp;rw [e2] at h1;rw [hp];rw [hs] at hx1;have hxw:=hto.w hs;obtain⟨hFw,hlw,W,hW,hpW⟩:=htx.wr hs;have hwv:wv t (Wn n)= .map (some (Wn n)):=by unfold wv;rw [hs];rfl
    rw [hwv] at hx1;obtain⟨o,ho,hit⟩:=qb3 (P:=Tryz.prog) (t:=111) Tryz.underlying111 hW hlw;obtain⟨bb,hbb⟩:=hap;have hfresh:=qsd hbb hm hs ha1 hfree;simp [qa0,qa2,qa4,hg1,hlk,hx1,ho];have ga:Grow s1 (s1.alloc o):=(Grow.refl s1).alloc o;generalize hsae:s1.alloc o=sa at hit ga⊢;have hsan:s1.n<sa.n:=by rw [←hsae];simp
    have hwmv:Wn n≠mv:=hr1.mw _ hm hs;refine qak (λk ac s=>∃tm,ac=⟨tm,137, [],false⟩∧tm.get 0=some (.pointer (some ⟨m,0,none⟩))∧tm.get 1=some (.int .i64 n)∧tm.get 6=some (.int .u64 a)∧tm.get 52=some (.pointer (some ⟨s1.n,0,none⟩))∧CmJ P a W F σ s m mv ml lv tv X Wn s1.n (Wn n) k)
     (λout s=>∃tm Sv VL,out= .code (.exit 1) ⟨tm,137, [],false⟩∧tm.get 0=some (.pointer (some ⟨m,0,none⟩))∧tm.get 1=some (.int .i64 n)∧tm.get 6=some (.int .u64 a)∧RMx F s m mv ml lv tv X Wn Sv VL {P with S:=qcp a t.wr P.S}∧Ch mT qcd F σ s) ?_ (List.length W) _ _ ?_ ?_
    ·rintro k ac s ⟨tm,rfl,e0,e1,e6,e52,⟨D,S,Sv,VL,hm1,hi,hpm,hrs,hcs,hits,hws⟩⟩;simp [qa0,e0,e1,e6,e52];refine qbb hi (λhS=> ?_) (λj hj o' hi' he=> ?_)
     ·subst hS;simp [qa0];refine⟨e0,e1,e6,⟨Sv,VL, ?_⟩,hcs⟩;rw [List.append_nil] at hpm;have hDw:(qed D).Perm (qed t.wr):=hpm.symm.trans hpW;have hDp:D.Perm t.wr:=by
       have h3:=hDw.map (λp:ByteArray×Value=>(p.1,match p.2 with| .agg ⟨[.int _ x, .string y, .bool z]⟩=>(⟨x,y,z⟩:Ver)|_=>⟨0,⟨#[]⟩,false⟩))
       unfold qed at h3;rw [List.map_map,List.map_map] at h3;have hid:∀l:List (ByteArray×Ver),l.map ((λp:ByteArray×Value=>(p.1,match p.2 with| .agg ⟨[.int _ x, .string y, .bool z]⟩=>(⟨x,y,z⟩:Ver)|_=>⟨0,⟨#[]⟩,false⟩))∘λp=>(p.1, .agg (qad p.2).toArray))=l:=λl=>by
        conv=>rhs;rw [←List.map_id l]
        rfl
       rw [hid,hid] at h3;exact h3
      rw [qqg a hDp ((hDp.map _).nodup_iff.2 (qce hto.up)) hok.ks] at hrs;exact hrs
     ·have hSm:S[j]∈qed t.wr:=hpW.mem_iff.1 (hpm.mem_iff.2 (by simp))
      obtain⟨q,hq,hqe⟩:=List.mem_map.1 hSm;have hku:S[j]=(q.1, .agg (qad q.2).toArray):=hqe.symm;have hWn:(W.map (·.1)).Nodup:=by obtain⟨_,_,_,e⟩:=hW;exact e.keys
      have hnd:=(hpm.map (·.1)).nodup_iff.1 hWn
      have hverk:(qed D).map (·.1)=D.map (·.1):=by unfold qed;rw [List.map_map];rfl
      rw [List.map_append,hverk,List.nodup_append] at hnd;have hDk:∀x∈D,x.1≠q.1:=λx hx e=>hnd.2.2 x.1 (List.mem_map_of_mem (f:=(·.1)) hx) q.1 (List.mem_map.2 ⟨S[j],List.getElem_mem hj,by rw [hku]⟩) e
      rw [hku] at he⊢;simp only [qad] at he;have hcs':Ch mT qcd F σ (s.put s1.n o'):=hcs.new g1.n _;have hrs':=hrs.cm (hi.cm o');have hn':(s.put s1.n o').n=s.n:=rfl;generalize s.put s1.n o'=s5 at hi' he hcs' hrs' hn'⊢;have hσ5:σ.n≤s5.n:=hcs'.1;have g6:Grow s5 (((s5.alloc (.cells [.int .u64 0, .string ⟨#[]⟩, .bool false] 40 false)).put s5.n (.cells [.int .u64 q.2.at_, .string q.2.val, .bool q.2.gone] 40 false)).put s5.n (.cells [.int .u64 a, .string q.2.val, .bool q.2.gone] 40 false)):=(((Grow.refl s5).alloc _).put (Nat.le_refl _) _).put (Nat.le_refl _) _;have hc6:(((s5.alloc (.cells [.int .u64 0, .string ⟨#[]⟩, .bool false] 40 false)).put s5.n (.cells [.int .u64 q.2.at_, .string q.2.val, .bool q.2.gone] 40 false)).put s5.n (.cells [.int .u64 a, .string q.2.val, .bool q.2.gone] 40 false)).get s5.n=some (.cells [.int .u64 a, .string q.2.val, .bool q.2.gone] 40 false):=by simp
      have hn6:(((s5.alloc (.cells [.int .u64 0, .string ⟨#[]⟩, .bool false] 40 false)).put s5.n (.cells [.int .u64 q.2.at_, .string q.2.val, .bool q.2.gone] 40 false)).put s5.n (.cells [.int .u64 a, .string q.2.val, .bool q.2.gone] 40 false)).n=s5.n+1:=by simp
      simp [qa0,he,e0,e1,e6,e52];generalize ((s5.alloc (.cells [.int .u64 0, .string ⟨#[]⟩, .bool false] 40 false)).put s5.n (.cells [.int .u64 q.2.at_, .string q.2.val, .bool q.2.gone] 40 false)).put s5.n (.cells [.int .u64 a, .string q.2.val, .bool q.2.gone] 40 false)=s6 at g6 hc6 hn6⊢;have hr6:=hrs'.grow g6;have hg6:=hr6.cell;obtain⟨hlk6,hsl6⟩:=qew hr6 q.1;have hks:=qox a D hok.ks;obtain⟨hst6,huni6⟩:=hr6.rel.get hks q.1;simp only at hst6;have hstq:qbk (qcp a D P.S) q.1=qbk P.S q.1:=qnq hok.ks hnd.1 hDk;have hvl:(qm6 VL q.1).length≤P.size:=by
       rw [←qgx _ huni6,←hst6,hstq];unfold qbk;cases e:qaw P.S q.1 with
       |none=>simp
       |some l=>exact qdt (s:=(q.1,l)) ((qav hok.ks).1 e)
      have hux:Uni (qm6 VL q.1++ [⟨a,q.2.val,q.2.gone⟩]):=by
       unfold Uni;rw [List.pairwise_append];refine⟨huni6,by simp,λx hx y hy=> ?_⟩
       rw [List.mem_singleton] at hy;subst hy;have h4:=(qde _ huni6 x).2 hx;rw [←hst6,hstq] at h4;obtain⟨s',hs',_,hs2⟩:=ql6 hok.ks h4;exact hfresh s' hs' x (by rw [hs2];exact h4)
      --behind it,in either order
      refine qt8 (λout s9=>∃tm v9 o9,out= .code .normal ⟨tm,137, [],false⟩∧tm.get 0=some (.pointer (some ⟨m,0,none⟩))∧tm.get 1=some (.int .i64 n)∧tm.get 6=some (.int .u64 a)∧tm.get 52=some (.pointer (some ⟨s1.n,0,none⟩))∧∃s8,Grow s6 s8∧s9=s8.put mv o9∧MpG Value.string s9 mv (ql3 (VL.map λq=>(q.1,Sv q.1)) q.1 v9)∧Sl s8 40 3 qad v9 (qm6 VL q.1++ [⟨a,q.2.val,q.2.gone⟩])) ?_ ?_
      ·have hupd:∀(s8:CSt) (v9:Value),Grow s6 s8→∃o9,qdh Tryz.prog s8 101 (.map (some mv)) (.string q.1) v9=some (s8.put mv o9)∧MpG Value.string (s8.put mv o9) mv (ql3 (VL.map λq=>(q.1,Sv q.1)) q.1 v9):=λs8 v9 g=>qct (P:=Tryz.prog) (key:=Value.string) (kd:= .string) (t:=101) (kt:=9) (et:=103) (k:=q.1) Tryz.underlying101 (by kernel_rfl) qc3 (hr6.grow g).vers v9
       have hmn6:=hr6.lm;refine qo2 (ls:= [[0,1,2,3,4,5,6,7,8,9,10,12,11,13,14,15], [0,1,2,3,4,5,6,7,8,9,10,12,13,11,14,15]]) (b:= #[0,1,3,7,0,0,32,96,224,0,992,2016,0,4096,16352,32767]) (by kernel_rfl) (by kernel_rfl) (by kernel_rfl) (by kernel_rfl) ?_
       intro ll hll;simp only [List.mem_cons,List.not_mem_nil,or_false] at hll;rcases hll with rfl|rfl
       ·simp [qa7,qal,qab,qb9,qa3,qa9,Nat.add_assoc,Nat.testBit_eq_decide_div_mod_eq,e0,e1,e6,e52,hg6,hlk6,hc6];refine qs4 _ _ s6 hsl6 (by omega) _ λv7 s7 ho7 g7=> ?_
        obtain⟨p7,c7,rfl⟩:=(ho7.sl (sz:=3) (λ_=>rfl)).form
        obtain⟨p9,c9,s9,a1,a2,a3⟩:=za2 (x:=⟨a,q.2.val,q.2.gone⟩) ho7 g7.n (by omega)
        have g69:Grow s6 s9:=g7.thenB a3 (Nat.le_refl _);simp only [qad] at a1;have hg7:=(hr6.grow g7).cell;have hlk7:=(qew (hr6.grow g7) q.1).1;have hc7:=g7.get hc6 (by omega)
        have hg9:=(hr6.grow g69).cell;have hlk9:=(qew (hr6.grow g69) q.1).1;have hc9:=g69.get hc6 (by omega)
        have g7a:Grow s7 (s7.alloc (.cells [.int .u64 a, .string q.2.val, .bool q.2.gone] 40 false)):=(Grow.refl s7).alloc _;have hlk8:=(qew (hr6.grow (g7.trans g7a)) q.1).1;obtain⟨o9,ho9,hm9⟩:=hupd s9 (.slice p9 ((qm6 VL q.1).length+1) c9) g69;have hne1:¬m=s7.n:=by have:=g7.n;omega
        have hne2:¬s5.n=s7.n:=by have:=g7.n;omega
        simp [qa7,qal,qab,qb9,qa3,qa9,Nat.add_assoc,Nat.testBit_eq_decide_div_mod_eq,e0,e1,e6,e52,hg7,hlk7,hc7,a1,hg9,hlk9,hc9,ho9,hne1,hne2,hlk8];exact⟨_,o9,s9,g69,rfl,hm9,a2.sl (λ_=>rfl)⟩
       ·have g5:Grow s6 (s6.alloc (.cells [.int .u64 a, .string q.2.val, .bool q.2.gone] 40 false)):=(Grow.refl s6).alloc _;have hc5:(s6.alloc (.cells [.int .u64 a, .string q.2.val, .bool q.2.gone] 40 false)).get s6.n=some (.cells [.int .u64 a, .string q.2.val, .bool q.2.gone] 40 false):=by simp
        have hn5:(s6.alloc (.cells [.int .u64 a, .string q.2.val, .bool q.2.gone] 40 false)).n=s6.n+1:=by simp
        have hlk8:=(qew (hr6.grow g5) q.1).1;have hne1:¬m=s6.n:=by omega
        have hne2:¬s5.n=s6.n:=by omega
        simp [qa7,qal,qab,qb9,qa3,qa9,Nat.add_assoc,Nat.testBit_eq_decide_div_mod_eq,e0,e1,e6,e52,hg6,hlk6,hc6,hne1,hne2,hlk8];generalize s6.alloc (.cells [.int .u64 a, .string q.2.val, .bool q.2.gone] 40 false)=s55 at g5 hc5 hn5⊢;refine qs4 _ _ s55 (hsl6.grow g5) (by omega) _ λv7 s7 ho7 g7=> ?_
        obtain⟨p7,c7,rfl⟩:=(ho7.sl (sz:=3) (λ_=>rfl)).form
        have hcc:=g7.get hc5 (by omega)
        obtain⟨p9,c9,s9,a1,a2,a3⟩:=app_ver2 (x:=⟨a,q.2.val,q.2.gone⟩) ho7 g7.n (by omega) hcc (by have:=g7.n;omega)
        have g57:=g5.trans g7;have g69:Grow s6 s9:=g5.trans (g7.thenB a3 (Nat.le_refl _));have hg7:=(hr6.grow g57).cell;have hlk7:=(qew (hr6.grow g57) q.1).1;have hc7:=g57.get hc6 (by omega)
        have hg9:=(hr6.grow g69).cell;have hlk9:=(qew (hr6.grow g69) q.1).1;have hc9:=g69.get hc6 (by omega)
        obtain⟨o9,ho9,hm9⟩:=hupd s9 (.slice p9 ((qm6 VL q.1).length+1) c9) g69;simp [qa7,qal,qab,qb9,qa3,qa9,Nat.add_assoc,Nat.testBit_eq_decide_div_mod_eq,e0,e1,e6,e52,hg7,hlk7,hc7,a1,hg9,hlk9,hc9,ho9];exact⟨_,o9,s9,g69,rfl,hm9,a2.sl (λ_=>rfl)⟩
      ·rintro out s9 ⟨tm,v9,o9,rfl,e0,e1,e6,e52,s8,g8,rfl,hm9,hsl9⟩;have hr8:=hr6.grow g8;have hVn:=hr8.rel.nodup hks;rw [ql7 Sv q.1 (qm6 VL q.1++ [⟨a,q.2.val,q.2.gone⟩]) v9 VL hVn] at hm9;have kv:Ch (λ_=>False) (λj=>j=mv) F s8 (s8.put mv o9):=(Ch.refl (λ_=>False) (λj=>j=mv) F s8).putMp hr8.vers rfl hr8.fv _
       have hvr:=vrel_put hr8.rel.1 hr8.rel.2 hVn q.1 ⟨a,q.2.val,q.2.gone⟩ hst6 hux
       have hr9:=hr8.setV (Sv':=λk=>if k=q.1 then v9 else Sv k) (S':=qjt (qcp a D P.S) q.1 ⟨a,q.2.val,q.2.gone⟩) kv hm9 (λx hx=>by
        rcases qkq hVn hx with rfl|⟨hx,hxk⟩
        ·simp only [if_true];exact hsl9.chT kv λh=>h
        ·simp only [if_neg hxk]
         exact(hr8.vs x hx).chT kv λh=>h) hvr
       have hsn:(qcp a (D++ [q]) P.S)=qjt (qcp a D P.S) q.1 ⟨a,q.2.val,q.2.gone⟩:=by unfold qcp;rw [List.foldl_append];rfl
       simp [qa0];refine⟨(S.eraseIdx j).length,by rw [hm1,List.length_eraseIdx_of_lt hj];omega,e0,e1,e6,e52,D++ [q],S.eraseIdx j,(λk=>if k=q.1 then v9 else Sv k),setV VL q.1 (qm6 VL q.1++ [⟨a,q.2.val,q.2.gone⟩]),rfl, ?_, ?_, ?_,((hcs'.trans g6.ch).trans g8.ch).trans (mT_v kv), ?_, ?_⟩
       ·exact((hi'.grow (by omega) (by omega) g6).grow (by omega) (by omega) g8).ch (by have:=g6.n;have:=g8.n;omega) (by have:=g6.n;have:=g8.n;omega) kv λ_ h=>hwmv h
       ·refine hpm.trans ?_;have:=qbn hj;rw [hku] at this;unfold qed;rw [List.map_append,List.append_assoc];exact List.Perm.append_left _ this
       ·rw [hsn];exact hr9
       ·have:=g6.n;have:=g8.n;show s1.n<s8.n;omega
       ·have:=g6.n;have:=g8.n;show Wn n<s8.n;omega
    ·refine⟨_,rfl, ?_⟩;simp;exact⟨[],W,Sv,VL,rfl,hit, .refl _,hr1.grow ga,(g1.trans ga).ch,hsan,by omega⟩
    ·rintro out s ⟨tm,Sv,VL,rfl,e0,e1,e6,hrs,hcs⟩;have hgs:=hrs.cell;have hsL:=hrs.lo.sl (sz:=5) qe1;obtain⟨pl,cl,rfl⟩:=hsL.form;have hLk:({P with S:=qcp a t.wr P.S}:PM).L=P.L:=rfl
     simp only [hLk] at hsL hgs;simp [qa0,e0,e1,e6,hgs];refine qak (λk ac s'=>∃tm j vo,ac=⟨tm,137, [],false⟩∧tm.get 0=some (.pointer (some ⟨m,0,none⟩))∧tm.get 1=some (.int .i64 n)∧tm.get 6=some (.int .u64 a)∧tm.get 11=some vo∧tm.get 78=some (.slice pl P.L.length cl)∧tm.get 79=some (.int .i64 P.L.length)∧tm.get 80=some (.int .i64 (j:Nat))∧j≤P.L.length∧k=P.L.length-j∧Own s.n s' 99 qag vo (qqk n a (P.L.take j))∧Grow s s')
      (λout s'=>∃tm vo,out= .code (.exit 3) ⟨tm,137, [],false⟩∧tm.get 0=some (.pointer (some ⟨m,0,none⟩))∧tm.get 1=some (.int .i64 n)∧tm.get 6=some (.int .u64 a)∧tm.get 11=some vo∧Own s.n s' 99 qag vo (qqk n a P.L)∧Grow s s') ?_ P.L.length _ _ ?_ ?_
     ·rintro k ac s' ⟨tm,j,vo,rfl,e0,e1,e6,e11,e78,e79,e80,hj,hk,hov,gs'⟩;obtain⟨po,co,rfl⟩:=(hov.sl (sz:=5) qe1).form;by_cases hjl:j<P.L.length
      ·obtain⟨i,off,row,ro,hpp,hgi,hin,hrow,hle⟩:=(hsL.grow gs').at hjl;subst hpp;have hld:=qam (enc:=qag) qe1 hrow j hjl;have hl1:=qbe hle j hjl;have hw2:=qb7 j (by omega)
       have hjl':(j:Int)<P.L.length:=by omega
       have hfl:(qqk n a (P.L.take j)).length≤P.L.length:=by
        unfold qqk;refine Nat.le_trans (List.length_filter_le _ _) ?_;rw [List.length_map,List.length_take];omega
       have htk:=qzz n a P.L j hjl;have g5:Grow s' ((s'.alloc (.cells [.int .i64 0, .string ⟨#[]⟩, .string ⟨#[]⟩, .int .u64 0, .int .u64 0] 99 false)).put s'.n (.cells (qag P.L[j]) 99 false)):=((Grow.refl s').alloc _).put (Nat.le_refl _) _;have hc5:((s'.alloc (.cells [.int .i64 0, .string ⟨#[]⟩, .string ⟨#[]⟩, .int .u64 0, .int .u64 0] 99 false)).put s'.n (.cells (qag P.L[j]) 99 false)).get s'.n=some (.cells (qag P.L[j]) 99 false):=by simp
       have hn5:((s'.alloc (.cells [.int .i64 0, .string ⟨#[]⟩, .string ⟨#[]⟩, .int .u64 0, .int .u64 0] 99 false)).put s'.n (.cells (qag P.L[j]) 99 false)).n=s'.n+1:=by simp
       simp only [qag] at g5 hc5 hn5;simp [qa0,e0,e1,e6,e11,e78,e79,e80,hjl,hjl',hgi,hld,hl1];simp [qa0,qag,e0,e1,e6,e11,e78,e79,e80];generalize (s'.alloc (.cells [.int .i64 0, .string ⟨#[]⟩, .string ⟨#[]⟩, .int .u64 0, .int .u64 0] 99 false)).put s'.n (.cells [.int .i64 P.L[j].owner, .string P.L[j].frm, .string P.L[j].til, .int .u64 P.L[j].sp.lo, .int .u64 P.L[j].sp.hi] 99 false)=s5 at g5 hc5 hn5⊢;have gs5:=gs'.trans g5;by_cases c1:P.L[j].owner=n
       ·rw [if_pos c1] at htk;have hmin:(if a<P.L[j].sp.hi then a else P.L[j].sp.hi)=min P.L[j].sp.hi a:=by split<;>omega
        have g6:Grow s' ((s5.put s'.n (.cells [.int .i64 0, .string P.L[j].frm, .string P.L[j].til, .int .u64 P.L[j].sp.lo, .int .u64 P.L[j].sp.hi] 99 false)).put s'.n (.cells [.int .i64 0, .string P.L[j].frm, .string P.L[j].til, .int .u64 P.L[j].sp.lo, .int .u64 (min P.L[j].sp.hi a)] 99 false)):=(g5.put (Nat.le_refl _) _).put (Nat.le_refl _) _;have hc6:((s5.put s'.n (.cells [.int .i64 0, .string P.L[j].frm, .string P.L[j].til, .int .u64 P.L[j].sp.lo, .int .u64 P.L[j].sp.hi] 99 false)).put s'.n (.cells [.int .i64 0, .string P.L[j].frm, .string P.L[j].til, .int .u64 P.L[j].sp.lo, .int .u64 (min P.L[j].sp.hi a)] 99 false)).get s'.n=some (.cells [.int .i64 0, .string P.L[j].frm, .string P.L[j].til, .int .u64 P.L[j].sp.lo, .int .u64 (min P.L[j].sp.hi a)] 99 false):=by simp
        have hn6:((s5.put s'.n (.cells [.int .i64 0, .string P.L[j].frm, .string P.L[j].til, .int .u64 P.L[j].sp.lo, .int .u64 P.L[j].sp.hi] 99 false)).put s'.n (.cells [.int .i64 0, .string P.L[j].frm, .string P.L[j].til, .int .u64 P.L[j].sp.lo, .int .u64 (min P.L[j].sp.hi a)] 99 false)).n=s'.n+1:=by simp [hn5]
        simp [qa0,e0,e1,e6,e11,e78,e79,e80,hc5,c1,qza,hmin,-qg0];generalize (s5.put s'.n (.cells [.int .i64 0, .string P.L[j].frm, .string P.L[j].til, .int .u64 P.L[j].sp.lo, .int .u64 P.L[j].sp.hi] 99 false)).put s'.n (.cells [.int .i64 0, .string P.L[j].frm, .string P.L[j].til, .int .u64 P.L[j].sp.lo, .int .u64 (min P.L[j].sp.hi a)] 99 false)=s6 at g6 hc6 hn6⊢;have gs6:=gs'.trans g6;obtain⟨p9,c9,s9,a1,a2,a3⟩:=qib (x:=⟨0,P.L[j].frm,P.L[j].til,⟨P.L[j].sp.lo,min P.L[j].sp.hi a⟩⟩) (hov.grow g6) gs6.n (by omega)
        have g9:Grow s s9:=gs6.thenB a3 (Nat.le_refl _);simp only [qag] at a1;by_cases c2:P.L[j].sp.lo≤min P.L[j].sp.hi a
        ·rw [if_pos (by simpa [full] using c2)] at htk
         simp [qa0,e0,e1,e6,e11,e78,e79,e80,hc6,c2,a1,hw2];exact⟨P.L.length-(j+1),by omega,j+1,rfl,by omega,rfl,by rw [htk];exact a2,g9⟩
        ·rw [if_neg (by simpa [full] using c2)] at htk
         simp [qa0,e0,e1,e6,e11,e78,e79,e80,hc6,c2,hw2];exact⟨P.L.length-(j+1),by omega,j+1,rfl,by omega,rfl,by rw [htk];exact hov.grow g6,gs6⟩
       ·rw [if_neg c1] at htk;obtain⟨p9,c9,s9,a1,a2,a3⟩:=qib (x:=P.L[j]) (hov.grow g5) gs5.n (by omega)
        have g9:Grow s s9:=gs5.thenB a3 (Nat.le_refl _);simp only [qag] at a1;by_cases c2:P.L[j].sp.lo≤P.L[j].sp.hi
        ·rw [if_pos (by simp [full,c2])] at htk
         rw [hn5] at a1;simp [qa0,e0,e1,e6,e11,e78,e79,e80,hc5,c1,c2,a1,hw2];exact⟨P.L.length-(j+1),by omega,j+1,rfl,by omega,rfl,by rw [htk];exact a2,g9⟩
        ·rw [if_neg (by simp [full];omega)] at htk
         simp [qa0,e0,e1,e6,e11,e78,e79,e80,hc5,c1,c2,hw2];exact⟨P.L.length-(j+1),by omega,j+1,rfl,by omega,rfl,by rw [htk];exact hov.grow g5,gs5⟩
      ·have hjl':j=P.L.length:=by omega
       subst hjl';rw [List.take_length] at hov;simp [qa0,e0,e1,e6,e11,e78,e79,e80];exact⟨hov,gs'⟩
     ·refine⟨_,0, .slice none 0 0,rfl, ?_⟩;simp [e0,e1,e6];exact⟨Own.nil,Grow.refl _⟩
     ·rintro out s2 ⟨tm,vo,rfl,e0,e1,e6,e11,hov,gs2⟩;have hr2:=hrs.grow gs2;obtain⟨po,co,hvo⟩:=(hov.sl (sz:=5) qe1).form;have hg2:s2.get m=some (.cells [.map (some mv), .slice pl P.L.length cl, .int .u64 P.clock, .int .i64 P.last, .map (some ml),tv] 107 false):=hr2.cell;have hto2:qbj 0 s2 22 qg5 tv P.taken:=hr2.to_;have hmax:(if P.clock<a then a else P.clock)=max P.clock a:=by split<;>omega
      obtain⟨p9,c9,s9,a1,a2,a3,a4⟩:=app_numZ (k:=a) hto2 (by omega)
      simp only [qg5] at a1 a3;have g2a:Grow s2 (s2.alloc (.cells [.int .u64 a] 22 false)):=(Grow.refl s2).alloc _;have hr2a:=hr2.grow g2a;have kn:Ch (λt=>t=107∨t=99∨t=22) noM F s2 s9:=g2a.ch.trans (qd3.chNum hr2a.to_ a3 hr2a.fto)
      have kn2:Ch (λt=>t=22) noM F s2 s9:=g2a.ch.trans (hr2a.to_.butV a3 hr2a.fto rfl)
      have hg9:s9.get m=some (.cells [.map (some mv), .slice pl P.L.length cl, .int .u64 P.clock, .int .i64 P.last, .map (some ml),tv] 107 false):=kn2.cell hg2 hr2.lm λ_=>by decide
      have kp:=kn.put (i:=m) hg9 (.inl rfl) hr2.fm (.cells [.map (some mv),vo, .int .u64 (max P.clock a), .int .i64 P.last, .map (some ml), .slice p9 (P.taken.length+1) c9] 107 false);have kp2:Ch (λt=>t=107) noM F s9 (s9.put m (.cells [.map (some mv),vo, .int .u64 (max P.clock a), .int .i64 P.last, .map (some ml), .slice p9 (P.taken.length+1) c9] 107 false)):=(Ch.refl (λt=>t=107) noM F s9).put hg9 rfl hr2.fm _
      have hσ2:σ.n≤s2.n:=Nat.le_trans hcs.1 gs2.n
      have hr3:=hr2.setLT (c:=max P.clock a) (la:=P.last) (L':=qqk n a P.L) (tk':=P.taken++ [a]) kp (by simp) (((hov.z.weaken (Nat.zero_le _)).chT kn2 (by decide)).chT kp2 (by decide)) (λj hj=>hF j (by have:=(hov.z.lt hj).1;have:=hcs.1;omega)) (a2.chT kp2 (by decide)) (qzv hr2.fto (λi hi=>hF i (Nat.le_trans hσ2 hi)) (by
       rcases a4 with e|e
       ·exact .inl e
       ·exact .inr ⟨_,e,by omega⟩))
      obtain⟨o5,ho5,hm5,_⟩:=qdo (P:=Tryz.prog) (key:=Value.int .i64) (kd:= .int .i64) (ts:= #[104,3]) (t:=104) (kt:=3) (et:=110) (k:=n) rfl Tryz.underlying104 (by kernel_rfl) (qbv .i64) hr3.lv.map
      have hlv5:=hr3.lv.del n hm5;have kml:=hr3.chMl o5;have hr5:=hr3.lvCh kml hlv5 λq hq hs=>hr3.mw q (List.mem_filter.1 hq).1 hs
      have fin:=h1 _ ⟨mv,ml,_,_,X,Wn,Sv,VL,hr5⟩ (((hcs.trans gs2.ch).trans (qz3 kp)).trans (qn7 kml));have hmn2:¬m=s2.n:=by have:=hr2.lm;omega
      simp only [←hmax] at ho5 fin;simp [qa0,e0,e1,e6,e11];subst hvo;refine qcv (l:= [0,1,2,3,4,5,6,7,8,11,12,13,14,15,16,9,10,17,18,19,20,21,22,23,24,25]) (b:= #[0,0,0,0,0,16,48,112,0,256,1008,0,2048,6144,14336,0,63488,32761,163833,425977,950267,1998843,4095995,8388607,16777215,33554431]) (by kernel_rfl) (by kernel_rfl) (by kernel_rfl) ?_
      simp [qa7,qal,qab,qb9,qa3,qa9,Nat.add_assoc,Nat.testBit_eq_decide_div_mod_eq,e0,e1,e6,e11,hg2,a1,hg9,maxK,hmn2];simpa [qa0,put_put,e0,e1,e6,ho5] using fin
end
theorem qzw (g:FuncId) (caps:Array Value) (hext:∀args s,qcr E1 (.func (.func g) #[] caps) args s=none) (p:Int→Bool) (Ok:CSt→Prop) (hog:∀s s',Ok s→Grow s s'→Ok s') (l:List Int) (v:Value) (σ:CSt) (hsl:Sl σ 22 1 qg5 v l) (hok:Ok σ)
  (hpred:∀x∈l,∀s Q,Ok s→(∀s',Grow s s'→Q (.ret (.bool (p x)) false) s')→W E1 (.fn g (#[.int .u64 x]++caps) none) s Q) (hbig:l.length<2^40) (Q:Out→CSt→Prop)
  (h:∀(r:Int) (σ':CSt),((r= -1∧∀x∈l,p x=false)∨∃k:Nat,r=k∧∃hk:k<l.length,p l[k]=true∧∀i (hi:i<l.length),i<k→p l[i]=false)→Grow σ σ'→Q (.ret (.int .i64 r) false) σ'):W E1 (.fn 238 #[v, .func (.func g) #[] caps] none) σ Q:=by
 rw [qap (fn:=Tryz.f238) Tryz.func238 rfl rfl rfl];obtain⟨pp,c,rfl⟩:=hsl.form;simp [qa0];refine qaj (λn a σ'=>∃tm j,a=⟨tm,19, [],false⟩∧tm.get 0=some (.slice pp l.length c)∧tm.get 1=some (.func (.func g) #[] caps)∧tm.get 7=some (.int .i64 l.length)∧tm.get 8=some (.int .i64 (j:Nat))∧j≤l.length∧n=l.length-j∧(∀i (h:i<l.length),i<j→p l[i]=false)∧Grow σ σ') ?_ l.length _ _ ?_
 ·rintro n a σ1 ⟨tm,j,rfl,e0,e1,e7,e8,hj,hn,hno,hgr⟩;by_cases hjl:j<l.length
  ·obtain⟨i,off,row,ro,rfl,hg,hin,hrow,hle⟩:=(hsl.grow hgr).at hjl;have hc:=qb2 (enc:=qg5) qru hrow j 0 hjl (by omega)
   have hc':row[off+j]? =some (.int .u64 l[j]):=by simpa [qg5] using hc
   have hw2:=qb7 j (by omega)
   simp [qa0,e0,e1,e7,e8,hjl,hg,hc',hext];have hpr:=λQ=>hpred l[j] (List.getElem_mem hjl) σ1 Q (hog _ _ hok hgr)
   try simp at hpr
   refine hpr _ fun σ2 g2=> ?_
   cases hat:p l[j] with
   |true=>
    have:=h j σ2 (.inr ⟨j,rfl,hjl,hat,hno⟩) (hgr.trans g2);simpa [qa0,hat] using this
   |false=>
    simp [qa0,hat,e0,e1,e7,e8,hw2];refine⟨_, ?_,j+1,rfl,by omega,rfl,λi h hi=> ?_,hgr.trans g2⟩
    ·omega
    ·by_cases e:i=j
     ·subst e;exact hat
     ·exact hno i h (by omega)
  ·have hjl':j=l.length:=by omega
   have:=h (-1) σ1 (.inl ⟨rfl,λx hx=>by
    obtain⟨i,hi,rfl⟩:=List.mem_iff_getElem.1 hx
    exact hno i hi (by omega)⟩) hgr
   simpa [qa0,e0,e1,e7,e8,hjl] using this
 ·refine⟨_,0,rfl, ?_⟩;simp;exact Grow.refl σ
theorem qxc (g:FuncId) (caps:Array Value) (hext:∀args s,qcr E1 (.func (.func g) #[] caps) args s=none) (p:Int→Bool) (Ok:CSt→Prop) (b:Nat) (l:List Int) (v:Value) (σ:CSt) (hog:∀s s',Ok s→qd3 v s s'→Ok s') (hown:qbj b σ 22 qg5 v l) (hok:Ok σ)
  (hpred:∀x∈l,∀s Q,Ok s→(∀s',Grow s s'→Q (.ret (.bool (p x)) false) s')→W E1 (.fn g (#[.int .u64 x]++caps) none) s Q) (hbig:l.length<2^38) (Q:Out→CSt→Prop)
  (h:∀(v':Value) (σ':CSt),qbj b σ' 22 qg5 v' (l.filter λx=> !p x)→(qb1 v'=qb1 v)→qd3 v σ σ'→Q (.ret v' false) σ'):W E1 (.fn 184 #[v, .func (.func g) #[] caps] none) σ Q:=by
 rw [qap (fn:=Tryz.f184) Tryz.func184 rfl rfl rfl];obtain⟨pp,c,rfl⟩:=(hown.sl (sz:=1) qru).form;simp [qa0];refine qzw g caps hext p Ok (λs s' h1 h2=>hog s s' h1 h2.butV) l _ σ (hown.sl qru) hok hpred (by omega) _ λr σ1 hr g1=> ?_
 rcases hr with⟨rfl,hall⟩|⟨k,rfl,hk,hpk,hno⟩
 ·have hf:(l.filter λx=> !p x)=l:=List.filter_eq_self.2 λx hx=>by simp [hall x hx]
  have:=h _ σ1 (by rw [hf];exact hown.grow g1) rfl g1.butV
  simpa [qa0] using this
 ·have hk1:¬((k:Nat):Int)= -1:=by omega
  have hwk:=qb7 k (by omega)
  rcases hown with⟨h0,h1⟩|⟨i0,cap,zs,h0,hbi,hin,hg0,hzs,hcap⟩
  ·rw [h1] at hk;simp at hk
  injection h0 with h0 _ h00
  subst h0;subst h00;have hcap:c=qa1:=by
   rcases hcap with hc|⟨hc,_⟩
   ·exact hc
   ·rw [hc] at hk;simp at hk
  subst hcap;have hobj:qb1 (.slice (some ⟨i0,0,none⟩) l.length qa1)=some i0:=rfl;simp [qa0,hk1,hwk];refine qak (λn a s=>∃(tm:Tr Value) (i j:Nat) (d:List Int),a=⟨tm,42, [],false⟩∧tm.get 0=some (.slice (some ⟨i0,0,none⟩) l.length qa1)∧tm.get 1=some (.func (.func g) #[] caps)∧tm.get 5=some (.int .i64 (i:Nat))∧tm.get 6=some (.int .i64 (j:Nat))∧j≤l.length∧n=l.length-j∧d.length=l.length∧d.take i=((l.take j).filter λx=> !p x)∧i=((l.take j).filter λx=> !p x).length∧d.drop j=l.drop j∧i<j∧s.get i0=some (.cells (d.flatMap qg5++zs) 22 false)∧qd3 (.slice (some ⟨i0,0,none⟩) l.length qa1) σ s)
   (λo s=>∃(tm:Tr Value) (i:Nat) (d:List Int),o= .code (.exit 0) ⟨tm,42, [],false⟩∧tm.get 0=some (.slice (some ⟨i0,0,none⟩) l.length qa1)∧tm.get 5=some (.int .i64 (i:Nat))∧d.length=l.length∧d.take i=(l.filter λx=> !p x)∧i=(l.filter λx=> !p x).length∧i<l.length∧s.get i0=some (.cells (d.flatMap qg5++zs) 22 false)∧qd3 (.slice (some ⟨i0,0,none⟩) l.length qa1) σ s) ?_ (l.length-(k+1)) _ _ ?_ ?_
  ·rintro n a s ⟨tm,i,j,d,rfl,e0,e1,e5,e6,hj,hn,hd,ht,hi,hdr,hij,hgs,hbs⟩;by_cases hjl:j<l.length
   ·have hjl':(j:Int)<l.length:=by omega
    have hjd:j<d.length:=by omega
    have hdj:=qh9 hjl hd hdr;have hrow0:=rowZ qru d zs;have hrl:(d.flatMap qg5++zs).length=d.length*1+zs.length:=by rw [List.length_append,qa5 qg5 qru]
    have hset:=λx=>qin qru d i x (by omega) zs
    have hw6:=qb7 j (by omega)
    have hw5:=qb7 i (by omega)
    have hil:i<l.length:=by omega
    have hsn:=hbs.1;have hc:=qb2 (enc:=qg5) qru hrow0 j 0 hjd (by omega)
    have hc':(d.flatMap qg5++zs)[j]? =some (.int .u64 l[j]):=by rw [←hdj];simpa [qg5] using hc
    generalize hrw:d.flatMap qg5++zs=row at hgs hrl hset hc';simp [qa0,e0,e1,e5,e6,hjl,hjl',hgs,hc',hext];have hpr:=λQ=>hpred l[j] (List.getElem_mem hjl) s Q (hog _ _ hok hbs)
    try simp at hpr
    refine hpr _ λs2 g2=> ?_
    have hgs2:=g2.get hgs (by omega)
    have hb2:=hbs.trans g2.butV;cases hp:p l[j] with
    |true=>
     obtain⟨k1,k2,k3⟩:=qc1 hjl ht hi hdr hp;simp [qa0,e0,e1,e5,e6,hw6];exact⟨n-1,by omega,i,rfl,j+1,rfl,by omega,by omega,d,hd,k1,k2,k3,by omega,by rw [hrw];exact hgs2,hb2⟩
    |false=>
     obtain⟨k0,k1,k2,k3⟩:=qc0 hjl hd ht hi hdr (by omega) hp
     have hset2:=hset l[j];have hle2:i+1≤row.length:=by omega
     simp only [qg5,Nat.mul_one,List.append_assoc,List.cons_append,List.nil_append] at hset2;have hil':(i:Int)<l.length:=by omega
     simp [qa0,e0,e1,e5,e6,hw5,hw6,hil,hil',hgs2,hle2];exact⟨n-1,by omega,i+1,rfl,j+1,rfl,by omega,by omega,d.set i l[j],k0,k1,k2,k3,by omega,by rw [hset2],hb2.putV hobj _⟩
   ·have hjl':¬(j:Int)<l.length:=by omega
    have hje:j=l.length:=by omega
    rw [hje,List.take_length] at ht hi;simp [qa0,e0,e1,e5,e6,hjl,hjl'];exact⟨i,rfl,d,hd,ht,hi,by omega,hgs,hbs⟩
  ·have hft:=qfc hk hno hpk;refine⟨_,k,k+1,l,rfl, ?_⟩;simp;refine⟨by omega,by rw [hft],by rw [hft];simp;omega, ?_, ?_⟩
   ·exact g1.get hg0 hin
   ·exact g1.butV
  ·rintro o s ⟨tm,i,d,rfl,e0,e5,hd,ht,hi,hil,hgs,hbs⟩;have hzl:((List.replicate (l.length-i) ([.int .u64 0]:List Value)).flatten).length=(l.length-i)*1:=by
    rw [List.length_flatten];simp
   have hzc:qc9 ((List.replicate (l.length-i) ([.int .u64 0]:List Value)).flatten)=true:=qho _ _ rfl;have hrl:(d.flatMap qg5++zs).length=d.length*1+zs.length:=by rw [List.length_append,qa5 qg5 qru]
   have hcl:=qp7 qru d i (by omega) zs ((List.replicate (l.length-i) ([.int .u64 0]:List Value)).flatten) (by rw [hzl,hd])
   have hst:st (d.flatMap qg5++zs) (i*1) ((List.replicate (l.length-i) ([.int .u64 0]:List Value)).flatten)=some ((d.take i).flatMap qg5++((List.replicate (l.length-i) ([.int .u64 0]:List Value)).flatten++zs)):=by
    rw [←hcl];unfold st;rw [if_pos (by rw [hzl,hrl,hd];omega)]
   generalize hrw:d.flatMap qg5++zs=row at hgs hrl hcl hst;simp only [Nat.mul_one,List.flatten_replicate_singleton] at hst;have hil':¬l.length-i=0:=by omega
   have hi2:i≤l.length:=by omega
   have hle3:l.length≤row.length:=by omega
   have hle4:i≤row.length:=by omega
   simp [qa0,e0,e5,qb5,qdn,qgy,qiz,hgs,hi2,hil',hst,hle3,hle4,-qi0];rw [ht,hi];refine h _ _ (.inr ⟨i0,qa1,_,rfl,hbi,Nat.lt_of_lt_of_le hin hbs.1,by rw [CSt.get_put,if_pos rfl], ?_, .inl rfl⟩) rfl (hbs.putV hobj _)
   simp only [List.flatten_replicate_singleton] at hzc;rw [qcb,hzs,←hi,hzc];rfl
theorem qrk (b t:Int) (c:Nat) (s:CSt) (hc:s.get c=some (.cells [.int .u64 t] 22 false)) (hcn:c<s.n) (Q:Out→CSt→Prop) (h:∀s',Grow s s'→Q (.ret (.bool (decide (b≤t))) false) s'):W E1 (.fn 185 #[.int .u64 b, .pointer (some ⟨c,0,none⟩)] none) s Q:=by
 rw [qap (fn:=Tryz.f185) Tryz.func185 rfl rfl rfl];have hg:=h _ (Grow.refl s);simpa [qa0,hc] using hg
def qlu (l:List Ver) (t:Int) (j:Nat):List Ver:=(l.take j).filter λv=>decide (t<v.at_)||(decide (atM l t=some v)&& !v.gone)
theorem qx1 {l:List Ver} {t:Int} {j:Nat} (h:j<l.length):qlu l t (j+1)=if(decide (t<l[j].at_)||(decide (atM l t=some l[j])&& !l[j].gone))=true then qlu l t j++ [l[j]] else qlu l t j:=by
 unfold qlu;rw [List.take_succ_eq_append_getElem h,List.filter_append,List.filter_cons,List.filter_nil];split<;>simp
theorem qlp (l:List Ver) (t:Int):qlu l t l.length=qcg l t:=by
 unfold qlu qcg;rw [List.take_length]
theorem qvy (l:List Ver) (t:Int) (j:Nat):(qlu l t j).length≤l.length:=by
 unfold qlu;refine Nat.le_trans (List.length_filter_le _ _) ?_;rw [List.length_take];omega
theorem zac {α:Type} (A:List (ByteArray×α)) (k x:ByteArray):qaw (A.filter λp=> !decide (p.1=k)) x=if x=k then none else qaw A x:=by
 induction A with
 |nil=>simp [qaw]
 |cons p A ih=>
  rw [List.filter_cons];by_cases e:p.1=k
  ·simp only [e,decide_true,Bool.not_true,Bool.false_eq_true,if_false];rw [ih,qax];by_cases e2:x=k
   ·rw [if_pos e2,if_pos e2]
   ·rw [if_neg e2,if_neg e2,if_neg λe3=>e2 (by rw [←e3,e])]
  ·simp only [e,decide_false,Bool.not_false,if_true];rw [qax,qax,ih];by_cases e2:x=k
   ·subst e2;simp [e]
   ·simp [e2]
theorem zab {VL:Vl} {k:ByteArray} {l:List Ver} (h:qaw VL k=some l):qm6 VL k=l:=by unfold qm6;rw [h];rfl
def PgJ (t:Int) (W0:Nat) (VL:Vl) (Sv:ByteArray→Value) (P:PM) (F:Nat→Prop) (σ s:CSt) (m mv ml:Nat) (lv tv:Value) (X Wn:Int→Nat) (it:Nat) (VL':Vl) (Sv':ByteArray→Value) (D:ByteArray→Bool) (S:Ml) (g:Nat):Prop:=
 MIt Value.string s it mv (VL'.map λq=>(q.1,Sv' q.1)) S∧(S.map (·.1)).Nodup∧(∀p∈S,D p.1=false∧∃l,qaw VL p.1=some l∧l.length<2^30∧Uni l∧Sl s 40 3 qad p.2 l)∧(∀k,qaw VL' k=if D k=true then(qaw VL k).bind (cutV t) else qaw VL k)∧(∀k,qaw VL k≠none→D k=true∨k∈S.map (·.1))∧g+(S.map λp=>qqd VL t p.1).sum=W0∧RMx F s m mv ml lv tv X Wn Sv' VL' {P with S:=VL'.map λq=>(q.1,qcs q.2)}∧Ch mT qcd F σ s∧it<s.n∧s.get σ.n=some (.cells [.int .u64 t] 22 false)
section
variable {F:Nat→Prop} {σ:CSt} {m mv ml:Nat} {lv tv:Value} {X Wn:Int→Nat} {Sv:ByteArray→Value} {VL:Vl} {P:PM}
theorem qsn (h:RM F σ m P) (hF:∀i,σ.n≤i→F i) (hok:P.Ok) (hsz:P.size<2^30) (t:Int) (ht:0≤t∧t<2^64) (Q:Out→CSt→Prop)
  (h1:∀σ',RM F σ' m (P.purge t).2→Ch mT qcd F σ σ'→Q (.ret (.tuple #[.int .i64 (P.purge t).1.1, .int .i64 (P.purge t).1.2]) false) σ'):W E1 (.fn 107 #[ptr m, .int .u64 t] none) σ Q:=by
 obtain⟨mv,ml,lv,tv,X,Wn,Sv,VL,h⟩:=h;rw [qap (fn:=Tryz.f107) Tryz.func107 rfl rfl rfl];have g0:Grow σ (σ.alloc (.cells [.int .u64 t] 22 false)):=(Grow.refl σ).alloc _;have hc0:(σ.alloc (.cells [.int .u64 t] 22 false)).get σ.n=some (.cells [.int .u64 t] 22 false):=by simp
 have hn0:σ.n<(σ.alloc (.cells [.int .u64 t] 22 false)).n:=by simp
 simp [qa0,ptr];generalize σ.alloc (.cells [.int .u64 t] 22 false)=s0 at g0 hc0 hn0⊢;have hr0:=h.grow g0;have hle:=λQ=>qhl hr0 hok Q
 unfold ptr at hle;have hln:=qk0 hok;have hlc:=Int.le_trans (qvx P) (qtt P);have hck:=hok.clock;have hL:P.L.length<2^30:=by
  have:P.L.length≤P.size:=by unfold PM.size;omega
  omega
 have hTl:P.taken.length<2^30:=by
  have:P.taken.length≤P.size:=by unfold PM.size;omega
  omega
 refine qcv (l:= [0,1,2,3]) (b:= #[0,0,2,7]) (by kernel_rfl) (by kernel_rfl) (by kernel_rfl) ?_
 simp [qa7,qal,qab,qb9,qa3,qa9,Nat.add_assoc,Nat.testBit_eq_decide_div_mod_eq,hc0];refine hle _ λs1 g1=> ?_
 have hc1:=g1.get hc0 hn0;simp [qa7,qa0,qal,qab,qb9,qa3,qa9,Nat.add_assoc,Nat.testBit_eq_decide_div_mod_eq,hc1];have g01:=g0.trans g1;have hr1:=hr0.grow g1;by_cases c:P.least<t
 ·have e:P.purge t=((0,1),P):=if_pos c;have:=h1 s1 (by rw [e];exact⟨mv,ml,lv,tv,X,Wn,Sv,VL,hr1⟩) g01.ch
  rw [e] at this;simpa [qa0,c] using this
 ·have e:P.purge t=((((qel t P.S:Nat):Int),0),{P with S:=qen t P.S,L:=qkb t P.L,taken:=P.taken.filter λa=> !decide (a≤t)}):=if_neg c
  rw [e] at h1;have hg1:=hr1.cell;have hVn:=hr1.rel.nodup hok.ks;have hsum:qel t P.S<2^60:=by
   have h1:=qog t P.S;have:vsz P.S≤P.size:=by unfold PM.size;omega
   have h2:qkh P.S≤vsz P.S:=Nat.le_refl _;omega
  have hc1n:σ.n<s1.n:=Nat.lt_of_lt_of_le hn0 g1.n;obtain⟨o,ho,hit⟩:=qb3 (P:=Tryz.prog) (t:=101) Tryz.underlying101 hr1.vers hr1.lmv;have ga:Grow s1 (s1.alloc o):=(Grow.refl s1).alloc o;have hr2:=hr1.grow ga;have hc2:=ga.get hc1 hc1n;simp [qa0,c,hg1,ho];generalize hsae:s1.alloc o=sa at hit ga hr2 hc2⊢;have hsan:s1.n<sa.n:=by rw [←hsae];simp
  refine qak (λk ac s=>∃tm VL' Sv' D S g,ac=⟨tm,133, [],false⟩∧tm.get 0=some (.pointer (some ⟨m,0,none⟩))∧tm.get 3=some (.pointer (some ⟨σ.n,0,none⟩))∧tm.get 5=some (.int .i64 0)∧tm.get 6=some (.int .i64 (g:Nat))∧tm.get 25=some (.pointer (some ⟨s1.n,0,none⟩))∧k=List.length S∧PgJ t (qel t P.S) VL Sv P F σ s m mv ml lv tv X Wn s1.n VL' Sv' D S g)
   (λout s=>∃tm VL' Sv',out= .code (.exit 0) ⟨tm,133, [],false⟩∧tm.get 0=some (.pointer (some ⟨m,0,none⟩))∧tm.get 3=some (.pointer (some ⟨σ.n,0,none⟩))∧tm.get 6=some (.int .i64 (qel t P.S:Nat))∧RMx F s m mv ml lv tv X Wn Sv' VL' {P with S:=qen t P.S}∧Ch mT qcd F σ s∧s.get σ.n=some (.cells [.int .u64 t] 22 false)∧σ.n<s.n) ?_ VL.length _ _ ?_ ?_
  ·rintro k ac s ⟨tm,VL',Sv',D,S,g,rfl,e0,e3,e5,e6,e25,hk,⟨hi,hSn,hS,hgt,hcv,hsm,hrs,hcs,hits,hcb⟩⟩;simp [qa0,e0,e3,e5,e6,e25];refine qbb hi (λhS0=> ?_) (λj hj o' hi' he=> ?_)
   ·subst hS0;simp [qa0];refine⟨e0,e3, ?_,⟨VL',Sv', ?_⟩,hcs,hcb,by omega⟩
    ·have:g=qel t P.S:=by simpa using hsm
     rw [←this];exact e6
    ·have hn':=(by obtain⟨_,_,_,e⟩:=hi.mp;exact e.keys:((VL'.map λq=>(q.1,Sv' q.1)).map (·.1)).Nodup)
     rw [List.map_map] at hn';have hv:=qy5 hr1.rel hok.ks t hn' λk=>by
      rw [hgt];cases hD:D k with
      |true=>simp
      |false=>
       have:qaw VL k=none:=by
        cases hk2:qaw VL k with
        |none=>rfl
        |some l=>
         have:=hcv k (by rw [hk2];simp)
         rw [hD] at this;simp at this
       simp [this]
     exact⟨hrs.fm,hrs.lm,hrs.cell,hrs.lo,hrs.flo,hrs.to_,hrs.fto,hrs.lv,hrs.fv,hrs.lmv,hrs.vers,hrs.vs,hv,hrs.mml,hrs.mw⟩
   ·obtain⟨x,hx⟩:∃x,S[j].1=x:=⟨_,rfl⟩
    obtain⟨u,hu⟩:∃u,S[j].2=u:=⟨_,rfl⟩
    obtain⟨hxD,l,hkl,hll,hul,hsl⟩:=hS S[j] (List.getElem_mem hj);have hku:S[j]=(x,u):=Prod.ext hx hu;rw [hx] at hxD hkl;rw [hu] at hsl;rw [hku] at he⊢;simp only at he;have hcs':Ch mT qcd F σ (s.put s1.n o'):=hcs.new g01.n _;have hrs':=hrs.cm (hi.cm o');have hsl':Sl (s.put s1.n o') 40 3 qad u l:=hsl.cm (hi.cm o');have hcb':(s.put s1.n o').get σ.n=some (.cells [.int .u64 t] 22 false):=by
     rw [CSt.get_put,if_neg (by omega)];exact hcb
    have hn':(s.put s1.n o').n=s.n:=rfl;have hkc:=hi.cm o';generalize s.put s1.n o'=s5 at hi' he hcs' hrs' hn' hsl' hcb' hkc⊢;obtain⟨pu,cu,rfl⟩:=hsl'.form;have hvg:qm6 VL' x=l:=zab (by rw [hgt,hxD];exact hkl)
    have hcb5:σ.n<s5.n:=by have:=hcs'.1;have:=g01.n;omega
    have hat:=λQ=>zau hrs' x (by rw [hvg];exact hll) t Q
    rw [hvg] at hat;unfold ptr at hat;simp [qa0,he,e0,e3,e5,e6,e25,hcb'];refine hat _ λs6 g6=> ?_
    obtain⟨oo,hoo⟩:∃oo,atM l t=oo:=⟨_,rfl⟩
    have g7:Grow s6 ((s6.alloc (.cells [.int .u64 0, .string ⟨#[]⟩, .bool false] 40 false)).put s6.n (.cells (qad (qdl oo)) 40 false)):=((Grow.refl s6).alloc _).put (Nat.le_refl _) _;have hc7:((s6.alloc (.cells [.int .u64 0, .string ⟨#[]⟩, .bool false] 40 false)).put s6.n (.cells (qad (qdl oo)) 40 false)).get s6.n=some (.cells (qad (qdl oo)) 40 false):=by simp
    have hn7:((s6.alloc (.cells [.int .u64 0, .string ⟨#[]⟩, .bool false] 40 false)).put s6.n (.cells (qad (qdl oo)) 40 false)).n=s6.n+1:=by simp
    simp only [qad] at g7 hc7 hn7;simp [qa0,e0,e3,e5,e6,e25,hoo,qad];generalize (s6.alloc (.cells [.int .u64 0, .string ⟨#[]⟩, .bool false] 40 false)).put s6.n (.cells [.int .u64 (qdl oo).at_, .string (qdl oo).val, .bool (qdl oo).gone] 40 false)=s7 at g7 hc7 hn7⊢;have g57:=g6.trans g7;refine qak (λk ac s'=>∃tm i vo,ac=⟨tm,133, [],false⟩∧tm.get 0=some (.pointer (some ⟨m,0,none⟩))∧tm.get 3=some (.pointer (some ⟨σ.n,0,none⟩))∧tm.get 5=some (.int .i64 0)∧tm.get 6=some (.int .i64 (g:Nat))∧tm.get 7=some (.string x)∧tm.get 8=some (.slice pu l.length cu)∧tm.get 9=some (.pointer (some ⟨s6.n,0,none⟩))∧tm.get 10=some (.bool oo.isSome)∧tm.get 11=some vo∧tm.get 25=some (.pointer (some ⟨s1.n,0,none⟩))∧tm.get 38=some (.slice pu l.length cu)∧tm.get 39=some (.int .i64 l.length)∧tm.get 40=some (.int .i64 (i:Nat))∧i≤l.length∧k=l.length-i∧Own s7.n s' 40 qad vo (qlu l t i)∧Grow s7 s')
     (λout s'=>∃tm vo,out= .code (.exit 2) ⟨tm,133, [],false⟩∧tm.get 0=some (.pointer (some ⟨m,0,none⟩))∧tm.get 3=some (.pointer (some ⟨σ.n,0,none⟩))∧tm.get 5=some (.int .i64 0)∧tm.get 6=some (.int .i64 (g:Nat))∧tm.get 7=some (.string x)∧tm.get 8=some (.slice pu l.length cu)∧tm.get 11=some vo∧tm.get 25=some (.pointer (some ⟨s1.n,0,none⟩))∧Own s7.n s' 40 qad vo (qcg l t)∧Grow s7 s') ?_ l.length _ _ ?_ ?_
    ·rintro k ac s' ⟨tm,i,vo,rfl,e0,e3,e5,e6,e7,e8,e9,e10,e11,e25,e38,e39,e40,hi3,hk3,hov,gs'⟩;obtain⟨po,co,rfl⟩:=(hov.sl (sz:=3) (λ_=>rfl)).form
     by_cases hil:i<l.length
     ·obtain⟨ii,off,row,ro,hpp,hgi,hin,hrow,hle⟩:=(hsl'.grow (g57.trans gs')).at hil;subst hpp;have hld:=qam (enc:=qad) (λ_=>rfl) hrow i hil
      have hl1:=qbe hle i hil;have hw2:=qb7 i (by omega)
      have hil':(i:Int)<l.length:=by omega
      have hkl2:=qvy l t i;have hsc:=qx1 (t:=t) hil;have gw:Grow s' ((s'.alloc (.cells [.int .u64 0, .string ⟨#[]⟩, .bool false] 40 false)).put s'.n (.cells (qad l[i]) 40 false)):=((Grow.refl s').alloc _).put (Nat.le_refl _) _;have hcw:((s'.alloc (.cells [.int .u64 0, .string ⟨#[]⟩, .bool false] 40 false)).put s'.n (.cells (qad l[i]) 40 false)).get s'.n=some (.cells (qad l[i]) 40 false):=by simp
      have hnw:((s'.alloc (.cells [.int .u64 0, .string ⟨#[]⟩, .bool false] 40 false)).put s'.n (.cells (qad l[i]) 40 false)).n=s'.n+1:=by simp
      have hcmp:∀σ x y,qd5 Tryz.prog σ .eql 40 x y (.agg #[.int .u64 l[i].at_, .string l[i].val, .bool l[i].gone]) (.agg #[.int .u64 (qdl oo).at_, .string (qdl oo).val, .bool (qdl oo).gone])= .val (.bool (decide (l[i]=qdl oo))) σ:=fun σ x y=>(qz6 l[i] (qdl oo) σ x y).1
      simp only [qad] at gw hcw hnw;have hcb8:=(g57.trans (gs'.trans gw)).get hcb' hcb5;have hc9:=(gs'.trans gw).get hc7 (by omega)
      simp [qa0,e0,e3,e5,e6,e7,e8,e9,e10,e11,e25,e38,e39,e40,hil,hil',hgi,hld,hl1];have hcbs:=(g57.trans gs').get hcb' hcb5;have hne1:¬σ.n=s'.n:=by have:=(g57.trans gs').n;omega
      have hne2:¬s6.n=s'.n:=by have:=gs'.n;omega
      have hc9s:=gs'.get hc7 (by omega)
      simp [qa0,qad,e0,e3,e5,e6,e7,e8,e9,e10,e11,e25,e38,e39,e40,hcbs,hne1];generalize (s'.alloc (.cells [.int .u64 0, .string ⟨#[]⟩, .bool false] 40 false)).put s'.n (.cells [.int .u64 l[i].at_, .string l[i].val, .bool l[i].gone] 40 false)=s8 at gw hcw hnw hcb8 hc9⊢;have gs8:=gs'.trans gw;obtain⟨p9,c9,s9,a1,a2,a3⟩:=za2 (x:=l[i]) (hov.grow gw) gs8.n (by omega)
      have g9:Grow s7 s9:=gs8.thenB a3 (Nat.le_refl _);simp only [qad] at a1;cases hf:(decide (t<l[i].at_)||(decide (atM l t=some l[i])&& !l[i].gone)) with
      |true=>
       rw [hf,if_pos rfl] at hsc;by_cases c1:t<l[i].at_
       ·simp [qa0,qa2,qa4,e0,e3,e5,e6,e7,e8,e9,e10,e11,e25,e38,e39,e40,hcw,hcb8,hc9,c1,a1,hw2];exact⟨l.length-(i+1),by omega,i+1,rfl,by omega,rfl,by rw [hsc];exact a2,g9⟩
       ·simp [c1] at hf;have hoe:oo=some l[i]:=by rw [←hoo];exact hf.1
        subst hoe;simp only [qdl,Option.getD_some] at hcmp hc9;rw [hf.2] at hcmp a1;simp [qa0,qa2,qa4,e0,e3,e5,e6,e7,e8,e9,e10,e11,e25,e38,e39,e40,hcw,hcb8,hc9,c1,a1,hw2,hcmp,hf.2];exact⟨l.length-(i+1),by omega,i+1,rfl,by omega,rfl,by rw [hsc];exact a2,g9⟩
      |false=>
       rw [hf,if_neg (by decide)] at hsc
       have fin:Own s7.n s8 40 qad (.slice po (qlu l t i).length co) (qlu l t (i+1)):=by rw [hsc];exact hov.grow gw
       have c1:¬t<l[i].at_:=by simp at hf;omega
       simp [c1] at hf;cases hoe:oo with
       |none=>
        rw [hoe] at e10;simp at e10;simp [qa0,qa2,qa4,e0,e3,e5,e6,e7,e8,e9,e10,e11,e25,e38,e39,e40,hcw,hcb8,hc9,c1,hw2];exact⟨l.length-(i+1),by omega,i+1,rfl,by omega,rfl,fin,gs8⟩
       |some w=>
        rw [hoe] at e10 hcmp hc9 hoo;simp at e10;simp only [qdl,Option.getD_some] at hcmp hc9;by_cases c2:l[i]=w
        ·have c3:=hf (by rw [hoo,c2])
         subst c2;rw [c3] at hcmp;simp [qa0,qa2,qa4,e0,e3,e5,e6,e7,e8,e9,e10,e11,e25,e38,e39,e40,hcw,hcb8,hc9,c1,hw2,hcmp,c3];exact⟨l.length-(i+1),by omega,i+1,rfl,by omega,rfl,fin,gs8⟩
        ·simp [qa0,qa2,qa4,e0,e3,e5,e6,e7,e8,e9,e10,e11,e25,e38,e39,e40,hcw,hcb8,hc9,c1,hw2,hcmp,c2];exact⟨l.length-(i+1),by omega,i+1,rfl,by omega,rfl,fin,gs8⟩
     ·have hil':i=l.length:=by omega
      subst hil';rw [qlp] at hov;simp [qa0,e0,e3,e5,e6,e7,e8,e9,e10,e11,e25,e38,e39,e40,qlp];exact⟨hov,gs'⟩
    ·refine⟨_,0, .slice none 0 0,rfl, ?_⟩;simp [e0,e3,e5,e6,e25];exact⟨Own.nil,Grow.refl _⟩
    ·rintro out s8 ⟨tm,vo,rfl,e0,e3,e5,e6,e7,e8,e11,e25,hov,gs8⟩;have hkl2:(qcg l t).length≤l.length:=by rw [←qlp];exact qvy l t _
     have g58:=g57.trans gs8;have hr8:=hrs'.grow g58;have hi8:=(hi'.grow (by omega) hrs'.lmv g58)
     have hcb8:=g58.get hcb' hcb5;have hcs8:Ch mT qcd F σ s8:=hcs'.trans g58.ch;have hg8:=hr8.cell;have hVn':(VL'.map (·.1)).Nodup:=by
      obtain⟨_,_,_,e⟩:=hi.mp;have:=e.keys;rw [List.map_map] at this;exact this
     have hSe:∀p∈S.eraseIdx j,p∈S∧p.1≠x:=λp hp=>by
      refine⟨List.mem_of_mem_eraseIdx hp,λe=> ?_⟩
      have h3:((S.eraseIdx j).map (·.1))=(S.map (·.1)).eraseIdx j:=qe5 _ _ _
      have h4:x∈(S.map (·.1)).eraseIdx j:=by rw [←h3,←e];exact List.mem_map_of_mem (f:=(·.1)) hp
      have h5:=qbn (S:=S.map (·.1)) (j:=j) (by simpa using hj)
      have h6:=h5.nodup_iff.1 hSn;rw [List.nodup_cons] at h6;refine h6.1 ?_;have:(S.map (·.1))[j]'(by simpa using hj)=x:=by simp [hx]
      rw [this];exact h4
     have hSn':((S.eraseIdx j).map (·.1)).Nodup:=by rw [qe5];exact hSn.sublist (List.eraseIdx_sublist _ _)
     have hkVL:qaw VL' x=some l:=by rw [hgt,hxD];exact hkl
     have hold:qkg (VL'.map λq=>(q.1,Sv' q.1)) x≠none:=by rw [qor,hkVL];simp
     obtain⟨o9,ho9,hi9⟩:=za8 (P:=Tryz.prog) (key:=Value.string) (kd:= .string) (t:=101) (kt:=9) (et:=103) (k:=x) Tryz.underlying101 (by kernel_rfl) qc3 hi8 hold (λp hp=>(hSe p hp).2) vo
     rw [ql7 Sv' x (qcg l t) vo VL' hVn'] at hi9;have kv:Ch (λ_=>False) (λj=>j=mv) F s8 (s8.put mv o9):=(Ch.refl (λ_=>False) (λj=>j=mv) F s8).putMp hr8.vers rfl hr8.fv _
     have hwx:qqd VL t x=l.length-(qcg l t).length:=by unfold qqd;rw [hkl]
     have hpp:=((qbn hj).map λp=>qqd VL t p.1).sum_nat
     rw [List.map_cons,List.sum_cons,hx,hwx] at hpp;have hw1:IntKind.i64.wrap ((l.length:Int)-((qcg l t).length:Int))=((l.length-(qcg l t).length:Nat):Int):=by rw [IntWalk.i64_in _ (by omega)];omega
     have hw2:IntKind.i64.wrap ((g:Int)+((l.length-(qcg l t).length:Nat):Int))=((g+(l.length-(qcg l t).length):Nat):Int):=by rw [IntWalk.i64_in _ (by omega)];omega
     obtain⟨po,co,rfl⟩:=(hov.sl (sz:=3) (λ_=>rfl)).form
     have hS':∀p∈S.eraseIdx j,(decide (p.1=x)||D p.1)=false:=λp hp=>by
      obtain⟨a1,a2⟩:=hSe p hp;simp [a2,(hS p a1).1]
     have hcv':∀k,qaw VL k≠none→(decide (k=x)||D k)=true∨k∈(S.eraseIdx j).map (·.1):=λk hk=>by
      rcases hcv k hk with h|h
      ·left;simp [h]
      ·obtain⟨p,hp,rfl⟩:=List.mem_map.1 h;rcases List.mem_cons.1 ((qbn hj).mem_iff.1 hp) with e|e
       ·left;rw [e,hx];simp
       ·exact .inr (List.mem_map_of_mem (f:=(·.1)) e)
     obtain⟨Sv9,hSv9⟩:∃f:ByteArray→Value,f=λq=>if q=x then Value.slice po (qcg l t).length co else Sv' q:=⟨_,rfl⟩
     rw [←hSv9] at hi9;have hS2:∀p∈S.eraseIdx j,∃l,qaw VL p.1=some l∧l.length<2^30∧Uni l∧Sl (s8.put mv o9) 40 3 qad p.2 l:=λp hp=>by
      obtain⟨_,l2,a1,a2,a3,a4⟩:=hS p (hSe p hp).1;exact⟨l2,a1,a2,a3,((a4.cm hkc).grow g58).chT kv λh=>h⟩
     have hvs9:∀q∈setV VL' x (qcg l t),Sl (s8.put mv o9) 40 3 qad (Sv9 q.1) q.2:=λq hq=>by
      rw [hSv9];rcases qkq hVn' hq with rfl|⟨hq,hqk⟩
      ·simp only [if_true];exact(hov.sl (sz:=3) (λ_=>rfl)).chT kv λh=>h
      ·simp only [if_neg hqk];exact(hr8.vs q hq).chT kv λh=>h
     have huni9:∀q∈setV VL' x (qcg l t),Uni q.2:=λq hq=>by
      rcases qkq hVn' hq with rfl|⟨hq,hqk⟩
      ·exact Uni.left hul t
      ·exact hr8.rel.2 q hq
     have hcb9:=kv.cell hcb8 (Nat.lt_of_lt_of_le hcb5 g58.n) λ_ h=>h
     have hit9:s1.n<(s8.put mv o9).n:=by have:=g58.n;show s1.n<s8.n;omega
     have hcs9:=hcs8.trans (mT_v kv);have hsm9:g+(l.length-(qcg l t).length)+((S.eraseIdx j).map λp=>qqd VL t p.1).sum=qel t P.S:=by omega
     simp [qa0,e0,e3,e5,e6,e7,e8,e11,e25,hw1,hw2,hg8,ho9];have hmv:¬m=mv:=by
      rintro rfl;obtain⟨es,c2,e2⟩:=hr8.vers.isMap;rw [e2] at hg8;cases hg8
     have hlS:(S.eraseIdx j).length<S.length:=by rw [List.length_eraseIdx_of_lt hj];omega
     by_cases cz:qcg l t= []
     ·have hr9:=hr8.setV (S':=(setV VL' x (qcg l t)).map λq=>(q.1,qcs q.2)) kv hi9.mp hvs9 ⟨.refl _,huni9⟩
      have hg9:=hr9.cell;obtain⟨o10,ho10,hm10,hit10⟩:=qdo (P:=Tryz.prog) (key:=Value.string) (kd:= .string) (ts:= #[101,9]) (t:=101) (kt:=9) (et:=103) (k:=x) rfl Tryz.underlying101 (by kernel_rfl) qc3 hi9.mp
      have hi10:=hit10 _ _ hi9 λp hp=>(hSe p hp).2
      have hdl:qrt ((setV VL' x (qcg l t)).map λq=>(q.1,Sv9 q.1)) x=((setV VL' x (qcg l t)).filter λp=> !decide (p.1=x)).map λq=>(q.1,Sv9 q.1):=by
       unfold qrt;rw [List.filter_map]
       rfl
      rw [hdl] at hi10;have kv2:Ch (λ_=>False) (λj=>j=mv) F (s8.put mv o9) ((s8.put mv o9).put mv o10):=(Ch.refl (λ_=>False) (λj=>j=mv) F (s8.put mv o9)).putMp hr9.vers rfl hr9.fv _
      have hr10:=hr9.setV (VL':=(setV VL' x (qcg l t)).filter λp=> !decide (p.1=x)) (S':=((setV VL' x (qcg l t)).filter λp=> !decide (p.1=x)).map λq=>(q.1,qcs q.2)) kv2 hi10.mp (λq hq=>(hvs9 q (List.mem_filter.1 hq).1).chT kv2 λh=>h) ⟨.refl _,λq hq=>huni9 q (List.mem_filter.1 hq).1⟩
      have cz0:(qcg l t).length=0:=by rw [cz];rfl
      simp [qa0,cz,e0,e3,e5,e7,e25,hg9,ho10,hg8,hmv];refine⟨_,by rw [hk];exact hlS,_,Sv9,λk=>decide (k=x)||D k,S.eraseIdx j,g+(l.length-(qcg l t).length),by simp [cz],rfl,hi10,hSn',λp hp=>⟨hS' p hp, ?_⟩,λk=> ?_,hcv',hsm9,hr10,hcs9.trans (mT_v kv2),hit9,kv2.cell hcb9 (Nat.lt_of_lt_of_le hcb5 g58.n) λ_ h=>h⟩
      ·obtain⟨l2,a1,a2,a3,a4⟩:=hS2 p hp;exact⟨l2,a1,a2,a3,a4.chT kv2 λh=>h⟩
      ·rw [zac,qrp];by_cases ek:k=x
       ·subst ek;simp [hkl,cutV,cz]
       ·rw [if_neg ek,if_neg λe=>ek e.symm,hgt]
        simp [ek]
     ·have cz2:¬(qcg l t).length=0:=λe=>cz (List.eq_nil_of_length_eq_zero e)
      simp [qa0,cz,cz2,e0,e3,e5,e7,e25];refine⟨_,by rw [hk];exact hlS,setV VL' x (qcg l t),Sv9,λk=>decide (k=x)||D k,S.eraseIdx j,g+(l.length-(qcg l t).length),by simp,rfl,hi9,hSn',λp hp=>⟨hS' p hp,hS2 p hp⟩,λk=> ?_,hcv',hsm9, ?_,hcs9,hit9,hcb9⟩
      ·rw [qrp];by_cases ek:k=x
       ·subst ek;simp [hkl,cutV,cz]
       ·rw [if_neg λe=>ek e.symm,hgt]
        simp [ek]
      ·exact hr8.setV (S':=(setV VL' x (qcg l t)).map λq=>(q.1,qcs q.2)) kv hi9.mp hvs9 ⟨.refl _,huni9⟩
  ·have hr2':RMx F sa m mv ml lv tv X Wn Sv VL {P with S:=VL.map λq=>(q.1,qcs q.2)}:=⟨hr2.fm,hr2.lm,hr2.cell,hr2.lo,hr2.flo,hr2.to_,hr2.fto,hr2.lv,hr2.fv,hr2.lmv,hr2.vers,hr2.vs,⟨.refl _,hr2.rel.2⟩,hr2.mml,hr2.mw⟩
   refine⟨_,VL,Sv,λ_=>false,VL.map λq=>(q.1,Sv q.1),0,rfl, ?_⟩
   simp;refine⟨hit,by rw [List.map_map];exact hVn,λp hp=> ?_,λk=>by simp,λk hk=> ?_, ?_,hr2',(g01.trans ga).ch,hsan,hc2⟩
   ·obtain⟨q,hq,rfl⟩:=List.mem_map.1 hp;have h3:=qfh hVn hq;have h4:=qtv hr1 hok q.1;rw [zab h3] at h4;exact⟨rfl,q.2,h3,by omega,hr2.rel.2 q hq,hr2.vs q hq⟩
   ·right
    cases hq:qaw VL k with
    |none=>exact absurd hq hk
    |some l=>rw [List.map_map];exact List.mem_map.2 ⟨_,qh4 hq,rfl⟩
   ·have:=went_sum hr1.rel hok.ks t;rw [List.map_map] at this⊢;rw [←this,Nat.zero_add]
    rfl
  ·rintro out s ⟨tm,VL',Sv',rfl,e0,e3,e6,hrs,hcs,hcb,hcbn⟩;have hgs:=hrs.cell;have hsL:=hrs.lo.sl (sz:=5) qe1;obtain⟨pl,cl,rfl⟩:=hsL.form;have hLk:({P with S:=qen t P.S}:PM).L=P.L:=rfl
   simp only [hLk] at hsL hgs;simp [qa0,e0,e3,e6,hgs];refine qak (λk ac s'=>∃tm j vo,ac=⟨tm,133, [],false⟩∧tm.get 0=some (.pointer (some ⟨m,0,none⟩))∧tm.get 3=some (.pointer (some ⟨σ.n,0,none⟩))∧tm.get 6=some (.int .i64 (qel t P.S:Nat))∧tm.get 14=some vo∧tm.get 90=some (.slice pl P.L.length cl)∧tm.get 91=some (.int .i64 P.L.length)∧tm.get 92=some (.int .i64 (j:Nat))∧j≤P.L.length∧k=P.L.length-j∧Own s.n s' 99 qag vo (qkb t (P.L.take j))∧Grow s s')
    (λout s'=>∃tm vo,out= .code (.exit 4) ⟨tm,133, [],false⟩∧tm.get 0=some (.pointer (some ⟨m,0,none⟩))∧tm.get 3=some (.pointer (some ⟨σ.n,0,none⟩))∧tm.get 6=some (.int .i64 (qel t P.S:Nat))∧tm.get 14=some vo∧Own s.n s' 99 qag vo (qkb t P.L)∧Grow s s') ?_ P.L.length _ _ ?_ ?_
   ·rintro k ac s' ⟨tm,j,vo,rfl,e0,e3,e6,e14,e90,e91,e92,hj,hk,hov,gs'⟩;obtain⟨po,co,rfl⟩:=(hov.sl (sz:=5) qe1).form;by_cases hjl:j<P.L.length
    ·obtain⟨i,off,row,ro,hpp,hgi,hin,hrow,hle⟩:=(hsL.grow gs').at hjl;subst hpp;have hld:=qam (enc:=qag) qe1 hrow j hjl;have hl1:=qbe hle j hjl;have hw2:=qb7 j (by omega)
     have hjl':(j:Int)<P.L.length:=by omega
     have hfl:(qkb t (P.L.take j)).length≤P.L.length:=by
      unfold qkb;refine Nat.le_trans (List.length_filter_le _ _) ?_;rw [List.length_map,List.length_take];omega
     have htk:=qzh t P.L j hjl;have hcbs:=gs'.get hcb hcbn;have hne1:¬σ.n=s'.n:=by have:=gs'.n;omega
     have g5:Grow s' ((s'.alloc (.cells [.int .i64 0, .string ⟨#[]⟩, .string ⟨#[]⟩, .int .u64 0, .int .u64 0] 99 false)).put s'.n (.cells (qag P.L[j]) 99 false)):=((Grow.refl s').alloc _).put (Nat.le_refl _) _;have hc5:((s'.alloc (.cells [.int .i64 0, .string ⟨#[]⟩, .string ⟨#[]⟩, .int .u64 0, .int .u64 0] 99 false)).put s'.n (.cells (qag P.L[j]) 99 false)).get s'.n=some (.cells (qag P.L[j]) 99 false):=by simp
     have hn5:((s'.alloc (.cells [.int .i64 0, .string ⟨#[]⟩, .string ⟨#[]⟩, .int .u64 0, .int .u64 0] 99 false)).put s'.n (.cells (qag P.L[j]) 99 false)).n=s'.n+1:=by simp
     simp only [qag] at g5 hc5 hn5;have hcb5:=g5.get hcbs (by have:=gs'.n;omega)
     simp [qa0,e0,e3,e6,e14,e90,e91,e92,hjl,hjl',hgi,hld,hl1];simp [qa0,qag,e0,e3,e6,e14,e90,e91,e92,hcbs,hne1];generalize (s'.alloc (.cells [.int .i64 0, .string ⟨#[]⟩, .string ⟨#[]⟩, .int .u64 0, .int .u64 0] 99 false)).put s'.n (.cells [.int .i64 P.L[j].owner, .string P.L[j].frm, .string P.L[j].til, .int .u64 P.L[j].sp.lo, .int .u64 P.L[j].sp.hi] 99 false)=s5 at g5 hc5 hn5 hcb5⊢;have gs5:=gs'.trans g5;by_cases c1:P.L[j].owner=0
     ·rw [if_pos c1] at htk;have hwt:IntKind.u64.wrap (t+1)=t+1:=by rw [IntWalk.u64_in _ (by omega)]
      have hmax:(if P.L[j].sp.lo<t+1 then t+1 else P.L[j].sp.lo)=max P.L[j].sp.lo (t+1):=by split<;>omega
      have g6:Grow s' (s5.put s'.n (.cells [.int .i64 P.L[j].owner, .string P.L[j].frm, .string P.L[j].til, .int .u64 (max P.L[j].sp.lo (t+1)), .int .u64 P.L[j].sp.hi] 99 false)):=g5.put (Nat.le_refl _) _;have hc6:(s5.put s'.n (.cells [.int .i64 P.L[j].owner, .string P.L[j].frm, .string P.L[j].til, .int .u64 (max P.L[j].sp.lo (t+1)), .int .u64 P.L[j].sp.hi] 99 false)).get s'.n=some (.cells [.int .i64 P.L[j].owner, .string P.L[j].frm, .string P.L[j].til, .int .u64 (max P.L[j].sp.lo (t+1)), .int .u64 P.L[j].sp.hi] 99 false):=by simp
      have hn6:(s5.put s'.n (.cells [.int .i64 P.L[j].owner, .string P.L[j].frm, .string P.L[j].til, .int .u64 (max P.L[j].sp.lo (t+1)), .int .u64 P.L[j].sp.hi] 99 false)).n=s'.n+1:=by simp [hn5]
      rw [c1] at g6 hc6 hn6 hc5 htk;simp [qa0,e0,e3,e6,e14,e90,e91,e92,hc5,hcb5,c1,hwt,maxK,hmax,-qg0];generalize s5.put s'.n (.cells [.int .i64 0, .string P.L[j].frm, .string P.L[j].til, .int .u64 (max P.L[j].sp.lo (t+1)), .int .u64 P.L[j].sp.hi] 99 false)=s6 at g6 hc6 hn6⊢;have gs6:=gs'.trans g6;obtain⟨p9,c9,s9,a1,a2,a3⟩:=qib (x:=⟨0,P.L[j].frm,P.L[j].til,⟨max P.L[j].sp.lo (t+1),P.L[j].sp.hi⟩⟩) (hov.grow g6) gs6.n (by omega)
      have g9:Grow s s9:=gs6.thenB a3 (Nat.le_refl _);simp only [qag] at a1;by_cases c2:max P.L[j].sp.lo (t+1)≤P.L[j].sp.hi
      ·rw [if_pos (by simpa [full] using c2)] at htk
       simp [qa0,e0,e3,e6,e14,e90,e91,e92,hc6,c2,a1,hw2];exact⟨P.L.length-(j+1),by omega,j+1,rfl,by omega,rfl,by rw [htk];exact a2,g9⟩
      ·rw [if_neg (by simpa [full] using c2)] at htk
       simp [qa0,e0,e3,e6,e14,e90,e91,e92,hc6,c2,hw2];exact⟨P.L.length-(j+1),by omega,j+1,rfl,by omega,rfl,by rw [htk];exact hov.grow g6,gs6⟩
     ·rw [if_neg c1] at htk;obtain⟨p9,c9,s9,a1,a2,a3⟩:=qib (x:=P.L[j]) (hov.grow g5) gs5.n (by omega)
      have g9:Grow s s9:=gs5.thenB a3 (Nat.le_refl _);simp only [qag] at a1;by_cases c2:P.L[j].sp.lo≤P.L[j].sp.hi
      ·rw [if_pos (by simp [full,c2])] at htk
       rw [hn5] at a1;simp [qa0,e0,e3,e6,e14,e90,e91,e92,hc5,c1,c2,a1,hw2];exact⟨P.L.length-(j+1),by omega,j+1,rfl,by omega,rfl,by rw [htk];exact a2,g9⟩
      ·rw [if_neg (by simp [full];omega)] at htk
       simp [qa0,e0,e3,e6,e14,e90,e91,e92,hc5,c1,c2,hw2];exact⟨P.L.length-(j+1),by omega,j+1,rfl,by omega,rfl,by rw [htk];exact hov.grow g5,gs5⟩
    ·have hjl':j=P.L.length:=by omega
     subst hjl';rw [List.take_length] at hov;simp [qa0,e0,e3,e6,e14,e90,e91,e92];exact⟨hov,gs'⟩
   ·refine⟨_,0, .slice none 0 0,rfl, ?_⟩;simp [e0,e3,e6];exact⟨Own.nil,Grow.refl _⟩
   ·rintro out s2 ⟨tm,vo,rfl,e0,e3,e6,e14,hov,gs2⟩;have hr2:=hrs.grow gs2;have hg2:s2.get m=some (.cells [.map (some mv), .slice pl P.L.length cl, .int .u64 P.clock, .int .i64 P.last, .map (some ml),tv] 107 false):=hr2.cell;have hto2:qbj 0 s2 22 qg5 tv P.taken:=hr2.to_;have hcb2:=gs2.get hcb hcbn;have hcb2n:σ.n<s2.n:=Nat.lt_of_lt_of_le hcbn gs2.n;obtain⟨po,co,hvo⟩:=(hov.sl (sz:=5) qe1).form;subst hvo;simp [qa0,e0,e3,e6,e14,hg2];have kp0:Ch (λt=>t=107) noM F s2 (s2.put m (.cells [.map (some mv), .slice po (qkb t P.L).length co, .int .u64 P.clock, .int .i64 P.last, .map (some ml),tv] 107 false)):=(Ch.refl (λt=>t=107) noM F s2).put hg2 rfl hr2.fm _
    have kp:=kp0.mono (T':=λt=>t=107∨t=99∨t=22) (λ_ h=> .inl h) (λ_ h=>h) λ_ h=>h
    have hσ2:σ.n≤s2.n:=Nat.le_trans hcs.1 gs2.n;have hfl:inF F (.slice po (qkb t P.L).length co):=λj hj=>hF j (by have:=(hov.z.lt hj).1;have:=hcs.1;omega)
    have hr3:=hr2.setLT (c:=P.clock) (la:=P.last) (L':=qkb t P.L) (tk':=P.taken) kp (by simp) ((hov.z.weaken (Nat.zero_le _)).chT kp0 (by decide)) hfl (hto2.chT kp0 (by decide)) hr2.fto
    have hcb3:=kp0.cell hcb2 hcb2n λ_=>by decide
    have hcb3n:σ.n<(s2.put m (.cells [.map (some mv), .slice po (qkb t P.L).length co, .int .u64 P.clock, .int .i64 P.last, .map (some ml),tv] 107 false)).n:=hcb2n;generalize s2.put m (.cells [.map (some mv), .slice po (qkb t P.L).length co, .int .u64 P.clock, .int .i64 P.last, .map (some ml),tv] 107 false)=s3 at kp0 kp hr3 hcb3 hcb3n⊢;have hg3:=hr3.cell;refine qxc 185 #[.pointer (some ⟨σ.n,0,none⟩)] (λargs s=>qef rfl) (λx=>decide (x≤t)) (λs=>s.get σ.n=some (.cells [.int .u64 t] 22 false)∧σ.n<s.n) 0 P.taken _ s3 (λs s' hs hb=>⟨?_,Nat.lt_of_lt_of_le hs.2 hb.1⟩) hr3.to_ ⟨hcb3,hcb3n⟩ (λx hx s Q hs hq=> ?_) (by omega) _ λv2 s4 ho2 hob g2=> ?_
    ·rw [hb.2 σ.n hs.2 (λe=>by
      have:=(h.to_.lt e).2.1
      omega)]
     exact hs.1
    ·exact qrk x t σ.n s hs.1 hs.2 Q hq
    have kb:Ch (λt=>t=107∨t=99∨t=22) noM F s3 s4:=qd3.chNum hr3.to_ g2 hr3.fto
    have kb2:Ch (λt=>t=22) noM F s3 s4:=hr3.to_.butV g2 hr3.fto rfl
    have hg4:=kb2.cell hg3 hr3.lm λ_=>by decide
    obtain⟨p2,c2,rfl⟩:=(ho2.sl (sz:=1) qru).form;have kp4:=kb.put (i:=m) hg4 (.inl rfl) hr3.fm (.cells [.map (some mv), .slice po (qkb t P.L).length co, .int .u64 P.clock, .int .i64 P.last, .map (some ml), .slice p2 (P.taken.filter λa=> !decide (a≤t)).length c2] 107 false)
    have kp5:Ch (λt=>t=107) noM F s4 (s4.put m (.cells [.map (some mv), .slice po (qkb t P.L).length co, .int .u64 P.clock, .int .i64 P.last, .map (some ml), .slice p2 (P.taken.filter λa=> !decide (a≤t)).length c2] 107 false)):=(Ch.refl (λt=>t=107) noM F s4).put hg4 rfl hr3.fm _
    have hr5:=hr3.setLT (c:=P.clock) (la:=P.last) (L':=qkb t P.L) (tk':=P.taken.filter λa=> !decide (a≤t)) kp4 (by simp) ((hr3.lo.chT kb2 (by decide)).chT kp5 (by decide)) hfl (ho2.chT kp5 (by decide)) (λj hj=>hr3.fto j (by rw [←hob];exact hj))
    have fin:=h1 _ ⟨mv,ml,_,_,X,Wn,Sv',VL',hr5⟩ (((hcs.trans gs2.ch).trans (qz3 kp)).trans (qz3 kp4));simpa [qa0,e0,e3,e6,hg4] using fin
end
end Go.Sm
namespace Go.Sm
open Go
set_option maxRecDepth 100000
set_option maxHeartbeats 4000000
structure DA where
 kind:Int
 n:Int
 key:Int
 til:Int
 v:Int
 by_:Int
def qnr (a:DA):List Value:= [.int .u8 a.kind, .int .u8 a.n, .int .u8 a.key, .int .u8 a.til, .int .u8 a.v, .int .u16 a.by_]
theorem lenD (a:DA):(qnr a).length=6:=rfl
def DA.ok (a:DA):Prop:=(0≤a.kind∧a.kind<256)∧(0≤a.n∧a.n<256)∧(0≤a.key∧a.key<256)∧(0≤a.til∧a.til<256)∧(0≤a.v∧a.v<256)∧(0≤a.by_∧a.by_<65536)
def qyc (P:PM) (n:Int):Int:=if P.live= []∨240<n then n.tmod 9-2 else((P.live.map (·.1))[(n.tmod P.live.length).toNat]?).getD 0
def least4 (P:PM) (v:Int):Int:=IntKind.u64.wrap (IntKind.u64.wrap (P.least+v.tmod 9)-4)
def doP (K V:Int→ByteArray) (P:PM) (a:DA):PM:=
 if a.kind.tmod 20=0∨a.kind.tmod 20=1 then(P.begin (a.by_.tmod 1010)).2
 else if a.kind.tmod 20=2∨a.kind.tmod 20=3 then(P.begin (a.by_.tmod 12)).2
 else if a.kind.tmod 20=4 then P.snapshot.2
 else if a.kind.tmod 20=5∨a.kind.tmod 20=6∨a.kind.tmod 20=7 then(P.read (qyc P a.n) (K a.key)).2
 else if a.kind.tmod 20=8∨a.kind.tmod 20=9 then(P.scan (qyc P a.n) (K a.key) (K a.til) (a.v.tmod 55-2)).2
 else if a.kind.tmod 20=10∨a.kind.tmod 20=11∨a.kind.tmod 20=12 then(P.write (qyc P a.n) (K a.key) ⟨0,V a.v,false⟩).2
 else if a.kind.tmod 20=13 then(P.write (qyc P a.n) (K a.key) ⟨0,⟨#[]⟩,true⟩).2
 else if a.kind.tmod 20=14∨a.kind.tmod 20=15∨a.kind.tmod 20=16 then(P.commit (qyc P a.n)).2
 else if a.kind.tmod 20=17 then(P.abort (qyc P a.n)).2
 else if a.kind.tmod 20=18 then(P.tick (a.by_.tmod 20)).2
 else(P.purge (least4 P a.v)).2
structure PInv (P:PM) (N:Nat):Prop where
 ok:P.Ok
 apart:∃b,qdi P b
 size:P.size≤N
 last:P.last≤N
theorem PInv.mono {P:PM} {N N':Nat} (h:PInv P N) (hn:N≤N'):PInv P N':=⟨h.ok,h.apart,Nat.le_trans h.size hn,Int.le_trans h.last (by omega)⟩
theorem inv_new:PInv PM.new 0:=⟨ok_new,⟨0,qyt⟩,by simp [PM.size,PM.new,vsz,wsz],by simp [PM.new]⟩
theorem qvm (P:PM) (t:Tx):(P.one t).2.last≤P.last+1:=by
 unfold PM.one;split
 ·show P.last≤_;omega
 ·exact Int.le_refl _
theorem qpy {P:PM} {N:Nat} (h:PInv P N) (w:Int):PInv (P.begin w).2 (N+1):=⟨ok_begin h.ok w,by obtain⟨b,hb⟩:=h.apart;exact⟨b,qsk hb w⟩,Nat.le_trans (qw3 P w) (Nat.le_succ_of_le h.size),by
 have h1:=h.last;have h2:(P.begin w).2.last≤P.last+1:=by
  unfold PM.begin;split
  ·show P.last≤_;omega
  ·split
   ·show P.last≤_;omega
   ·exact qvm _ _
 omega⟩
theorem qps {P:PM} {N:Nat} (h:PInv P N):PInv P.snapshot.2 (N+1):=⟨qt4 h.ok,by obtain⟨b,hb⟩:=h.apart;exact⟨b,qml hb⟩,Nat.le_trans (qoy P) (Nat.le_succ_of_le h.size),by
 have h1:=h.last;have h2:=qvm P ⟨true,⟨P.safe,P.safe⟩, []⟩;show(P.one _).2.last≤_
 omega⟩
theorem qv3 (P:PM) (n:Int) (t:Tx) (a:Int) (fr til:ByteArray) (s:Sn):(P.see n t a fr til s).2.last=P.last:=by
 unfold PM.see;split<;>rfl
theorem qxg {P:PM} {b:Int} (hP:P.Ok) (h:qdi P b) (n:Int) (k:ByteArray):qdi (P.read n k).2 b∧(P.read n k).2.last=P.last:=by
 unfold PM.read;cases hg:P.get n with
 |none=>exact⟨h,rfl⟩
 |some t=>
  have hm:=(qao hP).1 hg;simp only [];split
  ·exact⟨h,rfl⟩
  ·split
   ·exact⟨h,rfl⟩
   ·split
    ·exact⟨h,rfl⟩
    ·split<;>exact⟨qq2 h hm _ _ _ _,qv3 _ _ _ _ _ _ _⟩
theorem qy4 {P:PM} {b:Int} (hP:P.Ok) (h:qdi P b) (n:Int) (fr til:ByteArray) (many:Int):qdi (P.scan n fr til many).2 b∧(P.scan n fr til many).2.last=P.last:=by
 unfold PM.scan;cases hg:P.get n with
 |none=>exact⟨h,rfl⟩
 |some t=>
  have hm:=(qao hP).1 hg;simp only [];split
  ·exact⟨h,rfl⟩
  ·split
   ·exact⟨h,rfl⟩
   ·split
    ·exact⟨h,rfl⟩
    ·split<;>exact⟨qq2 h hm _ _ _ _,qv3 _ _ _ _ _ _ _⟩
theorem qsa {P:PM} {b:Int} (hP:P.Ok) (h:qdi P b) (n:Int) (k:ByteArray) (v:Ver):qdi (P.write n k v).2 b∧(P.write n k v).2.last=P.last:=by
 unfold PM.write;cases hg:P.get n with
 |none=>exact⟨h,rfl⟩
 |some t=>
  have hm:=(qao hP).1 hg;simp only [];split
  ·exact⟨h,rfl⟩
  ·split
   ·exact⟨h,rfl⟩
   ·split
    ·exact⟨h,rfl⟩
    ·exact⟨qqq h (u:=⟨t.snap,t.sp,qj9 t.wr k v⟩) (λhs=>h.2.1 _ hm hs) P.L,rfl⟩
theorem inv_read {P:PM} {N:Nat} (h:PInv P N) (n:Int) (k:ByteArray):PInv (P.read n k).2 (N+1):=by
 obtain⟨b,hb⟩:=h.apart;obtain⟨h1,h2⟩:=qxg h.ok hb n k;exact⟨ok_read h.ok n k,⟨b,h1⟩,Nat.le_trans (qz0 h.ok n k) (Nat.succ_le_succ h.size),by have:=h.last;rw [h2];omega⟩
theorem inv_scan {P:PM} {N:Nat} (h:PInv P N) (n:Int) (fr til:ByteArray) (many:Int):PInv (P.scan n fr til many).2 (N+1):=by
 obtain⟨b,hb⟩:=h.apart;obtain⟨h1,h2⟩:=qy4 h.ok hb n fr til many;exact⟨ok_scan h.ok n fr til many,⟨b,h1⟩,Nat.le_trans (qz1 h.ok n fr til many) (Nat.succ_le_succ h.size),by have:=h.last;rw [h2];omega⟩
theorem qpn {P:PM} {N:Nat} (h:PInv P N) (n:Int) (k:ByteArray) (v:Ver) (hv:v.at_=0) (hg:Gv v):PInv (P.write n k v).2 (N+1):=by
 obtain⟨b,hb⟩:=h.apart;obtain⟨h1,h2⟩:=qsa h.ok hb n k v;exact⟨ok_write h.ok n k v hv hg,⟨b,h1⟩,Nat.le_trans (qxw h.ok n k v) (Nat.succ_le_succ h.size),by have:=h.last;rw [h2];omega⟩
theorem qry {P:PM} (n:Int):(P.commit n).2.last=P.last:=by
 unfold PM.commit;split
 ·rfl
 ·split
  ·rfl
  ·split<;>rfl
theorem qwn {P:PM} {N:Nat} (h:PInv P N) (n:Int):PInv (P.commit n).2 (N+1):=by
 obtain⟨b,hb⟩:=h.apart;exact⟨qyr h.ok n,⟨b,qph h.ok hb n⟩,Nat.le_trans (qs3 h.ok n) (Nat.succ_le_succ h.size),by have:=h.last;rw [qry];omega⟩
theorem zbo {P:PM} {N:Nat} (h:PInv P N) (n:Int):PInv (P.abort n).2 (N+1):=by
 obtain⟨b,hb⟩:=h.apart;have h1:qdi (P.abort n).2 b∧(P.abort n).2.last=P.last:=by
  unfold PM.abort;split
  ·exact⟨hb,rfl⟩
  ·exact⟨qh5 hb n,rfl⟩
 exact⟨ok_abort h.ok n,⟨b,h1.1⟩,Nat.le_trans (qwj P n) (Nat.le_succ_of_le h.size),by have:=h.last;rw [h1.2];omega⟩
theorem inv_tick {P:PM} {N:Nat} (h:PInv P N) {d:Int} (hd:0≤d):PInv (P.tick d).2 (N+1):=by
 obtain⟨b,hb⟩:=h.apart;have h1:qdi (P.tick d).2 b∧(P.tick d).2.last=P.last:=by
  unfold PM.tick;split
  ·exact⟨hb,rfl⟩
  ·exact⟨⟨by have:=hb.1;show b≤P.clock+d;omega,hb.2.1,hb.2.2⟩,rfl⟩
 exact⟨ok_tick h.ok d hd,⟨b,h1.1⟩,Nat.le_trans (zaa P d) (Nat.le_succ_of_le h.size),by have:=h.last;rw [h1.2];omega⟩
theorem qzi {P:PM} {N:Nat} (h:PInv P N) {t:Int} (ht:0≤t):PInv (P.purge t).2 (N+1):=by
 obtain⟨b,hb⟩:=h.apart;have h1:(P.purge t).2.last=P.last:=by
  unfold PM.purge;split<;>rfl
 exact⟨ok_purge h.ok ht,qsh h.ok hb t,Nat.le_trans (qxe P t) (Nat.le_succ_of_le h.size),by have:=h.last;rw [h1];omega⟩
theorem gv_put (v:ByteArray):Gv ⟨0,v,false⟩:=λh=>by cases h
theorem gv_del:Gv ⟨0,⟨#[]⟩,true⟩:=λ_=>rfl
theorem inv_do {K V:Int→ByteArray} {P:PM} {N:Nat} (h:PInv P N) {a:DA} (ha:a.ok):PInv (doP K V P a) (N+1):=by
 obtain⟨h1,h2,h3,h4,h5,h6⟩:=ha;have hb:=Int.tmod_nonneg 20 h6.1;unfold doP;split
 ·exact qpy h _
 split
 ·exact qpy h _
 split
 ·exact qps h
 split
 ·exact inv_read h _ _
 split
 ·exact inv_scan h _ _ _ _
 split
 ·exact qpn h _ _ _ rfl (gv_put _)
 split
 ·exact qpn h _ _ _ rfl gv_del
 split
 ·exact qwn h _
 split
 ·exact zbo h _
 split
 ·exact inv_tick h hb
 ·exact qzi h (by unfold least4;exact(u64_rng _).1)
structure Same (P Q:PM) (purge:Bool):Prop where
 live:Q.live=P.live
 clock:Q.clock=P.clock
 begin:∀w,(Q.begin w).1=(P.begin w).1
 snap:Q.snapshot.1=P.snapshot.1
 read:∀n k,(Q.read n k).1=(P.read n k).1
 scan:∀n a c m,(Q.scan n a c m).1=(P.scan n a c m).1
 write:∀n k v,v.at_=0→Gv v→(Q.write n k v).1=(P.write n k v).1
 point:∀n,Q.point n=P.point n
 commit:∀n,(Q.commit n).1=(P.commit n).1
 abort:∀n,(Q.abort n).1=(P.abort n).1
 tick:∀d,0≤d→(Q.tick d).1=(P.tick d).1
 purge:purge=true→∀t,(Q.purge t).1=(P.purge t).1
theorem Same.refl (P:PM):Same P P true:=⟨rfl,rfl,λ_=>rfl,rfl,λ_ _=>rfl,λ_ _ _ _=>rfl,λ_ _ _ _ _=>rfl,λ_=>rfl,λ_=>rfl,λ_=>rfl,λ_ _=>rfl,λ_ _=>rfl⟩
theorem Same.safe {P Q:PM} {c:Bool} (h:Same P Q c):Q.safe=P.safe:=by unfold PM.safe;rw [h.live,h.clock]
theorem Same.least {P Q:PM} {c:Bool} (h:Same P Q c):Q.least=P.least:=by unfold PM.least;rw [h.live,h.safe]
theorem Same.num {P Q:PM} {c:Bool} (h:Same P Q c) (n:Int):qyc Q n=qyc P n:=by unfold qyc;rw [h.live]
theorem Same.least4 {P Q:PM} {c:Bool} (h:Same P Q c) (n:Int):least4 Q n=least4 P n:=congrArg (λc=>IntKind.u64.wrap (IntKind.u64.wrap (c+n.tmod 9)-4)) h.least
end Go.Sm
namespace Go.Sm
open Go Go.Proofs
set_option maxRecDepth 100000
set_option maxHeartbeats 4000000
def bT (t:TypeId):Prop:=gT t∨mT t
theorem bT0:¬bT 0:=by unfold bT gT mT;decide
theorem gb {F:Nat→Prop} {s s':CSt} (h:Ch gT qcd F s s'):Ch bT qcd F s s':=h.mono (λ_=> .inl) (λ_ h=>h) λ_ h=>h
theorem mb {F:Nat→Prop} {s s':CSt} (h:Ch mT qcd F s s'):Ch bT qcd F s s':=h.mono (λ_=> .inr) (λ_ h=>h) λ_ h=>h
def Two (F:Nat→Prop) (σ:CSt) (g m:Nat) (Pg Pm:PM):Prop:=∃Fg Fm:Nat→Prop,(∀i,Fg i→Fm i→False)∧(∀i,Fg i→F i)∧(∀i,Fm i→F i)∧RG Fg σ g Pg∧RM Fm σ m Pm
section
variable {F F':Nat→Prop} {σ σ':CSt} {g m:Nat} {Pg Pm:PM} {T:TypeId→Prop} {M:Nat→Prop}
theorem Two.rg (h:Two F σ g m Pg Pm):RG F σ g Pg:=by
 obtain⟨Fg,Fm,h0,h1,h2,h3,h4⟩:=h;exact h3.mono λ_ _ a=>h1 _ a
theorem Two.rm (h:Two F σ g m Pg Pm):RM F σ m Pm:=by
 obtain⟨Fg,Fm,h0,h1,h2,h3,h4⟩:=h;exact h4.mono λ_ _ a=>h2 _ a
theorem Two.grow (h:Two F σ g m Pg Pm) (k:Grow σ σ'):Two F σ' g m Pg Pm:=by
 obtain⟨Fg,Fm,h0,h1,h2,h3,h4⟩:=h;exact⟨Fg,Fm,h0,h1,h2,h3.grow k,h4.grow k⟩
theorem Two.gCall (h:Two F σ g m Pg Pm) (hn:∀i,σ.n≤i→F i):∃F1:Nat→Prop,(∀i,σ.n≤i→F1 i)∧(∀i,F1 i→F i)∧RG F1 σ g Pg∧∀σ' P',RG F1 σ' g P'→Ch gT qcd F1 σ σ'→Two F σ' g m P' Pm∧Ch bT qcd F σ σ':=by
 obtain⟨Fg,Fm,h0,h1,h2,h3,h4⟩:=h;have hi:∀i,(Fg i∨σ.n≤i)→F i:=λi a=>a.elim (h1 i) (hn i)
 refine⟨λi=>Fg i∨σ.n≤i,λi hi=> .inr hi,hi,h3.mono λ_ _ a=> .inl a,fun σ' P' k c=>⟨⟨λi=>Fg i∨σ.n≤i,λi=>Fm i∧i<σ.n,λi a b=> ?_,hi,λi a=>h2 i a.1,k,(h4.mono λj hj a=>(⟨a,hj⟩:Fm j∧j<σ.n)).chF c (λj hj a b=> ?_) gTver⟩,gb (c.mono (λ_ h=>h) (λ_ h=>h) hi)⟩⟩
 ·rcases a with a|a
  ·exact h0 i a b.1
  ·omega
 ·rcases b with b|b
  ·exact h0 j b a.1
  ·omega
theorem Two.mCall (h:Two F σ g m Pg Pm) (hn:∀i,σ.n≤i→F i):∃F1:Nat→Prop,(∀i,σ.n≤i→F1 i)∧(∀i,F1 i→F i)∧RM F1 σ m Pm∧∀σ' P',RM F1 σ' m P'→Ch mT qcd F1 σ σ'→Two F σ' g m Pg P'∧Ch bT qcd F σ σ':=by
 obtain⟨Fg,Fm,h0,h1,h2,h3,h4⟩:=h;have hi:∀i,(Fm i∨σ.n≤i)→F i:=λi a=>a.elim (h2 i) (hn i)
 refine⟨λi=>Fm i∨σ.n≤i,λi hi=> .inr hi,hi,h4.mono λ_ _ a=> .inl a,fun σ' P' k c=>⟨⟨λi=>Fg i∧i<σ.n,λi=>Fm i∨σ.n≤i,λi a b=> ?_,λi a=>h1 i a.1,hi,(h3.mono λj hj a=>(⟨a,hj⟩:Fg j∧j<σ.n)).chF c (λj hj a b=> ?_) mTver,k⟩,mb (c.mono (λ_ h=>h) (λ_ h=>h) hi)⟩⟩
 ·rcases b with b|b
  ·exact h0 i a.1 b
  ·omega
 ·rcases b with b|b
  ·exact h0 j a.1 b
  ·omega
end
theorem kl_lk (v:Lk):KL [.int .i64, .str, .str, .int .u64, .int .u64] (qag v):=⟨⟨_,rfl⟩,⟨_,rfl⟩,⟨_,rfl⟩,⟨_,rfl⟩,⟨_,rfl⟩,trivial⟩
theorem encK_inj {a b:Lk}:qag a=qag b↔a=b:=by
 constructor
 ·intro h;obtain⟨o,f,t,s⟩:=a;obtain⟨o',f',t',s'⟩:=b;cases s;cases s';simp [qag] at h;simp [h]
 ·rintro rfl;rfl
theorem neq_lk (a b:Lk) (σ:CSt) (x y:Operand):qd5 Tryz.prog σ .neq 99 x y (.agg (qag a).toArray) (.agg (qag b).toArray)= .val (.bool (!decide (a=b))) σ:=by
 obtain⟨c,h1,h2,h3⟩:=qh7 (P:=Tryz.prog) (f:=4) (t:=99) (ks:= [.int .i64, .str, .str, .int .u64, .int .u64]) (by kernel_rfl) (by kernel_rfl) (by omega) (by kernel_rfl) (by kernel_rfl) (kl_lk a) (kl_lk b) rfl rfl (σ:=σ) (x:=x) (y:=y)
 have:c=decide (a=b):=by
  rw [encK_inj] at h3;cases c<;>simp_all
 rw [h2,this]
theorem equal_lk (l m:List Lk) (v u:Value) (σ:CSt) (hsl:Sl σ 99 5 qag v l) (hsm:Sl σ 99 5 qag u m) (hbig:l.length<2^40) (Q:Out→CSt→Prop)
  (h:∀(σ':CSt),Grow σ σ'→Q (.ret (.bool (decide (l=m))) false) σ'):W E1 (.fn 49 #[v,u] none) σ Q:=by
 rw [qap (fn:=Tryz.f49) Tryz.func49 rfl rfl rfl];by_cases hlen:l.length=m.length
 ·rcases hsl with⟨rfl,rfl⟩|⟨i,off,cap,row,ro,rfl,hg,hin,hrow,hle,hcap⟩
  ·have hm:m= []:=List.eq_nil_of_length_eq_zero hlen.symm;subst hm;have hu:∃p c,u= .slice p 0 c:=by
    rcases hsm with⟨rfl,_⟩|⟨i2,off2,cap2,row2,ro2,rfl,_⟩
    ·exact⟨_,_,rfl⟩
    ·exact⟨_,_,rfl⟩
   obtain⟨p,c,rfl⟩:=hu;have:=h σ (Grow.refl σ);simp [qa0];rw [qeq];simpa [qa0] using this
  rcases hsm with⟨rfl,rfl⟩|⟨i2,off2,cap2,row2,ro2,rfl,hg2,hin2,hrow2,hle2,hcap2⟩
  ·have hl:l= []:=List.eq_nil_of_length_eq_zero hlen;subst hl;have:=h σ (Grow.refl σ);simp [qa0];rw [qeq];simpa [qa0] using this
  simp [qa0,hlen];refine qaj (λn a σ'=>∃tm k,a=⟨tm,26, [],false⟩∧tm.get 0=some (.slice (some ⟨i,off,none⟩) l.length cap)∧tm.get 1=some (.slice (some ⟨i2,off2,none⟩) m.length cap2)∧tm.get 12=some (.int .i64 l.length)∧tm.get 13=some (.int .i64 (k:Nat))∧tm.get 4=some (.bool false)∧k≤l.length∧n=l.length-k∧l.take k=m.take k∧Grow σ σ') ?_ l.length _ _ ?_
  ·rintro n a σ' ⟨tm,k,rfl,h0,h1,h12,h13,h4,hk,hn,htk,hgr⟩;have hgi:=hgr.get hg hin;have hgi2:=hgr.get hg2 hin2;by_cases hlt:k<l.length
   ·have hlt2:k<m.length:=by omega
    have hld:=qam (enc:=qag) (λ_=>rfl) hrow k hlt
    have hl1:=qbe hle k hlt;have hld2:=qam (enc:=qag) (λ_=>rfl) hrow2 k hlt2
    have hl2:=qbe hle2 k hlt2;have hw:=qb7 k (by omega)
    have hneq:=neq_lk l[k] m[k];simp [qa0,h0,h1,h12,h13,h4,hlt];refine qba (by kernel_rfl) ?_
    simp [qa6,h0,h1,h12,h13,h4,hlt,hlt2,hgi,hgi2,hld,hld2,hl1,hl2,hneq];by_cases he:l[k]=m[k]
    ·simp [qa0,he,h13,hw];refine⟨_, ?_,h0,h1,h12,k+1,by simp,h4,by omega,rfl, ?_,hgr⟩
     ·omega
     ·rw [List.take_succ_eq_append_getElem hlt,List.take_succ_eq_append_getElem hlt2,htk,he]
    ·have hne:l≠m:=by rintro rfl;exact he rfl
     have:=h σ' hgr;rw [decide_eq_false hne] at this;simpa [qa0,he] using this
   ·have hkl:k=l.length:=by omega
    have he:l=m:=by
     have:=htk
     rwa [List.take_of_length_le (by omega),List.take_of_length_le (by omega)] at this
    have:=h σ' hgr;rw [decide_eq_true he] at this;simpa [qa0,h12,h13,hlt] using this
  ·refine⟨_,0,rfl, ?_⟩;simp [hlen];exact Grow.refl σ
 ·have hu:∀{x:Value} {l:List Lk},Sl σ 99 5 qag x l→∃p c,x= .slice p l.length c:=by
   rintro x l (⟨rfl,rfl⟩|⟨i,off,cap,row,ro,rfl,_⟩)
   ·exact⟨_,_,rfl⟩
   ·exact⟨_,_,rfl⟩
  obtain⟨p,c,rfl⟩:=hu hsl;obtain⟨p',c',rfl⟩:=hu hsm;have hne:l≠m:=by rintro rfl;exact hlen rfl
  have:=h σ (Grow.refl σ);rw [decide_eq_false hne] at this;have hi:¬((l.length:Int)=m.length):=by omega
  simpa [qa0,hi] using this
end Go.Sm
namespace Go.Sm.KyT
open Go Go.Proofs Go.Sm Go.Sm.Nt
set_option maxRecDepth 100000
set_option maxHeartbeats 4000000
def qcw (q:Nat):Value:= .func (.func 186) #[] #[.pointer (some ⟨q,0,none⟩)]
theorem qbd {α:Type} (l:List α) (j:Nat) (h:j<l.length):(l[j]::l.eraseIdx j).Perm l:=by
 rw [List.eraseIdx_eq_take_drop_succ];have h1:l=l.take j++l[j]::l.drop (j+1):=by rw [←List.drop_eq_getElem_cons h,List.take_append_drop]
 conv=>rhs;rw [h1]
 exact List.perm_middle.symm
theorem keys_spec (m:Nat) (σ:CSt) (Q:Out→CSt→Prop) (h:Q (.ret (qcw σ.n) false) (σ.alloc (.cells [.map (some m)] 104 false))):W E1 (.fn 108 #[.map (some m)] none) σ Q:=by
 rw [qap (fn:=Tryz.f108) Tryz.func108 rfl rfl rfl];simpa [qa0,qcw] using h
theorem qco {x:Ctx} {a:CAct} {f:Operand} {p:Tmp} {asg body:Code} {K:Out→CSt→Prop} {q m:Nat} {qo:Bool} {M:MlG Int} (σ:CSt) (hf:a.eval f=qcw q) (ha:qdc σ x.rnd=true) (hp:p<a.sz) (hq:σ.get q=some (.cells [.map (some m)] 104 qo)) (hqn:q<σ.n) (hmn:m<σ.n) (hm:MpG (Value.int .i64) σ m M)
  (Inv:List Int→CSt→Prop) (h0:∀o1 o2,Inv [] ((σ.alloc o1).alloc o2))
  (hput:∀D s o,Inv D s→Inv D (s.put (σ.n+1) o)) (hputL:∀D s o,Inv D s→Inv D (s.put σ.n o))
  (hround:∀(D:List Int) (k:Int) (s:CSt) (v:Value),Inv D s→(k,v)∈M→D.length<M.length→σ.n+2≤s.n→s.get q=some (.cells [.map (some m)] 104 qo)→MpG (Value.int .i64) s m M→
   W E1 (.code ⟨x.f,some σ.n,none⟩ asg {tm:=a.tm.set p (.int .i64 k),sz:=a.sz,df:= [],tk:=false}) s λo s1=>∃a',o= .code .normal a'∧s1=s∧∀ob:CObj,
    W E1 (.code ⟨x.f,some σ.n,none⟩ body a') (s.put σ.n ob) λo2 s2=>(∃a2,o2= .code .normal a2)∧(∀ob',Inv (D++ [k]) (s2.put σ.n ob'))∧s.n≤s2.n∧s2.get σ.n=some ob∧s2.get (σ.n+1)=s.get (σ.n+1)∧s2.get q=s.get q∧s2.get m=s.get m)
  (h:∀(D:List Int) (s:CSt),Inv D s→D.Perm (M.map (·.1))→σ.n+2≤s.n→K (.code .normal a) s):W E1 (.code x (.rangeFunc f #[p] asg body) a) σ K:=by
 rw [qcc hf ha,qap (fn:=Tryz.f186) Tryz.func186 rfl rfl rfl];obtain⟨hmp⟩:Nonempty True:=⟨trivial⟩;have hq1:(σ.alloc (.loop .ready none x.f a.tm a.sz #[p] asg body)).get q=some (.cells [.map (some m)] 104 qo):=by rw [CSt.get_alloc,if_neg (by omega)];exact hq
 have hm1:MpG (Value.int .i64) (σ.alloc (.loop .ready none x.f a.tm a.sz #[p] asg body)) m M:=by
  obtain⟨es,clock,h1,h2⟩:=hm;exact⟨es,clock,by rw [CSt.get_alloc,if_neg (by omega)];exact h1,h2⟩
 obtain⟨o,ho1,ho2⟩:=qb3 (P:=Tryz.prog) (t:=104) (kt:=3) (et:=110) Tryz.underlying104 hm1 (by simp;omega)
 simp at ho1;simp [qa0,hq1,ho1];have hi0:=h0 (.loop .ready none x.f a.tm a.sz #[p] asg body) o;have hL0:((σ.alloc (.loop .ready none x.f a.tm a.sz #[p] asg body)).alloc o).get σ.n=some (.loop .ready none x.f a.tm a.sz #[p] asg body):=by simp
 have hq2:((σ.alloc (.loop .ready none x.f a.tm a.sz #[p] asg body)).alloc o).get q=some (.cells [.map (some m)] 104 qo):=by rw [CSt.get_alloc,if_neg (by simp;omega)];exact hq1
 have hn0:σ.n+2≤((σ.alloc (.loop .ready none x.f a.tm a.sz #[p] asg body)).alloc o).n:=by simp
 generalize (σ.alloc (.loop .ready none x.f a.tm a.sz #[p] asg body)).alloc o=σ2 at ho2 hi0 hL0 hq2 hn0⊢;refine qaj (λn A s=>∃tm S D,A=⟨tm,14, [],false⟩∧tm.get 0=some (.func (.yield σ.n) #[] #[])∧tm.get 5=some (.pointer (some ⟨σ.n+1,0,none⟩))∧n=List.length S∧MIt (Value.int .i64) s (σ.n+1) m M S∧(D++S.map (·.1)).Perm (M.map (·.1))∧(∀e∈S,e∈M)∧Inv D s∧s.get σ.n=some (.loop .ready none x.f a.tm a.sz #[p] asg body)∧s.get q=some (.cells [.map (some m)] 104 qo)∧σ.n+2≤s.n) ?_ (List.length M) _ _ ?_
 ·rintro n A s ⟨tm,S,D,rfl,e0,e5,hn,hit,hpm,hmem,hinv,hL,hqs,hsn⟩;simp [qa0,e0,e5];refine qbb hit (λhS=> ?_) (λj hj ob hit' hent=> ?_)
  ·subst hS;simp at hpm;simp [qa0,e0,e5];unfold qgr;rw [hL];simp only;rw [if_neg (by decide)]
   exact h D _ (hputL D _ _ hinv) hpm (by simpa using hsn)
  ·have hSj:=List.getElem_mem hj;have hinv':=hput D s ob hinv;have hL':(s.put (σ.n+1) ob).get σ.n=some (.loop .ready none x.f a.tm a.sz #[p] asg body):=by rw [CSt.get_put,if_neg (by omega)];exact hL
   have hq':(s.put (σ.n+1) ob).get q=some (.cells [.map (some m)] 104 qo):=by rw [CSt.get_put,if_neg (by omega)];exact hqs
   have hn':σ.n+2≤(s.put (σ.n+1) ob).n:=by simpa using hsn
   generalize s.put (σ.n+1) ob=s1 at hit' hent hinv' hL' hq' hn'⊢;simp [qa0,e0,e5,hent];rw [qjj hL' rfl];have hDl:D.length<List.length M:=by
    have:=hpm.length_eq;simp at this;omega
   have hr:=hround D S[j].1 s1 S[j].2 hinv' (hmem _ hSj) hDl hn' hq' hit'.mp;simp only [List.zip_cons_cons,List.zip_nil_left,List.foldl_cons,List.foldl_nil,hp,if_true];refine W.weaken hr λo1 s2 h1=> ?_
   obtain⟨a',rfl,rfl,h2⟩:=h1;unfold qhu;rw [hL'];simp only;refine W.weaken (h2 _) λo2 s3 h3=> ?_
   obtain⟨⟨a2,rfl⟩,h4,h5,h6,h7,h8,h9⟩:=h3;simp only [qgm];rw [h6];simp only [Option.isNone_none,if_true];simp [qa0,e0,e5];have hne1:σ.n+1≠σ.n:=by omega
   refine⟨S.length-1,by omega,S.eraseIdx j,by rw [List.length_eraseIdx_of_lt hj], ?_,D++ [S[j].1], ?_,λa b he=>hmem (a,b) (List.mem_of_mem_eraseIdx he),h4 _, ?_,by omega⟩
   ·refine hit'.congr ?_ ?_
    ·rw [CSt.get_put,if_neg hne1];exact h7
    ·rw [CSt.get_put,if_neg (by omega)];exact h9
   ·refine List.Perm.trans ?_ hpm;rw [List.append_assoc];refine List.Perm.append_left D ?_;have:=(qbd S j hj).map (·.1)
    simpa using this
   ·rw [if_neg (by omega),h8];exact hq'
 ·refine⟨_,M, [],rfl, ?_⟩;simp;exact⟨ho2,hi0,hL0,hq2,hn0⟩
theorem qbm (q m:Nat) (qo:Bool) (M:MlG Int) (σ:CSt) (hq:σ.get q=some (.cells [.map (some m)] 104 qo)) (hqn:q<σ.n) (hmn:m<σ.n) (hm:MpG (Value.int .i64) σ m M) (hbig:M.length<2^38) (Q:Out→CSt→Prop)
  (h:∀(v:Value) (D:List Int) (σ':CSt),D.Perm (M.map (·.1))→Own σ.n σ' 3 Nt.encS v D→Grow σ σ'→Q (.ret v false) σ'):W E1 (.fn 152 #[qcw q] none) σ Q:=by
 rw [qap (fn:=Tryz.f152) Tryz.func152 rfl rfl rfl];simp [qa0];rw [qap (fn:=Tryz.f217) Tryz.func217 rfl rfl rfl];simp [qa0];have hg0:Grow σ (σ.alloc (.cells [.slice none 0 0] 49 false)):=(Grow.refl σ).alloc _;have hb0:(σ.alloc (.cells [.slice none 0 0] 49 false)).n=σ.n+1:=by simp
 have hc0:(σ.alloc (.cells [.slice none 0 0] 49 false)).get σ.n=some (.cells [.slice none 0 0] 49 false):=by simp
 have hq0:=hg0.get hq hqn;have hm0:MpG (Value.int .i64) (σ.alloc (.cells [.slice none 0 0] 49 false)) m M:=by
  obtain⟨es,clock,h1,h2⟩:=hm;exact⟨es,clock,hg0.get h1 hmn,h2⟩
 generalize σ.alloc (.cells [.slice none 0 0] 49 false)=σ1 at hg0 hb0 hc0 hq0 hm0⊢;have hML:∀(D:List Int) (s:CSt) (k:Int) (v:Value),(D++ [k]).length≤M.length+1→True:=λ_ _ _ _ _=>trivial
 refine qco (q:=q) (m:=m) (qo:=qo) (M:=M) σ1 rfl (by simp;rfl) (by simp) hq0 (by omega) (by omega) hm0
  (λD s=>∃v,s.get σ.n=some (.cells [v] 49 false)∧Own (σ1.n+2) s 3 Nt.encS v D∧σ1.n+2≤s.n∧∀j,j<σ.n→s.get j=σ.get j) ?_ ?_ ?_ ?_ ?_
 ·intro o1 o2;refine⟨_, ?_,Own.nil,by simp,λj hj=> ?_⟩
  ·rw [CSt.get_alloc,if_neg (by simp;omega),CSt.get_alloc,if_neg (by omega)];exact hc0
  ·rw [CSt.get_alloc,if_neg (by simp;omega),CSt.get_alloc,if_neg (by omega)];exact hg0.old j hj
 ·rintro D s o ⟨v,h1,h2,h3,h4⟩;exact⟨v,by rw [CSt.get_put,if_neg (by omega)];exact h1,h2.put (by omega) o,h3,λj hj=>by rw [CSt.get_put,if_neg (by omega)];exact h4 j hj⟩
 ·rintro D s o ⟨v,h1,h2,h3,h4⟩;exact⟨v,by rw [CSt.get_put,if_neg (by omega)];exact h1,h2.put (by omega) o,h3,λj hj=>by rw [CSt.get_put,if_neg (by omega)];exact h4 j hj⟩
 ·rintro D k s vv ⟨v,h1,h2,h3,h4⟩ hk hDl hsn hqs hms;have hne:¬σ.n=σ1.n:=by omega
  have hcap:D.length<2^38:=by omega
  simp [qa0,hne,h1];intro ob;have h1':(s.put σ1.n ob).get σ.n=some (.cells [v] 49 false):=by rw [CSt.get_put,if_neg hne];exact h1
  have h2':=h2.put (i:=σ1.n) (by omega) ob
  have hpn:(s.put σ1.n ob).n=s.n:=rfl;have hob:(s.put σ1.n ob).get σ1.n=some ob:=by simp
  have hoth:∀j,j≠σ1.n→(s.put σ1.n ob).get j=s.get j:=λj hj=>by rw [CSt.get_put,if_neg hj]
  generalize s.put σ1.n ob=s1 at h1' h2' hpn hob hoth⊢;have hga:Grow s1 (s1.alloc (.cells [.int .i64 k] 3 false)):=(Grow.refl s1).alloc _;obtain⟨v9,σ9,a1,a2,a3,a4,a5⟩:=qay (P:=Tryz.prog) (ts:= #[49,49]) (e:=3) (sz:=1) (enc:=Nt.encS) (l:=D) (m:= [k]) (b:=σ1.n+2) ef49 (by simp) Nt.lenS Nt.cokS rfl (by decide) (by decide) rfl (σ:=s1.alloc (.cells [.int .i64 k] 3 false))
   (h2'.grow hga) (by simp;omega) (Sl.all (l:= [k]) (i:=s.n) (cap:=1) (ro:=false) Nt.lenS (by rw [←hpn];simp [Nt.encS]) (by rw [←hpn];simp) (.inr ⟨by simp,by simp [qa1]⟩)) (by simp;omega) (by omega)
  have hlt:σ.n<s1.n:=by omega
  have hold:∀j,j<σ1.n+2→σ9.get j=s1.get j:=λj hj=>by rw [a3.2 j hj];exact hga.old j (by omega)
  have h19:σ9.get σ.n=some (.cells [v] 49 false):=by rw [hold _ (by omega)];exact h1'
  obtain⟨p9,c9,rfl⟩:=(a2.sl (sz:=1) Nt.lenS).form;have a1':qas Tryz.prog (s1.alloc (.cells [.int .i64 k] 3 false)) #[49,49] v (.slice (some ⟨s.n,0,none⟩) 1 1)=some (.slice p9 (D++ [k]).length c9,σ9):=a1;have hn9:=a3.1;simp at hn9 a1';simp [qa0,a1',h19];have e1:¬σ1.n=σ.n:=by omega
  have a2':Own (σ1.n+2) (σ9.put σ.n (.cells [.slice p9 (D.length+1) c9] 49 false)) 3 Nt.encS (.slice p9 (D.length+1) c9) (D++ [k]):=by
   have:=a2.put (i:=σ.n) (by omega) (.cells [.slice p9 (D.length+1) c9] 49 false)
   rwa [List.length_append] at this
  refine⟨λob'=>⟨a2'.put (by omega) ob',by omega,λj hj=> ?_⟩,by omega, ?_, ?_, ?_, ?_⟩
  ·rw [if_neg (by omega),if_neg (by omega),hold j (by omega),hoth j (by omega)];exact h4 j hj
  ·rw [if_neg e1,hold _ (by omega)];exact hob
  ·rw [if_neg (by omega),hold _ (by omega),hoth _ (by omega)]
  ·by_cases e:q=σ.n
   ·omega
   ·rw [if_neg e,hold q (by omega),hoth q (by omega)]
  ·by_cases e:m=σ.n
   ·omega
   ·rw [if_neg e,hold m (by omega),hoth m (by omega)]
 ·rintro D s ⟨v,h1,h2,h3,h4⟩ hpm hsn;have:=h v D s hpm (h2.weaken (by omega)) ⟨by omega,h4⟩
  simpa [qa0,h1] using this
theorem sorted_keys (q m:Nat) (qo:Bool) (M:MlG Int) (σ:CSt) (hq:σ.get q=some (.cells [.map (some m)] 104 qo)) (hqn:q<σ.n) (hmn:m<σ.n) (hm:MpG (Value.int .i64) σ m M) (hbig:M.length<2^38) (Q:Out→CSt→Prop)
  (h:∀(v:Value) (D:List Int) (σ':CSt),D.Perm (M.map (·.1))→(D.Pairwise λx y=>Nt.ilt y x=false)→Own σ.n σ' 3 Nt.encS v D→Grow σ σ'→Q (.ret v false) σ'):W E1 (.fn 82 #[qcw q] none) σ Q:=by
 rw [qap (fn:=Tryz.f82) Tryz.func82 rfl rfl rfl];simp [qa0];refine qbm q m qo M σ hq hqn hmn hm hbig _ λv D σ1 hpm hown hg=> ?_
 simp [qa0];have hlen:=hpm.length_eq;simp at hlen;refine Nt.sort_own σ.n D v σ1 hg.n hown (by omega) _ λD' σ2 hp2 hs2 ho2 hg2=> ?_
 have:=h v D' σ2 (hp2.trans hpm) hs2 ho2 (Grow.thenB hg hg2 (Nat.le_refl _));simpa [qa0] using this
end Go.Sm.KyT
namespace Go.Sm
open Go Go.Proofs
set_option maxRecDepth 100000
set_option maxHeartbeats 4000000
theorem blb (s u:ByteArray):(s.toList==u.toList)=decide (s=u):=by
 by_cases e:s=u
 ·subst e;simp
 ·have:¬s.toList=u.toList:=λh=>e (qep h)
  simp [e,this]
theorem qwm (l m:List ByteArray) (v u:Value) (σ:CSt) (hsl:Sl σ 9 1 Str.encS v l) (hsm:Sl σ 9 1 Str.encS u m) (hbig:l.length<2^40) (Q:Out→CSt→Prop)
  (h:∀(σ':CSt),Grow σ σ'→Q (.ret (.bool (decide (l=m))) false) σ'):W E1 (.fn 126 #[v,u] none) σ Q:=by
 rw [qap (fn:=Tryz.f126) Tryz.func126 rfl rfl rfl];by_cases hlen:l.length=m.length
 ·rcases hsl with⟨rfl,rfl⟩|⟨i,off,cap,row,ro,rfl,hg,hin,hrow,hle,hcap⟩
  ·have hm:m= []:=List.eq_nil_of_length_eq_zero hlen.symm;subst hm;have hu:∃p c,u= .slice p 0 c:=by
    rcases hsm with⟨rfl,_⟩|⟨i2,off2,cap2,row2,ro2,rfl,_⟩
    ·exact⟨_,_,rfl⟩
    ·exact⟨_,_,rfl⟩
   obtain⟨p,c,rfl⟩:=hu;have:=h σ (Grow.refl σ);simp [qa0];rw [qeq];simpa [qa0] using this
  rcases hsm with⟨rfl,rfl⟩|⟨i2,off2,cap2,row2,ro2,rfl,hg2,hin2,hrow2,hle2,hcap2⟩
  ·have hl:l= []:=List.eq_nil_of_length_eq_zero hlen;subst hl;have:=h σ (Grow.refl σ);simp [qa0];rw [qeq];simpa [qa0] using this
  simp [qa0,hlen];refine qaj (λn a σ'=>∃tm k,a=⟨tm,26, [],false⟩∧tm.get 0=some (.slice (some ⟨i,off,none⟩) l.length cap)∧tm.get 1=some (.slice (some ⟨i2,off2,none⟩) m.length cap2)∧tm.get 12=some (.int .i64 l.length)∧tm.get 13=some (.int .i64 (k:Nat))∧tm.get 4=some (.bool false)∧k≤l.length∧n=l.length-k∧l.take k=m.take k∧Grow σ σ') ?_ l.length _ _ ?_
  ·rintro n a σ' ⟨tm,k,rfl,h0,h1,h12,h13,h4,hk,hn,htk,hgr⟩;have hgi:=hgr.get hg hin;have hgi2:=hgr.get hg2 hin2;by_cases hlt:k<l.length
   ·have hlt2:k<m.length:=by omega
    have hld:=qam (enc:=Str.encS) (λ_=>rfl) hrow k hlt
    have hl1:=qbe hle k hlt;have hld2:=qam (enc:=Str.encS) (λ_=>rfl) hrow2 k hlt2
    have hl2:=qbe hle2 k hlt2;have hc1:=qb2 (enc:=Str.encS) Str.lenS hrow k 0 hlt (by omega)
    have hc2:=qb2 (enc:=Str.encS) Str.lenS hrow2 k 0 hlt2 (by omega)
    have hc1':row[off+k]? =some (.string l[k]):=by simpa [Str.encS] using hc1
    have hc2':row2[off2+k]? =some (.string m[k]):=by simpa [Str.encS] using hc2
    have hw:=qb7 k (by omega)
    have hneq:=blb l[k] m[k];simp [qa0,h0,h1,h12,h13,h4,hlt];refine qba (by kernel_rfl) ?_
    simp [qa6,h0,h1,h12,h13,h4,hlt,hlt2,hgi,hgi2,hc1',hc2',hneq];by_cases he:l[k]=m[k]
    ·simp [qa0,he,h13,hw];refine⟨_, ?_,h0,h1,h12,k+1,by simp,h4,by omega,rfl, ?_,hgr⟩
     ·omega
     ·rw [List.take_succ_eq_append_getElem hlt,List.take_succ_eq_append_getElem hlt2,htk,he]
    ·have hne:l≠m:=by rintro rfl;exact he rfl
     have:=h σ' hgr;rw [decide_eq_false hne] at this;simpa [qa0,he] using this
   ·have hkl:k=l.length:=by omega
    have he:l=m:=by
     have:=htk
     rwa [List.take_of_length_le (by omega),List.take_of_length_le (by omega)] at this
    have:=h σ' hgr;rw [decide_eq_true he] at this;simpa [qa0,h12,h13,hlt] using this
  ·refine⟨_,0,rfl, ?_⟩;simp [hlen];exact Grow.refl σ
 ·have hu:∀{x:Value} {l:List ByteArray},Sl σ 9 1 Str.encS x l→∃p c,x= .slice p l.length c:=by
   rintro x l (⟨rfl,rfl⟩|⟨i,off,cap,row,ro,rfl,_⟩)
   ·exact⟨_,_,rfl⟩
   ·exact⟨_,_,rfl⟩
  obtain⟨p,c,rfl⟩:=hu hsl;obtain⟨p',c',rfl⟩:=hu hsm;have hne:l≠m:=by rintro rfl;exact hlen rfl
  have:=h σ (Grow.refl σ);rw [decide_eq_false hne] at this;have hi:¬((l.length:Int)=m.length):=by omega
  simpa [qa0,hi] using this
theorem qx0 (l m:List Int) (v u:Value) (σ:CSt) (hsl:Sl σ 3 1 Nt.encS v l) (hsm:Sl σ 3 1 Nt.encS u m) (hbig:l.length<2^40) (Q:Out→CSt→Prop)
  (h:∀(σ':CSt),Grow σ σ'→Q (.ret (.bool (decide (l=m))) false) σ'):W E1 (.fn 23 #[v,u] none) σ Q:=by
 rw [qap (fn:=Tryz.f23) Tryz.func23 rfl rfl rfl];by_cases hlen:l.length=m.length
 ·rcases hsl with⟨rfl,rfl⟩|⟨i,off,cap,row,ro,rfl,hg,hin,hrow,hle,hcap⟩
  ·have hm:m= []:=List.eq_nil_of_length_eq_zero hlen.symm;subst hm;have hu:∃p c,u= .slice p 0 c:=by
    rcases hsm with⟨rfl,_⟩|⟨i2,off2,cap2,row2,ro2,rfl,_⟩
    ·exact⟨_,_,rfl⟩
    ·exact⟨_,_,rfl⟩
   obtain⟨p,c,rfl⟩:=hu;have:=h σ (Grow.refl σ);simp [qa0];rw [qeq];simpa [qa0] using this
  rcases hsm with⟨rfl,rfl⟩|⟨i2,off2,cap2,row2,ro2,rfl,hg2,hin2,hrow2,hle2,hcap2⟩
  ·have hl:l= []:=List.eq_nil_of_length_eq_zero hlen;subst hl;have:=h σ (Grow.refl σ);simp [qa0];rw [qeq];simpa [qa0] using this
  simp [qa0,hlen];refine qaj (λn a σ'=>∃tm k,a=⟨tm,26, [],false⟩∧tm.get 0=some (.slice (some ⟨i,off,none⟩) l.length cap)∧tm.get 1=some (.slice (some ⟨i2,off2,none⟩) m.length cap2)∧tm.get 12=some (.int .i64 l.length)∧tm.get 13=some (.int .i64 (k:Nat))∧tm.get 4=some (.bool false)∧k≤l.length∧n=l.length-k∧l.take k=m.take k∧Grow σ σ') ?_ l.length _ _ ?_
  ·rintro n a σ' ⟨tm,k,rfl,h0,h1,h12,h13,h4,hk,hn,htk,hgr⟩;have hgi:=hgr.get hg hin;have hgi2:=hgr.get hg2 hin2;by_cases hlt:k<l.length
   ·have hlt2:k<m.length:=by omega
    have hld:=qam (enc:=Nt.encS) (λ_=>rfl) hrow k hlt
    have hl1:=qbe hle k hlt;have hld2:=qam (enc:=Nt.encS) (λ_=>rfl) hrow2 k hlt2
    have hl2:=qbe hle2 k hlt2;have hc1:=qb2 (enc:=Nt.encS) Nt.lenS hrow k 0 hlt (by omega)
    have hc2:=qb2 (enc:=Nt.encS) Nt.lenS hrow2 k 0 hlt2 (by omega)
    have hc1':row[off+k]? =some (.int .i64 l[k]):=by simpa [Nt.encS] using hc1
    have hc2':row2[off2+k]? =some (.int .i64 m[k]):=by simpa [Nt.encS] using hc2
    have hw:=qb7 k (by omega)
    have hneq:True:=trivial;simp [qa0,h0,h1,h12,h13,h4,hlt];refine qba (by kernel_rfl) ?_
    simp [qa6,h0,h1,h12,h13,h4,hlt,hlt2,hgi,hgi2,hc1',hc2',hneq];by_cases he:l[k]=m[k]
    ·simp [qa0,he,h13,hw];refine⟨_, ?_,h0,h1,h12,k+1,by simp,h4,by omega,rfl, ?_,hgr⟩
     ·omega
     ·rw [List.take_succ_eq_append_getElem hlt,List.take_succ_eq_append_getElem hlt2,htk,he]
    ·have hne:l≠m:=by rintro rfl;exact he rfl
     have:=h σ' hgr;rw [decide_eq_false hne] at this;simpa [qa0,he] using this
   ·have hkl:k=l.length:=by omega
    have he:l=m:=by
     have:=htk
     rwa [List.take_of_length_le (by omega),List.take_of_length_le (by omega)] at this
    have:=h σ' hgr;rw [decide_eq_true he] at this;simpa [qa0,h12,h13,hlt] using this
  ·refine⟨_,0,rfl, ?_⟩;simp [hlen];exact Grow.refl σ
 ·have hu:∀{x:Value} {l:List Int},Sl σ 3 1 Nt.encS x l→∃p c,x= .slice p l.length c:=by
   rintro x l (⟨rfl,rfl⟩|⟨i,off,cap,row,ro,rfl,_⟩)
   ·exact⟨_,_,rfl⟩
   ·exact⟨_,_,rfl⟩
  obtain⟨p,c,rfl⟩:=hu hsl;obtain⟨p',c',rfl⟩:=hu hsm;have hne:l≠m:=by rintro rfl;exact hlen rfl
  have:=h σ (Grow.refl σ);rw [decide_eq_false hne] at this;have hi:¬((l.length:Int)=m.length):=by omega
  simpa [qa0,hi] using this
end Go.Sm
namespace Go.Sm.KyTxn
open Go Go.Proofs Go.Sm Go.Sm.Nt
set_option maxRecDepth 100000
set_option maxHeartbeats 4000000
def qcw (q:Nat):Value:= .func (.func 154) #[] #[.pointer (some ⟨q,0,none⟩)]
theorem qbd {α:Type} (l:List α) (j:Nat) (h:j<l.length):(l[j]::l.eraseIdx j).Perm l:=by
 rw [List.eraseIdx_eq_take_drop_succ];have h1:l=l.take j++l[j]::l.drop (j+1):=by rw [←List.drop_eq_getElem_cons h,List.take_append_drop]
 conv=>rhs;rw [h1]
 exact List.perm_middle.symm
theorem keys_spec (m:Nat) (σ:CSt) (Q:Out→CSt→Prop) (h:Q (.ret (qcw σ.n) false) (σ.alloc (.cells [.map (some m)] 82 false))):W E1 (.fn 83 #[.map (some m)] none) σ Q:=by
 rw [qap (fn:=Tryz.f83) Tryz.func83 rfl rfl rfl];simpa [qa0,qcw] using h
theorem qco {x:Ctx} {a:CAct} {f:Operand} {p:Tmp} {asg body:Code} {K:Out→CSt→Prop} {q m:Nat} {qo:Bool} {M:MlG Int} (σ:CSt) (hf:a.eval f=qcw q) (ha:qdc σ x.rnd=true) (hp:p<a.sz) (hq:σ.get q=some (.cells [.map (some m)] 82 qo)) (hqn:q<σ.n) (hmn:m<σ.n) (hm:MpG (Value.int .i64) σ m M)
  (Inv:List Int→CSt→Prop) (h0:∀o1 o2,Inv [] ((σ.alloc o1).alloc o2))
  (hput:∀D s o,Inv D s→Inv D (s.put (σ.n+1) o)) (hputL:∀D s o,Inv D s→Inv D (s.put σ.n o))
  (hround:∀(D:List Int) (k:Int) (s:CSt) (v:Value),Inv D s→(k,v)∈M→D.length<M.length→σ.n+2≤s.n→s.get q=some (.cells [.map (some m)] 82 qo)→MpG (Value.int .i64) s m M→
   W E1 (.code ⟨x.f,some σ.n,none⟩ asg {tm:=a.tm.set p (.int .i64 k),sz:=a.sz,df:= [],tk:=false}) s λo s1=>∃a',o= .code .normal a'∧s1=s∧∀ob:CObj,
    W E1 (.code ⟨x.f,some σ.n,none⟩ body a') (s.put σ.n ob) λo2 s2=>(∃a2,o2= .code .normal a2)∧(∀ob',Inv (D++ [k]) (s2.put σ.n ob'))∧s.n≤s2.n∧s2.get σ.n=some ob∧s2.get (σ.n+1)=s.get (σ.n+1)∧s2.get q=s.get q∧s2.get m=s.get m)
  (h:∀(D:List Int) (s:CSt),Inv D s→D.Perm (M.map (·.1))→σ.n+2≤s.n→K (.code .normal a) s):W E1 (.code x (.rangeFunc f #[p] asg body) a) σ K:=by
 rw [qcc hf ha,qap (fn:=Tryz.f154) Tryz.func154 rfl rfl rfl];obtain⟨hmp⟩:Nonempty True:=⟨trivial⟩;have hq1:(σ.alloc (.loop .ready none x.f a.tm a.sz #[p] asg body)).get q=some (.cells [.map (some m)] 82 qo):=by rw [CSt.get_alloc,if_neg (by omega)];exact hq
 have hm1:MpG (Value.int .i64) (σ.alloc (.loop .ready none x.f a.tm a.sz #[p] asg body)) m M:=by
  obtain⟨es,clock,h1,h2⟩:=hm;exact⟨es,clock,by rw [CSt.get_alloc,if_neg (by omega)];exact h1,h2⟩
 obtain⟨o,ho1,ho2⟩:=qb3 (P:=Tryz.prog) (t:=82) (kt:=3) (et:=73) Tryz.underlying82 hm1 (by simp;omega)
 simp at ho1;simp [qa0,hq1,ho1];have hi0:=h0 (.loop .ready none x.f a.tm a.sz #[p] asg body) o;have hL0:((σ.alloc (.loop .ready none x.f a.tm a.sz #[p] asg body)).alloc o).get σ.n=some (.loop .ready none x.f a.tm a.sz #[p] asg body):=by simp
 have hq2:((σ.alloc (.loop .ready none x.f a.tm a.sz #[p] asg body)).alloc o).get q=some (.cells [.map (some m)] 82 qo):=by rw [CSt.get_alloc,if_neg (by simp;omega)];exact hq1
 have hn0:σ.n+2≤((σ.alloc (.loop .ready none x.f a.tm a.sz #[p] asg body)).alloc o).n:=by simp
 generalize (σ.alloc (.loop .ready none x.f a.tm a.sz #[p] asg body)).alloc o=σ2 at ho2 hi0 hL0 hq2 hn0⊢;refine qaj (λn A s=>∃tm S D,A=⟨tm,14, [],false⟩∧tm.get 0=some (.func (.yield σ.n) #[] #[])∧tm.get 5=some (.pointer (some ⟨σ.n+1,0,none⟩))∧n=List.length S∧MIt (Value.int .i64) s (σ.n+1) m M S∧(D++S.map (·.1)).Perm (M.map (·.1))∧(∀e∈S,e∈M)∧Inv D s∧s.get σ.n=some (.loop .ready none x.f a.tm a.sz #[p] asg body)∧s.get q=some (.cells [.map (some m)] 82 qo)∧σ.n+2≤s.n) ?_ (List.length M) _ _ ?_
 ·rintro n A s ⟨tm,S,D,rfl,e0,e5,hn,hit,hpm,hmem,hinv,hL,hqs,hsn⟩;simp [qa0,e0,e5];refine qbb hit (λhS=> ?_) (λj hj ob hit' hent=> ?_)
  ·subst hS;simp at hpm;simp [qa0,e0,e5];unfold qgr;rw [hL];simp only;rw [if_neg (by decide)]
   exact h D _ (hputL D _ _ hinv) hpm (by simpa using hsn)
  ·have hSj:=List.getElem_mem hj;have hinv':=hput D s ob hinv;have hL':(s.put (σ.n+1) ob).get σ.n=some (.loop .ready none x.f a.tm a.sz #[p] asg body):=by rw [CSt.get_put,if_neg (by omega)];exact hL
   have hq':(s.put (σ.n+1) ob).get q=some (.cells [.map (some m)] 82 qo):=by rw [CSt.get_put,if_neg (by omega)];exact hqs
   have hn':σ.n+2≤(s.put (σ.n+1) ob).n:=by simpa using hsn
   generalize s.put (σ.n+1) ob=s1 at hit' hent hinv' hL' hq' hn'⊢;simp [qa0,e0,e5,hent];rw [qjj hL' rfl];have hDl:D.length<List.length M:=by
    have:=hpm.length_eq;simp at this;omega
   have hr:=hround D S[j].1 s1 S[j].2 hinv' (hmem _ hSj) hDl hn' hq' hit'.mp;simp only [List.zip_cons_cons,List.zip_nil_left,List.foldl_cons,List.foldl_nil,hp,if_true];refine W.weaken hr λo1 s2 h1=> ?_
   obtain⟨a',rfl,rfl,h2⟩:=h1;unfold qhu;rw [hL'];simp only;refine W.weaken (h2 _) λo2 s3 h3=> ?_
   obtain⟨⟨a2,rfl⟩,h4,h5,h6,h7,h8,h9⟩:=h3;simp only [qgm];rw [h6];simp only [Option.isNone_none,if_true];simp [qa0,e0,e5];have hne1:σ.n+1≠σ.n:=by omega
   refine⟨S.length-1,by omega,S.eraseIdx j,by rw [List.length_eraseIdx_of_lt hj], ?_,D++ [S[j].1], ?_,λa b he=>hmem (a,b) (List.mem_of_mem_eraseIdx he),h4 _, ?_,by omega⟩
   ·refine hit'.congr ?_ ?_
    ·rw [CSt.get_put,if_neg hne1];exact h7
    ·rw [CSt.get_put,if_neg (by omega)];exact h9
   ·refine List.Perm.trans ?_ hpm;rw [List.append_assoc];refine List.Perm.append_left D ?_;have:=(qbd S j hj).map (·.1)
    simpa using this
   ·rw [if_neg (by omega),h8];exact hq'
 ·refine⟨_,M, [],rfl, ?_⟩;simp;exact⟨ho2,hi0,hL0,hq2,hn0⟩
theorem qbm (q m:Nat) (qo:Bool) (M:MlG Int) (σ:CSt) (hq:σ.get q=some (.cells [.map (some m)] 82 qo)) (hqn:q<σ.n) (hmn:m<σ.n) (hm:MpG (Value.int .i64) σ m M) (hbig:M.length<2^38) (Q:Out→CSt→Prop)
  (h:∀(v:Value) (D:List Int) (σ':CSt),D.Perm (M.map (·.1))→Own σ.n σ' 3 Nt.encS v D→Grow σ σ'→Q (.ret v false) σ'):W E1 (.fn 152 #[qcw q] none) σ Q:=by
 rw [qap (fn:=Tryz.f152) Tryz.func152 rfl rfl rfl];simp [qa0];rw [qap (fn:=Tryz.f217) Tryz.func217 rfl rfl rfl];simp [qa0];have hg0:Grow σ (σ.alloc (.cells [.slice none 0 0] 49 false)):=(Grow.refl σ).alloc _;have hb0:(σ.alloc (.cells [.slice none 0 0] 49 false)).n=σ.n+1:=by simp
 have hc0:(σ.alloc (.cells [.slice none 0 0] 49 false)).get σ.n=some (.cells [.slice none 0 0] 49 false):=by simp
 have hq0:=hg0.get hq hqn;have hm0:MpG (Value.int .i64) (σ.alloc (.cells [.slice none 0 0] 49 false)) m M:=by
  obtain⟨es,clock,h1,h2⟩:=hm;exact⟨es,clock,hg0.get h1 hmn,h2⟩
 generalize σ.alloc (.cells [.slice none 0 0] 49 false)=σ1 at hg0 hb0 hc0 hq0 hm0⊢;have hML:∀(D:List Int) (s:CSt) (k:Int) (v:Value),(D++ [k]).length≤M.length+1→True:=λ_ _ _ _ _=>trivial
 refine qco (q:=q) (m:=m) (qo:=qo) (M:=M) σ1 rfl (by simp;rfl) (by simp) hq0 (by omega) (by omega) hm0
  (λD s=>∃v,s.get σ.n=some (.cells [v] 49 false)∧Own (σ1.n+2) s 3 Nt.encS v D∧σ1.n+2≤s.n∧∀j,j<σ.n→s.get j=σ.get j) ?_ ?_ ?_ ?_ ?_
 ·intro o1 o2;refine⟨_, ?_,Own.nil,by simp,λj hj=> ?_⟩
  ·rw [CSt.get_alloc,if_neg (by simp;omega),CSt.get_alloc,if_neg (by omega)];exact hc0
  ·rw [CSt.get_alloc,if_neg (by simp;omega),CSt.get_alloc,if_neg (by omega)];exact hg0.old j hj
 ·rintro D s o ⟨v,h1,h2,h3,h4⟩;exact⟨v,by rw [CSt.get_put,if_neg (by omega)];exact h1,h2.put (by omega) o,h3,λj hj=>by rw [CSt.get_put,if_neg (by omega)];exact h4 j hj⟩
 ·rintro D s o ⟨v,h1,h2,h3,h4⟩;exact⟨v,by rw [CSt.get_put,if_neg (by omega)];exact h1,h2.put (by omega) o,h3,λj hj=>by rw [CSt.get_put,if_neg (by omega)];exact h4 j hj⟩
 ·rintro D k s vv ⟨v,h1,h2,h3,h4⟩ hk hDl hsn hqs hms;have hne:¬σ.n=σ1.n:=by omega
  have hcap:D.length<2^38:=by omega
  simp [qa0,hne,h1];intro ob;have h1':(s.put σ1.n ob).get σ.n=some (.cells [v] 49 false):=by rw [CSt.get_put,if_neg hne];exact h1
  have h2':=h2.put (i:=σ1.n) (by omega) ob
  have hpn:(s.put σ1.n ob).n=s.n:=rfl;have hob:(s.put σ1.n ob).get σ1.n=some ob:=by simp
  have hoth:∀j,j≠σ1.n→(s.put σ1.n ob).get j=s.get j:=λj hj=>by rw [CSt.get_put,if_neg hj]
  generalize s.put σ1.n ob=s1 at h1' h2' hpn hob hoth⊢;have hga:Grow s1 (s1.alloc (.cells [.int .i64 k] 3 false)):=(Grow.refl s1).alloc _;obtain⟨v9,σ9,a1,a2,a3,a4,a5⟩:=qay (P:=Tryz.prog) (ts:= #[49,49]) (e:=3) (sz:=1) (enc:=Nt.encS) (l:=D) (m:= [k]) (b:=σ1.n+2) ef49 (by simp) Nt.lenS Nt.cokS rfl (by decide) (by decide) rfl (σ:=s1.alloc (.cells [.int .i64 k] 3 false))
   (h2'.grow hga) (by simp;omega) (Sl.all (l:= [k]) (i:=s.n) (cap:=1) (ro:=false) Nt.lenS (by rw [←hpn];simp [Nt.encS]) (by rw [←hpn];simp) (.inr ⟨by simp,by simp [qa1]⟩)) (by simp;omega) (by omega)
  have hlt:σ.n<s1.n:=by omega
  have hold:∀j,j<σ1.n+2→σ9.get j=s1.get j:=λj hj=>by rw [a3.2 j hj];exact hga.old j (by omega)
  have h19:σ9.get σ.n=some (.cells [v] 49 false):=by rw [hold _ (by omega)];exact h1'
  obtain⟨p9,c9,rfl⟩:=(a2.sl (sz:=1) Nt.lenS).form;have a1':qas Tryz.prog (s1.alloc (.cells [.int .i64 k] 3 false)) #[49,49] v (.slice (some ⟨s.n,0,none⟩) 1 1)=some (.slice p9 (D++ [k]).length c9,σ9):=a1;have hn9:=a3.1;simp at hn9 a1';simp [qa0,a1',h19];have e1:¬σ1.n=σ.n:=by omega
  have a2':Own (σ1.n+2) (σ9.put σ.n (.cells [.slice p9 (D.length+1) c9] 49 false)) 3 Nt.encS (.slice p9 (D.length+1) c9) (D++ [k]):=by
   have:=a2.put (i:=σ.n) (by omega) (.cells [.slice p9 (D.length+1) c9] 49 false)
   rwa [List.length_append] at this
  refine⟨λob'=>⟨a2'.put (by omega) ob',by omega,λj hj=> ?_⟩,by omega, ?_, ?_, ?_, ?_⟩
  ·rw [if_neg (by omega),if_neg (by omega),hold j (by omega),hoth j (by omega)];exact h4 j hj
  ·rw [if_neg e1,hold _ (by omega)];exact hob
  ·rw [if_neg (by omega),hold _ (by omega),hoth _ (by omega)]
  ·by_cases e:q=σ.n
   ·omega
   ·rw [if_neg e,hold q (by omega),hoth q (by omega)]
  ·by_cases e:m=σ.n
   ·omega
   ·rw [if_neg e,hold m (by omega),hoth m (by omega)]
 ·rintro D s ⟨v,h1,h2,h3,h4⟩ hpm hsn;have:=h v D s hpm (h2.weaken (by omega)) ⟨by omega,h4⟩
  simpa [qa0,h1] using this
theorem sorted_keys (q m:Nat) (qo:Bool) (M:MlG Int) (σ:CSt) (hq:σ.get q=some (.cells [.map (some m)] 82 qo)) (hqn:q<σ.n) (hmn:m<σ.n) (hm:MpG (Value.int .i64) σ m M) (hbig:M.length<2^38) (Q:Out→CSt→Prop)
  (h:∀(v:Value) (D:List Int) (σ':CSt),D.Perm (M.map (·.1))→(D.Pairwise λx y=>Nt.ilt y x=false)→Own σ.n σ' 3 Nt.encS v D→Grow σ σ'→Q (.ret v false) σ'):W E1 (.fn 82 #[qcw q] none) σ Q:=by
 rw [qap (fn:=Tryz.f82) Tryz.func82 rfl rfl rfl];simp [qa0];refine qbm q m qo M σ hq hqn hmn hm hbig _ λv D σ1 hpm hown hg=> ?_
 simp [qa0];have hlen:=hpm.length_eq;simp at hlen;refine Nt.sort_own σ.n D v σ1 hg.n hown (by omega) _ λD' σ2 hp2 hs2 ho2 hg2=> ?_
 have:=h v D' σ2 (hp2.trans hpm) hs2 ho2 (Grow.thenB hg hg2 (Nat.le_refl _));simpa [qa0] using this
end Go.Sm.KyTxn
namespace Go.Sm
open Go Go.Proofs
set_option maxRecDepth 100000
set_option maxHeartbeats 4000000
theorem qhz {l:List (Int×Tx)} (h:l.Pairwise λa c=>a.1<c.1) {K:List Int} (hp:K.Perm (l.map (·.1))) (hs:K.Pairwise λx y=>Nt.ilt y x=false):K=l.map (·.1):=by
 have h2:(l.map (·.1)).Pairwise λa b=>a≤b:=by
  rw [List.pairwise_map];exact h.imp λh=>Int.le_of_lt h
 have h1:K.Pairwise λa b=>a≤b:=hs.imp fun {a b} h=>by
  unfold Nt.ilt at h;simpa using h
 exact List.Perm.eq_of_pairwise (λa b _ _ h3 h4=>Int.le_antisymm h3 h4) h1 h2 hp
section
variable {F:Nat→Prop} {σ:CSt} {g sp ml mt:Nat} {v:Value} {X Wn:Int→Nat} {ks:List Int} {P:PM}
theorem qww (h:RG F σ g P) (hok:P.Ok) (Q:Out→CSt→Prop)
  (h1:∀v σ',Sl σ' 3 1 Nt.encS v (P.live.map (·.1))→Grow σ σ'→Q (.ret v false) σ'):W E1 (.fn 24 #[ptr g] none) σ Q:=by
 obtain⟨sp,ml,mt,v,X,Wn,ks,h⟩:=h;rw [qap (fn:=Tryz.f24) Tryz.func24 rfl rfl rfl];have hg:=h.cell;unfold ptr at hg;simp [qa0,ptr,hg];refine KyTxn.keys_spec _ _ _ ?_;have ga:Grow σ (σ.alloc (.cells [.map (some ml)] 82 false)):=(Grow.refl σ).alloc _;have hqa:(σ.alloc (.cells [.map (some ml)] 82 false)).get σ.n=some (.cells [.map (some ml)] 82 false):=by simp
 have hna:(σ.alloc (.cells [.map (some ml)] 82 false)).n=σ.n+1:=by simp
 have hlm:=(h.grow ga).lv;simp [qa0];generalize σ.alloc (.cells [.map (some ml)] 82 false)=s1 at ga hqa hna hlm⊢;have hmm:=hlm.map;have hfew:=hok.few;refine KyTxn.sorted_keys σ.n ml false _ s1 hqa (by omega) hlm.lm hmm (by rw [List.length_map];omega) _ λv6 K w6 hpK hsK ho6 g6=> ?_
 have hKe:K=P.live.map (·.1):=by
  refine qhz hok.nums (hpK.trans ?_) hsK;rw [List.map_map];exact .refl _
 subst hKe;have:=h1 v6 w6 (ho6.sl Nt.lenS) (ga.trans g6);simpa [qa0] using this
end
section
variable {F:Nat→Prop} {σ:CSt} {m:Nat} {P:PM}
theorem mN_spec (h:RM F σ m P) (hok:P.Ok) (b:Int) (hb:0≤b∧b<256) (Q:Out→CSt→Prop)
  (h1:∀σ',Grow σ σ'→Q (.ret (.int .i64 (qyc P b)) false) σ'):W E1 (.fn 37 #[ptr m, .int .u8 b] none) σ Q:=by
 obtain⟨mv,ml,lv,tv,X,Wn,Sv,VL,h⟩:=h;rw [qap (fn:=Tryz.f37) Tryz.func37 rfl rfl rfl];have hg:=h.cell;simp [qa0,ptr,hg];refine KyT.keys_spec _ _ _ ?_;have ga:Grow σ (σ.alloc (.cells [.map (some ml)] 104 false)):=(Grow.refl σ).alloc _;have hqa:(σ.alloc (.cells [.map (some ml)] 104 false)).get σ.n=some (.cells [.map (some ml)] 104 false):=by simp
 have hna:(σ.alloc (.cells [.map (some ml)] 104 false)).n=σ.n+1:=by simp
 have hlm:=(h.grow ga).lv;simp [qa0];generalize σ.alloc (.cells [.map (some ml)] 104 false)=s1 at ga hqa hna hlm⊢;have hmm:=hlm.map;have hfew:=hok.few;refine KyT.sorted_keys σ.n ml false _ s1 hqa (by omega) hlm.lm hmm (by rw [List.length_map];omega) _ λv6 K w6 hpK hsK ho6 g6=> ?_
 have hKe:K=P.live.map (·.1):=by
  refine qhz hok.nums (hpK.trans ?_) hsK;rw [List.map_map];exact .refl _
 have fin:=h1 w6 (ga.trans g6);unfold qyc at fin;obtain⟨p,c,rfl⟩:=(ho6.sl (sz:=1) Nt.lenS).form;have hKl:K.length=P.live.length:=by rw [hKe,List.length_map]
 have hb9:IntKind.i64.wrap (b.tmod 9-2)=b.tmod 9-2:=by
  have h1:=Int.tmod_nonneg 9 hb.1;have h2:=Int.tmod_lt_of_pos b (show(0:Int)<9 by omega)
  exact IntWalk.i64_in _ (by omega)
 have hw9:IntKind.i64.wrap (b.tmod 9)=b.tmod 9:=by
  have h1:=Int.tmod_nonneg 9 hb.1;have h2:=Int.tmod_lt_of_pos b (show(0:Int)<9 by omega)
  exact IntWalk.i64_in _ (by omega)
 have hwb:IntKind.i64.wrap b=b:=IntWalk.i64_in _ (by omega)
 by_cases c:P.live= []
 ·rw [if_pos (.inl c)] at fin;simpa [qa0,qa2,qa4,hKl,c,hw9,hb9] using fin
 ·have hlen:¬P.live.length=0:=λe=>c (List.eq_nil_of_length_eq_zero e)
  by_cases c2:240<b
  ·rw [if_pos (.inr c2)] at fin;simpa [qa0,qa2,qa4,hKl,hlen,c2,hw9,hb9] using fin
  ·rw [if_neg λh=>h.elim c c2] at fin
   have r1:=Int.tmod_nonneg (P.live.length:Int) hb.1;have r2:=Int.tmod_lt_of_pos b (show(0:Int)<P.live.length by omega)
   obtain⟨j,hj⟩:=Int.eq_ofNat_of_zero_le r1;rw [hj] at fin;have hjl:j<K.length:=by omega
   have hjl2:j<P.live.length:=by omega
   obtain⟨i,off,row,ro,hpp,hgi,hin,hrow,hle⟩:=(ho6.sl (sz:=1) Nt.lenS).at hjl;subst hpp;have hcc:=qb2 (enc:=Nt.encS) Nt.lenS hrow j 0 hjl (by omega)
   have hcc':row[off+j]? =some (.int .i64 K[j]):=by simpa [Nt.encS] using hcc
   have hKj:((P.live.map (·.1))[(j:Int).toNat]?).getD 0=K[j]:=by
    rw [←hKe];simp [hjl]
   rw [hKj] at fin;simpa [qa0,qa2,qa4,hKl,hlen,c,c2,hwb,hj,hjl2,hgi,hcc'] using fin
end
section
variable {F:Nat→Prop} {σ:CSt} {g sp ml mt:Nat} {v:Value} {X Wn:Int→Nat} {ks:List Int} {P:PM}
theorem qkw (h:RG F σ g P) (hok:P.Ok) (n:Int) (k:ByteArray) (u:Ver) (hu:u.val.size≤200) (Q:Out→CSt→Prop)
  (h1:∀σ',RG F σ' g (P.write n k u).2→Ch gT qcd F σ σ'→Q (.ret (.int .i64 (P.write n k u).1) false) σ'):W E1 (.fn 75 #[ptr g, .int .i64 n, .string k, .agg (qad u).toArray] none) σ Q:=by
 have hrg:=h;obtain⟨sp,ml,mt,v,X,Wn,ks,h⟩:=h;rw [qap (fn:=Tryz.f75) Tryz.func75 rfl rfl rfl];have g0:Grow σ (σ.alloc (.cells (qad u) 40 false)):=(Grow.refl σ).alloc _;have hc7:(σ.alloc (.cells (qad u) 40 false)).get σ.n=some (.cells (qad u) 40 false):=by simp
 simp only [qad] at g0 hc7;simp [qa0,ptr,qad];have hn0:σ.n<(σ.alloc (.cells [.int .u64 u.at_, .string u.val, .bool u.gone] 40 false)).n:=by simp
 generalize σ.alloc (.cells [.int .u64 u.at_, .string u.val, .bool u.gone] 40 false)=s0 at g0 hc7 hn0⊢;have hr0:=h.grow g0;have hgt:=λQ=>qci hr0 n Q
 unfold ptr at hgt;have hrg0:RG F s0 g P:=⟨sp,ml,mt,v,X,Wn,ks,hr0⟩;refine hgt _ (λt ht=> ?_) λhn'=> ?_
 rotate_left
 ·have e:P.write n k u=(4,P):=by unfold PM.write;rw [hn']
  have:=h1 s0 (by rw [e];exact hrg0) g0.ch
  rw [e] at this;simpa [qa0,qa2,qa4] using this
 have hm:=(qao hok).1 ht;have hto:=hok.tx _ hm;have htx:=hr0.lv.tx _ hm;simp only at hto htx;have hx:=htx.cell;unfold qfo hdK at hx;cases hs:t.snap with
 |true=>
  have e:P.write n k u=(8,P):=by unfold PM.write;rw [ht];simp [hs]
  have:=h1 s0 (by rw [e];exact hrg0) g0.ch
  rw [e] at this;rw [hs] at hx;simpa [qa0,qa2,qa4,hx] using this
 |false=>
  rw [hs] at hx;simp [qa0,qa2,qa4,hx];refine qeg k s0 _ ?_;cases hk:kOk k with
  |false=>
   have e:P.write n k u=(2,P):=by unfold PM.write;rw [ht];simp [hs,hk]
   have:=h1 s0 (by rw [e];exact hrg0) g0.ch
   rw [e] at this;simpa [qa0,qa2,qa4] using this
  |true=>
   have e:P.write n k u=(0,P.set n ⟨t.snap,t.sp,qj9 t.wr k u⟩):=by unfold PM.write;rw [ht];simp [hs,hk,Nat.not_lt.2 hu]
   rw [e] at h1;obtain⟨hFw,hlw,W,hW,hp⟩:=htx.wr hs;obtain⟨o,ho1,ho2⟩:=qct (P:=Tryz.prog) (key:=Value.string) (kd:= .string) (t:=111) (kt:=9) (et:=40) (k:=k) Tryz.underlying111 (by kernel_rfl) qc3 hW (.agg (qad u).toArray)
   have hlv:=hr0.lv.wr hm (qj6 hok hm) hs (u:=⟨t.snap,t.sp,qj9 t.wr k u⟩) ⟨rfl,rfl⟩ ho2 (qni hto.up hp k u);have kw:Ch (λt=>t=144) (λj=>j≠mt) F s0 (s0.put (Wn n) o):=(Ch.refl (λt=>t=144) (λj=>j≠mt) F s0).putMp hW (hr0.tw _ hm hs) hFw _
   have hr2:=hr0.lvCh kw hlv λq hq hs'=>by
    obtain⟨r,hr,e⟩:=List.mem_map.1 hq;by_cases e1:r.1=n
    ·rw [if_pos e1] at e;subst e;exact hr0.tw (n,t) hm hs
    ·rw [if_neg e1] at e;subst e;exact hr0.tw r hr hs'
   have:=h1 _ ⟨sp,ml,mt,v,X,Wn,ks,hr2⟩ (g0.ch.trans (qre kw));simp only [qad] at ho1;unfold wv at hx;rw [hs] at hx;simp at hx;generalize s0.put (Wn n) o=s2 at ho1 this;simp [qa0,qa2,qa4,hx];refine qba (by kernel_rfl) ?_
   simpa [qa6,qa0,hx,hc7,ho1] using this
theorem zbf (h:RG F σ g P) (hok:P.Ok) (n:Int) (k w:ByteArray) (hwl:w.size<2^62) (Q:Out→CSt→Prop)
  (h1:∀σ',RG F σ' g (P.write n k ⟨0,w,false⟩).2→Ch gT qcd F σ σ'→Q (.ret (.int .i64 (P.write n k ⟨0,w,false⟩).1) false) σ'):W E1 (.fn 20 #[ptr g, .int .i64 n, .string k, .string w] none) σ Q:=by
 have hrg:=h;obtain⟨sp,ml,mt,v,X,Wn,ks,h⟩:=h;rw [qap (fn:=Tryz.f20) Tryz.func20 rfl rfl rfl];by_cases c:200<w.size
 ·have c1:(200:Int)<w.size:=by omega
  have hgt:=λQ=>qci h n Q
  unfold ptr at hgt;simp [qa0,qa2,qa4,c1,ptr];refine hgt _ (λt ht=> ?_) λhn'=> ?_
  rotate_left
  ·have e:P.write n k ⟨0,w,false⟩=(4,P):=by unfold PM.write;rw [hn']
   have:=h1 σ (by rw [e];exact hrg) (Ch.refl _ _ _ _)
   rw [e] at this;simpa [qa0,qa2,qa4] using this
  have hm:=(qao hok).1 ht;have htx:=h.lv.tx _ hm;simp only at htx;have hx:=htx.cell;unfold qfo hdK at hx;have hg:=h.cell;have hlk:qbr Tryz.prog σ 82 (.map (some ml)) (.int .i64 n) false=_:=qd2 (P:=Tryz.prog) (key:=Value.int .i64) (kd:= .int .i64) (t:=82) (kt:=3) (et:=73) (k:=n) Tryz.underlying82 (by kernel_rfl) (qbv .i64) (z:= .pointer none) (by kernel_rfl) h.lv.map false
  rw [qh0] at hlk;have hgm:(P.live.find? λx=>decide (x.1=n)).map (λ_=>ptr (X n))=some (ptr (X n)):=by
   have:(P.live.find? λx=>decide (x.1=n))=some (n,t):=qfx hok.nums hm
   rw [this];rfl
  rw [hgm] at hlk;simp at hlk;unfold ptr at hg hlk;cases hs:t.snap with
  |true=>
   have e:P.write n k ⟨0,w,false⟩=(8,P):=by unfold PM.write;rw [ht];simp [hs]
   have:=h1 σ (by rw [e];exact hrg) (Ch.refl _ _ _ _)
   rw [e] at this;rw [hs] at hx;simpa [qa0,qa2,qa4,hg,hlk,hx] using this
  |false=>
   rw [hs] at hx;simp [qa0,qa2,qa4,hg,hlk,hx];refine qeg k σ _ ?_;cases hk:kOk k with
   |false=>
    have e:P.write n k ⟨0,w,false⟩=(2,P):=by unfold PM.write;rw [ht];simp [hs,hk]
    have:=h1 σ (by rw [e];exact hrg) (Ch.refl _ _ _ _)
    rw [e] at this;simpa [qa0,qa2,qa4] using this
   |true=>
    have e:P.write n k ⟨0,w,false⟩=(3,P):=by unfold PM.write;rw [ht];simp [hs,hk,c]
    have:=h1 σ (by rw [e];exact hrg) (Ch.refl _ _ _ _)
    rw [e] at this;simpa [qa0,qa2,qa4] using this
 ·have c1:¬(200:Int)<w.size:=by omega
  have hwr:=λQ=>qkw hrg hok n k ⟨0,w,false⟩ (by show w.size≤200;omega) Q
  simp only [qad,ptr] at hwr;simp [qa0,qa2,qa4,c1,ptr];refine hwr _ λs2 hr2 hc2=> ?_
  simpa [qa0] using h1 s2 hr2 hc2
theorem qr6 (h:RG F σ g P) (hok:P.Ok) (n:Int) (k:ByteArray) (Q:Out→CSt→Prop)
  (h1:∀σ',RG F σ' g (P.write n k ⟨0,⟨#[]⟩,true⟩).2→Ch gT qcd F σ σ'→Q (.ret (.int .i64 (P.write n k ⟨0,⟨#[]⟩,true⟩).1) false) σ'):W E1 (.fn 48 #[ptr g, .int .i64 n, .string k] none) σ Q:=by
 rw [qap (fn:=Tryz.f48) Tryz.func48 rfl rfl rfl];have hwr:=λQ=>qkw h hok n k ⟨0,⟨#[]⟩,true⟩ (by decide) Q
 simp only [qad,ptr] at hwr;simp [qa0,ptr];refine hwr _ λs2 hr2 hc2=> ?_
 simpa [qa0] using h1 s2 hr2 hc2
theorem qnm (h:RGx F σ g sp ml mt v X Wn ks P) (hok:P.Ok) {n:Int} {t:Tx} (hg:P.get n=some t) (k:ByteArray) (Q:Out→CSt→Prop)
  (h1:∀σ',Grow σ σ'→Q (.ret (.agg (qad ((qaw t.wr k).getD qcx)).toArray) false) σ'):W E1 (.fn 127 #[ptr g, .int .i64 n, .string k] none) σ Q:=by
 rw [qap (fn:=Tryz.f127) Tryz.func127 rfl rfl rfl];have g0:Grow σ (σ.alloc (.cells [.int .u64 0, .string ⟨#[]⟩, .bool false] 40 false)):=(Grow.refl σ).alloc _;have hc0:(σ.alloc (.cells [.int .u64 0, .string ⟨#[]⟩, .bool false] 40 false)).get σ.n=some (.cells [.int .u64 0, .string ⟨#[]⟩, .bool false] 40 false):=by simp
 simp [qa0,ptr];generalize σ.alloc (.cells [.int .u64 0, .string ⟨#[]⟩, .bool false] 40 false)=s0 at g0 hc0⊢;have hr0:=h.grow g0;have hgt:=λQ=>qci hr0 n Q
 unfold ptr at hgt;refine hgt _ (λt' ht=> ?_) λhn'=>by rw [hg] at hn';cases hn'
 rw [hg] at ht;cases ht;have hm:=(qao hok).1 hg;have htx:=hr0.lv.tx _ hm;simp only at htx;have hlk:=qgo htx (hok.tx _ hm) k false;have hx:=htx.cell;unfold qfo hdK at hx;simp only [Bool.false_eq_true,if_false] at hlk;have fin:=h1 (s0.put σ.n (.cells (qad ((qaw t.wr k).getD qcx)) 40 false)) (g0.put (Nat.le_refl _) _);generalize (qaw t.wr k).getD qcx=u at hlk fin;simp only [qad] at hlk fin;simpa [qa0,hx,hlk,hc0] using fin
end
end Go.Sm
namespace Go.Sm
open Go
set_option maxRecDepth 100000
set_option maxHeartbeats 4000000
structure Rc where
 i:Nat
 o:Oper
 a:CAct
 v:Value
def qan (P:Program) (b:Array Nat) (σ:CSt) (e:Nat):List Rc→Prop
 | []=>True
 |r::rs=>(qa3 b e r.i=true∨isVal r.v (cop P σ r.a.eval r.o))∧qan P b σ e rs
def qhe (E:Env) (ops:Array Oper) (b:Array Nat) (Q:Out→CSt→Prop) (a0:CAct):List (Nat×Oper)→CAct→CSt→List Rc→Prop
 | [],a,σ,_=>Q (.code .normal a) σ
 |(i,o)::rest,a,σ,rs=>
  match qaz ops a o with
  |some true=>
   if qab E.P o=true then qp5 E ops a0 a o.dst (λa' σ'=>qan E.P b σ' i rs∧qhe E ops b Q a0 rest a' σ' rs) Q σ (cop E.P σ a.eval o)
   else rres (λv=>qhe E ops b Q a0 rest (a.put o.dst v) σ (if qa9 o=true then⟨i,o,a,v⟩::rs else rs)) (cop E.P σ a.eval o)
  |some false=>qhe E ops b Q a0 rest (a.put o.dst nope) σ rs
  |none=>False
section
variable {E:Env} {ops:Array Oper} {b:Array Nat} {Q:Out→CSt→Prop} {a0:CAct}
def recQ (ops:Array Oper) (rs:List Rec):List Rc:=rs.filterMap λr=>if qa9 (qal ops r.i)=true then some ⟨r.i,qal ops r.i,r.a,r.v⟩ else none
theorem qkk {P:Program} {σ:CSt} {e:Nat}:∀{rs:List Rec},qan P b σ e (recQ ops rs)→qb9 P ops b σ e rs
 | [],_=>trivial
 |r::rs,h=>by
  unfold recQ at h;rw [List.filterMap_cons] at h;cases hr:qa9 (qal ops r.i) with
  |false=>
   simp only [hr,Bool.false_eq_true,if_false] at h;exact⟨.inl (by simp [hr]),qkk h⟩
  |true=>
   simp only [hr,if_true] at h;obtain⟨h1,h2⟩:=h;exact⟨h1.imp (λh=>by simp [h]) id,qkk h2⟩
theorem qio:∀(l:List Nat) (a:CAct) (σ:CSt) (rs:List Rec),qhe E ops b Q a0 (l.map λi=>(i,qal ops i)) a σ (recQ ops rs)→qif E ops b Q a0 (l.map λi=>(i,qal ops i)) a σ rs
 | [],a,σ,rs,h=>h
 |i::rest,a,σ,rs,h=>by
  simp only [List.map_cons,qif,qhe] at h⊢;cases hw:qaz ops a (qal ops i) with
  |none=>rw [hw] at h;exact h.elim
  |some wb=>
   rw [hw] at h;cases wb with
   |false=>exact qio rest _ _ rs h
   |true=>
    simp only at h⊢;by_cases he:qab E.P (qal ops i)=true
    ·rw [if_pos he] at h⊢;cases hcp:cop E.P σ a.eval (qal ops i) with
     |val v σ'=>
      rw [hcp] at h;exact⟨qkk h.1,qio rest _ _ rs h.2⟩
     |call fv args=>
      rw [hcp] at h;simp only [qp5] at h⊢;cases hx:qcr E fv args σ with
      |some v=>rw [hx] at h;exact h.elim
      |none=>
       rw [hx] at h;simp only at h⊢;refine qeh (tr:=id) (N:=qg7) (λh=>h) (λt σ Q Q' hq h=>W.mono t σ Q Q' hq h) (λout σ' hq=> ?_) h
       cases out with
       |ret v tk=>exact⟨qkk hq.1,qio rest _ _ rs hq.2⟩
       |pan v=>exact hq
       |code e a=>exact hq
     |_=>rw [hcp] at h;exact h.elim
    ·rw [if_neg he] at h⊢;cases hcp:cop E.P σ a.eval (qal ops i) with
     |val v σ'=>
      rw [hcp] at h;refine qio rest _ _ _ ?_;have:recQ ops (⟨i,a,v⟩::rs)=if qa9 (qal ops i)=true then⟨i,qal ops i,a,v⟩::recQ ops rs else recQ ops rs:=by
       unfold recQ;rw [List.filterMap_cons];cases qa9 (qal ops i)<;>simp
      rw [this];exact h
     |_=>rw [hcp] at h;exact h.elim
theorem qdx {l:List Nat} {x:Ctx} {id:Nat} {a:CAct} {σ:CSt} (hp:qmw E.P ops=l) (hb:bef ops=b) (hk:qk6 E.P ops l=true)
  (h:qhe E ops b Q a (l.map λi=>(i,qal ops i)) a σ []):W E (.code x (.region id ops true) a) σ Q:=qcv hp hb hk (qio l a σ [] h)
@[simp] theorem qaa {a:CAct} {σ:CSt} {rs:List Rc}:qhe E ops b Q a0 [] a σ rs=Q (.code .normal a) σ:=(rfl)
theorem qa8 {a:CAct} {σ:CSt} {rs:List Rc} {i:Nat} {o:Oper} {rest:List (Nat×Oper)} (hg:o.guard=none):
  qhe E ops b Q a0 ((i,o)::rest) a σ rs=if qab E.P o=true then qp5 E ops a0 a o.dst (λa' σ'=>qan E.P b σ' i rs∧qhe E ops b Q a0 rest a' σ' rs) Q σ (cop E.P σ a.eval o)
   else rres (λv=>qhe E ops b Q a0 rest (a.put o.dst v) σ (if qa9 o=true then⟨i,o,a,v⟩::rs else rs)) (cop E.P σ a.eval o):=by
 rw [qhe];simp only [qaz,hg]
theorem qaf {a:CAct} {σ:CSt} {rs:List Rc} {i:Nat} {dst:Option Tmp} {op:Op} {ty:TypeId} {pos:String} {after:Array Edge} {j:Nat} {want:Bool} {rest:List (Nat×Oper)} (hd:((ops[j]?).bind (·.dst)).isSome=true) (hs:qa4 ops j<a.sz):
  qhe E ops b Q a0 ((i,⟨dst,op,ty,pos,after,some (j,want)⟩)::rest) a σ rs=
   qgh (a.get (qa4 ops j)) want
    (if qab E.P ⟨dst,op,ty,pos,after,some (j,want)⟩=true then qp5 E ops a0 a dst (λa' σ'=>qan E.P b σ' i rs∧qhe E ops b Q a0 rest a' σ' rs) Q σ (cop E.P σ a.eval ⟨dst,op,ty,pos,after,some (j,want)⟩)
     else rres (λv=>qhe E ops b Q a0 rest (a.put dst v) σ (if qa9 ⟨dst,op,ty,pos,after,some (j,want)⟩=true then⟨i,⟨dst,op,ty,pos,after,some (j,want)⟩,a,v⟩::rs else rs)) (cop E.P σ a.eval ⟨dst,op,ty,pos,after,some (j,want)⟩))
    (qhe E ops b Q a0 rest (a.put dst nope) σ rs):=by
 obtain⟨d,hd⟩:=Option.isSome_iff_exists.1 hd;have hdd:qa4 ops j=d:=by simp [qa4,hd]
 rw [hdd] at hs⊢;rw [qhe];simp only [qaz,hd,hs,if_true];unfold qgh;generalize a.get d=v;cases v with
 |bool b=>cases b<;>cases want<;>rfl
 |chan c=>cases c<;>rfl
 |_=>rfl
end
end Go.Sm
namespace Go.Sm
open Go Go.Proofs
set_option maxRecDepth 100000
set_option maxHeartbeats 4000000
theorem kl_sn (v:Sn):KL [.int .u64, .int .u64] (encS v):=⟨⟨_,rfl⟩,⟨_,rfl⟩,trivial⟩
theorem neq_sn (a b:Sn) (σ:CSt) (x y:Operand):qd5 Tryz.prog σ .neq 97 x y (.agg (encS a).toArray) (.agg (encS b).toArray)= .val (.bool (!decide (a=b))) σ:=by
 obtain⟨c,h1,h2,h3⟩:=qh7 (P:=Tryz.prog) (f:=2) (t:=97) (ks:= [.int .u64, .int .u64]) (by kernel_rfl) (by kernel_rfl) (by omega) (by kernel_rfl) (by kernel_rfl) (kl_sn a) (kl_sn b) rfl rfl (σ:=σ) (x:=x) (y:=y)
 have he:encS a=encS b↔a=b:=by
  constructor
  ·intro h;cases a;cases b;simp [encS] at h;simp [h]
  ·rintro rfl;rfl
 have:c=decide (a=b):=by
  rw [he] at h3;cases c<;>simp_all
 rw [h2,this]
theorem ok_num1 {P:PM} (h:P.Ok):P.get (P.last+1)=none:=get_none.2 λx hx e=>by have:=h.last x hx;omega
section
variable {F:Nat→Prop} {σ:CSt} {g m:Nat} {P:PM}
theorem nil_ptxn (a:Addr):qb6 Tryz.prog .eql 73 (.pointer (some a)) (.pointer none)=some (.bool false):=by
 have hu:∃e,Tryz.prog.underlying 73=some (.pointer e):=⟨_,Tryz.underlying73⟩
 obtain⟨e,hu⟩:=hu;simp [qb6,qg2,hu]
theorem wkeys {F':Nat→Prop} {c:Int} {t:Tx} {x w:Nat} (htm:TxR hdB 113 F' σ t x w) (hto:TxOk c t) (hl:t.wr.length<2^38) (Q:Out→CSt→Prop)
  (h:∀kf σ1,Grow σ σ1→(∀Q2:Out→CSt→Prop,(∀v σ2,Sl σ2 9 1 Str.encS v (t.wr.map (·.1))→Grow σ1 σ2→Q2 (.ret v false) σ2)→W E1 (.fn 116 #[kf] none) σ1 Q2)→Q (.ret kf false) σ1):W E1 (.fn 124 #[wv t w] none) σ Q:=by
 cases hs:t.snap with
 |true=>
  have hwv:wv t w=Value.map none:=by unfold wv;rw [hs];rfl
  rw [hwv];refine KyV.keys_nil _ _ (h _ _ ((Grow.refl σ).alloc _) λQ2 h2=> ?_)
  refine KyV.sorted_nil σ.n false _ (by simp) (by simp) _ λw6 g6=>h2 _ _ ?_ g6
  rw [(hto.s hs).2.2.2];exact Sl.nil
 |false=>
  have hwv:wv t w=Value.map (some w):=by unfold wv;rw [hs];rfl
  obtain⟨hFw,hlw,W,hmW,hpW⟩:=htm.wr hs;rw [hwv];have ga:Grow σ (σ.alloc (.cells [.map (some w)] 111 false)):=(Grow.refl σ).alloc _;have hma:=hmW.ch (T:=λ_=>False) (M:=noM) (F:=λ_=>False) hlw ga.ch λh=>h.elim
  have hWl:W.length=t.wr.length:=by rw [hpW.length_eq];unfold qed;rw [List.length_map]
  refine KyV.keys_spec _ _ _ (h _ _ ga λQ2 h2=> ?_)
  refine KyV.sorted_keys σ.n w false _ _ (by simp) (by simp) (by simp;omega) hma (by omega) _ λv6 K w6 hpK hsK ho6 g6=>h2 _ _ ?_ g6
  have hKe:K=t.wr.map (·.1):=by
   refine qgq hto.up (hpK.trans ?_) hsK;refine(hpW.map (·.1)).trans ?_
   unfold qed;rw [List.map_map];exact .refl _
  subst hKe;exact ho6.sl Str.lenS
def TI (t:Tx) (s:CSt) (r wn:Nat) (S:Ml):Prop:=(t.snap=true∧S= []∧s.get r=some (.miter none 0 #[] 0))∨(t.snap=false∧wn<r∧(∀p∈S,p∈qed t.wr)∧∃W,MIt Value.string s r wn W S)
theorem TI.grow {t:Tx} {s s':CSt} {r wn:Nat} {S:Ml} (h:TI t s r wn S) (hr:r<s.n) (k:Grow s s'):TI t s' r wn S:=by
 rcases h with⟨a,b,c⟩|⟨a,b,c,W,d⟩
 ·exact .inl ⟨a,b,k.get c hr⟩
 ·exact .inr ⟨a,b,c,W,d.grow hr (by omega) k⟩
theorem range_wr {F':Nat→Prop} {t:Tx} {x w:Nat} {hd:Bool→Value} {ty:TypeId} {s:CSt} (htm:TxR hd ty F' s t x w):∃ob S,qg3 Tryz.prog s 111 (wv t w)=some (.pointer (some ⟨s.n,0,none⟩),s.alloc ob)∧TI t (s.alloc ob) s.n w S:=by
 cases hs:t.snap with
 |true=>
  have hwv:wv t w=Value.map none:=by unfold wv;rw [hs];rfl
  rw [hwv];exact⟨_, [],qic s, .inl ⟨hs,rfl,by simp⟩⟩
 |false=>
  have hwv:wv t w=Value.map (some w):=by unfold wv;rw [hs];rfl
  rw [hwv];obtain⟨hFw,hlw,W,hmW,hpW⟩:=htm.wr hs;obtain⟨ob,ho,hit⟩:=qb3 (P:=Tryz.prog) (t:=111) Tryz.underlying111 hmW hlw;exact⟨ob,W,ho, .inr ⟨hs,hlw,λp hp=>hpW.mem_iff.1 hp,W,hit⟩⟩
theorem ti_next {t:Tx} {s:CSt} {r wn:Nat} {S:Ml} {E:Env} {x:Ctx} {a:CAct} {d:Option Tmp} {K:CAct→CSt→Prop} {Q:Out→CSt→Prop} (h:TI t s r wn S)
  (h0:K (a.put d (.tuple #[.bool false])) s)
  (h1:∀q∈t.wr,∀o S',S'.length<S.length→TI t (s.put r o) r wn S'→qgs (s.put r o) (.pointer (some ⟨r,0,none⟩))=some (.tuple #[.string q.1, .agg (qad q.2).toArray])→K (a.put d (.tuple #[.bool true, .string q.1, .agg (qad q.2).toArray])) (s.put r o)):
  qls E x a d K Q s (qej s (.pointer (some ⟨r,0,none⟩)) false):=by
 rcases h with⟨hs,rfl,hit⟩|⟨hs,hw,hsub,W,hit⟩
 ·rw [qkm hit];exact h0
 ·refine qbb hit (λ_=>h0) λj hj o hi' he=> ?_
  obtain⟨q,hq,hqe⟩:=List.mem_map.1 (hsub _ (List.getElem_mem hj));have hku:S[j]=(q.1, .agg (qad q.2).toArray):=hqe.symm;rw [hku] at he⊢;exact h1 q hq o _ (by rw [List.length_eraseIdx_of_lt hj];omega) (.inr ⟨hs,hw,λp hp=>hsub p (List.mem_of_mem_eraseIdx hp),W,hi'⟩) he
theorem mIs_spec (h:Two F σ g m P P) (hok:P.Ok) (hsz:P.size<2^30) (hla:P.last<2^40) (Q:Out→CSt→Prop) (h1:∀σ',Grow σ σ'→Q (.ret (.bool true) false) σ'):W E1 (.fn 57 #[ptr m,ptr g] none) σ Q:=by
 have hrg:=h.rg;have hrm:=h.rm;obtain⟨sp,mlg,mt,vL,Xg,Wg,ks,hg⟩:=id hrg;obtain⟨mv,ml,lv,tv,X,Wn,Sv,VL,hm⟩:=id hrm;rw [qap (fn:=Tryz.f57) Tryz.func57 rfl rfl rfl];have hmc:=hm.cell;simp [qa0,ptr,hmc];refine KyT.keys_spec _ _ _ ?_;have ga:Grow σ (σ.alloc (.cells [.map (some ml)] 104 false)):=(Grow.refl σ).alloc _;have hqa:(σ.alloc (.cells [.map (some ml)] 104 false)).get σ.n=some (.cells [.map (some ml)] 104 false):=by simp
 have hna:(σ.alloc (.cells [.map (some ml)] 104 false)).n=σ.n+1:=by simp
 have hlm:=(hm.grow ga).lv;simp [qa0];generalize σ.alloc (.cells [.map (some ml)] 104 false)=s1 at ga hqa hna hlm⊢;have hmm:=hlm.map;have hfew:=hok.few;refine KyT.sorted_keys σ.n ml false _ s1 hqa (by omega) hlm.lm hmm (by rw [List.length_map];omega) _ λv6 K w6 hpK hsK ho6 g6=> ?_
 have hKe:K=P.live.map (·.1):=by
  refine qhz hok.nums (hpK.trans ?_) hsK;rw [List.map_map];exact .refl _
 have gσ:=ga.trans g6;obtain⟨p6,c6,rfl⟩:=(ho6.sl (sz:=1) Nt.lenS).form;have hslK:=ho6.sl (sz:=1) Nt.lenS;have hKl:K.length=P.live.length:=by rw [hKe,List.length_map]
 have hL2:P.L.length<2^30:=by
  have:P.L.length≤P.size:=by unfold PM.size;omega
  omega
 simp [qa0];refine qdx (l:= [0,2,3,4,5,1,6,7,8,10,9,11,12,13,14,15,17,16,18,19,20,21,22,24,23,25,26,27,28,29,30,31,33,34,35,36,32,37,38,39]) (b:= #[0,1,0,4,12,28,63,127,255,511,255,2047,4095,8191,16383,32767,65535,32767,262143,524287,1048575,2097151,4194303,8388607,4194303,33554431,67108863,134217727,268435455,536870911,1073741823,2147483647,4294967295,536870911,9126805503,26306674687,60666413055,137438953471,274877906943,549755813887]) (by kernel_rfl) (by kernel_rfl) (by kernel_rfl) ?_
 have hck:=λQ=>qsx (hg.grow gσ) Q
 have hm6:=(hm.grow gσ).cell;unfold ptr at hck;simp only [List.map_cons,List.map_nil,qal]
 (try simp [qan,qa3,Nat.testBit_eq_decide_div_mod_eq,hm6,-qaa])
 repeat (first|rw [qa8 rfl]|rw [qaf (by rfl) (by simp [qa4])]);simp [qa4,qab,qa9,Nat.add_assoc,hm6]
 refine hck _ ?_;have hsf:=λQ=>qjc (hg.grow gσ) hok Q
 unfold ptr at hsf
 (try simp [qan,qa3,Nat.testBit_eq_decide_div_mod_eq,hm6,-qaa])
 repeat (first|rw [qa8 rfl]|rw [qaf (by rfl) (by simp [qa4])]);simp [qa4,qab,qa9,Nat.add_assoc,hm6]
 refine hsf _ λs2 g2=> ?_
 have gσ2:=gσ.trans g2;have hm7:=(hm.grow gσ2).cell;have hmsf:=λQ=>qhc (hm.grow gσ2) hok Q
 unfold ptr at hmsf
 (try simp [qan,qa3,Nat.testBit_eq_decide_div_mod_eq,hm7,-qaa])
 repeat (first|rw [qa8 rfl]|rw [qaf (by rfl) (by simp [qa4])]);simp [qa4,qab,qa9,Nat.add_assoc,hm7]
 refine hmsf _ λs3 g3=> ?_
 have gσ3:=gσ2.trans g3;have hm8:=(hm.grow gσ3).cell;have hgl:=λQ=>qlt (hg.grow gσ3) hok Q
 unfold ptr at hgl
 (try simp [qan,qa3,Nat.testBit_eq_decide_div_mod_eq,hm8,-qaa])
 repeat (first|rw [qa8 rfl]|rw [qaf (by rfl) (by simp [qa4])]);simp [qa4,qab,qa9,Nat.add_assoc,hm8]
 refine hgl _ λs4 g4=> ?_
 have gσ4:=gσ3.trans g4;have hm9:=(hm.grow gσ4).cell;have hml:=λQ=>qhl (hm.grow gσ4) hok Q
 unfold ptr at hml
 (try simp [qan,qa3,Nat.testBit_eq_decide_div_mod_eq,hm9,-qaa])
 repeat (first|rw [qa8 rfl]|rw [qaf (by rfl) (by simp [qa4])]);simp [qa4,qab,qa9,Nat.add_assoc,hm9]
 refine hml _ λs5 g5=> ?_
 have gσ5:=gσ4.trans g5;have hm10:=(hm.grow gσ5).cell;have hlv:=λQ=>qww (hrg.grow gσ5) hok Q
 unfold ptr at hlv
 (try simp [qan,qa3,Nat.testBit_eq_decide_div_mod_eq,hm10,-qaa])
 repeat (first|rw [qa8 rfl]|rw [qaf (by rfl) (by simp [qa4])]);simp [qa4,qab,qa9,Nat.add_assoc,hm10]
 refine hlv _ λvl s6 hsl6 g6'=> ?_
 have gσ6:=gσ5.trans g6';have hm11:=(hm.grow gσ6).cell;have hslK6:=hslK.grow (((((g2.trans g3).trans g4).trans g5).trans g6'));rw [←hKe] at hsl6;obtain⟨pl,cl,rfl⟩:=hsl6.form
 (try simp [qan,qa3,Nat.testBit_eq_decide_div_mod_eq,hm11,-qaa])
 repeat (first|rw [qa8 rfl]|rw [qaf (by rfl) (by simp [qa4])]);simp [qa4,qab,qa9,Nat.add_assoc,hm11]
 refine qx0 _ _ _ _ s6 hsl6 hslK6 (by omega) _ λs7 g7=> ?_
 have gσ7:=gσ6.trans g7;have hm12:=(hm.grow gσ7).cell
 (try simp [qan,qa3,Nat.testBit_eq_decide_div_mod_eq,hm12,-qaa])
 repeat (first|rw [qa8 rfl]|rw [qaf (by rfl) (by simp [qa4])]);simp [qa4,qab,qa9,Nat.add_assoc,hm12]
 refine qzs 0 g vL P.L s7 (hg.grow gσ7).tb (by omega) _ λv8 s8 ho8 g8=> ?_
 have gσ8:=gσ7.trans g8;have hm13:=(hm.grow gσ8).cell
 (try simp [qan,qa3,Nat.testBit_eq_decide_div_mod_eq,hm13,-qaa])
 repeat (first|rw [qa8 rfl]|rw [qaf (by rfl) (by simp [qa4])]);simp [qa4,qab,qa9,Nat.add_assoc,hm13]
 refine equal_lk P.L P.L v8 lv s8 (ho8.sl qe1) ((hm.grow gσ8).lo.sl qe1) (by omega) _ λs9 g9=> ?_
 have gσ9:=gσ8.trans g9;have hm14:=(hm.grow gσ9).cell
 (try simp [qan,qa3,Nat.testBit_eq_decide_div_mod_eq,hm14,-qaa])
 repeat (first|rw [qa8 rfl]|rw [qaf (by rfl) (by simp [qa4])]);simp [qa4,qab,qa9,Nat.add_assoc,hm14]
 have hslK9:=hslK.grow ((((((((g2.trans g3).trans g4).trans g5).trans g6').trans g7).trans g8).trans g9));simp [qa0];refine qak (λk a s=>∃tm j,a=⟨tm,166, [],false⟩∧tm.get 0=some (.pointer (some ⟨m,0,none⟩))∧tm.get 1=some (.pointer (some ⟨g,0,none⟩))∧tm.get 61=some (.slice p6 K.length c6)∧tm.get 62=some (.int .i64 K.length)∧tm.get 63=some (.int .i64 (j:Nat))∧j≤K.length∧k=K.length-j∧Grow s9 s)
  (λo s=>∃tm,o= .code (.exit 0) ⟨tm,166, [],false⟩∧tm.get 0=some (.pointer (some ⟨m,0,none⟩))∧tm.get 1=some (.pointer (some ⟨g,0,none⟩))∧Grow σ s) ?_ K.length _ _ ?_ ?_
 ·rintro k a s ⟨tm,j,rfl,e0,e1,e61,e62,e63,hj,hk,gs⟩;have gσs:=gσ9.trans gs;by_cases hjl:j<K.length
  ·obtain⟨i,off,row,ro,hpp,hgi,hin,hrow,hle⟩:=(hslK9.grow gs).at hjl;subst hpp;have hcc:=qb2 (enc:=Nt.encS) Nt.lenS hrow j 0 hjl (by omega)
   have hcc':row[off+j]? =some (.int .i64 K[j]):=by simpa [Nt.encS] using hcc
   have hw2:=qb7 j (by omega)
   have hjl':(j:Int)<K.length:=by omega
   have hjP:j<P.live.length:=by omega
   obtain⟨q,hq,hqm⟩:∃q,P.live[j]=q∧q∈P.live:=⟨_,rfl,List.getElem_mem hjP⟩
   have hKj:K[j]=q.1:=by
    have:K[j]=(P.live.map (·.1))[j]'(by rw [List.length_map];exact hjP):=by simp only [hKe]
    rw [this,List.getElem_map,hq]
   rw [hKj] at hcc';obtain⟨n,t⟩:=q;simp only at hcc';have ht:=(qao hok).2 hqm;have hto:=hok.tx _ hqm;have hgs:=hg.grow gσs;have hms:=hm.grow gσs;have htg:=hgs.lv.tx _ hqm;have htm:=hms.lv.tx _ hqm;simp only at hto htg htm;have hgt:=λQ=>qci hgs n Q
   unfold ptr at hgt;have hlk:=qgd hms n false;rw [ht] at hlk;simp at hlk;unfold ptr at hlk;have hcm:=hms.cell;simp [qa0,e0,e1,e61,e62,e63,hjl,hjl',hgi,hcc'];refine hgt _ (λt' ht'=> ?_) λhn'=>(by rw [ht] at hn';cases hn')
   have hxg:=htg.cell;have hxm:=htm.cell;unfold qfo hdK at hxg;unfold qfo hdB at hxm;have hwl:t.wr.length≤P.size:=by
    have:=qjs hok.nums hqm;unfold PM.size;omega
   simp [qa0,e0,e1,e61,e62,e63,hcm,hlk];have hkd:decide ((if t.snap=true then(1:Int) else 0)=1)=t.snap:=by cases t.snap<;>rfl
   have hww:=λQ=>qwg (hrg.grow gσs) hok hsz ht Q
   unfold ptr at hww;have hsp:(⟨t.sp.lo,t.sp.hi⟩:Sn)=t.sp:=rfl;have hns:=fun σ x y=>neq_sn t.sp t.sp σ x y
   unfold encS at hns;refine qdx (l:= [0,1,2,3,4,5,6,7,8,9,10,11,12,13,14,15,16,17,18,19,20,21,22,23,24,25,26,27,28,29,30,31,32,33,34,35,36,38,39,40,41,37,42,43,44,45,46]) (b:= #[0,1,3,7,15,31,63,127,255,511,1023,2047,127,4223,12415,28799,65535,131071,262143,524287,1048575,2097151,4194303,524287,8912895,25690111,59244543,524287,134742015,403177471,940048383,2139619327,4294967295,8589934591,17179869183,34359738367,34359738367,137438953471,34359738367,309237645311,858993459199,1958505086975,4398046511103,8796093022207,17592186044415,35184372088831,70368744177663]) (by kernel_rfl) (by kernel_rfl) (by kernel_rfl) ?_
   simp only [List.map_cons,List.map_nil,qal]
   (try simp [qan,qa3,Nat.testBit_eq_decide_div_mod_eq,e0,e1,hxg,hxm,-qaa])
   repeat (first|rw [qa8 rfl]|rw [qaf (by rfl) (by simp [qa4])]);simp [qa4,qab,qa9,Nat.add_assoc,e0,e1,e61,e62,e63,hxg,hxm,ptr,nil_ptxn,hkd,hns,qwl Tryz.underlying4]
   refine hww _ λv11 s11 hsl11 g11=> ?_
   have hxm11:=g11.get hxm htm.lx;have hwk:=λQ=>wkeys (hms.lv.tx _ hqm|>.ch (T:=λ_=>False) (M:=noM) (F':=λ_=>False) g11.ch (λ_ h=>h.elim) λ_ _ h=>h.elim) hto (by show t.wr.length<_;omega) Q
   (try simp [qan,qa3,Nat.testBit_eq_decide_div_mod_eq,hxm11,-qaa])
   repeat (first|rw [qa8 rfl]|rw [qaf (by rfl) (by simp [qa4])]);simp [qa4,qab,qa9,Nat.add_assoc,e0,e1,e61,e62,e63,ptr,hxm11]
   refine hwk _ λkf s12 g12 hk12=> ?_
   (try simp [qan,qa3,Nat.testBit_eq_decide_div_mod_eq,hxm11,-qaa])
   repeat (first|rw [qa8 rfl]|rw [qaf (by rfl) (by simp [qa4])]);simp [qa4,qab,qa9,Nat.add_assoc,e0,e1,e61,e62,e63,ptr,hxm11]
   refine hk12 _ λv13 s13 hsl13 g13=> ?_
   (try simp [qan,qa3,Nat.testBit_eq_decide_div_mod_eq,hxm11,-qaa])
   repeat (first|rw [qa8 rfl]|rw [qaf (by rfl) (by simp [qa4])]);simp [qa4,qab,qa9,Nat.add_assoc,e0,e1,e61,e62,e63,ptr,hxm11]
   have hslw:=hsl11.grow (g12.trans g13);obtain⟨p11,c11,rfl⟩:=hsl11.form;obtain⟨p13,c13,rfl⟩:=hsl13.form;refine qwm _ _ _ _ s13 hslw hsl13 (by rw [List.length_map];omega) _ λs14 g14=> ?_
   (try simp [qan,qa3,Nat.testBit_eq_decide_div_mod_eq,hxm11,-qaa])
   repeat (first|rw [qa8 rfl]|rw [qaf (by rfl) (by simp [qa4])]);simp [qa4,qab,qa9,Nat.add_assoc,e0,e1,e61,e62,e63,ptr,hxm11]
   have g9s:=gs.trans (((g11.trans g12).trans g13).trans g14);have gσ14:=gσ9.trans g9s;have hms4:=hm.grow gσ14;have hxm4:=(((g11.trans g12).trans g13).trans g14).get hxm htm.lx;have htm4:=hms4.lv.tx _ hqm;simp only at htm4;obtain⟨ob,S0,hrg4,hti⟩:=range_wr htm4;have ga4:Grow s14 (s14.alloc ob):=(Grow.refl s14).alloc _;have hn4:(s14.alloc ob).n=s14.n+1:=by simp
   simp [qa0,e0,e1,e61,e62,e63,hxm4,hrg4];generalize s14.alloc ob=s15 at ga4 hn4 hti⊢;refine qak (λk a s=>∃tm S,a=⟨tm,166, [],false⟩∧tm.get 0=some (.pointer (some ⟨m,0,none⟩))∧tm.get 1=some (.pointer (some ⟨g,0,none⟩))∧tm.get 7=some (.int .i64 n)∧tm.get 61=some (.slice (some ⟨i,off,none⟩) K.length c6)∧tm.get 62=some (.int .i64 K.length)∧tm.get 63=some (.int .i64 (j:Nat))∧tm.get 130=some (.pointer (some ⟨s14.n,0,none⟩))∧k=S.length∧TI t s s14.n (Wn n) S∧Grow s14 s∧s14.n<s.n)
    (λo s=>∃tm,o= .code (.exit 2) ⟨tm,166, [],false⟩∧tm.get 0=some (.pointer (some ⟨m,0,none⟩))∧tm.get 1=some (.pointer (some ⟨g,0,none⟩))∧tm.get 61=some (.slice (some ⟨i,off,none⟩) K.length c6)∧tm.get 62=some (.int .i64 K.length)∧tm.get 63=some (.int .i64 (j:Nat))∧Grow s9 s) ?_ S0.length _ _ ?_ ?_
   ·rintro k a s ⟨tm,S,rfl,e0,e1,e7,e61,e62,e63,e130,hk,hti,gs,hrn⟩;simp [qa0,e0,e1,e7,e61,e62,e63,e130];refine ti_next hti ?_ λq hq o S' hl' hti' he=> ?_
    ·simp [qa0,e0,e1,e7,e61,e62,e63,e130];exact g9s.trans gs
    ·have gs':=gs.put (i:=s14.n) (Nat.le_refl _) o;have hrn':s14.n<(s.put s14.n o).n:=hrn;simp [qa0,e0,e1,e7,e61,e62,e63,e130];generalize s.put s14.n o=s5 at hti' he gs' hrn'⊢;have he':=he;unfold qad at he';have g5:=gσ14.trans gs';have hkq:qaw t.wr q.1=some q.2:=(qav hto.up).2 hq;have ga5:Grow s5 ((s5.alloc (.cells [.int .u64 0, .string ⟨#[]⟩, .bool false] 40 false)).put s5.n (.cells [.int .u64 q.2.at_, .string q.2.val, .bool q.2.gone] 40 false)):=((Grow.refl s5).alloc _).put (Nat.le_refl _) _;have hc5:((s5.alloc (.cells [.int .u64 0, .string ⟨#[]⟩, .bool false] 40 false)).put s5.n (.cells [.int .u64 q.2.at_, .string q.2.val, .bool q.2.gone] 40 false)).get s5.n=some (.cells [.int .u64 q.2.at_, .string q.2.val, .bool q.2.gone] 40 false):=by simp
     have hn5:((s5.alloc (.cells [.int .u64 0, .string ⟨#[]⟩, .bool false] 40 false)).put s5.n (.cells [.int .u64 q.2.at_, .string q.2.val, .bool q.2.gone] 40 false)).n=s5.n+1:=by simp
     simp [qa0,e0,e1,e7,e61,e62,e63,e130,he'];generalize (s5.alloc (.cells [.int .u64 0, .string ⟨#[]⟩, .bool false] 40 false)).put s5.n (.cells [.int .u64 q.2.at_, .string q.2.val, .bool q.2.gone] 40 false)=s6 at ga5 hc5 hn5⊢;have hgv:=λQ=>qnm (hg.grow (g5.trans ga5)) hok ht q.1 Q
     rw [hkq] at hgv;unfold ptr at hgv;have hnv:=fun σ x y=>zb7 q.2 q.2 σ x y
     unfold qad at hnv hgv;refine qdx (l:= [0,1,2,4,3,5]) (b:= #[0,0,0,7,0,31]) (by kernel_rfl) (by kernel_rfl) (by kernel_rfl) ?_
     simp only [List.map_cons,List.map_nil,qal]
     (try simp [qan,qa3,Nat.testBit_eq_decide_div_mod_eq,e0,e1,e7,hc5,-qaa])
     repeat (first|rw [qa8 rfl]|rw [qaf (by rfl) (by simp [qa4])]);simp [qa4,qab,qa9,Nat.add_assoc,e0,e1,e7,e61,e62,e63,e130,hc5]
     refine hgv _ λs7 g7=> ?_
     have hc7:=g7.get hc5 (by omega)
     (try simp [qan,qa3,Nat.testBit_eq_decide_div_mod_eq,hc7,-qaa])
     repeat (first|rw [qa8 rfl]|rw [qaf (by rfl) (by simp [qa4])]);simp [qa4,qab,qa9,Nat.add_assoc,hc7,hnv,e0,e1,e7,e61,e62,e63,e130]
     have hg57:=ga5.trans g7;exact⟨S'.length,by omega,S',rfl,hti'.grow hrn' hg57,gs'.trans hg57,by have:=hg57.n;omega⟩
   ·refine⟨_,S0,rfl, ?_⟩;simp [e0,e1,e61,e62,e63];exact⟨hti,ga4,by omega⟩
   ·rintro o s ⟨tm,rfl,e0,e1,e61,e62,e63,gs⟩;simp [qa0,e0,e1,e61,e62,e63];exact⟨K.length-(j+1),by omega,j+1,by rw [hw2],by omega,rfl,gs⟩
  ·have hjl':j=K.length:=by omega
   subst hjl';simp [qa0,e0,e1,e61,e62,e63];exact gσs
 ·refine⟨_,0,rfl, ?_⟩;simp;exact Grow.refl _
 ·rintro o s ⟨tm,rfl,e0,e1,gs⟩;have hgs:=hg.grow gs;have hms:=hm.grow gs;have hcm:=hms.cell;have hw:IntKind.i64.wrap (P.last+1)=P.last+1:=IntWalk.i64_in _ (by have:=hok.last0;omega)
  have hgt:=λQ=>qci hgs (P.last+1) Q
  have hnn:=ok_num1 hok;unfold ptr at hgt;simp [qa0,e0,e1,hcm,hw];refine hgt _ (λt' ht'=>by rw [hnn] at ht';cases ht') λhn'=> ?_
  have hcg:=hgs.cell;have hso:=λQ=>qtz hgs.st hms hok hsz Q
  unfold ptr at hcg hso;simp [qa0,e0,e1,hcm,hcg];refine qdx (l:= [0,1,2,3,4,5,6,7,8,9,10,11,12,13]) (b:= #[0,1,3,7,15,31,63,7,135,391,903,2047,4095,8191]) (by kernel_rfl) (by kernel_rfl) (by kernel_rfl) ?_
  simp only [List.map_cons,List.map_nil,qal]
  (try simp [qan,qa3,Nat.testBit_eq_decide_div_mod_eq,e0,e1,hcm,hcg,-qaa])
  repeat (first|rw [qa8 rfl]|rw [qaf (by rfl) (by simp [qa4])]);simp [qa4,qab,qa9,Nat.add_assoc,e0,e1,hcm,hcg]
  refine hso _ λs7 g7=> ?_
  (try simp [qan,qa3,Nat.testBit_eq_decide_div_mod_eq,-qaa])
  repeat (first|rw [qa8 rfl]|rw [qaf (by rfl) (by simp [qa4])]);simp [qa4,qab,qa9,Nat.add_assoc,qa0]
  exact h1 _ (gs.trans g7)
end
abbrev Prs:=ByteArray×ByteArray
theorem zbe (v:Prs):KL [.str, .str] (qgc v):=⟨⟨_,rfl⟩,⟨_,rfl⟩,trivial⟩
theorem encP_inj {a b:Prs}:qgc a=qgc b↔a=b:=by
 constructor
 ·intro h;cases a;cases b;simp [qgc] at h;simp [h]
 ·rintro rfl;rfl
theorem cmp_pair (a b:Prs) (σ:CSt) (x y:Operand):qd5 Tryz.prog σ .eql 196 x y (.agg (qgc a).toArray) (.agg (qgc b).toArray)= .val (.bool (decide (a=b))) σ∧qd5 Tryz.prog σ .neq 196 x y (.agg (qgc a).toArray) (.agg (qgc b).toArray)= .val (.bool (!decide (a=b))) σ:=by
 obtain⟨c,h1,h2,h3⟩:=qh7 (P:=Tryz.prog) (f:=2) (t:=196) (ks:= [.str, .str]) (by kernel_rfl) (by kernel_rfl) (by omega) (by kernel_rfl) (by kernel_rfl) (zbe a) (zbe b) rfl rfl (σ:=σ) (x:=x) (y:=y)
 have:c=decide (a=b):=by
  rw [encP_inj] at h3;cases c<;>simp_all
 rw [h1,h2,this];exact⟨rfl,rfl⟩
theorem neq_pair (a b:Prs) (σ:CSt) (x y:Operand):qd5 Tryz.prog σ .neq 196 x y (.agg (qgc a).toArray) (.agg (qgc b).toArray)= .val (.bool (!decide (a=b))) σ:=(cmp_pair a b σ x y).2
theorem equal_pr (l m:List Prs) (v u:Value) (σ:CSt) (hsl:Sl σ 196 2 qgc v l) (hsm:Sl σ 196 2 qgc u m) (hbig:l.length<2^40) (Q:Out→CSt→Prop)
  (h:∀(σ':CSt),Grow σ σ'→Q (.ret (.bool (decide (l=m))) false) σ'):W E1 (.fn 102 #[v,u] none) σ Q:=by
 rw [qap (fn:=Tryz.f102) Tryz.func102 rfl rfl rfl];by_cases hlen:l.length=m.length
 ·rcases hsl with⟨rfl,rfl⟩|⟨i,off,cap,row,ro,rfl,hg,hin,hrow,hle,hcap⟩
  ·have hm:m= []:=List.eq_nil_of_length_eq_zero hlen.symm;subst hm;have hu:∃p c,u= .slice p 0 c:=by
    rcases hsm with⟨rfl,_⟩|⟨i2,off2,cap2,row2,ro2,rfl,_⟩
    ·exact⟨_,_,rfl⟩
    ·exact⟨_,_,rfl⟩
   obtain⟨p,c,rfl⟩:=hu;have:=h σ (Grow.refl σ);simp [qa0];rw [qeq];simpa [qa0] using this
  rcases hsm with⟨rfl,rfl⟩|⟨i2,off2,cap2,row2,ro2,rfl,hg2,hin2,hrow2,hle2,hcap2⟩
  ·have hl:l= []:=List.eq_nil_of_length_eq_zero hlen;subst hl;have:=h σ (Grow.refl σ);simp [qa0];rw [qeq];simpa [qa0] using this
  simp [qa0,hlen];refine qaj (λn a σ'=>∃tm k,a=⟨tm,26, [],false⟩∧tm.get 0=some (.slice (some ⟨i,off,none⟩) l.length cap)∧tm.get 1=some (.slice (some ⟨i2,off2,none⟩) m.length cap2)∧tm.get 12=some (.int .i64 l.length)∧tm.get 13=some (.int .i64 (k:Nat))∧tm.get 4=some (.bool false)∧k≤l.length∧n=l.length-k∧l.take k=m.take k∧Grow σ σ') ?_ l.length _ _ ?_
  ·rintro n a σ' ⟨tm,k,rfl,h0,h1,h12,h13,h4,hk,hn,htk,hgr⟩;have hgi:=hgr.get hg hin;have hgi2:=hgr.get hg2 hin2;by_cases hlt:k<l.length
   ·have hlt2:k<m.length:=by omega
    have hld:=qam (enc:=qgc) (λ_=>rfl) hrow k hlt
    have hl1:=qbe hle k hlt;have hld2:=qam (enc:=qgc) (λ_=>rfl) hrow2 k hlt2
    have hl2:=qbe hle2 k hlt2;have hw:=qb7 k (by omega)
    have hneq:=neq_pair l[k] m[k];simp [qa0,h0,h1,h12,h13,h4,hlt];refine qba (by kernel_rfl) ?_
    simp [qa6,h0,h1,h12,h13,h4,hlt,hlt2,hgi,hgi2,hld,hld2,hl1,hl2,hneq];by_cases he:l[k]=m[k]
    ·simp [qa0,he,h13,hw];refine⟨_, ?_,h0,h1,h12,k+1,by simp,h4,by omega,rfl, ?_,hgr⟩
     ·omega
     ·rw [List.take_succ_eq_append_getElem hlt,List.take_succ_eq_append_getElem hlt2,htk,he]
    ·have hne:l≠m:=by rintro rfl;exact he rfl
     have:=h σ' hgr;rw [decide_eq_false hne] at this;simpa [qa0,he] using this
   ·have hkl:k=l.length:=by omega
    have he:l=m:=by
     have:=htk
     rwa [List.take_of_length_le (by omega),List.take_of_length_le (by omega)] at this
    have:=h σ' hgr;rw [decide_eq_true he] at this;simpa [qa0,h12,h13,hlt] using this
  ·refine⟨_,0,rfl, ?_⟩;simp [hlen];exact Grow.refl σ
 ·have hu:∀{x:Value} {l:List Prs},Sl σ 196 2 qgc x l→∃p c,x= .slice p l.length c:=by
   rintro x l (⟨rfl,rfl⟩|⟨i,off,cap,row,ro,rfl,_⟩)
   ·exact⟨_,_,rfl⟩
   ·exact⟨_,_,rfl⟩
  obtain⟨p,c,rfl⟩:=hu hsl;obtain⟨p',c',rfl⟩:=hu hsm;have hne:l≠m:=by rintro rfl;exact hlen rfl
  have:=h σ (Grow.refl σ);rw [decide_eq_false hne] at this;have hi:¬((l.length:Int)=m.length):=by omega
  simpa [qa0,hi] using this
theorem qw2 {σ:CSt} {s:ByteArray} {c:Int} {m:Nat} (h0:c=m) (h1:m<2^62) (h2:s.size*m≤2^47) {Q:Out→CSt→Prop}:W E1 (.fn 19 #[.string s, .int .i64 c] none) σ Q=Q (.ret (.string (repS s m)) false) σ:=by
 subst h0;exact qj1 (g:=repG) rfl rfl (by unfold repG;simp only [Int.toNat_natCast];rw [if_pos ⟨by omega,by omega,h2⟩])
theorem zar {σ:CSt} {n:Nat} (hn:n<100) {Q:Out→CSt→Prop}:W E1 (.fn 123 #[.int .i64 n] none) σ Q=Q (.ret (.string ⟨(Lib.decDigits n).toArray⟩) false) σ:=
 qj1 (g:=itoaG) rfl rfl (by unfold itoaG;simp only [Int.toNat_natCast];rw [if_pos ⟨by omega,by omega⟩])
def keyL:Nat→List UInt8
 |0=> [97]|1=> [98]|2=> [99]|3=> [100]|_=> [101]
def valL:Nat→List UInt8
 |0=> []|1=> [120]|2=> [121]|3=> [122,122]|_=> [118,97,108,117,101]
def qp8 (n:Int):ByteArray:=if 250<n then repS ⟨#[107]⟩ ((n-251)*20).toNat else⟨(keyL (n %5).toNat).toArray⟩
def qqa (n:Int):ByteArray:=if 250<n then repS ⟨#[118]⟩ (198+(n-251)).toNat else⟨(valL (n %5).toNat++Lib.decDigits (n/16).toNat).toArray⟩
theorem zak (b:UInt8) (n:Nat):(repS ⟨#[b]⟩ n).size=n:=by
 unfold repS;show((List.replicate n [b]).flatten).toArray.size=n
 simp
theorem zaf (n:Nat) (h:n<16):(Lib.decDigits n).length≤2:=by
 unfold Lib.decDigits;split
 ·simp
 ·unfold Lib.decDigits;rw [dif_pos (by omega)]
  simp
theorem qdy (n:Int) (hn:0≤n∧n<256) (σ:CSt) (Q:Out→CSt→Prop) (h:∀σ',Grow σ σ'→Q (.ret (.string (qp8 n)) false) σ'):W E1 (.fn 46 #[.int .u8 n] none) σ Q:=by
 rw [qap (fn:=Tryz.f46) Tryz.func46 rfl rfl rfl];unfold qp8 at h;by_cases c:250<n
 ·rw [if_pos c] at h;have w1:IntKind.u8.wrap (n-251)=n-251:=IntWalk.u8_in _ (by omega)
  have w2:IntKind.i64.wrap (n-251)=n-251:=IntWalk.i64_in _ (by omega)
  have w3:IntKind.i64.wrap ((n-251)*20)=(n-251)*20:=IntWalk.i64_in _ (by omega)
  have e1:(⟨#[107]⟩:ByteArray).size=1:=rfl;simp [qa0,c,w1,w2,w3];rw [qw2 (m:=((n-251)*20).toNat) (by omega) (by omega) (by rw [e1];omega)]
  simpa [qa0] using h σ (Grow.refl σ)
 ·rw [if_neg c] at h;have hg:=h _ ((Grow.refl σ).alloc (.cells [.string ⟨#[97]⟩, .string ⟨#[98]⟩, .string ⟨#[99]⟩, .string ⟨#[100]⟩, .string ⟨#[101]⟩] 9 false));obtain⟨k,hk,hk5⟩:∃k:Nat,n %5=k∧k<5:=⟨(n %5).toNat,by omega,by omega⟩
  have h3:n.tmod 5=(k:Int):=by rw [Int.tmod_eq_emod_of_nonneg hn.1,hk]
  have w1:IntKind.u8.wrap (k:Int)=(k:Int):=IntWalk.u8_in _ (by omega)
  rw [hk] at hg;simp [qa0,c,h3,w1]
  match k,hk5,hg with
  |0,_,hg=>simpa [qa0,keyL] using hg
  |1,_,hg=>simpa [qa0,keyL] using hg
  |2,_,hg=>simpa [qa0,keyL] using hg
  |3,_,hg=>simpa [qa0,keyL] using hg
  |4,_,hg=>simpa [qa0,keyL] using hg
theorem qvp (n:Nat):(valL n).length≤5:=by unfold valL;split<;>simp
theorem qrg (n:Int) (hn:0≤n∧n<256):(qqa n).size≤202∧(n<251→(qqa n).size≤7):=by
 unfold qqa;by_cases c:250<n
 ·rw [if_pos c,zak];omega
 ·rw [if_neg c];have h1:=qvp (n %5).toNat;have h2:=zaf (n/16).toNat (by omega)
  have h3:(⟨(valL (n %5).toNat++Lib.decDigits (n/16).toNat).toArray⟩:ByteArray).size=(valL (n %5).toNat).length+(Lib.decDigits (n/16).toNat).length:=by simp [ByteArray.size]
  omega
theorem qu8 (n:Int) (hn:0≤n∧n<256) (σ:CSt) (Q:Out→CSt→Prop) (h:∀σ',Grow σ σ'→Q (.ret (.string (qqa n)) false) σ'):W E1 (.fn 55 #[.int .u8 n] none) σ Q:=by
 rw [qap (fn:=Tryz.f55) Tryz.func55 rfl rfl rfl];unfold qqa at h;by_cases c:250<n
 ·rw [if_pos c] at h;have w1:IntKind.u8.wrap (n-251)=n-251:=IntWalk.u8_in _ (by omega)
  have w2:IntKind.i64.wrap (n-251)=n-251:=IntWalk.i64_in _ (by omega)
  have w3:IntKind.i64.wrap (198+(n-251))=198+(n-251):=IntWalk.i64_in _ (by omega)
  have e1:(⟨#[118]⟩:ByteArray).size=1:=rfl;simp [qa0,c,w1,w2,w3];rw [qw2 (m:=(198+(n-251)).toNat) (by omega) (by omega) (by rw [e1];omega)]
  simpa [qa0] using h σ (Grow.refl σ)
 ·rw [if_neg c] at h;have hg:=h _ ((Grow.refl σ).alloc (.cells [.string ⟨#[]⟩, .string ⟨#[120]⟩, .string ⟨#[121]⟩, .string ⟨#[122,122]⟩, .string ⟨#[118,97,108,117,101]⟩] 9 false));obtain⟨k,hk,hk5⟩:∃k:Nat,n %5=k∧k<5:=⟨(n %5).toNat,by omega,by omega⟩
  obtain⟨d,hd,hd5⟩:∃d:Nat,n/16=d∧d<16:=⟨(n/16).toNat,by omega,by omega⟩
  have h3:n.tmod 5=(k:Int):=by rw [Int.tmod_eq_emod_of_nonneg hn.1,hk]
  have h4:n.tdiv 16=(d:Int):=by rw [Int.tdiv_eq_ediv_of_nonneg hn.1,hd]
  have w1:IntKind.u8.wrap (k:Int)=(k:Int):=IntWalk.u8_in _ (by omega)
  have w2:IntKind.u8.wrap (d:Int)=(d:Int):=IntWalk.u8_in _ (by omega)
  have w3:IntKind.i64.wrap (d:Int)=(d:Int):=IntWalk.i64_in _ (by omega)
  have hi:=fun(s:CSt) Q=>zar (σ:=s) (n:=d) (by omega) (Q:=Q)
  have hv:=qvp k;have hdl:=zaf d hd5;have hb:=fun(s:CSt)=>qxk (P:=Tryz.prog) (σ:=s) (t:=9) (x:= .tmp 14) (y:= .tmp 18) (valL k) (Lib.decDigits d) (by omega)
  rw [hk,hd] at hg;simp at hg;simp [qa0,c];refine qo2 (ls:= [[1,2,5,6,7,0,3,4,8,9,10], [1,2,5,6,7,8,0,3,4,9,10]]) (b:= #[0,0,2,7,15,0,32,96,224,511,1023]) (by kernel_rfl) (by kernel_rfl) (by kernel_rfl) (by kernel_rfl) ?_
  intro ll hll;simp only [List.mem_cons,List.not_mem_nil,or_false] at hll;generalize Lib.decDigits d=ds at hi hb hg;have hk5':k=0∨k=1∨k=2∨k=3∨k=4:=by omega
  have hb2:∀s:CSt,qd5 Tryz.prog s .add 9 (.tmp 14) (.tmp 18) (.string ⟨(valL k).toArray⟩) (.string ⟨ds.toArray⟩)= .val (.string ⟨(valL k++ds).toArray⟩) s:=hb
  rcases hll with rfl|rfl<;>rcases hk5' with rfl|rfl|rfl|rfl|rfl<;>simp [valL] at hb2 hg<;>
   simpa [qa7,qal,qab,qb9,qa3,qa9,Nat.add_assoc,Nat.testBit_eq_decide_div_mod_eq,h3,h4,w1,w2,w3,hi,valL,hb2] using hg
structure At2 (F:Nat→Prop) (σ s:CSt) (g m q:Nat) (row:List Value) (Pg Pm:PM):Prop where
 two:Two F s g m Pg Pm
 ch:Ch bT qcd F σ s
 nn:gnone s
 z:0<s.n
 hF:∀i,s.n≤i→F i
 qc:s.get q=some (.cells row 70 false)
 ql:q<s.n
theorem mTpair:¬mT 196:=by unfold mT;decide
theorem scan_len (P:PM) (n:Int) (fr til:ByteArray) (many:Int):(P.scan n fr til many).1.1.length≤50:=by
 unfold PM.scan;split
 ·simp
 ·rename_i t _;split
  ·simp
  split
  ·simp
  have hl:((qe4 P.S t.wr fr til t.sp.hi).take many.toNat).length≤50:=by rw [List.length_take];omega
  split
  ·exact hl
  ·simp only;split
   ·exact hl
   ·simp
theorem bTdo:¬bT 70:=by unfold bT gT mT;decide
section
variable {F:Nat→Prop} {σ s s':CSt} {g m q:Nat} {row:List Value} {Pg Pm:PM}
theorem At2.step (h:At2 F σ s g m q row Pg Pm) {Pg' Pm':PM} (k:Two F s' g m Pg' Pm'∧Ch bT qcd F s s'):At2 F σ s' g m q row Pg' Pm':=by
 obtain⟨a,b⟩:=k;have:=b.n;have:=h.z;have:=h.ql;exact⟨a,h.ch.trans b,qoc h.nn h.z b bT0,by omega,λi hi=>h.hF i (by omega),b.cell h.qc h.ql λ_=>bTdo,by omega⟩
theorem At2.gr (h:At2 F σ s g m q row Pg Pm) (k:Grow s s'):At2 F σ s' g m q row Pg Pm:=h.step ⟨h.two.grow k,k.ch⟩
theorem At2.gC (h:At2 F σ s g m q row Pg Pm):∃F1:Nat→Prop,(∀i,s.n≤i→F1 i)∧RG F1 s g Pg∧∀s' P',RG F1 s' g P'→Ch gT qcd F1 s s'→At2 F σ s' g m q row P' Pm:=by
 obtain⟨F1,a,b,c,d⟩:=h.two.gCall h.hF;exact⟨F1,a,c,λs' P' r k=>h.step (d s' P' r k)⟩
theorem At2.mC (h:At2 F σ s g m q row Pg Pm):∃F1:Nat→Prop,(∀i,s.n≤i→F1 i)∧RM F1 s m Pm∧∀s' P',RM F1 s' m P'→Ch mT qcd F1 s s'→At2 F σ s' g m q row Pg P':=by
 obtain⟨F1,a,b,c,d⟩:=h.two.mCall h.hF;exact⟨F1,a,c,λs' P' r k=>h.step (d s' P' r k)⟩
theorem mDo_spec (h:Two F σ g m Pg Pm) (hF:∀i,σ.n≤i→F i) (hn:gnone σ) (hz:0<σ.n) (hog:Pg.Ok) (hom:Pm.Ok) (hap:∃b,qdi Pm b) (hsg:Pg.size<2^15) (hsm:Pm.size<2^15) (hlg:Pg.last<2^40) (hlm:Pm.last<2^40) (a:DA) (ha:a.ok) (hs:Same Pm Pg (decide (a.kind.tmod 20=19))) (Q:Out→CSt→Prop)
  (h1:∀σ',Two F σ' g m (doP qp8 qqa Pg a) (doP qp8 qqa Pm a)→Ch bT qcd F σ σ'→Q (.ret (.bool true) false) σ'):W E1 (.fn 36 #[ptr m,ptr g, .agg (qnr a).toArray] none) σ Q:=by
 obtain⟨ha1,ha2,ha3,ha4,ha5,ha6⟩:=ha;have hnum:=hs.num a.n;have hl4:=hs.least4 a.v;unfold doP at h1;rw [hnum] at h1;rw [qap (fn:=Tryz.f36) Tryz.func36 rfl rfl rfl];have g0:Grow σ (σ.alloc (.cells (qnr a) 70 false)):=(Grow.refl σ).alloc _;have hq0:(σ.alloc (.cells (qnr a) 70 false)).get σ.n=some (.cells (qnr a) 70 false):=by simp
 have hn0:(σ.alloc (.cells (qnr a) 70 false)).n=σ.n+1:=by simp
 simp [qa0,ptr,qnr];unfold qnr at g0 hq0 hn0;generalize σ.alloc (.cells _ 70 false)=s0 at g0 hq0 hn0⊢;have A0:At2 F σ s0 g m σ.n _ Pg Pm:=⟨h.grow g0,g0.ch,qar hn hz g0,by omega,λi hi=>hF i (by omega),hq0,by omega⟩
 refine mN_spec A0.two.rm hom a.n ha2 _ λs1 g1=> ?_
 have A1:=A0.gr g1;have q1:=A1.qc;generalize qyc Pm a.n=n at h1⊢;have hk0:=Int.tmod_nonneg 20 ha1.1;have hk1:=Int.tmod_lt_of_pos a.kind (show(0:Int)<20 by omega)
 have h20:(a.kind.tmod 20=0∨a.kind.tmod 20=1)∨(a.kind.tmod 20=2∨a.kind.tmod 20=3)∨a.kind.tmod 20=4∨(a.kind.tmod 20=5∨a.kind.tmod 20=6∨a.kind.tmod 20=7)∨(a.kind.tmod 20=8∨a.kind.tmod 20=9)∨(a.kind.tmod 20=10∨a.kind.tmod 20=11∨a.kind.tmod 20=12)∨a.kind.tmod 20=13∨(a.kind.tmod 20=14∨a.kind.tmod 20=15∨a.kind.tmod 20=16)∨a.kind.tmod 20=17∨a.kind.tmod 20=18∨a.kind.tmod 20=19:=by omega
 rcases h20 with c|c|c|c|c|c|c|c|c|c|c
 ·have w0:=Int.tmod_nonneg 1010 ha6.1;have w1:=Int.tmod_lt_of_pos a.by_ (show(0:Int)<1010 by omega)
  have hw:IntKind.u64.wrap (a.by_.tmod 1010)=a.by_.tmod 1010:=IntWalk.u64_in _ (by omega)
  rcases c with c|c
  all_goals
   simp [c] at h1;simp [qa0,q1,c,hw];obtain⟨F1,f1,r1,k1⟩:=A1.gC;refine qkz r1 f1 hog hlg _ ⟨w0,by omega⟩ _ λs2 r2 c2=> ?_
   have A2:=k1 _ _ r2 c2;have q2:=A2.qc;simp [qa0,q2,hw];obtain⟨F2,f2,r2,k2⟩:=A2.mC;refine qlk r2 f2 hom hlm _ ⟨w0,by omega⟩ _ λs3 r3 c3=> ?_
   have A3:=k2 _ _ r3 c3;have hh:=h1 _ A3.two A3.ch;simpa [qa0,qa2,qa4,hs.begin] using hh
 ·have w0:=Int.tmod_nonneg 12 ha6.1;have w1:=Int.tmod_lt_of_pos a.by_ (show(0:Int)<12 by omega)
  have hw:IntKind.u64.wrap (a.by_.tmod 12)=a.by_.tmod 12:=IntWalk.u64_in _ (by omega)
  rcases c with c|c
  all_goals
   simp [c] at h1;simp [qa0,q1,c,hw];obtain⟨F1,f1,r1,k1⟩:=A1.gC;refine qkz r1 f1 hog hlg _ ⟨w0,by omega⟩ _ λs2 r2 c2=> ?_
   have A2:=k1 _ _ r2 c2;have q2:=A2.qc;simp [qa0,q2,hw];obtain⟨F2,f2,r2,k2⟩:=A2.mC;refine qlk r2 f2 hom hlm _ ⟨w0,by omega⟩ _ λs3 r3 c3=> ?_
   have A3:=k2 _ _ r3 c3;have hh:=h1 _ A3.two A3.ch;simpa [qa0,qa2,qa4,hs.begin] using hh
 ·simp [c] at h1;simp [qa0,q1,c];obtain⟨F1,f1,r1,k1⟩:=A1.gC;refine qmf r1 f1 hog hlg _ λs2 r2 c2=> ?_
  have A2:=k1 _ _ r2 c2;simp [qa0];obtain⟨F2,f2,r2,k2⟩:=A2.mC;refine qmk r2 f2 hom hlm _ λs3 r3 c3=> ?_
  have A3:=k2 _ _ r3 c3;have hh:=h1 _ A3.two A3.ch;simpa [qa0,qa2,qa4,hs.snap] using hh
 ·rcases c with c|c|c
  all_goals
   simp [c] at h1;simp [qa0,q1,c];refine qdy _ ha3 _ _ λs2 g2=> ?_
   have A2:=A1.gr g2;simp [qa0];obtain⟨F1,f1,r1,k1⟩:=A2.gC;refine qwo r1 f1 A2.nn hog (by omega) _ _ _ λs3 r3 c3=> ?_
   have A3:=k1 _ _ r3 c3;have q3:=A3.qc;simp [qa0,q3];refine qdy _ ha3 _ _ λs4 g4=> ?_
   have A4:=A3.gr g4;simp [qa0];obtain⟨F2,f2,r4,k2⟩:=A4.mC;refine qxn r4 f2 hom (by omega) _ _ _ λs5 r5 c5=> ?_
   have A5:=k2 _ _ r5 c5;have hh:=h1 _ A5.two A5.ch;simpa [qa0,qa2,qa4,hs.read,qw4 Tryz.underlying4] using hh
 ·have w0:=Int.tmod_nonneg 55 ha5.1;have w1:=Int.tmod_lt_of_pos a.v (show(0:Int)<55 by omega)
  have hw:IntKind.i64.wrap (a.v.tmod 55)=a.v.tmod 55:=IntWalk.i64_in _ (by omega)
  have hw2:IntKind.i64.wrap (a.v.tmod 55-2)=a.v.tmod 55-2:=IntWalk.i64_in _ (by omega)
  rcases c with c|c
  all_goals
   simp [c] at h1;simp [qa0,q1,c];refine qdx (l:= [0,1,2,3,5,6,8,9,10,11,12,4,7,13,14,15,16,17,18]) (b:= #[0,0,0,4,12,0,32,124,0,256,768,1792,3840,8191,16383,32767,32767,65535,262143]) (by kernel_rfl) (by kernel_rfl) (by kernel_rfl) ?_
   simp only [List.map_cons,List.map_nil,qal]
   (try simp [qan,qa3,Nat.testBit_eq_decide_div_mod_eq,q1,hw,hw2,-qaa])
   repeat (first|rw [qa8 rfl]|rw [qaf (by rfl) (by simp [qa4])]);simp [qa4,qab,qa9,Nat.add_assoc,q1,hw,hw2]
   refine qdy _ ha3 _ _ λs2 g2=> ?_
   have A2:=A1.gr g2;have q2:=A2.qc
   (try simp [qan,qa3,Nat.testBit_eq_decide_div_mod_eq,q2,hw,hw2,-qaa])
   repeat (first|rw [qa8 rfl]|rw [qaf (by rfl) (by simp [qa4])]);simp [qa4,qab,qa9,Nat.add_assoc,q2,hw,hw2]
   refine qdy _ ha4 _ _ λs3 g3=> ?_
   have A3:=A2.gr g3;have q3:=A3.qc
   (try simp [qan,qa3,Nat.testBit_eq_decide_div_mod_eq,q3,hw,hw2,-qaa])
   repeat (first|rw [qa8 rfl]|rw [qaf (by rfl) (by simp [qa4])]);simp [qa4,qab,qa9,Nat.add_assoc,q3,hw,hw2]
   obtain⟨F1,f1,r3,k1⟩:=A3.gC;refine qya r3 f1 A3.nn hog (by omega) _ _ _ _ _ λv4 s4 r4 c4 sl4=> ?_
   have A4:=k1 _ _ r4 c4;have q4:=A4.qc
   (try simp [qan,qa3,Nat.testBit_eq_decide_div_mod_eq,q4,qa0,-qaa])
   repeat (first|rw [qa8 rfl]|rw [qaf (by rfl) (by simp [qa4])]);simp [qa4,qab,qa9,Nat.add_assoc,q4,qa0]
   refine qdx (l:= [0,1,2,3,5,6,8,9,10,11,12,4,7,13,14,15,16,17,18]) (b:= #[0,0,0,4,12,0,32,124,0,256,768,1792,3840,8191,16383,32767,32767,65535,262143]) (by kernel_rfl) (by kernel_rfl) (by kernel_rfl) ?_
   simp only [List.map_cons,List.map_nil,qal]
   (try simp [qan,qa3,Nat.testBit_eq_decide_div_mod_eq,q4,hw,hw2,-qaa])
   repeat (first|rw [qa8 rfl]|rw [qaf (by rfl) (by simp [qa4])]);simp [qa4,qab,qa9,Nat.add_assoc,q4,hw,hw2]
   refine qdy _ ha3 _ _ λs5 g5=> ?_
   have A5:=A4.gr g5;have q5:=A5.qc
   (try simp [qan,qa3,Nat.testBit_eq_decide_div_mod_eq,q5,hw,hw2,-qaa])
   repeat (first|rw [qa8 rfl]|rw [qaf (by rfl) (by simp [qa4])]);simp [qa4,qab,qa9,Nat.add_assoc,q5,hw,hw2]
   refine qdy _ ha4 _ _ λs6 g6=> ?_
   have A6:=A5.gr g6;have q6:=A6.qc
   (try simp [qan,qa3,Nat.testBit_eq_decide_div_mod_eq,q6,hw,hw2,-qaa])
   repeat (first|rw [qa8 rfl]|rw [qaf (by rfl) (by simp [qa4])]);simp [qa4,qab,qa9,Nat.add_assoc,q6,hw,hw2]
   obtain⟨F2,f2,r6,k2⟩:=A6.mC;refine qwu r6 f2 hom (by omega) _ _ _ _ _ λv7 s7 r7 c7 sl7=> ?_
   have A7:=k2 _ _ r7 c7;have q7:=A7.qc;have sl6:=sl4.grow (g5.trans g6);have hsc:=hs.scan n (qp8 a.key) (qp8 a.til) (a.v.tmod 55-2);have sl8:=sl6.chT c7 mTpair;rw [hsc] at sl8;have hl:=scan_len Pm n (qp8 a.key) (qp8 a.til) (a.v.tmod 55-2);obtain⟨p8,k8,rfl⟩:=sl8.form;obtain⟨p7,k7,rfl⟩:=sl7.form
   (try simp [qan,qa3,Nat.testBit_eq_decide_div_mod_eq,q7,hsc,qa0,-qaa])
   repeat (first|rw [qa8 rfl]|rw [qaf (by rfl) (by simp [qa4])]);simp [qa4,qab,qa9,Nat.add_assoc,q7,hsc,qa0]
   refine equal_pr _ _ _ _ s7 sl8 sl7 (by omega) _ λs8 g8=> ?_
   have hh:=h1 _ (A7.gr g8).two (A7.gr g8).ch;simpa [qa0,qa2,qa4,hsc] using hh
 ·rcases c with c|c|c
  all_goals
   simp [c] at h1;simp [qa0,q1,c];refine qdx (l:= [0,1,2,3,5,6,9,10,11,12,14,15,4,7,8,13,16,17,18,19,20]) (b:= #[0,0,0,4,12,0,32,124,255,0,0,0,2048,6655,0,16384,63999,129535,262143,524287,1048575]) (by kernel_rfl) (by kernel_rfl) (by kernel_rfl) ?_
   simp only [List.map_cons,List.map_nil,qal]
   (try simp [qan,qa3,Nat.testBit_eq_decide_div_mod_eq,q1,-qaa])
   repeat (first|rw [qa8 rfl]|rw [qaf (by rfl) (by simp [qa4])]);simp [qa4,qab,qa9,Nat.add_assoc,q1]
   refine qdy _ ha3 _ _ λs2 g2=> ?_
   have A2:=A1.gr g2;have q2:=A2.qc
   (try simp [qan,qa3,Nat.testBit_eq_decide_div_mod_eq,q2,-qaa])
   repeat (first|rw [qa8 rfl]|rw [qaf (by rfl) (by simp [qa4])]);simp [qa4,qab,qa9,Nat.add_assoc,q2]
   refine qu8 _ ha5 _ _ λs3 g3=> ?_
   have A3:=A2.gr g3;have q3:=A3.qc
   (try simp [qan,qa3,Nat.testBit_eq_decide_div_mod_eq,q3,-qaa])
   repeat (first|rw [qa8 rfl]|rw [qaf (by rfl) (by simp [qa4])]);simp [qa4,qab,qa9,Nat.add_assoc,q3]
   obtain⟨F1,f1,r3,k1⟩:=A3.gC;refine zbf r3 hog _ _ _ (by have:=(qrg a.v ha5).1;omega) _ λs4 r4 c4=> ?_
   have A4:=k1 _ _ r4 c4;have q4:=A4.qc
   (try simp [qan,qa3,Nat.testBit_eq_decide_div_mod_eq,q4,-qaa])
   repeat (first|rw [qa8 rfl]|rw [qaf (by rfl) (by simp [qa4])]);simp [qa4,qab,qa9,Nat.add_assoc,q4]
   refine qdy _ ha3 _ _ λs5 g5=> ?_
   have A5:=A4.gr g5;have q5:=A5.qc
   (try simp [qan,qa3,Nat.testBit_eq_decide_div_mod_eq,q5,-qaa])
   repeat (first|rw [qa8 rfl]|rw [qaf (by rfl) (by simp [qa4])]);simp [qa4,qab,qa9,Nat.add_assoc,q5]
   refine qu8 _ ha5 _ _ λs6 g6=> ?_
   have A6:=A5.gr g6;have q6:=A6.qc
   (try simp [qan,qa3,Nat.testBit_eq_decide_div_mod_eq,q6,-qaa])
   repeat (first|rw [qa8 rfl]|rw [qaf (by rfl) (by simp [qa4])]);simp [qa4,qab,qa9,Nat.add_assoc,q6]
   obtain⟨F2,f2,r6,k2⟩:=A6.mC;refine qlj r6 hom _ _ ⟨0,qqa a.v,false⟩ (by have:=(qrg a.v ha5).1;show(qqa a.v).size<_;omega) _ λs7 r7 c7=> ?_
   have A7:=k2 _ _ r7 c7;have q7:=A7.qc;have hsw:=hs.write n (qp8 a.key) ⟨0,qqa a.v,false⟩ rfl (gv_put _)
   (try simp [qan,qa3,Nat.testBit_eq_decide_div_mod_eq,q7,hsw,qa0,-qaa])
   repeat (first|rw [qa8 rfl]|rw [qaf (by rfl) (by simp [qa4])]);simp [qa4,qab,qa9,Nat.add_assoc,q7,hsw,qa0]
   exact h1 _ A7.two A7.ch
 ·simp [c] at h1;simp [qa0,q1,c];refine qdx (l:= [0,1,2,3,6,7,8,9,11,4,5,10,12,13,14]) (b:= #[0,0,0,4,12,31,0,0,0,256,831,0,4095,8191,16383]) (by kernel_rfl) (by kernel_rfl) (by kernel_rfl) ?_
  simp only [List.map_cons,List.map_nil,qal]
  (try simp [qan,qa3,Nat.testBit_eq_decide_div_mod_eq,q1,-qaa])
  repeat (first|rw [qa8 rfl]|rw [qaf (by rfl) (by simp [qa4])]);simp [qa4,qab,qa9,Nat.add_assoc,q1]
  refine qdy _ ha3 _ _ λs2 g2=> ?_
  have A2:=A1.gr g2;have q2:=A2.qc
  (try simp [qan,qa3,Nat.testBit_eq_decide_div_mod_eq,q2,-qaa])
  repeat (first|rw [qa8 rfl]|rw [qaf (by rfl) (by simp [qa4])]);simp [qa4,qab,qa9,Nat.add_assoc,q2]
  obtain⟨F1,f1,r2,k1⟩:=A2.gC;refine qr6 r2 hog _ _ _ λs4 r4 c4=> ?_
  have A4:=k1 _ _ r4 c4;have q4:=A4.qc
  (try simp [qan,qa3,Nat.testBit_eq_decide_div_mod_eq,q4,-qaa])
  repeat (first|rw [qa8 rfl]|rw [qaf (by rfl) (by simp [qa4])]);simp [qa4,qab,qa9,Nat.add_assoc,q4]
  refine qdy _ ha3 _ _ λs5 g5=> ?_
  have A5:=A4.gr g5;have q5:=A5.qc
  (try simp [qan,qa3,Nat.testBit_eq_decide_div_mod_eq,q5,-qaa])
  repeat (first|rw [qa8 rfl]|rw [qaf (by rfl) (by simp [qa4])]);simp [qa4,qab,qa9,Nat.add_assoc,q5]
  obtain⟨F2,f2,r5,k2⟩:=A5.mC;refine qlj r5 hom _ _ ⟨0,⟨#[]⟩,true⟩ (by decide) _ λs7 r7 c7=> ?_
  have A7:=k2 _ _ r7 c7;have q7:=A7.qc;have hsw:=hs.write n (qp8 a.key) ⟨0,⟨#[]⟩,true⟩ rfl (λ_=>rfl)
  (try simp [qan,qa3,Nat.testBit_eq_decide_div_mod_eq,q7,hsw,qa0,-qaa])
  repeat (first|rw [qa8 rfl]|rw [qaf (by rfl) (by simp [qa4])]);simp [qa4,qab,qa9,Nat.add_assoc,q7,hsw,qa0]
  exact h1 _ A7.two A7.ch
 ·rcases c with c|c|c
  all_goals
   simp [c] at h1;simp [qa0,q1,c];obtain⟨_,_,_,_,_,_,_,x1⟩:=A1.two.rg;refine qlq x1 A1.nn hog hsg _ _ λs2 g2=> ?_
   have A2:=A1.gr g2;simp [qa0];obtain⟨_,_,_,_,_,_,_,_,x2⟩:=A2.two.rm;refine qla x2 hom (by omega) _ _ λs3 g3=> ?_
   have A3:=A2.gr g3;simp [qa0,qa2,qa4,hs.point];obtain⟨F1,f1,r3,k1⟩:=A3.gC;refine qpx r3 f1 A3.nn hog hsg _ _ λs4 r4 c4=> ?_
   have A4:=k1 _ _ r4 c4;simp [qa0];obtain⟨F2,f2,r4,k2⟩:=A4.mC;refine qpq r4 f2 hom hap (by omega) _ _ λs5 r5 c5=> ?_
   have A5:=k2 _ _ r5 c5;have hh:=h1 _ A5.two A5.ch;simpa [qa0,qa2,qa4,hs.commit] using hh
 ·simp [c] at h1;simp [qa0,q1,c];obtain⟨F1,f1,r1,k1⟩:=A1.gC;refine qsp r1 f1 hog (by unfold PM.size at hsg;omega) _ _ λs2 r2 c2=> ?_
  have A2:=k1 _ _ r2 c2;simp [qa0];obtain⟨F2,f2,r2,k2⟩:=A2.mC;refine qu1 r2 f2 hom (by unfold PM.size at hsm;omega) _ _ λs3 r3 c3=> ?_
  have A3:=k2 _ _ r3 c3;have hh:=h1 _ A3.two A3.ch;simpa [qa0,qa2,qa4,hs.abort] using hh
 ·have w0:=Int.tmod_nonneg 20 ha6.1;have w1:=Int.tmod_lt_of_pos a.by_ (show(0:Int)<20 by omega)
  have hw:IntKind.u64.wrap (a.by_.tmod 20)=a.by_.tmod 20:=IntWalk.u64_in _ (by omega)
  simp [c] at h1;simp [qa0,q1,c];refine qdx (l:= [0,1,2,3,4,6,7,8,9,10,5,11,12,13]) (b:= #[0,0,2,6,14,31,0,0,128,384,896,2047,4095,8191]) (by kernel_rfl) (by kernel_rfl) (by kernel_rfl) ?_
  simp only [List.map_cons,List.map_nil,qal]
  (try simp [qan,qa3,Nat.testBit_eq_decide_div_mod_eq,q1,hw,-qaa])
  repeat (first|rw [qa8 rfl]|rw [qaf (by rfl) (by simp [qa4])]);simp [qa4,qab,qa9,Nat.add_assoc,q1,hw]
  obtain⟨F1,f1,r1,k1⟩:=A1.gC;refine qxh r1 hog _ ⟨w0,by omega⟩ _ λs4 r4 c4=> ?_
  have A4:=k1 _ _ r4 c4;have q4:=A4.qc
  (try simp [qan,qa3,Nat.testBit_eq_decide_div_mod_eq,q4,hw,-qaa])
  repeat (first|rw [qa8 rfl]|rw [qaf (by rfl) (by simp [qa4])]);simp [qa4,qab,qa9,Nat.add_assoc,q4,hw]
  obtain⟨F2,f2,r5,k2⟩:=A4.mC;refine qw8 r5 hom _ ⟨w0,by omega⟩ _ λs7 r7 c7=> ?_
  have A7:=k2 _ _ r7 c7;have q7:=A7.qc;have hst:=hs.tick (a.by_.tmod 20) w0
  (try simp [qan,qa3,Nat.testBit_eq_decide_div_mod_eq,q7,hst,qa0,-qaa])
  repeat (first|rw [qa8 rfl]|rw [qaf (by rfl) (by simp [qa4])]);simp [qa4,qab,qa9,Nat.add_assoc,q7,hst,qa0]
  exact h1 _ A7.two A7.ch
 ·have w0:=Int.tmod_nonneg 9 ha5.1;have w1:=Int.tmod_lt_of_pos a.v (show(0:Int)<9 by omega)
  have hw:IntKind.u64.wrap (a.v.tmod 9)=a.v.tmod 9:=IntWalk.u64_in _ (by omega)
  have hsp:=hs.purge (by simp [c]) (least4 Pm a.v)
  simp [c,hl4] at h1;simp [qa0,q1,c];refine qdx (l:= [0,2,3,4,5,1,6,7,8]) (b:= #[0,1,0,4,12,28,63,127,255]) (by kernel_rfl) (by kernel_rfl) (by kernel_rfl) ?_
  simp only [List.map_cons,List.map_nil,qal]
  (try simp [qan,qa3,Nat.testBit_eq_decide_div_mod_eq,q1,hw,-qaa])
  repeat (first|rw [qa8 rfl]|rw [qaf (by rfl) (by simp [qa4])]);simp [qa4,qab,qa9,Nat.add_assoc,q1,hw]
  obtain⟨_,_,_,_,_,_,_,_,x2⟩:=A1.two.rm;refine qhl x2 hom _ λs2 g2=> ?_
  have A2:=A1.gr g2;have q2:=A2.qc
  (try simp [qan,qa3,Nat.testBit_eq_decide_div_mod_eq,q2,hw,qa0,-qaa])
  repeat (first|rw [qa8 rfl]|rw [qaf (by rfl) (by simp [qa4])]);simp [qa4,qab,qa9,Nat.add_assoc,q2,hw,qa0]
  obtain⟨F1,f1,r2,k1⟩:=A2.gC;refine qt3 r2 f1 A2.nn hog (by omega) (least4 Pm a.v) (by unfold least4;rw [IntKind.wrap_u64];omega) _ λs4 r4 c4=> ?_
  have A4:=k1 _ _ r4 c4;simp [qa0];obtain⟨F2,f2,r5,k2⟩:=A4.mC;refine qsn r5 f2 hom (by omega) (least4 Pm a.v) (by unfold least4;rw [IntKind.wrap_u64];omega) _ λs7 r7 c7=> ?_
  have A7:=k2 _ _ r7 c7;have hh:=h1 _ A7.two A7.ch;simpa [qa0,qa2,qa4,hsp] using hh
end
end Go.Sm
namespace Go.Sm
open Go
set_option maxRecDepth 100000
set_option maxHeartbeats 4000000
def runP (K V:Int→ByteArray) (l:List DA):PM:=l.foldl (doP K V) PM.new
theorem inv_run {K V:Int→ByteArray} {l:List DA} (hl:∀a∈l,a.ok):PInv (runP K V l) l.length:=by
 have key:∀(l:List DA) (P:PM) (N:Nat),(∀a∈l,a.ok)→PInv P N→PInv (l.foldl (doP K V) P) (N+l.length):=by
  intro l
  induction l with
  |nil=>intro P N _ h;exact h
  |cons a l ih=>
   intro P N ha h;have:=ih (doP K V P a) (N+1) (λb hb=>ha b (by simp [hb])) (inv_do h (ha a (by simp)))
   rw [List.foldl_cons,List.length_cons];exact this.mono (by omega)
 have:=key l PM.new 0 hl inv_new;rw [Nat.zero_add] at this;exact this
theorem run_take {K V:Int→ByteArray} {l:List DA} {j:Nat} (h:j<l.length):runP K V (l.take (j+1))=doP K V (runP K V (l.take j)) l[j]:=by
 unfold runP;rw [List.take_succ_eq_append_getElem h,List.foldl_append]
 rfl
theorem qun {K V:Int→ByteArray} {l:List DA} (hl:∀a∈l,a.ok) (j:Nat) (hj:j≤l.length):PInv (runP K V (l.take j)) j:=by
 have:=inv_run (K:=K) (V:=V) (l:=l.take j) λa ha=>hl a (List.mem_of_mem_take ha)
 rwa [List.length_take,Nat.min_eq_left hj] at this
end Go.Sm
namespace Go.Sm
open Go Go.Proofs
set_option maxRecDepth 100000
set_option maxHeartbeats 4000000
theorem qxu {f:FuncId} (hf:E1.gam f=some qn3) {σ:CSt} (hn:gnone σ) {Q:Out→CSt→Prop}:W E1 (.fn f #[] none) σ Q=Q (.ret (.bool true) false) σ:=
 qj1 hf rfl (by unfold qn3;rw [if_pos ⟨rfl,hn⟩])
structure At1 (F:Nat→Prop) (σ s:CSt) (g m:Nat) (Pg Pm:PM):Prop where
 two:Two F s g m Pg Pm
 ch:Ch bT qcd F σ s
 nn:gnone s
 z:0<s.n
 hF:∀i,s.n≤i→F i
section
variable {F:Nat→Prop} {σ s s':CSt} {g m:Nat} {P Pg Pm:PM}
theorem At1.G (h:At1 (λi=>σ.n≤i) σ s g m Pg Pm):Grow σ s:=h.ch.grow λ_ h=>h
theorem At1.step (h:At1 F σ s g m Pg Pm) {Pg' Pm':PM} (k:Two F s' g m Pg' Pm'∧Ch bT qcd F s s'):At1 F σ s' g m Pg' Pm':=by
 obtain⟨a,b⟩:=k;have:=b.n;have:=h.z;exact⟨a,h.ch.trans b,qoc h.nn h.z b bT0,by omega,λi hi=>h.hF i (by omega)⟩
theorem At1.gr (h:At1 F σ s g m Pg Pm) (k:Grow s s'):At1 F σ s' g m Pg Pm:=h.step ⟨h.two.grow k,k.ch⟩
theorem At1.new {s1 s2:CSt} (hn:gnone σ) (hz:0<σ.n) (g1:Grow σ s1) (hg:RG (λi=>σ.n≤i) s1 g PM.new) (hm:RM (λi=>s1.n≤i) s2 m PM.new) (g2:Grow s1 s2):At1 (λi=>σ.n≤i) σ s2 g m PM.new PM.new:=by
 have:=g1.n;have:=g2.n;exact⟨⟨λi=>σ.n≤i∧i<s1.n,λi=>s1.n≤i,λi a b=>by omega,λi a=>a.1,λi a=>by omega,(hg.mono λj hj a=>⟨a,hj⟩).grow g2,hm⟩,(g1.trans g2).ch,qar hn hz (g1.trans g2),by omega,λi hi=>by omega⟩
theorem Same.any (P:PM) (b:Bool):Same P P b:={Same.refl P with purge:=λ_ _=>rfl}
theorem At1.do_ (A:At1 F σ s g m P P) {N:Nat} (hi:PInv P N) (hN:N<2^15) (a:DA) (ha:a.ok) (Q:Out→CSt→Prop)
  (h1:∀s',At1 F σ s' g m (doP qp8 qqa P a) (doP qp8 qqa P a)→Q (.ret (.bool true) false) s'):W E1 (.fn 36 #[ptr m,ptr g, .agg (qnr a).toArray] none) s Q:=by
 have h1s:=hi.size;have h1l:=hi.last;exact mDo_spec A.two A.hF A.nn A.z hi.ok hi.ok hi.apart (by omega) (by omega) (by omega) (by omega) a ha (Same.any P _) Q λs' t k=>h1 s' (A.step ⟨t,k⟩)
theorem At1.is_ (A:At1 F σ s g m P P) {N:Nat} (hi:PInv P N) (hN:N<2^15) (Q:Out→CSt→Prop)
  (h1:∀s',At1 F σ s' g m P P→Q (.ret (.bool true) false) s'):W E1 (.fn 57 #[ptr m,ptr g] none) s Q:=by
 have h1s:=hi.size;have h1l:=hi.last;exact mIs_spec A.two hi.ok (by omega) (by omega) Q λs' k=>h1 s' (A.gr k)
def zD:List Value:= [.int .u8 0, .int .u8 0, .int .u8 0, .int .u8 0, .int .u8 0, .int .u16 0]
theorem dcell (s:CSt) (a:DA):Grow s ((s.alloc (.cells zD 70 false)).put s.n (.cells (qnr a) 70 false))∧((s.alloc (.cells zD 70 false)).put s.n (.cells (qnr a) 70 false)).get s.n=some (.cells (qnr a) 70 false)∧((s.alloc (.cells zD 70 false)).put s.n (.cells (qnr a) 70 false)).n=s.n+1:=
 ⟨((Grow.refl s).alloc _).put (Nat.le_refl _) _,by simp,by simp⟩
end
theorem qpw (l:List DA) (hok:∀a∈l,a.ok) (v:Value) (σ:CSt) (hn:gnone σ) (hz:0<σ.n) (hsl:Sl σ 70 6 qnr v l):W E1 (.fn 9 #[v] none) σ qny:=by
 rw [qap (fn:=Tryz.f9) Tryz.func9 rfl rfl rfl];obtain⟨p,c,rfl⟩:=hsl.form;simp [qa0];rw [qxu rfl hn];simp [qa0];by_cases hl:80<l.length
 ·have hl':(80:Int)<l.length:=by omega
  simp [qa0,hl',qny]
 have hl':¬(80:Int)<l.length:=by omega
 simp [qa0,hl'];refine qpj (λi=>σ.n≤i) σ (λ_ h=>h) _ λg s1 rg hg g1=> ?_
 simp [qa0];refine qyo (λi=>s1.n≤i) s1 (λ_ h=>h) _ λm s2 rm hm g2=> ?_
 have A0:=At1.new hn hz g1 rg rm g2;simp [qa0,ptr];refine qak (λk a s=>∃tm j,a=⟨tm,32, [],false⟩∧tm.get 3=some (.pointer (some ⟨g,0,none⟩))∧tm.get 4=some (.pointer (some ⟨m,0,none⟩))∧tm.get 14=some (.slice p l.length c)∧tm.get 15=some (.int .i64 l.length)∧tm.get 16=some (.int .i64 (j:Nat))∧j≤l.length∧k=l.length-j∧At1 (λi=>σ.n≤i) σ s g m (runP qp8 qqa (l.take j)) (runP qp8 qqa (l.take j)))
  (λo s=>∃tm,o= .code (.exit 0) ⟨tm,32, [],false⟩) ?_ l.length _ _ ?_ ?_
 ·rintro k a s ⟨tm,j,rfl,e3,e4,e14,e15,e16,hj,hk,A⟩;by_cases hjl:j<l.length
  ·obtain⟨i,off,row,ro,rfl,hgt,hin,hrow,hle⟩:=(hsl.grow A.G).at hjl;have hld:=qam (enc:=qnr) lenD hrow j hjl;have hl1:=qbe hle j hjl;have hw2:=qb7 j (by omega)
   have hjl':(j:Int)<l.length:=by omega
   have hdo:=hok _ (List.getElem_mem hjl);have hrt:=run_take (K:=qp8) (V:=qqa) hjl;have hinv:=qun (K:=qp8) (V:=qqa) hok j hj;have hinv':=qun (K:=qp8) (V:=qqa) hok (j+1) hjl;obtain⟨g5,hc5,hn5⟩:=dcell s l[j];rw [hrt] at hinv';generalize l[j]=d at*;unfold qnr zD at g5 hc5 hn5;simp [qa0,e3,e4,e14,e15,e16,hjl,hjl',hgt,hld,hl1];simp [qa0,qnr,e3,e4,e14,e15,e16];refine(A.gr g5).do_ hinv (by omega) d hdo _ λs5 A5=> ?_
   simp [qa0,qa2,qa4,e3,e4,e14,e15,e16];refine A5.is_ hinv' (by omega) _ λs6 A6=> ?_
   simp [qa0,qa2,qa4,e3,e4,e14,e15,e16];exact⟨l.length-(j+1),by omega,j+1,by rw [hw2],by omega,rfl,by rw [hrt];exact A6⟩
  ·have hjl':j=l.length:=by omega
   subst hjl';simp [qa0,e3,e4,e14,e15,e16]
 ·refine⟨_,0,rfl, ?_⟩;simp;exact A0
 ·rintro o s ⟨tm,rfl⟩;simp [qa0,qny]
end Go.Sm
namespace Go.Proofs
open Go.Shelf
set_option maxRecDepth 100000
set_option maxHeartbeats 4000000
def Tryz.laysStr_ren:Go.Shelf.Ren:=⟨fun|190=>180|125=>219|258=>235|128=>258|129=>259|302=>268|303=>269|304=>270|305=>271|306=>272|307=>273|308=>266|309=>274|310=>275|333=>309|329=>297|330=>298|334=>310|335=>311|336=>308|344=>325|n=>n,fun|31=>119|9=>9|3=>3|46=>145|0=>0|51=>238|53=>22|4=>4|183=>346|182=>345|131=>263|5=>5|218=>383|222=>386|228=>402|229=>403|n=>n,fun|n=>n⟩
theorem Tryz.laysStr:Go.Proofs.Lays.n190 Tryz.prog Tryz.laysStr_ren:={
 mixed:=by kernel_rfl
 f125:=Tryz.func219.trans (congrArg some (by kernel_rfl))
 f128:=Tryz.func258.trans (congrArg some (by kernel_rfl))
 f129:=Tryz.func259.trans (congrArg some (by kernel_rfl))
 f190:=Tryz.func180.trans (congrArg some (by kernel_rfl))
 f258:=Tryz.func235.trans (congrArg some (by kernel_rfl))
 f302:=Tryz.func268.trans (congrArg some (by kernel_rfl))
 f303:=Tryz.func269.trans (congrArg some (by kernel_rfl))
 f304:=Tryz.func270.trans (congrArg some (by kernel_rfl))
 f305:=Tryz.func271.trans (congrArg some (by kernel_rfl))
 f306:=Tryz.func272.trans (congrArg some (by kernel_rfl))
 f307:=Tryz.func273.trans (congrArg some (by kernel_rfl))
 f308:=Tryz.func266.trans (congrArg some (by kernel_rfl))
 f309:=Tryz.func274.trans (congrArg some (by kernel_rfl))
 f310:=Tryz.func275.trans (congrArg some (by kernel_rfl))
 f329:=Tryz.func297.trans (congrArg some (by kernel_rfl))
 f330:=Tryz.func298.trans (congrArg some (by kernel_rfl))
 f333:=Tryz.func309.trans (congrArg some (by kernel_rfl))
 f334:=Tryz.func310.trans (congrArg some (by kernel_rfl))
 f335:=Tryz.func311.trans (congrArg some (by kernel_rfl))
 f336:=Tryz.func308.trans (congrArg some (by kernel_rfl))
 f344:=Tryz.func325.trans (congrArg some (by kernel_rfl))
 t0:=Tryz.underlying0
 a0:=Tryz.isAgg0
 z0:=Tryz.sizeOf0
 v0:=Tryz.zeroValue0
 t3:=Tryz.underlying3
 a3:=Tryz.isAgg3
 z3:=Tryz.sizeOf3
 v3:=Tryz.zeroValue3
 t4:=Tryz.underlying4
 a4:=Tryz.isAgg4
 z4:=Tryz.sizeOf4
 v4:=Tryz.zeroValue4
 t5:=Tryz.underlying5
 a5:=Tryz.isAgg5
 z5:=Tryz.sizeOf5
 v5:=Tryz.zeroValue5
 t9:=Tryz.underlying9
 a9:=Tryz.isAgg9
 z9:=Tryz.sizeOf9
 v9:=Tryz.zeroValue9
 t31:=Tryz.underlying119
 a31:=Tryz.isAgg119
 z31:=Tryz.sizeOf119
 v31:=Tryz.zeroValue119
 t46:=Tryz.underlying145
 a46:=Tryz.isAgg145
 z46:=Tryz.sizeOf145
 v46:=Tryz.zeroValue145
 t51:=Tryz.underlying238
 a51:=Tryz.isAgg238
 z51:=Tryz.sizeOf238
 v51:=Tryz.zeroValue238
 t53:=Tryz.underlying22
 a53:=Tryz.isAgg22
 z53:=Tryz.sizeOf22
 v53:=Tryz.zeroValue22
 t131:=Tryz.underlying263
 a131:=Tryz.isAgg263
 z131:=Tryz.sizeOf263
 v131:=Tryz.zeroValue263
 t182:=Tryz.underlying345
 a182:=Tryz.isAgg345
 z182:=Tryz.sizeOf345
 v182:=Tryz.zeroValue345
 t183:=Tryz.underlying346
 a183:=Tryz.isAgg346
 z183:=Tryz.sizeOf346
 v183:=Tryz.zeroValue346
 t218:=Tryz.underlying383
 a218:=Tryz.isAgg383
 z218:=Tryz.sizeOf383
 v218:=Tryz.zeroValue383
 t222:=Tryz.underlying386
 a222:=Tryz.isAgg386
 z222:=Tryz.sizeOf386
 v222:=Tryz.zeroValue386
 t228:=Tryz.underlying402
 a228:=Tryz.isAgg402
 z228:=Tryz.sizeOf402
 v228:=Tryz.zeroValue402
 t229:=Tryz.underlying403
 a229:=Tryz.isAgg403
 z229:=Tryz.sizeOf403
 v229:=Tryz.zeroValue403}
def Tryz.laysInt_ren:Go.Shelf.Ren:=⟨fun|189=>153|125=>219|257=>218|128=>258|129=>259|294=>249|295=>250|296=>251|297=>252|298=>253|299=>254|216=>255|300=>256|301=>257|328=>296|329=>297|330=>298|331=>299|332=>300|215=>301|343=>322|n=>n,fun|28=>49|3=>3|46=>145|0=>0|51=>238|53=>22|4=>4|183=>346|182=>345|131=>263|5=>5|9=>9|218=>383|222=>386|228=>402|229=>403|n=>n,fun|n=>n⟩
theorem Tryz.laysInt:Go.Proofs.Lays.n189 Tryz.prog Tryz.laysInt_ren:={
 mixed:=by kernel_rfl
 f125:=Tryz.func219.trans (congrArg some (by kernel_rfl))
 f128:=Tryz.func258.trans (congrArg some (by kernel_rfl))
 f129:=Tryz.func259.trans (congrArg some (by kernel_rfl))
 f189:=Tryz.func153.trans (congrArg some (by kernel_rfl))
 f215:=Tryz.func301.trans (congrArg some (by kernel_rfl))
 f216:=Tryz.func255.trans (congrArg some (by kernel_rfl))
 f257:=Tryz.func218.trans (congrArg some (by kernel_rfl))
 f294:=Tryz.func249.trans (congrArg some (by kernel_rfl))
 f295:=Tryz.func250.trans (congrArg some (by kernel_rfl))
 f296:=Tryz.func251.trans (congrArg some (by kernel_rfl))
 f297:=Tryz.func252.trans (congrArg some (by kernel_rfl))
 f298:=Tryz.func253.trans (congrArg some (by kernel_rfl))
 f299:=Tryz.func254.trans (congrArg some (by kernel_rfl))
 f300:=Tryz.func256.trans (congrArg some (by kernel_rfl))
 f301:=Tryz.func257.trans (congrArg some (by kernel_rfl))
 f328:=Tryz.func296.trans (congrArg some (by kernel_rfl))
 f329:=Tryz.func297.trans (congrArg some (by kernel_rfl))
 f330:=Tryz.func298.trans (congrArg some (by kernel_rfl))
 f331:=Tryz.func299.trans (congrArg some (by kernel_rfl))
 f332:=Tryz.func300.trans (congrArg some (by kernel_rfl))
 f343:=Tryz.func322.trans (congrArg some (by kernel_rfl))
 t0:=Tryz.underlying0
 a0:=Tryz.isAgg0
 z0:=Tryz.sizeOf0
 v0:=Tryz.zeroValue0
 t3:=Tryz.underlying3
 a3:=Tryz.isAgg3
 z3:=Tryz.sizeOf3
 v3:=Tryz.zeroValue3
 t4:=Tryz.underlying4
 a4:=Tryz.isAgg4
 z4:=Tryz.sizeOf4
 v4:=Tryz.zeroValue4
 t5:=Tryz.underlying5
 a5:=Tryz.isAgg5
 z5:=Tryz.sizeOf5
 v5:=Tryz.zeroValue5
 t9:=Tryz.underlying9
 a9:=Tryz.isAgg9
 z9:=Tryz.sizeOf9
 v9:=Tryz.zeroValue9
 t28:=Tryz.underlying49
 a28:=Tryz.isAgg49
 z28:=Tryz.sizeOf49
 v28:=Tryz.zeroValue49
 t46:=Tryz.underlying145
 a46:=Tryz.isAgg145
 z46:=Tryz.sizeOf145
 v46:=Tryz.zeroValue145
 t51:=Tryz.underlying238
 a51:=Tryz.isAgg238
 z51:=Tryz.sizeOf238
 v51:=Tryz.zeroValue238
 t53:=Tryz.underlying22
 a53:=Tryz.isAgg22
 z53:=Tryz.sizeOf22
 v53:=Tryz.zeroValue22
 t131:=Tryz.underlying263
 a131:=Tryz.isAgg263
 z131:=Tryz.sizeOf263
 v131:=Tryz.zeroValue263
 t182:=Tryz.underlying345
 a182:=Tryz.isAgg345
 z182:=Tryz.sizeOf345
 v182:=Tryz.zeroValue345
 t183:=Tryz.underlying346
 a183:=Tryz.isAgg346
 z183:=Tryz.sizeOf346
 v183:=Tryz.zeroValue346
 t218:=Tryz.underlying383
 a218:=Tryz.isAgg383
 z218:=Tryz.sizeOf383
 v218:=Tryz.zeroValue383
 t222:=Tryz.underlying386
 a222:=Tryz.isAgg386
 z222:=Tryz.sizeOf386
 v222:=Tryz.zeroValue386
 t228:=Tryz.underlying402
 a228:=Tryz.isAgg402
 z228:=Tryz.sizeOf402
 v228:=Tryz.zeroValue402
 t229:=Tryz.underlying403
 a229:=Tryz.isAgg403
 z229:=Tryz.sizeOf403
 v229:=Tryz.zeroValue403}
def Tryz.laysItoa_ren:Go.Shelf.Ren:=⟨fun|171=>123|243=>205|246=>246|283=>284|284=>285|285=>286|286=>287|129=>259|317=>315|318=>316|319=>317|320=>318|337=>327|338=>328|n=>n,fun|3=>3|9=>9|2=>2|4=>4|171=>374|0=>0|53=>22|37=>37|5=>5|173=>376|212=>398|51=>238|20=>20|213=>399|46=>145|232=>409|233=>410|n=>n,fun|17=>2|18=>3|19=>4|n=>n⟩
theorem Tryz.laysItoa:Go.Proofs.Lays.n171 Tryz.prog Tryz.laysItoa_ren:={
 mixed:=by kernel_rfl
 f129:=Tryz.func259.trans (congrArg some (by kernel_rfl))
 f171:=Tryz.func123.trans (congrArg some (by kernel_rfl))
 f243:=Tryz.func205.trans (congrArg some (by kernel_rfl))
 f246:=Tryz.func246.trans (congrArg some (by kernel_rfl))
 f283:=Tryz.func284.trans (congrArg some (by kernel_rfl))
 f284:=Tryz.func285.trans (congrArg some (by kernel_rfl))
 f285:=Tryz.func286.trans (congrArg some (by kernel_rfl))
 f286:=Tryz.func287.trans (congrArg some (by kernel_rfl))
 f317:=Tryz.func315.trans (congrArg some (by kernel_rfl))
 f318:=Tryz.func316.trans (congrArg some (by kernel_rfl))
 f319:=Tryz.func317.trans (congrArg some (by kernel_rfl))
 f320:=Tryz.func318.trans (congrArg some (by kernel_rfl))
 f337:=Tryz.func327.trans (congrArg some (by kernel_rfl))
 f338:=Tryz.func328.trans (congrArg some (by kernel_rfl))
 t0:=Tryz.underlying0
 a0:=Tryz.isAgg0
 z0:=Tryz.sizeOf0
 v0:=Tryz.zeroValue0
 t2:=Tryz.underlying2
 a2:=Tryz.isAgg2
 z2:=Tryz.sizeOf2
 v2:=Tryz.zeroValue2
 t3:=Tryz.underlying3
 a3:=Tryz.isAgg3
 z3:=Tryz.sizeOf3
 v3:=Tryz.zeroValue3
 t4:=Tryz.underlying4
 a4:=Tryz.isAgg4
 z4:=Tryz.sizeOf4
 v4:=Tryz.zeroValue4
 t5:=Tryz.underlying5
 a5:=Tryz.isAgg5
 z5:=Tryz.sizeOf5
 v5:=Tryz.zeroValue5
 t9:=Tryz.underlying9
 a9:=Tryz.isAgg9
 z9:=Tryz.sizeOf9
 v9:=Tryz.zeroValue9
 t20:=Tryz.underlying20
 a20:=Tryz.isAgg20
 z20:=Tryz.sizeOf20
 v20:=Tryz.zeroValue20
 t37:=Tryz.underlying37
 a37:=Tryz.isAgg37
 z37:=Tryz.sizeOf37
 v37:=Tryz.zeroValue37
 t46:=Tryz.underlying145
 a46:=Tryz.isAgg145
 z46:=Tryz.sizeOf145
 v46:=Tryz.zeroValue145
 t51:=Tryz.underlying238
 a51:=Tryz.isAgg238
 z51:=Tryz.sizeOf238
 v51:=Tryz.zeroValue238
 t53:=Tryz.underlying22
 a53:=Tryz.isAgg22
 z53:=Tryz.sizeOf22
 v53:=Tryz.zeroValue22
 t171:=Tryz.underlying374
 a171:=Tryz.isAgg374
 z171:=Tryz.sizeOf374
 v171:=Tryz.zeroValue374
 t173:=Tryz.underlying376
 a173:=Tryz.isAgg376
 z173:=Tryz.sizeOf376
 v173:=Tryz.zeroValue376
 t212:=Tryz.underlying398
 a212:=Tryz.isAgg398
 z212:=Tryz.sizeOf398
 v212:=Tryz.zeroValue398
 t213:=Tryz.underlying399
 a213:=Tryz.isAgg399
 z213:=Tryz.sizeOf399
 t232:=Tryz.underlying409
 a232:=Tryz.isAgg409
 z232:=Tryz.sizeOf409
 v232:=Tryz.zeroValue409
 t233:=Tryz.underlying410
 a233:=Tryz.isAgg410
 z233:=Tryz.sizeOf410
 v233:=Tryz.zeroValue410
 g17:=by kernel_rfl
 g18:=by kernel_rfl
 g19:=by kernel_rfl}
def Tryz.laysSpan_ren:Go.Shelf.Ren:=⟨fun|6=>190|15=>219|14=>240|28=>258|29=>259|20=>276|21=>277|22=>278|23=>279|24=>280|25=>281|26=>282|27=>283|46=>312|47=>297|48=>298|49=>313|50=>314|57=>326|n=>n,fun|22=>198|24=>97|25=>293|3=>3|39=>145|0=>0|53=>238|55=>22|4=>4|46=>346|45=>345|50=>263|5=>5|9=>9|66=>383|70=>386|76=>402|77=>403|n=>n,fun|n=>n⟩
theorem Tryz.laysSpan:Go.Proofs.SlLaysF0.n6 Tryz.prog Tryz.laysSpan_ren:={
 mixed:=by kernel_rfl
 f6:=⟨Tryz.f190.name,by decide,Tryz.func190.trans (congrArg some (by kernel_rfl))⟩
 f14:=⟨Tryz.f240.name,by decide,Tryz.func240.trans (congrArg some (by kernel_rfl))⟩
 f15:=Tryz.func219.trans (congrArg some (by kernel_rfl))
 f20:=⟨Tryz.f276.name,by decide,Tryz.func276.trans (congrArg some (by kernel_rfl))⟩
 f21:=⟨Tryz.f277.name,by decide,Tryz.func277.trans (congrArg some (by kernel_rfl))⟩
 f22:=⟨Tryz.f278.name,by decide,Tryz.func278.trans (congrArg some (by kernel_rfl))⟩
 f23:=⟨Tryz.f279.name,by decide,Tryz.func279.trans (congrArg some (by kernel_rfl))⟩
 f24:=⟨Tryz.f280.name,by decide,Tryz.func280.trans (congrArg some (by kernel_rfl))⟩
 f25:=⟨Tryz.f281.name,by decide,Tryz.func281.trans (congrArg some (by kernel_rfl))⟩
 f26:=⟨Tryz.f282.name,by decide,Tryz.func282.trans (congrArg some (by kernel_rfl))⟩
 f27:=⟨Tryz.f283.name,by decide,Tryz.func283.trans (congrArg some (by kernel_rfl))⟩
 f28:=Tryz.func258.trans (congrArg some (by kernel_rfl))
 f29:=Tryz.func259.trans (congrArg some (by kernel_rfl))
 f46:=⟨Tryz.f312.name,by decide,Tryz.func312.trans (congrArg some (by kernel_rfl))⟩
 f47:=Tryz.func297.trans (congrArg some (by kernel_rfl))
 f48:=Tryz.func298.trans (congrArg some (by kernel_rfl))
 f49:=⟨Tryz.f313.name,by decide,Tryz.func313.trans (congrArg some (by kernel_rfl))⟩
 f50:=⟨Tryz.f314.name,by decide,Tryz.func314.trans (congrArg some (by kernel_rfl))⟩
 f57:=⟨Tryz.f326.name,by decide,Tryz.func326.trans (congrArg some (by kernel_rfl))⟩
 t0:=Tryz.underlying0
 a0:=Tryz.isAgg0
 z0:=Tryz.sizeOf0
 v0:=Tryz.zeroValue0
 t3:=Tryz.underlying3
 a3:=Tryz.isAgg3
 z3:=Tryz.sizeOf3
 v3:=Tryz.zeroValue3
 t4:=Tryz.underlying4
 a4:=Tryz.isAgg4
 z4:=Tryz.sizeOf4
 v4:=Tryz.zeroValue4
 t5:=Tryz.underlying5
 a5:=Tryz.isAgg5
 z5:=Tryz.sizeOf5
 v5:=Tryz.zeroValue5
 t9:=Tryz.underlying9
 a9:=Tryz.isAgg9
 z9:=Tryz.sizeOf9
 v9:=Tryz.zeroValue9
 t22:=Tryz.underlying198
 a22:=Tryz.isAgg198
 z22:=Tryz.sizeOf198
 v22:=Tryz.zeroValue198
 t25:=Tryz.underlying293
 a25:=Tryz.isAgg293
 z25:=Tryz.sizeOf293
 v25:=Tryz.zeroValue293
 t39:=Tryz.underlying145
 a39:=Tryz.isAgg145
 z39:=Tryz.sizeOf145
 v39:=Tryz.zeroValue145
 t45:=Tryz.underlying345
 a45:=Tryz.isAgg345
 z45:=Tryz.sizeOf345
 v45:=Tryz.zeroValue345
 t46:=Tryz.underlying346
 a46:=Tryz.isAgg346
 z46:=Tryz.sizeOf346
 v46:=Tryz.zeroValue346
 t50:=Tryz.underlying263
 a50:=Tryz.isAgg263
 z50:=Tryz.sizeOf263
 v50:=Tryz.zeroValue263
 t53:=Tryz.underlying238
 a53:=Tryz.isAgg238
 z53:=Tryz.sizeOf238
 v53:=Tryz.zeroValue238
 t55:=Tryz.underlying22
 a55:=Tryz.isAgg22
 z55:=Tryz.sizeOf22
 v55:=Tryz.zeroValue22
 t66:=Tryz.underlying383
 a66:=Tryz.isAgg383
 z66:=Tryz.sizeOf383
 v66:=Tryz.zeroValue383
 t70:=Tryz.underlying386
 a70:=Tryz.isAgg386
 z70:=Tryz.sizeOf386
 v70:=Tryz.zeroValue386
 t76:=Tryz.underlying402
 a76:=Tryz.isAgg402
 z76:=Tryz.sizeOf402
 v76:=Tryz.zeroValue402
 t77:=Tryz.underlying403
 a77:=Tryz.isAgg403
 z77:=Tryz.sizeOf403
 v77:=Tryz.zeroValue403}
def Tryz.laysVer_ren:Go.Shelf.Ren:=⟨fun|6=>207|15=>219|14=>247|28=>258|29=>259|20=>288|21=>289|22=>290|23=>291|24=>292|25=>293|26=>294|27=>295|46=>319|47=>297|48=>298|49=>320|50=>321|57=>329|n=>n,fun|22=>103|24=>40|25=>303|3=>3|39=>145|0=>0|53=>238|55=>22|4=>4|46=>346|45=>345|50=>263|5=>5|9=>9|66=>383|70=>386|76=>402|77=>403|n=>n,fun|n=>n⟩
theorem Tryz.laysVer:Go.Proofs.SlLaysF0.n6 Tryz.prog Tryz.laysVer_ren:={
 mixed:=by kernel_rfl
 f6:=⟨Tryz.f207.name,by decide,Tryz.func207.trans (congrArg some (by kernel_rfl))⟩
 f14:=⟨Tryz.f247.name,by decide,Tryz.func247.trans (congrArg some (by kernel_rfl))⟩
 f15:=Tryz.func219.trans (congrArg some (by kernel_rfl))
 f20:=⟨Tryz.f288.name,by decide,Tryz.func288.trans (congrArg some (by kernel_rfl))⟩
 f21:=⟨Tryz.f289.name,by decide,Tryz.func289.trans (congrArg some (by kernel_rfl))⟩
 f22:=⟨Tryz.f290.name,by decide,Tryz.func290.trans (congrArg some (by kernel_rfl))⟩
 f23:=⟨Tryz.f291.name,by decide,Tryz.func291.trans (congrArg some (by kernel_rfl))⟩
 f24:=⟨Tryz.f292.name,by decide,Tryz.func292.trans (congrArg some (by kernel_rfl))⟩
 f25:=⟨Tryz.f293.name,by decide,Tryz.func293.trans (congrArg some (by kernel_rfl))⟩
 f26:=⟨Tryz.f294.name,by decide,Tryz.func294.trans (congrArg some (by kernel_rfl))⟩
 f27:=⟨Tryz.f295.name,by decide,Tryz.func295.trans (congrArg some (by kernel_rfl))⟩
 f28:=Tryz.func258.trans (congrArg some (by kernel_rfl))
 f29:=Tryz.func259.trans (congrArg some (by kernel_rfl))
 f46:=⟨Tryz.f319.name,by decide,Tryz.func319.trans (congrArg some (by kernel_rfl))⟩
 f47:=Tryz.func297.trans (congrArg some (by kernel_rfl))
 f48:=Tryz.func298.trans (congrArg some (by kernel_rfl))
 f49:=⟨Tryz.f320.name,by decide,Tryz.func320.trans (congrArg some (by kernel_rfl))⟩
 f50:=⟨Tryz.f321.name,by decide,Tryz.func321.trans (congrArg some (by kernel_rfl))⟩
 f57:=⟨Tryz.f329.name,by decide,Tryz.func329.trans (congrArg some (by kernel_rfl))⟩
 t0:=Tryz.underlying0
 a0:=Tryz.isAgg0
 z0:=Tryz.sizeOf0
 v0:=Tryz.zeroValue0
 t3:=Tryz.underlying3
 a3:=Tryz.isAgg3
 z3:=Tryz.sizeOf3
 v3:=Tryz.zeroValue3
 t4:=Tryz.underlying4
 a4:=Tryz.isAgg4
 z4:=Tryz.sizeOf4
 v4:=Tryz.zeroValue4
 t5:=Tryz.underlying5
 a5:=Tryz.isAgg5
 z5:=Tryz.sizeOf5
 v5:=Tryz.zeroValue5
 t9:=Tryz.underlying9
 a9:=Tryz.isAgg9
 z9:=Tryz.sizeOf9
 v9:=Tryz.zeroValue9
 t22:=Tryz.underlying103
 a22:=Tryz.isAgg103
 z22:=Tryz.sizeOf103
 v22:=Tryz.zeroValue103
 t25:=Tryz.underlying303
 a25:=Tryz.isAgg303
 z25:=Tryz.sizeOf303
 v25:=Tryz.zeroValue303
 t39:=Tryz.underlying145
 a39:=Tryz.isAgg145
 z39:=Tryz.sizeOf145
 v39:=Tryz.zeroValue145
 t45:=Tryz.underlying345
 a45:=Tryz.isAgg345
 z45:=Tryz.sizeOf345
 v45:=Tryz.zeroValue345
 t46:=Tryz.underlying346
 a46:=Tryz.isAgg346
 z46:=Tryz.sizeOf346
 v46:=Tryz.zeroValue346
 t50:=Tryz.underlying263
 a50:=Tryz.isAgg263
 z50:=Tryz.sizeOf263
 v50:=Tryz.zeroValue263
 t53:=Tryz.underlying238
 a53:=Tryz.isAgg238
 z53:=Tryz.sizeOf238
 v53:=Tryz.zeroValue238
 t55:=Tryz.underlying22
 a55:=Tryz.isAgg22
 z55:=Tryz.sizeOf22
 v55:=Tryz.zeroValue22
 t66:=Tryz.underlying383
 a66:=Tryz.isAgg383
 z66:=Tryz.sizeOf383
 v66:=Tryz.zeroValue383
 t70:=Tryz.underlying386
 a70:=Tryz.isAgg386
 z70:=Tryz.sizeOf386
 v70:=Tryz.zeroValue386
 t76:=Tryz.underlying402
 a76:=Tryz.isAgg402
 z76:=Tryz.sizeOf402
 v76:=Tryz.zeroValue402
 t77:=Tryz.underlying403
 a77:=Tryz.isAgg403
 z77:=Tryz.sizeOf403
 v77:=Tryz.zeroValue403}
end Go.Proofs
namespace Go.Sm
open Go Go.Sort Go.Shelf Go.Proofs
set_option maxRecDepth 100000
set_option maxHeartbeats 4000000
theorem trStr_ok {P:Program} {ρ:Ren} (L:Lays.n190 P ρ) (hbody:∃fn,P.funcs[ρ.f 190]? =some fn∧fn.body.isSome=true):TrOk P (ρ.f 190) 1 qri [] where
 body:=hbody
 none_:=λp c w=>Proofs.Any.slices_Sort_string_none L p c w
 some_:=λn vs vs' hl hn ht=>by
  obtain⟨l,h1,rfl⟩:=Option.map_eq_some_iff.1 ht;have e:=qqi h1;subst e;have hn':n=l.length:=by simpa using hl.symm
  subst hn';refine⟨by simp [qae],by simp [qae],by rw [List.length_map,List.length_map,(qlm l).length_eq],λblk off c w hH hb=> ?_⟩
  have e1:(l.map λs=>s.data.toList).toArray.map encStr=(l.map Value.string).toArray:=by
   rw [List.map_toArray,List.map_map]
   congr 1
  have hc:=Proofs.Any.slices_Sort_string L blk off c (l.map λs=>s.data.toList) w (qv7.1 (by rw [e1];exact hH)) hb (by rw [List.length_map];omega)
  rw [List.length_map] at hc;refine hc.mono ?_;rintro e w' ⟨rfl,m,os,rfl⟩;refine⟨rfl,m,os, ?_⟩;rw [qqn]
  congr 2
  rw [List.map_toArray]
  congr 1
  unfold srtS;rw [List.map_map]
  rfl
theorem trInt_ok {P:Program} {ρ:Ren} (L:Lays.n189 P ρ) (hbody:∃fn,P.funcs[ρ.f 189]? =some fn∧fn.body.isSome=true):TrOk P (ρ.f 189) 1 qsr [] where
 body:=hbody
 none_:=λp c w=>Proofs.Any.slices_Sort_int_none L p c w
 some_:=λn vs vs' hl hn ht=>by
  obtain⟨l,h1,rfl⟩:=Option.map_eq_some_iff.1 ht;have e:=zbg h1;subst e;have hn':n=l.length:=by simpa using hl.symm
  subst hn';refine⟨by simp [qae],by simp [qae],by rw [List.length_map,List.length_map,(qlz l).length_eq],λblk off c w hH hb=> ?_⟩
  have hc:=Proofs.Any.slices_Sort_int L blk off c l w (qv7.1 (by rw [List.map_toArray];exact hH)) hb (by omega)
  refine hc.mono ?_;rintro e w' ⟨rfl,m,os,rfl⟩;refine⟨rfl,m,os, ?_⟩;rw [qqn,List.map_toArray]
  rfl
theorem qq9 {α:Type} [Inhabited α] {enc:α→List Value} {k:Nat} (hk:∀x,(enc x).length=k) (l:List α):flatK enc k l.toArray=(l.flatMap enc).toArray:=by
 have hl:=qa5 enc hk l;refine Array.ext (by simp [hl]) λt h1 h2=> ?_
 have ht:t<l.length*k:=by simpa using h1
 have hk0:0<k:=by
  rcases Nat.eq_zero_or_pos k with h|h
  ·subst h;omega
  ·exact h
 have hq:t/k<l.length:=Nat.div_lt_of_lt_mul (by rw [Nat.mul_comm];exact ht)
 have hr:=Nat.mod_lt t hk0;have hrow:((l.flatMap enc).drop 0).take (l.length*k)=l.flatMap enc:=by rw [List.drop_zero,List.take_of_length_le (by omega)]
 have hc:=qb2 hk hrow (t/k) (t %k) hq hr;have e:0+t/k*k+t %k=t:=by rw [Nat.zero_add,Nat.mul_comm];exact Nat.div_add_mod t k
 rw [e,List.getElem?_eq_getElem (by rw [hl];exact ht),List.getElem?_eq_getElem (by rw [hk];exact hr)] at hc
 have hc:=Option.some.inj hc;have h3:(l.flatMap enc).toArray[t]=(l.flatMap enc)[t]'(by rw [hl];exact ht):=by simp
 rw [h3,hc];simp [flatK,hq];rw [List.getElem?_eq_getElem (by rw [hk];exact hr)]
 rfl
theorem trK_ok {P:Program} {ρ:Ren} (L:SlLaysF0.n6 P ρ) (hbody:∃fn,P.funcs[ρ.f 6]? =some fn∧fn.body.isSome=true) {k:Nat} {B:Int→Bool} (aE:∀w,(isAgg (ρ.t 24)).run P w= .ok true w) (zE:∀w,(Go.sizeOf (ρ.t 24)).run P w= .ok k w) {cf:Kr k B→Kr k B→Int} (hcf:Cmp cf) {g:FuncId}
  (eg:∀args w,(callFunc g args).run P w= .ok (.enter g args) w) (hcl:∀(x y:Kr k B) (w:World),Calls P g #[.agg (qes x).toArray, .agg (qes y).toArray] w λe w'=>e= .returned (.int .i64 (cf x y))∧∃q os,w'=grow (w.drewN q) os):TrOk P (ρ.f 6) k (trK cf) [.func (.func g) #[] #[]] where
 body:=hbody
 none_:=λp c w=>Proofs.AnyF.slices_SortFunc_none L p c _ w
 some_:=λn vs vs' hl hn ht=>by
  unfold trK at ht;obtain⟨l,h1,rfl⟩:=Option.map_eq_some_iff.1 ht;obtain⟨rfl,rfl⟩:=qnh h1;have hfe:∀(x:Kr k B),∀v∈qes x,qae v=true:=λx v hv=>by
   unfold qes at hv;rcases List.mem_cons.1 hv with rfl|hv
   ·rfl
   ·exact x.fl v hv
  have hfl:∀(m:List (Kr k B)),∀v∈m.flatMap qes,qae v=true:=λm v hv=>by
   obtain⟨x,_,hx⟩:=List.mem_flatMap.1 hv;exact hfe x v hx
  cases l with
  |nil=>exact⟨by simp,by simp,rfl,λblk off c w hH hb=>(Proofs.AnyF.slices_SortFunc_none L (some ⟨blk,off,none⟩) c _ w).mono (by
    rintro e w' ⟨rfl,rfl⟩;refine⟨rfl,0, #[], ?_⟩;rw [grow_empty,ahead_zero]
    exact(putRow_self id _ blk off _ hH).symm)⟩
  |cons x l=>
   letI:Inhabited (Kr k B):=⟨x⟩
   have hp:=qq8 hcf (x::l);refine⟨hfl _,hfl _, ?_,λblk off c w hH hb=> ?_⟩
   ·rw [qa5 qes qsj,qa5 qes qsj];exact congrArg (·*k) hp.1.length_eq
   ·have hc:=Proofs.AnyQ.slices_SortFunc_eq L k aE zE qes qsj (λx v hv=>VR.cellv (ρ:=λ_=>none) (.plain v (hfe x v hv)) (by have:=hfe x v hv;cases v<;>simp_all [qae,cellv])) cf hcf.swo g #[] blk off c (x::l).toArray w eg (λm os dk _ x y=>hcl x y _) (by
     unfold HoldsK;rw [qq9 qsj]
     exact hH) hb (by simp at hn⊢;omega)
    have hsz:(x::l).toArray.size=(x::l).length:=by simp
    rw [hsz] at hc;refine hc.mono ?_;rintro e w' ⟨rfl,m,os,rfl⟩;refine⟨rfl,m,os, ?_⟩;unfold sortWorldK putRowK
    congr 2
    have:=qq9 qsj (pdqL cf (x::l));unfold pdqL at this⊢;rw [←this]
end Go.Sm
namespace Go.Sm
open Go Go.Proofs
set_option maxRecDepth 100000
set_option maxHeartbeats 4000000
section
open Go.Shelf Go.RowKit Go.Lib Go.Sort
set_option maxHeartbeats 2000000 in
theorem walkC (n n':Int) (u u':Value) (h1:u.oneCell'=true) (h2:u'.oneCell'=true) (w:World):Calls Tryz.prog 191 #[.agg #[.int .u64 n,u], .agg #[.int .u64 n',u']] w λe w'=>e= .returned (.int .i64 (if n<n' then-1 else if n'<n then 1 else 0))∧∃q os,w'=grow (w.drewN q) os:=by
 have ha:∀o o':Obj,∃q os,(w.alloc o).alloc o'=grow (w.drewN q) os:=λo o'=>⟨0,_,by rw [alloc_eq_grow,alloc_eq_grow,grow_grow];rfl⟩
 go_enter Tryz.func191,Tryz.ntmps191
 go_wp2
 all_goals go_ret
 all_goals exact⟨rfl,ha _ _⟩
set_option maxHeartbeats 2000000 in
theorem walkD (n n':Int) (u u' v v':Value) (w:World):Calls Tryz.prog 208 #[.agg #[.int .u64 n,u,v], .agg #[.int .u64 n',u',v']] w λe w'=>e= .returned (.int .i64 (wrap64 (wrap64 n-wrap64 n')))∧∃q os,w'=grow (w.drewN q) os:=by
 have ha:∀o o':Obj,∃q os,(w.alloc o).alloc o'=grow (w.drewN q) os:=λo o'=>⟨0,_,by rw [alloc_eq_grow,alloc_eq_grow,grow_grow];rfl⟩
 go_enter Tryz.func208,Tryz.ntmps208
 go_wp2
 go_ret
 exact⟨rfl,ha _ _⟩
end
theorem qqz {r:List Value} (h:r.length+1=2):∃u,r= [u]:=by
 match r,h with
 | [u],_=>exact⟨u,rfl⟩
theorem qly {r:List Value} (h:r.length+1=3):∃u v,r= [u,v]:=by
 match r,h with
 | [u,v],_=>exact⟨u,v,rfl⟩
theorem closC (x y:Kr 2 λ_=>true) (w:World):Calls Tryz.prog 191 #[.agg (qes x).toArray, .agg (qes y).toArray] w λe w'=>e= .returned (.int .i64 (cfC x y))∧∃q os,w'=Sort.grow (w.drewN q) os:=by
 obtain⟨n,r,_,hl,hf⟩:=x;obtain⟨n',r',_,hl',hf'⟩:=y;obtain⟨u,rfl⟩:=qqz hl;obtain⟨u',rfl⟩:=qqz hl';exact walkC n n' u u' (VR.cellv (ρ:=λ_=>none) (.plain u (hf u (by simp))) (by have:=hf u (by simp);cases u<;>simp_all [qae,cellv])) (VR.cellv (ρ:=λ_=>none) (.plain u' (hf' u' (by simp))) (by have:=hf' u' (by simp);cases u'<;>simp_all [qae,cellv])) w
theorem closD (x y:Kr 3 B40) (w:World):Calls Tryz.prog 208 #[.agg (qes x).toArray, .agg (qes y).toArray] w λe w'=>e= .returned (.int .i64 (cfD x y))∧∃q os,w'=Sort.grow (w.drewN q) os:=by
 obtain⟨n,r,hb,hl,hf⟩:=x;obtain⟨n',r',hb',hl',hf'⟩:=y;obtain⟨u,v,rfl⟩:=qly hl;obtain⟨u',v',rfl⟩:=qly hl';have h1:0≤n∧n≤2^40:=by simpa [B40] using hb
 have h2:0≤n'∧n'≤2^40:=by simpa [B40] using hb'
 have:=walkD n n' u u' v v' w;rw [IntWalk.wrap64_in n (by omega),IntWalk.wrap64_in n' (by omega),IntWalk.wrap64_in (n-n') (by omega)] at this
 exact this
theorem gam1:qnu E1:=by
 intro f g h args σ v σ' hg Q hq
 change gamL f=some g at h
 unfold gamL at h;split at h
 ·cases h;exact qp3 (E:=E0) good (qmr rfl rfl) gam0 (by exact⟨_,Tryz.func166,rfl⟩) (by kernel_rfl) (by decide) qzn hg hq
 ·cases h;exact qp3 (E:=E0) good (qmr rfl rfl) gam0 (by exact⟨_,Tryz.func229,rfl⟩) (by kernel_rfl) (by decide) zbc hg hq
 ·cases h;exact aw_ok aw16 hg hq
 ·cases h;exact aw_ok aw33 hg hq
 ·cases h;exact rep_ok hg hq
 ·cases h;exact qv4 (trStr_ok Tryz.laysStr ⟨_,Tryz.func180,rfl⟩) hg hq
 ·cases h;exact qv4 (trInt_ok Tryz.laysInt ⟨_,Tryz.func153,rfl⟩) hg hq
 ·cases h;exact qv0 (trK_ok Tryz.laysSpan ⟨_,Tryz.func190,rfl⟩ Tryz.isAgg97 Tryz.sizeOf97 cmpC (enters_of Tryz.func191 (by kernel_rfl) rfl) closC) hg hq
 ·cases h;exact qv0 (trK_ok Tryz.laysVer ⟨_,Tryz.func207,rfl⟩ Tryz.isAgg40 Tryz.sizeOf40 cmpD (enters_of Tryz.func208 (by kernel_rfl) rfl) closD) hg hq
 ·cases h;unfold itoaG at hg;split at hg
  ·rename_i n;split at hg
   ·rename_i hc;cases hg;obtain⟨i,rfl⟩:∃i:Nat,n=i:=⟨n.toNat,by omega⟩
    refine qqc (v:= .string ⟨(Lib.decDigits i).toArray⟩) ⟨_,Tryz.func123,rfl⟩ (by simp [qae]) (by simp [qae]) (λw=> ?_) (by simpa using hq)
    exact(Any.strconv_Itoa_small Tryz.laysItoa i (by omega) w).mono (by rintro e w' ⟨rfl,rfl⟩;exact⟨rfl,RowKit.Below.refl _ _⟩)
   ·cases hg
  ·cases hg
 ·cases h
end Go.Sm
namespace Go.Sm
open Go Go.WideShapes Go.ChangeShapes
set_option maxRecDepth 100000
set_option maxHeartbeats 4000000

end Go.Sm
