/- Part G of the proof. -/
import Derived.Test.YtmdielggbailgaaGreatDoorCards
import Derived.Test.YtmdielggbailgaaGreatDoorTie
import Derived.ProofKit
import Derived.OpenShut
import Derived.LaidMore
import Derived.Deep.DeepHandedRow
import Derived.Test.YtmdielggbailgaaGreatDoorPartC
import Derived.Test.YtmdielggbailgaaGreatDoorPartF
set_option linter.unusedVariables false
set_option linter.unusedSimpArgs false
namespace Go.Sm
open Go Go.Proofs Go.Proofs.YtmdielggbailgaaGreatDoor Go.ChangeShapes Go.WideShapes
set_option maxRecDepth 100000
set_option maxHeartbeats 4000000
theorem gNone:Tryz.prog.globalNamed "selion/span.none" =some 0:=by kernel_rfl
theorem tNone:(Tryz.prog.globals[0]?).map (·.type)=some 97:=by kernel_rfl
set_option maxRecDepth 100000 in
theorem base_R {W:World} (h:laidMetH Tryz.prog Rows.txnPointRow.laid W):∃ρ,R Tryz.prog ρ st0 W:=by
 rw [MakeChecks.laidMetH_plain _ _ _ (by kernel_rfl)] at h
 obtain⟨ps,⟨_,_,_,_,_,_,_,_,_,_,⟨_,_,_,_,_,_,_,_,_,_,⟨_,_,_,_,_,_,_,_,_,_,⟨g0,t0,cs0,f0,p0,q0,hg0,ht0,hv0,hd0,_⟩,_⟩,_⟩,_⟩,_⟩:=h;obtain rfl:=Option.some.inj (gNone.symm.trans hg0);obtain rfl:=Option.some.inj (tNone.symm.trans ht0);obtain⟨xs,n,rfl,hx,hcl,hxl,hf⟩:=DataW.trod_struct Tryz.underlying97 hd0;have c187:Tryz.prog.cellsOf 97=2:=by kernel_rfl
 have c27:Tryz.prog.cellsOf 22=1:=by kernel_rfl
 have h0:DataW.trod _ Tryz.prog W 0 _ false n 22 ((cs0.toList.drop 0).take (Tryz.prog.cellsOf 22))=xs[0]? :=hf 0 _ rfl;have h1:DataW.trod _ Tryz.prog W 0 _ false n 22 ((cs0.toList.drop 1).take (Tryz.prog.cellsOf 22))=xs[1]? :=hf 1 _ rfl;rw [c27] at h0 h1;rw [c187] at hcl
 match hcs:cs0.toList,hcl with
 | [x,y],_=>
  rw [hcs] at h0 h1
  match xs,hxl with
  | [u,v],_=>
   obtain⟨k,e1,e2,_⟩:=DataW.trod_int Tryz.underlying22 (show DataW.trod _ Tryz.prog W 0 _ false n 22 [x]=some u from h0)
   obtain⟨m,e3,e4,_⟩:=DataW.trod_int Tryz.underlying22 (show DataW.trod _ Tryz.prog W 0 _ false n 22 [y]=some v from h1)
   cases e1;cases e3;subst e2;subst e4;simp only [Prod.mk.injEq] at hx;have hx1:(DataW.agg [.lit (.int .u64 1), .lit (.int .u64 0)]:DataW Unit)= .agg [.lit (.int .u64 k), .lit (.int .u64 m)]:=hx.1;simp at hx1;obtain⟨rfl,rfl⟩:=hx1;have hc0:W.cell? ⟨0,0,none⟩=some (.int .u64 1):=by
    have:=World.var?_cell hg0 hv0 0;rw [this,←Array.getElem?_toList,hcs]
    rfl
   have hc1:W.cell? ⟨0,1,none⟩=some (.int .u64 0):=by
    have:=World.var?_cell hg0 hv0 1;rw [this,←Array.getElem?_toList,hcs]
    rfl
   have hlt:=World.block_lt_of_cell? _ _ hc0;refine⟨λg=>if g<qb8 then some ⟨g,0,2,Tryz.prog.cellsOf 0⟩ else none,λi hi=> ?_,λi hl=> ?_,λi p hp hl=> ?_,λi o p ho hp=> ?_,λi j p q hn hp hq hr hl=> ?_,λg hg=>⟨_,if_pos hg,rfl,rfl⟩,Nat.le_refl _⟩
   ·exact if_neg (by have:qb8≤i:=hi;omega)
   ·obtain⟨o,ho,_⟩:=hl;obtain⟨h1,_⟩:=base0.ro i o ho;exact⟨_,if_pos h1⟩
   ·obtain⟨o,ho,_⟩:=hl;simp only [st0,CSt.get,Tr.get_set] at ho;split at ho
    ·rename_i hi;subst hi;rw [if_pos (by decide)] at hp
     cases hp;exact hlt
    ·simp [Tr.get_nil] at ho
   ·simp only [st0,CSt.get,Tr.get_set] at ho;split at ho
    ·rename_i hi;subst hi;cases ho;rw [if_pos (by decide)] at hp
     cases hp;refine⟨⟨Eq.refl (Tryz.prog.cellsOf 0),Nat.le_refl 2⟩,λk u=> ?_⟩
     match k,u with
     |0,_=>exact⟨_,hc0, .plain _ rfl⟩
     |1,_=>exact⟨_,hc1, .plain _ rfl⟩
    ·simp [Tr.get_nil] at ho
   ·obtain⟨o,ho,hro,_⟩:=hr;obtain⟨_,c,e,rfl,_⟩:=base0.ro i o ho;cases hro
theorem calm0:Calm st0:=λi ⟨o,ho,hro,_⟩=>by
 obtain⟨_,c,e,rfl,_⟩:=base0.ro i o ho;cases hro
theorem gnone0:gnone st0:=by simp [gnone,st0,CSt.get]
end Go.Sm
namespace Go.Sm
open Go Go.Proofs Go.Proofs.YtmdielggbailgaaGreatDoor Go.ChangeShapes Go.WideShapes Go.RowKit Go.ChangeAt
set_option maxRecDepth 100000
set_option maxHeartbeats 4000000
theorem own0:ownKnob Tryz.prog.godebug=none:=by kernel_rfl
theorem laidOut0:laidOutB Tryz.prog=true:=by kernel_rfl
theorem okD_of (r:List Value) (h:OkL [.int .u8, .int .u8, .int .u8, .int .u8, .int .u8, .int .u16] r):∃x:DA,x.ok∧r=qnr x:=by
 match r,h with
 | [a,b,c,d,e,f],⟨⟨n1,ha,h1⟩,⟨n2,hb,h2⟩,⟨n3,hc,h3⟩,⟨n4,hd,h4⟩,⟨n5,he,h5⟩,⟨n6,hf,h6⟩,_⟩=>
  subst ha;subst hb;subst hc;subst hd;subst he;subst hf;simp only [Lit.wf,Bool.and_eq_true,decide_eq_true_eq] at h1 h2 h3 h4 h5 h6;have e1:IntKind.u8.min=0:=rfl;have e2:IntKind.u8.max=255:=rfl;have e3:IntKind.u16.min=0:=rfl;have e4:IntKind.u16.max=65535:=rfl;rw [e1,e2] at h1 h2 h3 h4 h5;rw [e3,e4] at h6;exact⟨⟨n1,n2,n3,n4,n5,n6⟩,by simp only [DA.ok];omega,rfl⟩
def litV:DataW Unit→Value
 | .lit (.int k n)=> .int k n
 |_=> .bool false
def litCells:DataW Unit→Array Value
 | .agg ds=>(ds.map litV).toArray
 |_=> #[]
def holdG (i:Nat) (d:DataW Unit) (w:World):World:=
 {w with heap:=w.heap.modify i fun
   | .cells _ t frozen=> .cells (litCells d) t frozen
   |o=>o}
noncomputable def ql2 (os:Os):World:=
 holdG 0 Rows.laid_selion_span_none (holdG 2 Rows.laid_internal_strconv_uint64pow10 (holdG 3 Rows.laid_math_bits_deBruijn32tab (holdG 4 Rows.laid_math_bits_deBruijn64tab (World.holding Tryz.prog os ⟨#[], #[], []⟩))))
end Go.Sm
