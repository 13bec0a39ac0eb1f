/- A part of the proof. No further condition. -/
import Derived.Test.YthahgoopboilkaaGreatKE24
set_option linter.all false
set_option maxRecDepth 10000000
set_option maxHeartbeats 16000000
namespace Go.Proofs.YthahgoopboilkaaGreat
section
open Go.Abs
open Go.LP (Dic Rw RT cf cfU ngU jcd)
attribute [local go_sem] ints ic big frac fc rwC tmC lineC
section
variable{L:Abs.Rows}{nm:DN}{D:Dic}{src:Nat->Int×Bool}
theorem put_C(hb:blks L){A b:Nat}(hAb:¬A=b)(hLA:Abs.look L (hp A)=none)(hLb:Abs.look L (hp b)=none)(w:Rw)(row:Nat)(turned:Bool)(hN:D.n<=100000)(hRT:RT w.ts 0 D.n)(hts:∀t∈w.ts,FL 100000000 t.2)(hval:FL 100000000 w.val)(hlen:w.ts.length<=100000)
  {M:Abs.Rows} (hM:blks M) (hsM:SubR L M) (hlb:Abs.look M (hp b)=some (5,[lineC w.val A D.n])) (hlA:Abs.look M (hp A)=some (4,tab D.n fun k=>qc (cf w.ts k))) {P:Exit->St->Prop}
  (hP:∀(M:Abs.Rows) (s:St),(blks M/\SubR L M/\Abs.look M (hp b)=some (5,[lineC (if turned=true then-w.val else w.val) A D.n])/\Abs.look M (hp A)=some (4,tab D.n fun k=>qc (if turned=true then-cf w.ts k else cf w.ts k)))->St.Le s ⟨[(0,.loc (hp nm.d) 6 0 0),(1,.im (.int row)),(3,.im (.bool turned)),(8,.loc (hp b) 5 0 0)],(6,6,[rwC w])::M,[]⟩->P .normal s):
  awp (GH [8,73,84,93] []) (putN 1 (tailN 3 (jbm Tryz.f179)) .skip) P ⟨[(0,.loc (hp nm.d) 6 0 0),(1,.im (.int row)),(3,.im (.bool turned)),(6,.loc 6 6 0 0),(8,.loc (hp b) 5 0 0)],(6,6,[rwC w])::M,[]⟩:=by
 have hAb':¬b=A:=fun e=>hAb e.symm;have F2:=bF hM;have K2:=bK hM;have G2:=bN hM;refine jp5 rfl ?_;simp only[go_sem];refine jcq (fun ht=> ?_) (fun ht=> ?_)
 ·skip
  have kn:=f_neg (hval.mono (by omega:100000000<=19000000000));obtain⟨v,hv0⟩:∃v,v= -w.val:=⟨_,rfl⟩;rw[<-hv0]at kn;simp only[frac,ints]at kn;simp only[ht,hlb,F2,K2,G2,go_sem];refine ja1 kn ?_;simp only[ht,hlb,F2,K2,G2,go_sem];clear kn;obtain⟨f0,hf0⟩:∃f0,f0=fun k=>cf w.ts k:=⟨_,rfl⟩;simp only[<-congrFun hf0]at hlA;obtain⟨M1,hM1e,hM1,hs1,hl1,hz1⟩:∃M1,M1=M.map (fun p=>if p.1=hp b then(p.1,5,[lineC v A D.n])else p)/\blks M1/\SubR L M1/\Abs.look M1 (hp b)=some (5,[lineC v A D.n])/\Abs.look M1 (hp A)=some (4,tab D.n fun k=>qc (ngU w.ts f0 0 k)):=
   ⟨_,rfl,jb8 hM,jhg hLb hsM,jae hlb,(jan (hpne hAb)).trans hlA⟩
  refine jaz [0,1,3,6,8,42,43,44] (fun g:Nat×Abs.Rows=>⟨[(0,.loc (hp nm.d) 6 0 0),(1,.im (.int row)),(3,.im (.bool true)),(6,.loc 6 6 0 0),(8,.loc (hp b) 5 0 0),(42,.im (.sl (w.ts.map tmC))),(43,.im (.int w.ts.length)),(44,.im (.int g.1))],(6,6,[rwC w])::g.2,[]⟩)
   (fun g=>g.1<=w.ts.length/\blks g.2/\SubR L g.2/\Abs.look g.2 (hp b)=some (5,[lineC v A D.n])/\Abs.look g.2 (hp A)=some (4,tab D.n fun k=>qc (ngU w.ts f0 g.1 k))) (fun g=>w.ts.length-g.1) (0,M1) ?_ ?_ rfl
   ⟨zE _,hM1,hs1,hl1,hz1⟩ ?_
  ·simp only[Int.natCast_zero,go_sem]
  ·rw[hM1e];exact SubR.of_eq rfl
  clear hl1 hz1 hM1 hs1 hM1e F2 K2 G2 hlb hlA hM hsM;rintro⟨i,M⟩ ⟨hi,hM,hsM,hlb,hlA⟩;dsimp only at hi hM hsM hlb hlA;have F2:=bF hM;have K2:=bK hM;have G2:=bN hM;rcases zT i w.ts.length with hlt | hlt
  ·have hd:decide ((i:Int)<w.ts.length)=true:=za (by omega);obtain⟨t,hti⟩:=jby (l:=w.ts) (i:=i) (by omega);have h1:=ja9 (n:=(i:Int)+1) (by omega);obtain⟨g1,g2,g3⟩:=jm1 hRT hti;have hg:=tget hti;have v0:(0:Int)<=t.1:=by omega
   have vN:(t.1:Int)<D.n:=by omega
   have hq:=qget (f:=fun k=>ngU w.ts f0 i k) g2;have kn:=f_neg ((hts t (zk hti)).mono (by omega:100000000<=19000000000));generalize hx: -t.2=x at kn;simp only[frac,ints,fc]at kn hg;simp only[hd,hg,hlb,hlA,hq,v0,vN,ja6,Int.toNat_natCast,F2,K2,G2,go_sem];refine jac 8 ?_;simp only[hd,hg,hlb,hlA,hq,v0,vN,ja6,Int.toNat_natCast,F2,K2,G2,go_sem];refine ja4 kn (by decide) ?_;simp only[hd,hg,hlb,hlA,hq,v0,vN,ja6,Int.toNat_natCast,F2,K2,G2,go_sem];refine jaa (i+1,M.map (fun p=>if p.1=hp A then(p.1,4,(tab D.n fun k=>qc (ngU w.ts f0 i k)).set t.1 (fc x))else p)) ?_ ?_ rfl (by show w.ts.length-(i+1)<w.ts.length-i;omega)
    ⟨hlt,jb8 hM,jhg hLA hsM,(jan (hpne hAb')).trans hlb,(jae hlA).trans ?_⟩
   ·simp only[h1,Int.natCast_add,go_sem]
   ·show SubR ((6,6,[rwC w])::_) ((12,5,[tmC t])::(6,6,[rwC w])::_);refine jas ?_ (SubR.of_eq rfl);rw[ja0 _ _ (by dsimp only;decide)];exact jay (jb8 hM) (by dsimp only;decide)
   ·rw[qset];congr 2;refine jak fun k hk=>qd qc ?_;rw[LP.ngU_succ hti,hx]
  have hd:decide ((i:Int)<w.ts.length)=false:=zq (by omega);have hie:i=w.ts.length:=by omega
  subst hie;simp only[hd,go_sem];refine hP M _ ⟨hM,hsM,by rw[ht,zm rfl,<-hv0];exact hlb,?_⟩ (jk0 [0,1,3,8] ?_ (SubR.of_eq rfl) rfl)
  ·rw[hlA];congr 2;refine jak fun k hk=>qd qc ?_;rw[ht,zm rfl,hf0,LP.ngU_eq hRT (fun i t ht=>LP.cf_get hRT ht) _ (zB _),LP.cfU_all hRT];grind
  ·simp only[ht,go_sem]
 ·simp only[ht,go_sem];refine hP M _ ⟨hM,hsM,by rw[ht];exact hlb,by rw[ht];exact hlA⟩ (jk0 [0,1,3,8] ?_ (SubR.of_eq rfl) rfl);simp only[ht,go_sem]
