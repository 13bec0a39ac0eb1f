/- A part of the proof. No further condition. -/
import Derived.Test.YtjcjcpebocbonaaGreatKY24
set_option linter.all false
set_option maxRecDepth 10000000
set_option maxHeartbeats 16000000
namespace Go.Proofs.YtjcjcpebocbonaaGreat
section
set_option maxRecDepth 1000000
open Go.Abs
open Go.LP (Dic Rw RT cf cfU ngU jdw)
attribute [local go_sem] ints ic big frac fc rwC tmC lineC
theorem jd4{R:Abs.Rows}{d k:Nat}{v:Nat×List (List IV)}(h:Abs.look ((d,v)::R) k=none):Abs.look R k=none:=by
 by_cases e:k=d
 ·subst e;rw[ja2]at h;cases h
 ·rwa [ja1 _ _ e]at h
theorem jgq{Rs R:Abs.Rows}{d:Nat}{v:Nat×List (List IV)}(h:Abs.look R d=none)(hs:SubR Rs R):SubR Rs ((d,v)::R):=fun k x hk=>by
 by_cases e:k=d
 ·subst e;have:=hs _ _ hk;rw[h]at this;cases this
 ·rw[ja1 _ _ e];exact hs _ _ hk
theorem jmi{R:Abs.Rows}{d k:Nat}{u v:Nat×List (List IV)}(h:d≠k):SubR ((d,u)::(k,v)::R) ((k,v)::(d,u)::R):=fun j x hj=>by
 by_cases e:j=k
 ·subst e;rw[ja1 _ _ (zH h),ja2]at hj;rw[ja2];exact hj
 ·by_cases e2:j=d
  ·subst e2;rw[ja2]at hj;rw[ja1 _ _ e,ja2];exact hj
  ·rw[ja1 _ _ e2,ja1 _ _ e]at hj;rw[ja1 _ _ e,ja1 _ _ e2];exact hj
section
variable{L:Abs.Rows}{nm:DN}{D:Dic}{src:Nat->Int×Bool}
theorem put_A(h:HasO L nm D src)(w:Rw)(row:Nat)(b1:Bool)(hN:D.n<=100000){P:Exit->St->Prop}(hP:∀(A b:Nat) (s:St),(¬A=b/\Abs.look L (hp A)=none/\Abs.look L (hp b)=none)->St.Le s ⟨[(0,.loc (hp nm.d) 6 0 0),(1,.im (.int row)),(3,.im (.bool b1)),(6,.loc 6 6 0 0),(8,.loc (hp b) 5 0 0)],(hp b,5,[lineC w.val A D.n])::(hp A,4,tab D.n fun _=>qc 0)::(6,6,[rwC w])::L,[]⟩->P .normal s):
  awp (GH [8,73,84,93] []) (putN 2 (tailN 0 (jd2 Tryz.f172)) .skip) P (jdt [.loc (hp nm.d) 6 0 0,.im (.int row),.im (.agg (rwC w)),.im (.bool b1)] L):=by
 have hb:=h.blk;have F1:=bB hb;have c0:=h.hd;have kz:=jjb D.n hN;refine jl2 rfl ?_;simp only[F1,go_sem];have b3:SubR [(6,6,[rwC w]),(hp nm.d,6,[[.int D.n,sl0 nm.r 241 5 D.m,.ref nm.g 48 4 D.n,sl0 nm.o 3 1 D.m,.emp,sl0 nm.s 254 2 D.m]])] ((6,6,[rwC w])::L):=jbi _ (jb0 c0);refine jtv [false,false,false,false,false,false,true,true,true] (.alt 6 (.alt 7 (.alt 8 .fin .none) (.alt 8 (.alt 7 .fin .none) .none)) (.alt 8 (.alt 6 (.alt 7 .fin .none) .none) .none)) [(6,6,[rwC w]),(hp nm.d,6,[[.int D.n,sl0 nm.r 241 5 D.m,.ref nm.g 48 4 D.n,sl0 nm.o 3 1 D.m,.emp,sl0 nm.s 254 2 D.m]])] (by decide+kernel) b3 ?_;simp only[F1,go_sem];refine And.intro ?_ ?_
 ·refine je5 kz (by decide) rfl jb6 jc0 ?_;rintro _ L0 ⟨A,rfl,hA0,hA1,hA2⟩ hfr;have a6:=(hfr (hp A) (by rw[hA1];rfl)).resolve_left (by simp[Abs.look]);clear hfr;refine⟨(hp A,4,tab D.n fun _=>qc 0)::_,jcb hA1,?_⟩;clear hA0 hA1 hA2;have b2:=jgq (v:=(4,tab D.n fun _=>qc 0)) a6 b3;refine And.intro b2 ?_;simp only[F1,go_sem];refine And.intro ?_ ?_
  ·refine And.intro b2 ?_
   try simp only[F1,go_sem]
   refine jrm (fun b a1=>And.intro (jgq a1 b2) ?_);simp only[F1,go_sem];have b4:Abs.look L (hp A)=none:=by first | exact jd4 (jd4 a6) | exact jd4 a6
   have b0:Abs.look L (hp b)=none:=by first | exact jd4 (jd4 a1) | exact jd4 a1
   have a8:¬A=b:=by first | exact fun e=>by rw[e,ja2]at a1;cases a1 | exact fun e=>by rw[<-e,ja2]at a6;cases a6
   have a7:¬b=A:=fun e=>a8 e.symm;have KB:=fun(s:Nat) (es:List (List IV))=>jds (s:=s) (es:=es) b0;simp only[a8,a7,KB,F1,go_sem];refine hP A b _ ⟨a8,b4,b0⟩ (jnq [0,1,3,6,8] ?_ ?_ rfl)
   ·simp only[zt,zE,go_sem]
   ·first | exact ja5 | exact jmi (hpne a7)
  ·refine jrm (fun b a1=>And.intro (jgq a1 b2) ?_);simp only[F1,go_sem];refine And.intro (jgq a1 b2) ?_
   try simp only[F1,go_sem]
   have b4:Abs.look L (hp A)=none:=by first | exact jd4 (jd4 a6) | exact jd4 a6
   have b0:Abs.look L (hp b)=none:=by first | exact jd4 (jd4 a1) | exact jd4 a1
   have a8:¬A=b:=by first | exact fun e=>by rw[e,ja2]at a1;cases a1 | exact fun e=>by rw[<-e,ja2]at a6;cases a6
   have a7:¬b=A:=fun e=>a8 e.symm;have KB:=fun(s:Nat) (es:List (List IV))=>jds (s:=s) (es:=es) b0;simp only[a8,a7,KB,F1,go_sem];refine hP A b _ ⟨a8,b4,b0⟩ (jnq [0,1,3,6,8] ?_ ?_ rfl)
   ·simp only[zt,zE,go_sem]
   ·first | exact ja5 | exact jmi (hpne a7)
 ·refine jrm (fun b a1=>And.intro (jgq a1 b3) ?_);simp only[F1,go_sem];refine je5 kz (by decide) rfl jb6 jc0 ?_;rintro _ L0 ⟨A,rfl,hA0,hA1,hA2⟩ hfr;have a6:=(hfr (hp A) (by rw[hA1];rfl)).resolve_left (by simp[Abs.look]);clear hfr;refine⟨(hp A,4,tab D.n fun _=>qc 0)::_,jcb hA1,?_⟩;clear hA0 hA1 hA2;refine And.intro (jgq a6 (jgq a1 b3)) ?_;simp only[F1,go_sem];refine And.intro (jgq a6 (jgq a1 b3)) ?_
  try simp only[F1,go_sem]
  have b4:Abs.look L (hp A)=none:=by first | exact jd4 (jd4 a6) | exact jd4 a6
  have b0:Abs.look L (hp b)=none:=by first | exact jd4 (jd4 a1) | exact jd4 a1
  have a8:¬A=b:=by first | exact fun e=>by rw[e,ja2]at a1;cases a1 | exact fun e=>by rw[<-e,ja2]at a6;cases a6
  have a7:¬b=A:=fun e=>a8 e.symm;have KB:=fun(s:Nat) (es:List (List IV))=>jds (s:=s) (es:=es) b0;simp only[a8,a7,KB,F1,go_sem];refine hP A b _ ⟨a8,b4,b0⟩ (jnq [0,1,3,6,8] ?_ ?_ rfl)
  ·simp only[zt,zE,go_sem]
  ·first | exact ja5 | exact jmi (hpne a7)
end
end
section
set_option maxRecDepth 1000000
open Go.Abs
open Go.LP (Dic Rw RT cf cfU ngU jdw)
attribute [local go_sem] ints ic big frac fc rwC tmC lineC
section
variable{L:Abs.Rows}{nm:DN}{D:Dic}{src:Nat->Int×Bool}
theorem put_B(hb:blks L){A b:Nat}(b2:¬A=b)(b5:Abs.look L (hp A)=none)(b4:Abs.look L (hp b)=none)(w:Rw)(row:Nat)(a1:Bool)(hN:D.n<=100000)(b3:RT w.ts 0 D.n)(hlen:w.ts.length<=100000){P:Exit->St->Prop}
  (hP:∀(M:Abs.Rows) (s:St),(blks M/\SubR L M/\Abs.look M (hp b)=some (5,[lineC w.val A D.n])/\Abs.look M (hp A)=some (4,tab D.n fun k=>qc (cf w.ts k)))->St.Le s ⟨[(0,.loc (hp nm.d) 6 0 0),(1,.im (.int row)),(3,.im (.bool a1)),(6,.loc 6 6 0 0),(8,.loc (hp b) 5 0 0)],(6,6,[rwC w])::M,[]⟩->P .normal s):
  awp (GH [8,73,84,93] []) (putN 1 (tailN 2 (jd2 Tryz.f172)) .skip) P ⟨[(0,.loc (hp nm.d) 6 0 0),(1,.im (.int row)),(3,.im (.bool a1)),(6,.loc 6 6 0 0),(8,.loc (hp b) 5 0 0)],(hp b,5,[lineC w.val A D.n])::(hp A,4,tab D.n fun _=>qc 0)::(6,6,[rwC w])::L,[]⟩:=by
 have F1:=bB hb;have a8:¬b=A:=fun e=>b2 e.symm;refine jl2 rfl ?_;have KB:=fun(s:Nat) (es:List (List IV))=>jds (s:=s) (es:=es) b4;simp only[b2,a8,KB,F1,go_sem];clear KB;obtain⟨M0,hM0e,hM0,hs0,hl0,hz0⟩:∃M0,M0=(hp b,5,[lineC w.val A D.n])::(hp A,4,tab D.n fun _=>qc 0)::L/\blks M0/\SubR L M0/\Abs.look M0 (hp b)=some (5,[lineC w.val A D.n])/\Abs.look M0 (hp A)=some (4,tab D.n fun k=>qc (cfU w.ts 0 k)):=by
  refine⟨_,rfl,jao (jao hb),jaw b4 (jaw b5 ja5),ja2 _ _ _,?_⟩;rw[ja1 _ _ (hpne b2),ja2];rfl
 refine jar [0,1,3,6,8,22,23,24] (fun g:Nat×Abs.Rows=>⟨[(0,.loc (hp nm.d) 6 0 0),(1,.im (.int row)),(3,.im (.bool a1)),(6,.loc 6 6 0 0),(8,.loc (hp b) 5 0 0),(22,.im (.sl (w.ts.map tmC))),(23,.im (.int w.ts.length)),(24,.im (.int g.1))],(6,6,[rwC w])::g.2,[]⟩)
  (fun g=>g.1<=w.ts.length/\blks g.2/\SubR L g.2/\Abs.look g.2 (hp b)=some (5,[lineC w.val A D.n])/\Abs.look g.2 (hp A)=some (4,tab D.n fun k=>qc (cfU w.ts g.1 k))) (fun g=>w.ts.length-g.1) (0,M0) ?_ ?_ rfl
  ⟨zG _,hM0,hs0,hl0,hz0⟩ ?_
 ·simp only[Int.natCast_zero,go_sem]
 ·show SubR ((6,6,[rwC w])::M0) ((hp b,5,[lineC w.val A D.n])::(hp A,4,tab D.n fun _=>qc 0)::(6,6,[rwC w])::L);refine jc2 ?_ ?_
  ·rw[jcz,jcz,ja2]
  ·rw[hM0e];exact jbi _ (jbi _ (ja6 (by decide) hb (SubR.refl _)))
 clear hl0 hz0 hM0 hs0 hM0e;rintro⟨i,M⟩ ⟨hi,hM,b1,a6,a7⟩;dsimp only at hi hM b1 a6 a7;have F2:=bB hM;rcases zU i w.ts.length with hlt | hlt
 ·have hd:decide ((i:Int)<w.ts.length)=true:=dTo;obtain⟨t,b0⟩:=jcf (l:=w.ts) (i:=i) (by omega);have h1:=ja8 ((i:Int)+1);obtain⟨g1,g2,g3⟩:=jqx b3 b0;have hg:=tget b0;simp only[fc]at hg;have v0:(0:Int)<=t.1:=by omega
  have vN:(t.1:Int)<D.n:=by omega
  have hq:=qget (f:=fun k=>cfU w.ts i k) g2;simp only[hd,hg,a6,a7,hq,v0,vN,jad,Int.toNat_natCast,F2,go_sem];refine jac (i+1,M.map (fun p=>if p.1=hp A then(p.1,4,(tab D.n fun k=>qc (cfU w.ts i k)).set t.1 (fc t.2))else p)) ?_ ?_ rfl (by show w.ts.length-(i+1)<w.ts.length-i;omega)
   ⟨hlt,jb8 hM,jhx b5 b1,(jak (hpne a8)).trans a6,(jag a7).trans ?_⟩
  ·simp only[h1,Int.natCast_add,go_sem]
  ·show SubR ((6,6,[rwC w])::_) ((10,5,[tmC t])::(6,6,[rwC w])::_);refine jaw ?_ ja5;rw[ja1 _ _ (by dsimp only;decide)];exact jax (jb8 hM) (by dsimp only;decide)
  ·rw[qset];congr 2;refine jan fun k hk=>zT qc ?_;rw[LP.cfU_succ b0]
 have hd:decide ((i:Int)<w.ts.length)=false:=dFo;have b6:i=w.ts.length:=by omega
 subst b6;simp only[hd,go_sem];refine hP M _ ⟨hM,b1,a6,?_⟩ (jnq [0,1,3,6,8] ?_ ja5 rfl)
 ·rw[a7];congr 2;exact jan fun k hk=>zT qc (LP.cfU_all b3)
 ·simp only[go_sem]
end
end
section
set_option maxRecDepth 1000000
open Go.Abs
open Go.LP (Dic Rw RT cf cfU ngU jdw)
attribute [local go_sem] ints ic big frac fc rwC tmC lineC
section
variable{L:Abs.Rows}{nm:DN}{D:Dic}{src:Nat->Int×Bool}
theorem put_C(hb:blks L){A b:Nat}(b4:¬A=b)(b8:Abs.look L (hp A)=none)(b7:Abs.look L (hp b)=none)(w:Rw)(row:Nat)(a6:Bool)(hN:D.n<=100000)(b1:RT w.ts 0 D.n)(b5:∀t∈w.ts,FL 100000000 t.2)(b2:FL 100000000 w.val)(hlen:w.ts.length<=100000)
  {M:Abs.Rows} (hM:blks M) (a8:SubR L M) (a1:Abs.look M (hp b)=some (5,[lineC w.val A D.n])) (a7:Abs.look M (hp A)=some (4,tab D.n fun k=>qc (cf w.ts k))) {P:Exit->St->Prop}
  (hP:∀(M:Abs.Rows) (s:St),(blks M/\SubR L M/\Abs.look M (hp b)=some (5,[lineC (if a6=true then-w.val else w.val) A D.n])/\Abs.look M (hp A)=some (4,tab D.n fun k=>qc (if a6=true then-cf w.ts k else cf w.ts k)))->St.Le s ⟨[(0,.loc (hp nm.d) 6 0 0),(1,.im (.int row)),(3,.im (.bool a6)),(8,.loc (hp b) 5 0 0)],(6,6,[rwC w])::M,[]⟩->P .normal s):
  awp (GH [8,73,84,93] []) (putN 1 (tailN 3 (jd2 Tryz.f172)) .skip) P ⟨[(0,.loc (hp nm.d) 6 0 0),(1,.im (.int row)),(3,.im (.bool a6)),(6,.loc 6 6 0 0),(8,.loc (hp b) 5 0 0)],(6,6,[rwC w])::M,[]⟩:=by
 have b3:¬b=A:=fun e=>b4 e.symm;have F2:=bB hM;refine jl2 rfl ?_;simp only[go_sem];refine jc5 (fun ht=> ?_) (fun ht=> ?_)
 ·skip
  have kn:=f_neg (b2.mono (by omega:100000000<=19000000000));obtain⟨v,hv0⟩:∃v,v= -w.val:=⟨_,rfl⟩;rw[<-hv0]at kn;simp only[frac,ints]at kn;simp only[ht,a1,F2,go_sem];refine ja0 kn ?_;simp only[ht,a1,F2,go_sem];clear kn;obtain⟨f0,hf0⟩:∃f0,f0=fun k=>cf w.ts k:=⟨_,rfl⟩;simp only[<-congrFun hf0]at a7;obtain⟨M1,hM1e,hM1,hs1,hl1,hz1⟩:∃M1,M1=M.map (fun p=>if p.1=hp b then(p.1,5,[lineC v A D.n])else p)/\blks M1/\SubR L M1/\Abs.look M1 (hp b)=some (5,[lineC v A D.n])/\Abs.look M1 (hp A)=some (4,tab D.n fun k=>qc (ngU w.ts f0 0 k)):=
   ⟨_,rfl,jb8 hM,jhx b7 a8,jag a1,(jak (hpne b4)).trans a7⟩
  refine jar [0,1,3,6,8,42,43,44] (fun g:Nat×Abs.Rows=>⟨[(0,.loc (hp nm.d) 6 0 0),(1,.im (.int row)),(3,.im (.bool true)),(6,.loc 6 6 0 0),(8,.loc (hp b) 5 0 0),(42,.im (.sl (w.ts.map tmC))),(43,.im (.int w.ts.length)),(44,.im (.int g.1))],(6,6,[rwC w])::g.2,[]⟩)
   (fun g=>g.1<=w.ts.length/\blks g.2/\SubR L g.2/\Abs.look g.2 (hp b)=some (5,[lineC v A D.n])/\Abs.look g.2 (hp A)=some (4,tab D.n fun k=>qc (ngU w.ts f0 g.1 k))) (fun g=>w.ts.length-g.1) (0,M1) ?_ ?_ rfl
   ⟨zG _,hM1,hs1,hl1,hz1⟩ ?_
  ·simp only[Int.natCast_zero,go_sem]
  ·rw[hM1e];exact ja5
  clear hl1 hz1 hM1 hs1 hM1e F2 a1 a7 hM a8;rintro⟨i,M⟩ ⟨hi,hM,a8,a1,a7⟩;dsimp only at hi hM a8 a1 a7;have F2:=bB hM;rcases zU i w.ts.length with hlt | hlt
  ·have hd:decide ((i:Int)<w.ts.length)=true:=dTo;obtain⟨t,b0⟩:=jcf (l:=w.ts) (i:=i) (by omega);have h1:=ja8 ((i:Int)+1);obtain⟨g1,g2,g3⟩:=jqx b1 b0;have hg:=tget b0;have v0:(0:Int)<=t.1:=by omega
   have vN:(t.1:Int)<D.n:=by omega
   have hq:=qget (f:=fun k=>ngU w.ts f0 i k) g2;have kn:=f_neg ((b5 t (zk b0)).mono (by omega:100000000<=19000000000));generalize hx: -t.2=x at kn;simp only[frac,ints,fc]at kn hg;simp only[hd,hg,a1,a7,hq,v0,vN,jad,Int.toNat_natCast,F2,go_sem];refine jaf 8 ?_;simp only[hd,hg,a1,a7,hq,v0,vN,jad,Int.toNat_natCast,F2,go_sem];refine ja4 kn (by decide) ?_;simp only[hd,hg,a1,a7,hq,v0,vN,jad,Int.toNat_natCast,F2,go_sem];refine jac (i+1,M.map (fun p=>if p.1=hp A then(p.1,4,(tab D.n fun k=>qc (ngU w.ts f0 i k)).set t.1 (fc x))else p)) ?_ ?_ rfl (by show w.ts.length-(i+1)<w.ts.length-i;omega)
    ⟨hlt,jb8 hM,jhx b8 a8,(jak (hpne b3)).trans a1,(jag a7).trans ?_⟩
   ·simp only[h1,Int.natCast_add,go_sem]
   ·show SubR ((6,6,[rwC w])::_) ((12,5,[tmC t])::(6,6,[rwC w])::_);refine jaw ?_ ja5;rw[ja1 _ _ (by dsimp only;decide)];exact jax (jb8 hM) (by dsimp only;decide)
   ·rw[qset];congr 2;refine jan fun k hk=>zT qc ?_;rw[LP.ngU_succ b0,hx]
  have hd:decide ((i:Int)<w.ts.length)=false:=dFo;have b6:i=w.ts.length:=by omega
  subst b6;simp only[hd,go_sem];refine hP M _ ⟨hM,a8,by rw[ht,ze rfl,<-hv0];exact a1,?_⟩ (jnq [0,1,3,8] ?_ ja5 rfl)
  ·rw[a7];congr 2;refine jan fun k hk=>zT qc ?_;rw[ht,ze rfl,hf0,LP.ngU_eq b1 (fun i t ht=>LP.cf_get b1 ht) _ (zu _),LP.cfU_all b1];grind
  ·simp only[ht,go_sem]
 ·simp only[ht,go_sem];refine hP M _ ⟨hM,a8,by rw[ht];exact a1,by rw[ht];exact a7⟩ (jnq [0,1,3,8] ?_ ja5 rfl);simp only[ht,go_sem]
