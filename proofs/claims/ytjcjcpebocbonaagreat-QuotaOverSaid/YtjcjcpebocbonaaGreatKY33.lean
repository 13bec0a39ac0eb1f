/- A part of the proof. No further condition. -/
import Derived.Test.YtjcjcpebocbonaaGreatKY32
import Derived.Test.YtjcjcpebocbonaaGreatKY27
import Derived.Test.YtjcjcpebocbonaaGreatKY28
import Derived.Test.YtjcjcpebocbonaaGreatKY29
set_option linter.all false
set_option maxRecDepth 10000000
set_option maxHeartbeats 16000000
namespace Go.Proofs.YtjcjcpebocbonaaGreat
section
set_option maxRecDepth 1000000
open Go.Abs
open Go.LP (Dic Rw RT cf cfU ngU jdw rowsD rowD dic0 src0 first jew)
attribute [local go_sem] ints ic big frac fc rwC tmC oc
theorem HasO.withG{L L':Abs.Rows}{nm:DN}{D:Dic}{src:Nat->Int×Bool}(h:HasO L nm D src)(hb:blks L'){g:Nat->Rat}(hl:Abs.look L' (hp nm.g)=some (4,tab D.n fun j=>qc (g j)))(ho:∀k,k≠hp nm.g->Abs.look L' k=Abs.look L k):
  HasO L' nm {D with g:=g} src:=by
 refine⟨hb,h.dg,h.ap,?_,hl,fun hm=> ?_,fun hm=> ?_,fun hm=> ?_,fun i hi=> ?_⟩
 ·rw[ho _ (hpne h.dg)];exact h.hd
 ·rw[ho _ (hpne (h.ap hm).rg)];exact h.hr hm
 ·rw[ho _ (hpne (zH (h.ap hm).go))];exact h.ho hm
 ·rw[ho _ (hpne (zH (h.ap hm).gs))];exact h.hs hm
 ·rw[ho _ (hpne (zH ((h.ap (by have a1:i<D.m:=hi;omega)).ga i hi)))];exact h.ha i hi
theorem rowD_eq(p:Dic×(Nat->Int×Bool))(row:Nat)(w:Rw):rowD p row w=if w.kind=0 then(p.1.put w true,jdw p.1 p.2 row true)else if w.kind=1 then(p.1.put w false,jdw p.1 p.2 row false)else((p.1.put w false).put w true,jdw (p.1.put w false) (jdw p.1 p.2 row false) row true):=by
 unfold rowD;dsimp only;by_cases h0:w.kind=0
 ·have h1:w.kind≠1:=by omega
  rw[zl (show ¬(w.kind≠0)from fun h=>h h0),ze h1,ze h0]
 ·rw[zl h0,ze (show w.kind≠0 from h0)];by_cases h1:w.kind=1
  ·rw[zl (show ¬(w.kind≠1)from fun h=>h h1),ze h1]
  ·rw[ze (show w.kind≠1 from h1),zl h1]
structure HasP(L R:Abs.Rows)(nm:DN)(D:Dic)(F j:Nat):Prop where
 blk:blks R
 hd:Abs.look R (hp nm.d)=some (6,[[.int D.n,sl0 nm.r 241 5 D.m,.ref nm.g 48 4 D.n,sl0 nm.o 3 1 D.m,sl0 F 3 1 j,sl0 nm.s 254 2 D.m]])
 hf:j≠0->Abs.look R (hp F)=some (1,tab j fun k=>oc k)
 fd:j≠0->F≠nm.d
 keep:∀k x,Abs.look L (hp k)=some x->k≠nm.d->Abs.look R (hp k)=some x/\(j≠0->k≠F)
theorem HasP.step{L R R':Abs.Rows}{nm:DN}{D:Dic}{F j X:Nat}(h:HasP L R nm D F j)(b:blks R')
  (hd:Abs.look R' (hp nm.d)=some (6,[[.int D.n,sl0 nm.r 241 5 D.m,.ref nm.g 48 4 D.n,sl0 nm.o 3 1 D.m,.ref X 3 1 (j+1),sl0 nm.s 254 2 D.m]]))
  (hf:Abs.look R' (hp X)=some (1,tab (j+1) fun k=>oc k)) (xd:X≠nm.d) (hk:∀k x,Abs.look R (hp k)=some x->k≠nm.d->(j≠0->k≠F)->Abs.look R' (hp k)=some x/\k≠X):HasP L R' nm D X (j+1):=
 ⟨b,by rw[hd,jal (yM j)],fun _=>hf,fun _=>xd,fun k x hx a1=>by
  obtain⟨h1,h2⟩:=h.keep k x hx a1;obtain⟨h3,h4⟩:=hk k x h1 a1 h2;exact⟨h3,fun _=>h4⟩⟩
theorem tab_nd{n:Nat}{a:Nat->Nat}(h:∀i j,i<n->j<n->a i=a j->i=j):(tab n a).Nodup:=by
 induction n with
 | zero=>exact vw
 | succ n ih=>
  rw[jif,js];refine⟨ih fun i j hi hj=>h i j (by omega) (by omega),by simp,fun x hx y hy=> ?_⟩;obtain⟨i,hi,rfl⟩:=tab_mem hx;rw[zF.1 hy];intro e;have:=h i n (by omega) (by omega) e;omega
theorem jjj{n x:Nat}{a:Nat->Nat}(h:∀i,i<n->x≠a i):x∉tab n a:=fun hx=>by
 obtain⟨i,hi,e⟩:=tab_mem hx;exact h i hi e.symm
theorem HasP.done{L R:Abs.Rows}{nm:DN}{D:Dic}{src:Nat->Int×Bool}{F:Nat}(h:HasO L nm D src)(hP:HasP L R nm D F D.n)(hf:∀j,D.free j=j)(a7:D.m≠0->D.n≠0):∃a6:DN,a6.d=nm.d/\HasD R a6 D.n D src:=by
 have kg:=hP.keep nm.g _ h.hg (zH h.dg);by_cases a1:D.m=0
 ·refine⟨⟨nm.d,nm.d+nm.g+F+1,nm.g,nm.d+nm.g+F+2,if D.n=0 then nm.d+nm.g+F+3 else F,nm.d+nm.g+F+4,nm.a⟩,rfl,hP.blk,?_,?_,kg.1,fun hm=>absurd a1 hm,fun hm=>absurd a1 hm,fun hn=> ?_,fun hm=>absurd a1 hm,fun i hi=>absurd hi (by omega)⟩
  ·have dg:=h.dg;rw[a1,tab_zero];by_cases hn:D.n=0
   ·simp only[ze hn,qF,zL,List.not_mem_nil,wd,vw,or_false,vd,vy];omega
   ·have h1:=hP.fd hn;have h2:=kg.2 hn;simp only[zl hn,qF,zL,List.not_mem_nil,wd,vw,or_false,vd,vy];omega
  ·rw[hP.hd,a1,jbb,jbb,jbb,jbb,jbb,jbb];by_cases hn:D.n=0
   ·rw[hn];rfl
   ·dsimp only;rw[zl hn]
  ·dsimp only;rw[zl hn,hP.hf hn];congr 2;exact jan fun k _=>by rw[hf]
 ·have hn:=a7 a1;have ap:=h.ap a1;have kr:=hP.keep nm.r _ (h.hr a1) (zH ap.dr);have ko:=hP.keep nm.o _ (h.ho a1) (zH ap.d_o);have ks:=hP.keep nm.s _ (h.hs a1) (zH ap.ds);have ka:=fun i (hi:i<D.m)=>hP.keep (nm.a i) _ (h.ha i hi) (zH (ap.da i hi));refine⟨⟨nm.d,nm.r,nm.g,nm.o,F,nm.s,nm.a⟩,rfl,hP.blk,?_,hP.hd,kg.1,fun _=>kr.1,fun _=>ko.1,fun _=> ?_,fun _=>ks.1,fun i hi=>(ka i hi).1⟩
  ·have e1:=hP.fd hn;have e2:=kg.2 hn;have e3:=kr.2 hn;have e4:=ko.2 hn;have e5:=ks.2 hn;simp only[qF,zL,wd];exact⟨⟨ap.dr,h.dg,ap.d_o,zH e1,ap.ds,jjj ap.da⟩,⟨ap.rg,ap.ro,e3,ap.rs,jjj ap.ra⟩,⟨ap.go,e2,ap.gs,jjj ap.ga⟩,⟨e4,ap.os,jjj ap.oa⟩,⟨zH e5,jjj fun i hi=>zH ((ka i hi).2 hn)⟩,jjj ap.sa,tab_nd ap.aa⟩
  ·rw[hP.hf hn];congr 2;exact jan fun k _=>by rw[hf]
theorem x_g0{N:Nat}(ws:List Rw):∀i,(rowsD ws (dic0 N,src0) i).1.g=fun _=>0
 | 0=>rfl
 | i+1=>by
  have ih:=x_g0 (N:=N) ws i;rw[rowsD];split
  ·rw[rowD_eq]
   (repeat' split)<;>exact ih
  ·exact ih
theorem x_open(N:Nat)(ws:List Rw)(goal:List (Nat×Rat))(c8:∀w∈ws,w.Ok N)(hg:RT goal 0 N)(hN:N<=1000)(hl:ws.length<=1000)(k7:goal.length<=1000)(h4:ws.length≠0->N≠0)
  (hw:∀w∈ws,w.ts.length<=1000/\FL 100000000 w.val/\∀t∈w.ts,FL 100000000 t.2) (h7:∀t∈goal,FL 100000000 t.2):
  CtrH G.P 139 [.im (.agg [.int N,.sl (ws.map rwC)]),.im (.sl (goal.map tmC))] [] (fun x L'=>∃nm:DN,x= .loc (hp nm.d) 6 0 0/\HasD L' nm N (first N ws goal) (jew N ws).2):=by
 have kz:=jjb N (by omega);refine jap [17,70] [] [.tmp 4] Tryz.func139 ?_;simp only[go_sem];refine jdb [false,false,false,false,true] [(2,2,[[.int N,.sl (ws.map rwC)]])] (by decide+kernel) ja5 ?_;simp only[go_sem];refine je5 kz (by decide) rfl jb6 jc0 ?_;rintro _ L0 ⟨A,rfl,hA0,hA1,hA2⟩ hfr;refine⟨(hp A,4,tab N fun _=>qc 0)::(2,2,[[.int N,.sl (ws.map rwC)]])::[],jcb hA1,?_⟩;clear hfr;refine And.intro ?_ ?_
 ·exact jaw (by dsimp only;rw[jae];rfl) ja5
 simp only[go_sem];refine jgs (fun d b6=> ?_);have c4:Abs.look ((hp A,4,tab N fun _=>qc 0)::(2,2,[[.int N,.sl (ws.map rwC)]])::[]) (hp d)=none:=b6;clear b6;have b5:¬d=A:=fun e=>by rw[e,ja2]at c4;cases c4
 clear c4;simp only[b5,zH b5,go_sem];obtain⟨M0,hM0e,hM0⟩:∃M0,M0=(hp d,6,[[.int N,.emp,.ref A 48 4 N,.emp,.emp,.emp]])::(hp A,4,tab N fun _=>qc 0)::[]/\HasO M0 ⟨d,0,A,0,0,0,fun _=>0⟩ (rowsD ws (dic0 N,src0) 0).1 (rowsD ws (dic0 N,src0) 0).2:=by
  refine⟨_,rfl,jao (jao jb6),b5,fun h=>absurd rfl h,ja2 _ _ _,?_,fun h=>absurd rfl h,fun h=>absurd rfl h,fun h=>absurd rfl h,fun i hi=>absurd hi (jv _)⟩;rw[ja1 _ _ (hpne (zH b5)),ja2]<;>rfl
 refine jar [1,2,5,19,20,21] (fun g:(Nat×DN)×Abs.Rows=>⟨[(1,.im (.sl (goal.map tmC))),(2,.loc 2 2 0 0),(5,.loc (hp d) 6 0 0),(19,.im (.sl (ws.map rwC))),(20,.im (.int ws.length)),(21,.im (.int g.1.1))],(2,2,[[.int N,.sl (ws.map rwC)]])::g.2,[]⟩)
  (fun g=>g.1.1<=ws.length/\g.1.2.d=d/\HasO g.2 g.1.2 (rowsD ws (dic0 N,src0) g.1.1).1 (rowsD ws (dic0 N,src0) g.1.1).2) (fun g=>ws.length-g.1.1) ((0,_),M0) ?_ ?_ rfl ⟨zG _,rfl,hM0⟩ ?_
 ·simp only[Int.natCast_zero,go_sem]
 ·show SubR ((2,2,[[.int N,.sl (ws.map rwC)]])::M0) [(hp d,6,[[.int N,.emp,.ref A 48 4 N,.emp,.emp,.emp]]),(hp A,4,tab N fun _=>qc 0),(2,2,[[.int N,.sl (ws.map rwC)]])];refine jc2 ?_ ?_
  ·rw[jcz,jcz,ja2]
  ·rw[hM0e];exact jbi _ (jbi _ jc0)
 clear hM0 hM0e M0;rintro⟨⟨i,nm⟩,R⟩ ⟨hi,a6,hR⟩;dsimp only at hi a6 hR;have bR:=hR.blk;have F2:=bB bR;have b1:=LP.mk_rows c8 i hi;have c9:(rowsD ws (dic0 N,src0) i).1.m<=0+2*i:=LP.m_rows i;rcases zU i ws.length with hlt | hlt
 ·have hd:decide ((i:Int)<ws.length)=true:=dTo;obtain⟨w,b8⟩:=jcf (l:=ws) (i:=i) (by omega);have h1:=ja8 ((i:Int)+1);have c6:=zk b8;obtain⟨k1,k2⟩:=c8 w c6;obtain⟨l1,l2,l3⟩:=hw w c6;have b0:(ws.map rwC)[i]? =some (rwC w):=by rw[zq,b8];rfl
  simp only[rwC,fc,List.cons_append,List.nil_append]at b0;have a1:rowsD ws (dic0 N,src0) (i+1)=rowD (rowsD ws (dic0 N,src0) i) i w:=by rw[rowsD,b8]
  rw[rowD_eq]at a1;generalize rowsD ws (dic0 N,src0) i=p at*;have b9:p.1.n=N:=b1.n;rcases hk0:decide (w.kind=0)with _ | _
  ·have e0:=zJ hk0;rw[zl e0]at a1;have kp:=x_put hR w i false (by omega) (by omega) (b9.symm▸k1) l3 l2 (by omega);rw[a6]at kp;simp only[rwC,fc,List.cons_append,List.nil_append]at kp;rcases a8:decide (w.kind=1)with _ | _
   ·have e1:=zJ a8;rw[zl e1]at a1;simp only[hd,b0,hk0,a8,F2,go_sem];refine jaj kp (by decide) (by simp only[zt,zE,jb3];rfl) bR (ja6 (by decide) bR (ja6 (by decide) bR (SubR.refl _))) ?_;rintro _ L1 ⟨rfl,nm1,hn1,hR1⟩ _;refine⟨(7,6,[rwC w])::(2,2,[[.int N,.sl (ws.map rwC)]])::L1,Behind_pre [_,_] (by
     intro p hp;rcases zL.1 hp with rfl | hp
     ·exact jax bR (by dsimp only;decide)
     ·rw[zF.1 hp];exact jax bR (by dsimp only;decide)),?_⟩
    have a7:=hR1.blk;have F3:=bB a7;have c7:(p.1.put w false).n=N:=b9;have k6:(p.1.put w false).m=p.1.m+1:=rfl;have b7:=x_put hR1 w i true (by omega) (by omega) (c7.symm▸k1) l3 l2 (by omega);rw[hn1]at b7;simp only[rwC,fc,List.cons_append,List.nil_append]at b7;simp only[hd,hk0,a8,F3,go_sem];refine jaj b7 (by decide) (by simp only[zt,zE,jb3];rfl) a7 (ja6 (by decide) a7 (ja6 (by decide) a7 (SubR.refl _))) ?_;rintro _ L2 ⟨rfl,nm2,hn2,hR2⟩ _;refine⟨(7,6,[rwC w])::(2,2,[[.int N,.sl (ws.map rwC)]])::L2,Behind_pre [_,_] (by
     intro p hp;rcases zL.1 hp with rfl | hp
     ·exact jax a7 (by dsimp only;decide)
     ·rw[zF.1 hp];exact jax a7 (by dsimp only;decide)),?_⟩
    have e9:=hR2.blk;have F4:=bB e9;simp only[hd,hk0,a8,F4,go_sem];refine jac ((i+1,nm2),L2) ?_ (jaw (by dsimp only;rw[ja1 _ _ (by decide)];exact jax e9 (by decide)) ja5) rfl (by show ws.length-(i+1)<ws.length-i;omega) ⟨hlt,hn2,by dsimp only;rw[a1];exact hR2⟩;simp only[h1,Int.natCast_add,go_sem]
   ·have e1:=zI a8;rw[ze e1]at a1;simp only[hd,b0,hk0,a8,F2,go_sem];refine jaj kp (by decide) (by simp only[zt,zE,jb3];rfl) bR (ja6 (by decide) bR (ja6 (by decide) bR (SubR.refl _))) ?_;rintro _ L1 ⟨rfl,nm1,hn1,hR1⟩ _;refine⟨(7,6,[rwC w])::(2,2,[[.int N,.sl (ws.map rwC)]])::L1,Behind_pre [_,_] (by
     intro p hp;rcases zL.1 hp with rfl | hp
     ·exact jax bR (by dsimp only;decide)
     ·rw[zF.1 hp];exact jax bR (by dsimp only;decide)),?_⟩
    have a7:=hR1.blk;have F3:=bB a7;simp only[hd,hk0,a8,F3,go_sem];refine jac ((i+1,nm1),L1) ?_ (jaw (by dsimp only;rw[ja1 _ _ (by decide)];exact jax a7 (by decide)) ja5) rfl (by show ws.length-(i+1)<ws.length-i;omega) ⟨hlt,hn1,by dsimp only;rw[a1];exact hR1⟩;simp only[h1,Int.natCast_add,go_sem]
  ·have e0:=zI hk0;have a8:decide (w.kind=1)=false:=dFo;rw[ze e0]at a1;have kp:=x_put hR w i true (by omega) (by omega) (b9.symm▸k1) l3 l2 (by omega);rw[a6]at kp;simp only[rwC,fc,List.cons_append,List.nil_append]at kp;simp only[hd,b0,hk0,a8,F2,go_sem];refine jaj kp (by decide) (by simp only[zt,zE,jb3];rfl) bR (ja6 (by decide) bR (ja6 (by decide) bR (SubR.refl _))) ?_;rintro _ L1 ⟨rfl,nm1,hn1,hR1⟩ _;refine⟨(7,6,[rwC w])::(2,2,[[.int N,.sl (ws.map rwC)]])::L1,Behind_pre [_,_] (by
    intro p hp;rcases zL.1 hp with rfl | hp
    ·exact jax bR (by dsimp only;decide)
    ·rw[zF.1 hp];exact jax bR (by dsimp only;decide)),?_⟩
   have a7:=hR1.blk;have F3:=bB a7;simp only[hd,hk0,a8,F3,go_sem];refine jac ((i+1,nm1),L1) ?_ (jaw (by dsimp only;rw[ja1 _ _ (by decide)];exact jax a7 (by decide)) ja5) rfl (by show ws.length-(i+1)<ws.length-i;omega) ⟨hlt,hn1,by dsimp only;rw[a1];exact hR1⟩;simp only[h1,Int.natCast_add,go_sem]
 have hd:decide ((i:Int)<ws.length)=false:=dFo;have c3:i=ws.length:=by omega
 subst c3;rw[qJ]at b1;have e3:∀g,{(rowsD ws (dic0 N,src0) ws.length).1 with g:=g}={(jew N ws).1 with g:=g}:=fun g=>rfl;rw[show rowsD ws (dic0 N,src0) ws.length=jew N ws from rfl]at hR b1 c9;obtain⟨D,hD⟩:∃D,D=(jew N ws).1:=⟨_,rfl⟩;obtain⟨sr,hsr⟩:∃sr,sr=(jew N ws).2:=⟨_,rfl⟩;have h9:first N ws goal={D with g:=fun j=> -cf goal j}:=by rw[hD];rfl
 rw[<-hsr,h9];rw[<-hD]at hR b1 c9;rw[<-hsr]at hR;clear e3;have e7:D.n=N:=b1.n;have e2:D.g=fun k=>ngU goal (fun _=>0) 0 k:=by
  rw[hD];exact x_g0 ws ws.length
 simp only[hd,go_sem];have e4:HasO R nm {D with g:=fun k=>ngU goal (fun _=>0) 0 k} sr:=by rw[<-e2];exact hR
 clear hR F2 hd hlt hi bR e2;refine jar [2,5,41,42,43] (fun g:Nat×Abs.Rows=>⟨[(2,.loc 2 2 0 0),(5,.loc (hp d) 6 0 0),(41,.im (.sl (goal.map tmC))),(42,.im (.int goal.length)),(43,.im (.int g.1))],(2,2,[[.int N,.sl (ws.map rwC)]])::g.2,[]⟩)
  (fun g=>g.1<=goal.length/\HasO g.2 nm {D with g:=fun k=>ngU goal (fun _=>0) g.1 k} sr) (fun g=>goal.length-g.1) (0,R) ?_ ja5 rfl ⟨zG _,e4⟩ ?_
 ·simp only[Int.natCast_zero,go_sem]
 clear e4;rintro⟨i,R1⟩ ⟨hi,hR⟩;dsimp only at hi hR;have bR:=hR.blk;have F2:=bB bR;rcases zU i goal.length with hlt | hlt
 ·have hd:decide ((i:Int)<goal.length)=true:=dTo;obtain⟨t,ht⟩:=jcf (l:=goal) (i:=i) (by omega);have h1:=ja8 ((i:Int)+1);obtain⟨g1,g2,g3⟩:=jqx hg ht;have b0:=tget ht;have v0:(0:Int)<=t.1:=by omega
  have vN:(t.1:Int)<D.n:=by omega
  have cd:=hR.hd;have cg:=hR.hg;dsimp only at cd cg;rw[a6]at cd;have hq:=qget (n:=D.n) (f:=fun k=>ngU goal (fun _=>0) i k) (by rw[e7];exact g2:t.1<D.n);have kn:=f_neg ((h7 t (zk ht)).mono (by omega:100000000<=19000000000));generalize hx: -t.2=x at kn;simp only[frac,ints,fc]at kn b0;simp only[hd,b0,cd,cg,hq,v0,vN,jad,Int.toNat_natCast,F2,go_sem];refine jaf 10 ?_;simp only[hd,b0,cd,cg,hq,v0,vN,jad,Int.toNat_natCast,F2,go_sem];refine ja4 kn (by decide) ?_;simp only[hd,b0,cd,cg,hq,v0,vN,jad,Int.toNat_natCast,F2,go_sem];refine jac (i+1,R1.map (fun p=>if p.1=hp nm.g then(p.1,4,(tab D.n fun k=>qc (ngU goal (fun _=>0) i k)).set t.1 (fc x))else p)) ?_ ?_ rfl (by show goal.length-(i+1)<goal.length-i;omega) ⟨hlt,?_⟩
  ·simp only[h1,Int.natCast_add,go_sem]
  ·show SubR ((2,2,[[.int N,.sl (ws.map rwC)]])::_) ((9,5,[tmC t])::(2,2,[[.int N,.sl (ws.map rwC)]])::_);refine jaw ?_ ja5;rw[ja1 _ _ (by dsimp only;decide)];exact jax (jb8 bR) (by dsimp only;decide)
  ·refine HasO.withG hR (jb8 bR) ((jag cg).trans ?_) fun k hk=>jak hk;rw[qset];congr 2;refine jan fun k hk=>zT qc ?_;rw[LP.ngU_succ ht,hx]
 have hd:decide ((i:Int)<goal.length)=false:=dFo;have c3:i=goal.length:=by omega
 subst c3;have h8:(fun k=>ngU goal (fun _=>0) goal.length k)=fun j=> -cf goal j:=funext fun k=>by rw[LP.ngU_zero hg _ (zu _),LP.cfU_all hg]
 rw[h8]at hR;obtain⟨E,hE⟩:∃E:Dic,E={D with g:=fun j=> -cf goal j}:=⟨_,rfl⟩;rw[<-hE]at hR;rw[<-hE];have e6:E.n=N:=by rw[hE];exact e7
 have k4:∀j,E.free j=j:=by rw[hE];exact b1.free
 have k3:E.m≠0->E.n≠0:=fun hm=>by
  rw[e6];refine h4 fun h0=>hm ?_;have:E.m=D.m:=by rw[hE]
  omega
 simp only[hd,go_sem];have e8:=hR.hd;rw[a6]at e8;have e5:HasP R1 R1 nm E 0 0:=⟨bR,hR.hd,fun h=>absurd rfl h,fun h=>absurd rfl h,fun k x hk _=>⟨hk,fun h=>absurd rfl h⟩⟩;refine jar [5,59,60] (fun g:(Nat×Nat)×Abs.Rows=>⟨[(5,.loc (hp d) 6 0 0),(59,.im (.int N)),(60,.im (.int g.1.1))],g.2,[]⟩)
  (fun g=>g.1.1<=N/\HasP R1 g.2 nm E g.1.2 g.1.1) (fun g=>N-g.1.1) ((0,0),R1) ?_ (ja6 (by decide) bR (SubR.refl _)) rfl ⟨zG _,e5⟩ ?_
 ·simp only[Int.natCast_zero,go_sem]
 clear e5 hd hlt hi F2 e8;rintro⟨⟨j,F⟩,R2⟩ ⟨hj,hP⟩;dsimp only at hj hP;have bP:=hP.blk;have F2:=bB bP;have cd:=hP.hd;rw[a6]at cd;rcases zU j N with hlt | hlt
 ·have hd:decide ((j:Int)<N)=true:=dTo;have h1:=ja8 ((j:Int)+1);by_cases b4:j=0
  ·subst b4;rw[jbb (b:=F)]at cd;have b6:decide ((0:Int)<N)=true:=dTo;have w1:=ja8 ((1:Int));simp only[b6,cd,F2,go_sem];refine And.intro (fun c hc=>by rw[zF.1 hc];rfl) ?_;unfold NewP NewH;intro X hX;have lX:Abs.look R2 (hp X)=none:=hX;clear hX;have Xd:¬X=d:=fun e=>by rw[e,cd]at lX;cases lX
   simp only[cd,Xd,zH Xd,F2,go_sem];refine jac ((1,X),(hp X,1,[[.int 0]])::R2.map (fun p=>if p.1=hp d then(p.1,6,[[.int E.n,sl0 nm.r 241 5 E.m,.ref nm.g 48 4 E.n,sl0 nm.o 3 1 E.m,.ref X 3 1 1,sl0 nm.s 254 2 E.m]])else p)) ?_ ja5 rfl (by show N-1<N-0;omega) ⟨hlt,HasP.step hP (jao (jb8 bP)) ?_ ?_ (a6.symm▸Xd) fun k x hk b2 _=> ?_⟩
   ·simp only[w1,go_sem]
   ·rw[a6,ja1 _ _ (hpne (zH Xd))];exact jag cd
   ·rw[ja2]<;>rfl
   ·have b3:k≠X:=fun e=>by rw[e,lX]at hk;cases hk
    rw[a6]at b2;refine⟨?_,b3⟩;dsimp only;rw[ja1 _ _ (hpne b3),jak (hpne b2)];exact hk
  ·rw[jal (b:=F) b4]at cd;have k5:=hP.hf b4;have fd:=hP.fd b4;rw[a6]at fd;obtain⟨Q,hQe⟩:∃Q,Abs.del R2 (hp F)=Q:=⟨_,rfl⟩;have lQ:∀k,k≠hp F->Abs.look Q k=Abs.look R2 k:=fun k hk=>by rw[<-hQe];exact jaa _ hk
   have bQ:blks Q:=hQe▸jch bP;have k0:List.filter (fun p=>p.1 !=hp F) R2=Q:=hQe;have c5:=(lQ _ (hpne (zH fd))).trans cd;simp only[hd,cd,k5,jad,jd9,F2,go_sem];refine And.intro (fun c hc=>by rw[zF.1 hc];rfl) (And.intro (zu _) (And.intro (by omega) ?_));unfold GrowP GrowH;intro X hX;have lX:Abs.look Q (hp X)=none:=by rw[<-hQe];exact hX
   clear hX;have Xd:¬X=d:=fun e=>by rw[e,c5]at lX;cases lX
   have F3:=bB bQ;simp only[c5,k0,Xd,zH Xd,fd,zH fd,F3,go_sem];refine jac ((j+1,X),(hp X,1,(tab j fun k=>oc k)++[oc j])::Q.map (fun p=>if p.1=hp d then(p.1,6,[[.int E.n,sl0 nm.r 241 5 E.m,.ref nm.g 48 4 E.n,sl0 nm.o 3 1 E.m,.ref X 3 1 (j+1),sl0 nm.s 254 2 E.m]])else p)) ?_ ja5 rfl (by show N-(j+1)<N-j;omega) ⟨hlt,HasP.step hP (jao (jb8 bQ)) ?_ ?_ (a6.symm▸Xd) fun k x hk b2 h5=> ?_⟩
   ·simp only[h1,Int.natCast_add,go_sem]
   ·rw[a6,ja1 _ _ (hpne (zH Xd))];exact jag c5
   ·rw[ja2,jif]
   ·have c0:Abs.look Q (hp k)=some x:=by rw[lQ _ (hpne (h5 b4))];exact hk
    have b3:k≠X:=fun e=>by rw[e,lX]at c0;cases c0
    rw[a6]at b2;refine⟨?_,b3⟩;dsimp only;rw[ja1 _ _ (hpne b3),jak (hpne b2)];exact c0
 have hd:decide ((j:Int)<N)=false:=dFo;have h6:j=E.n:=by omega
 subst h6;simp only[hd,go_sem];refine jb1 R2 bP ja5 ?_;simp only[go_sem];obtain⟨h3,h1,h2⟩:=HasP.done hR hP k4 k3;refine⟨h3,by rw[h1,a6],?_⟩;rw[<-e6];exact h2
end
section
set_option maxRecDepth 1000000
open Go.Abs
open Go.LP (Rw RT tsum)
attribute [local go_sem] ints ic big frac fc rwC tmC
def xl(N:Nat)(x:Nat->Rat):IV:= .sl (tab N fun k=>qc (x k))
theorem x_pt1{r:Rat}(h:FL 19000000000 r):Ctr G.P 195 [frac r] (· = .bool false):=by
 have c:=jrc h;refine ja3 [.tmp 2] Tryz.func195 ?_;simp only[frac,ints]at c⊢;simp only[go_sem];refine ja0 c ?_;simp only[go_sem]
theorem x_ixf(N:Nat)(x:Nat->Rat)(hN:N<=100000)(hx:∀k,k<N->FL 19000000000 (x k)):
  Ctr G.P 198 [xl N x,.clo 195 []] (· = .int (-1)):=by
 refine ja3 [.tmp 4] Tryz.func198 ?_;unfold xl;simp only[jad,go_sem];refine jai [0,1,7,8] [] (fun i:Nat=>⟨[(0,.im (.sl (tab N fun k=>qc (x k)))),(1,.im (.clo 195 [])),(7,.im (.int N)),(8,.im (.int i))],[],[]⟩)
  (fun i=>i<=N) (fun i=>N-i) 0 ?_ (zG _) ?_
 ·simp only[Int.natCast_zero,go_sem]
 ·intro i hi;by_cases hp:(i:Int)<N
  ·have hd:decide ((i:Int)<N)=true:=zp hp;have a1:i<N:=by omega
   have h1:=ja8 ((i:Int)+1);have hg:=qget (f:=x) a1;have c:=x_pt1 (hx i a1);simp only[frac,ints]at c;simp only[hd,hg,jad,go_sem];refine ja0 c ?_;simp only[go_sem];refine ja7 (i+1) ?_ (by omega) (by omega);simp only[h1,Int.natCast_add,go_sem]
  ·have hd:decide ((i:Int)<N)=false:=zh hp;simp only[hd,go_sem]
theorem x_ptF(N:Nat)(x:Nat->Rat)(hN:N<=100000)(hx:∀k,k<N->FL 19000000000 (x k)):Ctr G.P 180 [xl N x] (· = .bool true):=by
 have k1:=x_ixf N x hN hx;have k2:Ctr G.P 194 [xl N x,.clo 195 []] (· = .bool false):=by
  unfold xl at k1⊢;refine ja3 [.tmp 4] Tryz.func194 ?_;simp only[go_sem];refine ja0 k1 ?_;simp only[go_sem]
 clear k1;unfold xl at k2⊢;refine ja3 [.tmp 2] Tryz.func180 ?_;simp only[go_sem];refine ja0 k2 ?_;simp only[go_sem]
theorem x_value(ts:List (Nat×Rat))(N:Nat)(x:Nat->Rat)(h:RT ts 0 N)(hl:ts.length<=40)(hN:N<=100000)(hf:∀t∈ts,FL 100000000 t.2)(hx:∀k,k<N->FL 100000000 (x k)):
  Ctr G.P 181 [.sl (ts.map tmC),xl N x] (· =frac (tsum ts x)):=by
 have o1:=jcj 0 (by omega);rw[show((0:Int):Rat)=tsumU ts x 0 from rfl]at o1;unfold xl;simp only[frac,ints]at o1;rw[<-jpe];refine ja3 [.cell 4 48] Tryz.func181 ?_;simp only[go_sem];refine ja0 o1 ?_;simp only[zw,go_sem];refine jai [1,4,5,11,12,13] [4,5] (fun i:Nat=>⟨[(1,.im (.sl (tab N fun k=>qc (x k)))),(4,.loc 4 4 0 0),(5,.loc 5 4 0 0),(11,.im (.sl (ts.map tmC))),(12,.im (.int ts.length)),(13,.im (.int i))],[(5,4,[fc (tsumU ts x i)]),(4,4,[[.int 0,.sl [],.int 0,.sl []]])],[]⟩)
  (fun i=>i<=ts.length) (fun i=>ts.length-i) 0 ?_ (zG _) ?_
 ·simp only[Int.natCast_zero,go_sem]
 ·intro i hi;by_cases hp:(i:Int)<ts.length
  ·have hd:decide ((i:Int)<ts.length)=true:=zp hp;obtain⟨t,ht⟩:=jcf hp;have hm:=zk ht;have h1:=ja8 ((i:Int)+1);obtain⟨g1,g2,g3⟩:=jqx h ht;have v0:(0:Int)<=t.1:=by omega
   have vN:(t.1:Int)<N:=by omega
   have hg:=tget ht;have hq:=qget (f:=x) g2;have km:=f_mul ((hf t hm).mono (by omega:100000000<=19000000000)) ((hx t.1 g2).mono (by omega:100000000<=19000000000));have ka:=f_add (((jp6 hf (fun u hu=>hx u.1 ((LP.RT.mem h u hu).2.1)) i)).mono (by
    have:i*(100000000+100000000+1)<=40*(100000000+100000000+1):=qj _ (by omega);omega:_<=19000000000)) ((jkg (hf t hm) (hx t.1 g2)).mono (by omega:100000000+100000000<=19000000000))
   rw[<-jmq ht]at ka;generalize t.2*x t.1=pr at*;generalize a1:tsumU ts x (i+1)=s2 at*;generalize tsumU ts x i=s1 at*;simp only[frac,ints,fc]at km ka hg hq;simp only[hd,hg,go_sem];refine jah ?_;simp only[hd,hg,hq,v0,vN,jad,Int.toNat_natCast,go_sem];refine ja4 km (by decide) ?_;simp only[hd,hg,hq,v0,vN,jad,Int.toNat_natCast,go_sem];refine ja0 ka ?_;simp only[go_sem];refine ja7 (i+1) ?_ (by omega) (by omega);simp only[h1,a1,Int.natCast_add,go_sem]
  ·have hd:decide ((i:Int)<ts.length)=false:=zh hp;have:i=ts.length:=by omega
   subst this;simp only[hd,go_sem]
theorem x_Value(ts:List (Nat×Rat))(N:Nat)(x:Nat->Rat)(h:RT ts 0 N)(hl:ts.length<=40)(hN:N<=100000)(hf:∀t∈ts,FL 100000000 t.2)(hx:∀k,k<N->FL 100000000 (x k)):
  Ctr G.P 144 [.sl (ts.map tmC),xl N x] (· = .tup [frac (tsum ts x),.bool true]):=by
 have k1:=x_rt ts N h (by omega) hN hf;have k2:=x_ptF N x hN (fun k hk=>(hx k hk).mono (by omega));have k3:=x_value ts N x h hl hN hf hx;generalize tsum ts x=s at*;unfold xl at*;simp only[frac,ints]at k3⊢;refine ja3 [.cell 4 48,.tmp 5] Tryz.func144 ?_;simp only[jad,go_sem];refine ja0 k1 ?_;simp only[go_sem];refine ja0 k2 ?_;simp only[go_sem];refine ja0 k3 ?_;simp only[go_sem]
end
section
set_option maxRecDepth 1000000
open Go.Abs
open Go.LP (Rw RT tsum)
attribute [local go_sem] ints ic big frac fc rwC tmC
def mulT(f:Rat)(ts:List (Nat×Rat)):List (Nat×Rat):=ts.map fun t=>(t.1,t.2*f)
theorem take_map_succ{α β:Type}{l:List α}{f:α->β}{i:Nat}{x:α}(h:l[i]? =some x):(l.take (i+1)).map f=(l.take i).map f++[f x]:=by
 rw[yo,h];simp
theorem x_times(ts:List (Nat×Rat))(f:Rat)(h:RT ts 0 1500)(hl:ts.length<=100000)(hf:∀t∈ts,FL 100000000 t.2)(hr:FL 100000000 f)(h0:f≠0):
  Ctr G.P 146 [.sl (ts.map tmC),frac f] (· = .sl ((mulT f ts).map tmC)):=by
 have k1:=x_rt ts 1500 h hl (by omega) hf;have k2:=f_sign (hr.mono (by omega:100000000<=19000000000));have hq:decide (f.num.sign=0)=false:=zh (fun e=>h0 (sign_zero.1 e));rw[show((1500:Nat):Int)=1500 from rfl]at k1;unfold mulT;rw[qN];simp only[frac,ints]at k2⊢;refine ja3 [.tmp 4] Tryz.func146 ?_;simp only[go_sem];refine ja0 k1 ?_;simp only[go_sem];refine ja0 k2 ?_;simp only[hq,zw,go_sem];refine jdg [3,5,18,19,20] [3,37] [(5,37,180,5)] (fun i:Nat=>⟨[(3,.loc 3 4 0 0),(5,.vec 37 180 5 ((ts.take i).map fun t=>tmC (t.1,t.2*f))),(18,.im (.sl (ts.map tmC))),(19,.im (.int ts.length)),(20,.im (.int i))],
   [(3,4,[fc f])],[(37,5,i)]⟩)
  (fun i=>i<=ts.length) (fun i=>ts.length-i) 0 ?_ ?_ (zG _) ?_
 ·simp only[List.length_nil,go_sem];exact fun c hc=>by cases hc
 ·simp only[Int.natCast_zero,List.take_zero,zE,List.length_nil,go_sem]
 ·intro i hi;by_cases hp:(i:Int)<ts.length
  ·have hd:decide ((i:Int)<ts.length)=true:=zp hp;obtain⟨t,ht⟩:=jcf hp;have hm:=zk ht;have h1:=ja8 ((i:Int)+1);have km:=f_mul ((hf t hm).mono (by omega:100000000<=19000000000)) (hr.mono (by omega:100000000<=19000000000));have hg:=tget ht;have a6:((ts.take i).map fun t=>tmC (t.1,t.2*f)).length=i:=by rw[zw,qb];omega
   have a8:∀c∈(ts.take i).map (fun t=>tmC (t.1,t.2*f)),c.length=5:=fun c hc=>by
    obtain⟨z,_,rfl⟩:=z8.1 hc;rfl
   have a1:=take_map_succ (f:=fun t=>tmC (t.1,t.2*f)) ht;generalize ((ts.take i).map fun t=>tmC (t.1,t.2*f))=acc at*;generalize a7:((ts.take (i+1)).map fun t=>tmC (t.1,t.2*f))=b0 at*;generalize t.2*f=pr at*;simp only[frac,ints,fc,tmC]at km hg a1;simp only[hd,hg,go_sem];refine ja0 km ?_;simp only[a6,go_sem];refine⟨a8,fun c hc=>by rw[zF.1 hc];rfl,by omega,?_⟩;refine ja7 (i+1) ?_ (by omega) (by omega);simp only[tmC,fc]at a7;simp only[h1,a6,a7,a1,Int.natCast_add,zB,List.length_singleton,go_sem]
  ·have hd:decide ((i:Int)<ts.length)=false:=zh hp;have:i=ts.length:=by omega
   subst this;rw[qJ];simp only[hd,go_sem];rfl
theorem x_opp(ts:List (Nat×Rat))(h:RT ts 0 1500)(hl:ts.length<=100000)(hf:∀t∈ts,FL 100000000 t.2):
  Ctr G.P 119 [.sl (ts.map tmC)] (· = .sl ((mulT ((-1:Int):Rat) ts).map tmC)):=by
 have k1:=jcj (-1) (by omega);have k2:=x_times ts ((-1:Int):Rat) h hl hf ((jbo (n:= -1) (by omega)).mono (by omega)) (by decide);generalize ((-1:Int):Rat)=f at*;simp only[frac,ints]at k1 k2;refine ja3 [.tmp 2] Tryz.func119 ?_;simp only[go_sem];refine ja0 k1 ?_;simp only[go_sem];refine ja0 k2 ?_;simp only[go_sem]
end
section
set_option maxRecDepth 1000000
open Go.Abs
open Go.LP (Dic Rw RT Ov OvRw Eqv SameV Own Free Small first jew tsum Sol)
theorem FL_ov{c q k:Nat}{x:Rat}(h:Ov (2^c) q x)(q0:0<q)(qB:q<=2^c)(hk:c/20+1<=k):FL k x:=by
 obtain⟨z,h1,h2⟩:=h;have a1:((q:Int):Rat)≠0:=fun e=>by have:=Rat.intCast_eq_zero_iff.1 e;omega
 have e1:x=Rat.divInt z q:=by
  rw[Rat.divInt_eq_div,<-h1];exact(Rat.mul_div_cancel a1).symm
 have hp:(2:Nat)^c<1048576^k:=by
  have a6:(1048576:Nat)=2^20:=by decide
  rw[a6,<-Nat.pow_mul];exact Nat.pow_lt_pow_right (by omega) (by omega)
 have a7:((2^c:Nat):Int)<(1048576:Int)^k:=by
  have:=wa.2 hp;rw[Int.natCast_pow 1048576 k]at this;exact this
 rw[e1];exact jhf (by omega) (jb2 (by omega)) (jb2 (by omega))
theorem RT_len:∀{ts:List (Nat×Rat)} {lo N:Nat},RT ts lo N->ts.length<=N-lo
 | [],_,_,_=>zG _
 | t::ts,lo,N,h=>by
  have:=RT_len h.2.2.2;have h1:=h.1;have h2:=h.2.1;rw[List.length_cons];omega
structure SysOk(N:Nat)(ws:List Rw):Prop where
 ok:∀w∈ws,w.Ok N
 n:N<=18
 len:ws.length<=900
 mn:ws.length≠0->N≠0
 ov:∀w∈ws,OvRw (2^100) 1000 w
structure GoalOk(N:Nat)(goal:List (Nat×Rat)):Prop where
 rt:RT goal 0 N
 ov:∀t∈goal,Ov (2^100) 1000 t.2
theorem jp7{x:Rat}(h:Ov (2^100) 1000 x):FL 100000000 x:=FL_ov h (by decide) (by decide) (by decide)
section
variable{N:Nat}{ws:List Rw}{goal:List (Nat×Rat)}
theorem GoalOk.len(h:GoalOk N goal):goal.length<=N:=by have:=RT_len h.rt;omega
theorem GoalOk.fl(h:GoalOk N goal):∀t∈goal,FL 100000000 t.2:=fun t ht=>jp7 (h.ov t ht)
theorem SysOk.row(h:SysOk N ws):∀w∈ws,w.ts.length<=N/\FL 100000000 w.val/\∀t∈w.ts,FL 100000000 t.2:=fun w hw=>
 ⟨by have:=RT_len (h.ok w hw).ts;omega,jp7 (h.ov w hw).val,fun t ht=>jp7 ((h.ov w hw).ts t ht)⟩
structure RowsL(N:Nat)(ws:List Rw):Prop where
 ok:∀w∈ws,w.Ok N
 n:N<=18
 len:ws.length<=900
 row:∀w∈ws,w.ts.length<=N/\FL 100000000 w.val/\∀t∈w.ts,FL 100000000 t.2
theorem SysOk.m(h:SysOk N ws):(first N ws goal).m<=1800:=by
 have h1:(first N ws goal).m<=0+2*ws.length:=LP.m_rows (p:=(LP.dic0 N,LP.src0)) ws.length;have:=h.len;omega
theorem SysOk.smD(h:SysOk N ws)(hg:GoalOk N goal):∀E:Dic,E.Ok->Eqv (first N ws goal) E->SameV (first N ws goal) E->SmD E:=fun E hE hq hv=>by
 have hm:=LP.mk_first (goal:=goal) h.ok;obtain⟨q',hs⟩:=LP.small_all hm.ok hE hq hv (LP.small_first (by decide:0<1000) (by decide:1000<=2^100) h.ov hg.ov);rw[hm.n]at hs;have hb:2^N*(100+1)/20+1<=100000000:=by
  have h1:2^N<=2^18:=yi (by omega) h.n;have h2:(2:Nat)^18=262144:=by decide
  omega
 exact⟨fun i hi=>FL_ov (hs.v i hi) hs.q0 hs.qB hb,fun j hj=>FL_ov (hs.g j hj) hs.q0 hs.qB hb,fun i j hi hj=>FL_ov (hs.a i j hi hj) hs.q0 hs.qB hb⟩
structure EndsAt(N:Nat)(ws:List Rw)(goal:List (Nat×Rat))(E:Dic):Prop where
 ok:E.Ok
 eqv:Eqv (first N ws goal) E
 same:SameV (first N ws goal) E
 m:E.m=(first N ws goal).m
 n:E.n=N
theorem EndsAt.of{E:Dic}{T:Nat}(hs:SysOk N ws)(h:LP.Reach (first N ws goal) T E):EndsAt N ws goal E:=by
 obtain⟨h1,h2,h3,h4,h5⟩:=h.facts;exact⟨h1,h2,h3,h4,by rw[h5,(LP.mk_first (goal:=goal) hs.ok).n]⟩
end
end
section
set_option maxRecDepth 1000000
open Go.Abs
open Go.LP (Dic Rw RT Ov OvRw Eqv SameV Own Free Small first jew tsum Sol Final)
attribute [local go_sem] ints ic big frac fc
def zc:List IV:=[.int 0,.sl [],.int 0,.sl []]
def foundC(N R:Nat)(goal:List (Nat×Rat))(src:Nat->Int×Bool)(E:Dic):List IV:=[.int 0]++fc (tsum goal E.pt)++[xl N E.pt,xl R (prU E N src (fun _=>0) (fun j=> -E.g j) E.n),.sl []]
def noneC(N R:Nat)(src:Nat->Int×Bool)(E:Dic)(r:Nat):List IV:=[.int 1]++zc++[.sl [],xl R (prU E N src (rf0 E N r src) (fun j=>E.a r j) E.n),.sl []]
def freeC(N:Nat)(E E':Dic)(s:Nat):List IV:=[.int 2]++zc++[xl N E'.pt,.sl [],xl N (E.dir s)]
inductive LeastR(N:Nat)(ws:List Rw)(goal:List (Nat×Rat)):List IV->Prop
 | found (E:Dic) (T:Nat):LP.Reach (first N ws goal) T E->Final E (-1) (-1)->LeastR N ws goal (foundC N ws.length goal (jew N ws).2 E)
 | none (E:Dic) (T r:Nat):LP.Reach (first N ws goal) T E->Final E r (-1)->LeastR N ws goal (noneC N ws.length (jew N ws).2 E r)
 | none2 (E E':Dic) (T T' s r:Nat):LP.Reach (first N ws goal) T E->Final E (-1) s->LP.Reach (first N ws []) T' E'->Final E' r (-1)->LeastR N ws goal (noneC N ws.length (jew N ws).2 E' r)
 | free (E E':Dic) (T T' s:Nat):LP.Reach (first N ws goal) T E->Final E (-1) s->LP.Reach (first N ws []) T' E'->Final E' (-1) (-1)->LeastR N ws goal (freeC N E E' s)
theorem jgt(k:Nat):¬((k:Int)= -1):=by omega
theorem LeastR.det{N:Nat}{ws:List Rw}{goal:List (Nat×Rat)}{o o':List IV}(h:LeastR N ws goal o)(h':LeastR N ws goal o'):o=o':=by
 cases h with
 | found E T r1 f1=>
  cases h' with
  | found E2 T2 r2 f2=>rw[r1.det r2 f1 f2]
  | none E2 T2 r r2 f2=>have e:=r1.det r2 f1 f2;subst e;exact absurd (f1.det r1.facts.1 f2).1.symm (jgt r)
  | none2 E2 E3 T2 T3 s r r2 f2=>have e:=r1.det r2 f1 f2;subst e;exact absurd (f1.det r1.facts.1 f2).2.symm (jgt s)
  | free E2 E3 T2 T3 s r2 f2=>have e:=r1.det r2 f1 f2;subst e;exact absurd (f1.det r1.facts.1 f2).2.symm (jgt s)
 | none E T r r1 f1=>
  cases h' with
  | found E2 T2 r2 f2=>have e:=r1.det r2 f1 f2;subst e;exact absurd (f1.det r1.facts.1 f2).1 (jgt r)
  | none E2 T2 q r2 f2=>have e:=r1.det r2 f1 f2;subst e;have:=(f1.det r1.facts.1 f2).1;rw[vk.1 this]
  | none2 E2 E3 T2 T3 s q r2 f2=>have e:=r1.det r2 f1 f2;subst e;exact absurd (f1.det r1.facts.1 f2).1 (jgt r)
  | free E2 E3 T2 T3 s r2 f2=>have e:=r1.det r2 f1 f2;subst e;exact absurd (f1.det r1.facts.1 f2).1 (jgt r)
 | none2 E E1 T T1 s r r1 f1 r3 f3=>
  cases h' with
  | found E2 T2 r2 f2=>have e:=r1.det r2 f1 f2;subst e;exact absurd (f1.det r1.facts.1 f2).2 (jgt s)
  | none E2 T2 q r2 f2=>have e:=r1.det r2 f1 f2;subst e;exact absurd (f1.det r1.facts.1 f2).1.symm (jgt q)
  | none2 E2 E3 T2 T3 s q r2 f2 r4 f4=>have e:=r3.det r4 f3 f4;subst e;have:=(f3.det r3.facts.1 f4).1;rw[vk.1 this]
  | free E2 E3 T2 T3 s r2 f2 r4 f4=>have e:=r3.det r4 f3 f4;subst e;exact absurd (f3.det r3.facts.1 f4).1 (jgt r)
 | free E E1 T T1 s r1 f1 r3 f3=>
  cases h' with
  | found E2 T2 r2 f2=>have e:=r1.det r2 f1 f2;subst e;exact absurd (f1.det r1.facts.1 f2).2 (jgt s)
  | none E2 T2 q r2 f2=>have e:=r1.det r2 f1 f2;subst e;exact absurd (f1.det r1.facts.1 f2).1.symm (jgt q)
  | none2 E2 E3 T2 T3 s2 q r2 f2 r4 f4=>have e:=r3.det r4 f3 f4;subst e;exact absurd (f3.det r3.facts.1 f4).1.symm (jgt q)
  | free E2 E3 T2 T3 s2 r2 f2 r4 f4=>
   have e:=r3.det r4 f3 f4;have e':=r1.det r2 f1 f2;subst e e';have:=(f1.det r1.facts.1 f2).2;rw[vk.1 this]
theorem look_app{L' L:Abs.Rows}{k:Nat}:Abs.look (L'++L) k=match Abs.look L' k with | some x=>some x | none=>Abs.look L k:=by
 induction L' with
 | nil=>rfl
 | cons p L' ih=>
  obtain⟨j,v⟩:=p;rw[List.cons_append];by_cases e:k=j
  ·subst e;rw[ja2,ja2]
  ·rw[ja1 _ _ e,ja1 _ _ e];exact ih
theorem jti{L' L:Abs.Rows}(h':blks L')(h:blks L):blks (L'++L):=fun k x hk=>by
 rw[look_app]at hk;split at hk
 ·rename_i y hy;exact h' k y hy
 ·exact h k x hk
theorem jqv{L' L:Abs.Rows}:SubR L' (L'++L):=fun k x hk=>by rw[look_app,hk]
theorem SubR_app2{L' L:Abs.Rows}(h:∀k,(Abs.look L' k).isSome->Abs.look L k=none):SubR L (L'++L):=fun k x hk=>by
 rw[look_app];split
 ·rename_i y hy;have:=h k (by rw[hy];rfl);rw[hk]at this;cases this
 ·exact hk
theorem Behind_mix{pre L L':Abs.Rows}:jfr (pre++L) [] L' (pre++(L'++L)):=fun k x hk=>by
 rw[look_app]at hk;split at hk
 ·rename_i y hy;cases hk;exact .inr ⟨rfl,by rw[look_app,hy]⟩
 ·rename_i hy;rw[look_app]at hk;split at hk
  ·rename_i z hz;cases hk;exact .inl hz
  ·exact .inr ⟨rfl,by rw[look_app,hy];exact hk⟩
theorem Behind_preX{pre L':Abs.Rows}:jfr pre [] L' (pre++L'):=fun k x hk=>by
 rw[look_app]at hk;split at hk
 ·rename_i y hy;cases hk;exact .inr ⟨rfl,hy⟩
 ·exact .inl hk
theorem jef{Q L L2:Abs.Rows}:∀(pre:Abs.Rows),(∀p∈pre,Abs.look L p.1=none)->jfr (pre++Q) L L2 (pre++L2)
 | [],_=>fun _ _ h=> .inl h
 | (j,v)::pre,hp=>fun k x h=>by
  by_cases e:k=j
  ·subst e;rw[List.cons_append,ja2]at h⊢;exact .inr ⟨hp _ (zQ ..),h⟩
  ·rw[List.cons_append,ja1 _ _ e]at h⊢;exact jef pre (fun p h=>hp p (zV _ h)) k x h
theorem Behind_mix2{pre L L' L2:Abs.Rows}(hp:∀p∈pre,Abs.look L p.1=none)(hd:∀k,(Abs.look L2 k).isSome->Abs.look L k=none):jfr (pre++(L++L2)) L L' (pre++(L'++L2)):=fun k x hk=>by
 rw[look_app]at hk;split at hk
 ·rename_i y hy;cases hk;refine .inr ⟨?_,by rw[look_app,hy]⟩;have:∀(pre:Abs.Rows),(∀p∈pre,Abs.look L p.1=none)->Abs.look pre k=some x->Abs.look L k=none:=by
   intro pre
   induction pre with
   | nil=>intro _ h;cases h
   | cons p pre ih=>
    intro h1 h2;obtain⟨j,v⟩:=p;by_cases e:k=j
    ·subst e;exact h1 _ (zQ ..)
    ·rw[ja1 _ _ e]at h2;exact ih (fun p h=>h1 p (zV _ h)) h2
  exact this pre hp hy
 ·rename_i hy;rw[look_app]at hk;split at hk
  ·rename_i z hz;cases hk;exact .inl hz
  ·have h1:=hd k (by rw[hk];rfl);refine .inr ⟨h1,?_⟩;rw[look_app,hy];dsimp only;rw[look_app,h1];exact hk
theorem SubR_del'{L R:Abs.Rows}{b:Nat}(hs:SubR L R)(h:Abs.look L (hp b)=none):SubR L (Abs.del R (hp b)):=fun k x hk=>by
 rw[jaa _ (fun e=>by subst e;rw[h]at hk;cases hk)];exact hs k x hk
theorem jj2{L:Abs.Rows}(hL:blks L):∀{pre:Abs.Rows},(pre.all fun p=>decide (p.1<100000))=true->∀p∈pre,Abs.look L p.1=none:=fun h p hp=>jax hL (zI (List.all_eq_true.1 h p hp))
theorem jrh{L:Abs.Rows}{a b:Nat×Nat×List (List IV)}(hL:blks L)(h1:a.1<100000)(h2:b.1<100000):∀p∈[a,b],Abs.look L p.1=none:=fun p hp=>by
 rcases zL.1 hp with rfl | hp
 ·exact jax hL h1
 ·rw[zF.1 hp];exact jax hL h2
section
variable{N:Nat}{ws:List Rw}{goal:List (Nat×Rat)}
theorem EndsAt.lt{E:Dic}(h:EndsAt N ws goal E)(hs:SysOk N ws)(k:Nat):(Own E k\/Free E k)->k<N+E.m:=fun hk=>by
 have:=(LP.own_lt (LP.mk_first (goal:=goal) hs.ok) k).1 ((h.same k).2 hk);rw[h.m];exact this
theorem EndsAt.srcs{E:Dic}(h:EndsAt N ws goal E)(hs:SysOk N ws):Srcs E N ws.length (jew N ws).2 where
 free j hj hN:=by have:=h.lt hs _ (.inr ⟨j,hj,rfl⟩);omega
 own i hi hN:=by have:=h.lt hs _ (.inl ⟨i,hi,rfl⟩);omega
 row i hi:=(LP.Src.rows (N:=N) (ws:=ws) ws.length).row i (by rw[h.m]at hi;exact hi)
theorem EndsAt.m1800{E:Dic}(h:EndsAt N ws goal E)(hs:SysOk N ws):E.m<=1800:=by rw[h.m];exact hs.m
theorem EndsAt.mn{E:Dic}(h:EndsAt N ws goal E)(hs:SysOk N ws):E.m≠0->E.n≠0:=fun hm=>by
 rw[h.n];refine hs.mn fun h0=>hm ?_;have h1:(first N ws goal).m<=0+2*ws.length:=LP.m_rows (p:=(LP.dic0 N,LP.src0)) ws.length;rw[h.m];omega
theorem EndsAt.own{E:Dic}(h:EndsAt N ws goal E)(hs:SysOk N ws):∀i,i<E.m->E.own i<=1000000:=fun i hi=>by
 have:=h.lt hs _ (.inl ⟨i,hi,rfl⟩);have:=h.m1800 hs;have:=hs.n;omega
theorem EndsAt.free{E:Dic}(h:EndsAt N ws goal E)(hs:SysOk N ws):∀j,j<E.n->E.free j<=1000000:=fun j hj=>by
 have:=h.lt hs _ (.inr ⟨j,hj,rfl⟩);have:=h.m1800 hs;have:=hs.n;omega
theorem SysOk.search(hs:SysOk N ws)(hg:GoalOk N goal){L:Abs.Rows}{nm:DN}(h:HasD L nm N (first N ws goal) (jew N ws).2):
  CtrH G.P 140 [.loc (hp nm.d) 6 0 0] L (fun x L'=>∃(E:Dic) (row a6:Int),x= .im (.tup [.int row,.int a6])/\HasD L' nm N E (jew N ws).2/\(∃T,LP.Reach (first N ws goal) T E)/\Final E row a6):=by
 have a1:=LP.mk_first (goal:=goal) hs.ok;have hm:=hs.m (goal:=goal);have hn:=hs.n;have a7:(first N ws goal).m≠0->(first N ws goal).n≠0:=fun h0=>by
  rw[a1.n];refine hs.mn fun h1=>h0 ?_;have h2:(first N ws goal).m<=0+2*ws.length:=LP.m_rows (p:=(LP.dic0 N,LP.src0)) ws.length;omega
 exact x_search h a1.ok a7 (by omega) (by rw[a1.n];omega) 2000 (by omega) (fun k hk=>by have:=(LP.own_lt a1 k).1 hk;omega) fun E e1 e2 e3 _ _=>hs.smD hg E e1 e2 e3
theorem FL_pt{E:Dic}(h:SmD E)(k:Nat):FL 100000000 (E.pt k):=by
 unfold Dic.pt;split
 ·rename_i i hi;exact h.v i (LP.find_some hi).1
 ·exact(jbo (n:=0) (by omega)).mono (by omega)
theorem x_Least(hs:SysOk N ws)(hg:GoalOk N goal):Ctr G.P 118 [.agg [.int N,.sl (ws.map rwC)],.sl (goal.map tmC)] (fun r=>∃o,r= .tup [.agg o,.int 0]/\LeastR N ws goal o):=by
 have hn:=hs.n;have hlen:=hs.len;have h4:=hg.len;have k1:=x_right ws N hs.ok (by omega) (by omega) (fun w hw=>⟨by have:=(hs.row w hw).1;omega,(hs.row w hw).2⟩);have k2:=x_rt goal N hg.rt (by omega) (by omega) hg.fl;have k3:=x_open N ws goal hs.ok hg.rt (by omega) (by omega) (by omega) hs.mn (fun w hw=>⟨by have:=(hs.row w hw).1;omega,(hs.row w hw).2⟩) hg.fl;have k4:=x_open N ws [] hs.ok trivial (by omega) (by omega) (by simp) hs.mn (fun w hw=>⟨by have:=(hs.row w hw).1;omega,(hs.row w hw).2⟩) (fun t ht=>by cases ht);have c8:GoalOk N []:=⟨trivial,fun t ht=>by cases ht⟩;have n2:∀k,(2 !=hp k)=true:=fun k=>by simp only[qh,ne_eq];exact hp_ne (by decide)
 have n4:∀k,(4 !=hp k)=true:=fun k=>by simp only[qh,ne_eq];exact hp_ne (by decide)
 have n13:∀k,(13 !=hp k)=true:=fun k=>by simp only[qh,ne_eq];exact hp_ne (by decide)
 refine jhs (φ:=fun r L'=>∃(y:IV) (bs:List Nat),r= .im y/\∃o,frzL bs y L'= .tup [.agg o,.int 0]/\LeastR N ws goal o) ?_ (fun r L' ⟨y,bs,h1,h2⟩=>⟨y,bs,h1,h2⟩);simp only[zt,zE];refine jap [] [67] [.cell 4 122,.tmp 5] Tryz.func118 ?_;simp only[go_sem];refine ja0 k1 ?_;simp only[go_sem];refine ja0 k2 ?_;simp only[go_sem];refine jcu k3 (by decide) rfl jb6 jc0 ?_;rintro _ L1 ⟨nm,rfl,hD⟩ _;refine⟨(4,8,[[.int 0,.int 0,.emp,.int 0,.emp,.emp,.emp,.emp]])::(2,2,[[.int N,.sl (ws.map rwC)]])::L1,?_,?_⟩
 ·simp only[go_sem];exact Behind_preX (pre:=[_,_])
 have b0:=hD.blk;have F1:=bF b0;have K1:=bK b0;have G1:=bN b0;simp only[F1,K1,G1,go_sem];refine jaj (hs.search hg hD) (by decide) (by simp only[zt,zE,jb3]) b0 (ja6 (by decide) b0 (ja6 (by decide) b0 (SubR.refl _))) ?_;rintro _ L2 ⟨E,row,col,rfl,hD2,⟨T,hRe⟩,hF⟩ _;have hE:=EndsAt.of hs hRe;refine⟨(4,8,[[.int 0,.int 0,.emp,.int 0,.emp,.emp,.emp,.emp]])::(2,2,[[.int N,.sl (ws.map rwC)]])::L2,Behind_pre [_,_] (jrh b0 (by dsimp only;decide) (by dsimp only;decide)),?_⟩;have a1:=hD2.blk;have F2:=bF a1;have K2:=bK a1;have G2:=bN a1;have m18:=hE.m1800 hs;have b5:=hs.smD hg E hE.ok hE.eqv hE.same;cases hF with
 | best e1 e2=>
  simp only[F2,K2,G2,go_sem];refine jaj (x_point hD2 (by omega) (by omega) (hE.own hs)) (by decide) (by simp only[zt,zE,jb3]) a1 (ja6 (by decide) a1 (ja6 (by decide) a1 (SubR.refl _))) ?_;rintro _ L3 ⟨b,rfl,bL3,hs3,hLb,hl3⟩ _;refine⟨(4,8,[[.int 0,.int 0,.emp,.int 0,.emp,.emp,.emp,.emp]])::(2,2,[[.int N,.sl (ws.map rwC)]])::L3,Behind_pre [_,_] (jrh a1 (by dsimp only;decide) (by dsimp only;decide)),?_⟩;have F3:=bF bL3;have K3:=bK bL3;have G3:=bN bL3;have c6:¬nm.d=b:=fun e=>by have h1:=hD2.hd;rw[e,hLb]at h1;cases h1
  obtain⟨Q,hQe⟩:∃Q,Abs.del L3 (hp b)=Q:=⟨_,rfl⟩;have c4:List.filter (fun p=>p.1 !=hp b) L3=Q:=hQe;have bQ:blks Q:=hQe▸jch bL3;have sQ:=hQe▸SubR_del' hs3 hLb;have e9:=hD2.sub bQ sQ;have F4:=bF bQ;have K4:=bK bQ;have G4:=bN bQ;have bn:(2 !=hp b)=true/\(4 !=hp b)=true:=by
   simp only[qh,ne_eq];exact⟨hp_ne (by decide),hp_ne (by decide)⟩
  have kV:=x_Value goal N E.pt hg.rt (by omega) (by omega) hg.fl (fun k _=>FL_pt b5 k);unfold xl at kV;obtain⟨v,hv⟩:∃v,v=tsum goal E.pt:=⟨_,rfl⟩;rw[<-hv]at kV;simp only[frac,ints]at kV;have kp:=x_prices e9 ws.length (by omega) (by omega) (by rw[hE.n];omega) (by omega) (hE.srcs hs) (hE.free hs) b5;simp only[hl3,c6,jad,jd9,zu,c4,bn,F3,F4,G4,K4,go_sem];refine ja0 kV ?_;simp only[hl3,c6,jad,jd9,zu,c4,bn,F3,F4,G4,K4,go_sem];refine jdb [false,false,false,false,false,false,true] [(13,4,[fc v]),(2,2,[[.int N,.sl (ws.map rwC)]])] (by decide+kernel) ?_ ?_
  ·refine jc2 ?_ (jb0 ?_)
   ·rfl
   ·rfl
  simp only[zw,F4,G4,K4,go_sem];refine je5 kp (by decide) (by simp only[zt,zE,qu,jb3];rfl) bQ (ja6 (by decide) bQ (ja6 (by decide) bQ (ja6 (by decide) bQ (SubR.refl _)))) ?_;rintro _ L4 ⟨b2,rfl,bL4,hs4,hLb2,hl4⟩ _;refine⟨(13,4,[fc v])::(4,8,[[.int 0,.int 0,.emp,.int 0,.emp,.emp,.emp,.emp]])::(2,2,[[.int N,.sl (ws.map rwC)]])::L4,jef [_,_,_] (jj2 bQ (by simp)),?_⟩;refine And.intro (jc2 rfl (jb0 rfl)) ?_;have F5:=bF bL4;have K5:=bK bL4;have G5:=bN bL4;simp only[F5,K5,G5,go_sem];refine jbl ?_;simp only[go_sem];have b3:=LeastR.found (ws:=ws) E T hRe (.best e1 e2);unfold foundC at b3;rw[<-hv]at b3;refine⟨_,[b2],rfl,_,?_,b3⟩;rw[jdn (s:=4) (by rw[jas,jae,jae,jae];exact hl4),jfm];simp only[frz3,frz2,frz1,zt,zE,jad,jd9,zu,vj,qD,xl,fc,List.cons_append,List.nil_append]
 | none r e1 e2 e2' e2'' e3=>
  have b9:decide ((0:Int)<=r)=true:=dTo;have kr:=jjz hD2 ws.length e1 (hE.mn hs (by omega)) (by omega) (by omega) (by rw[hE.n];omega) (by omega) (hE.srcs hs) (hE.free hs) (hE.own hs) b5;simp only[b9,zw,F2,K2,G2,go_sem];refine jaj kr (by decide) (by simp only[zt,zE,jb3];rfl) a1 (ja6 (by decide) a1 (ja6 (by decide) a1 (SubR.refl _))) ?_;rintro _ L4 ⟨b2,rfl,bL4,hs4,hLb2,hl4⟩ _;refine⟨(4,8,[[.int 0,.int 0,.emp,.int 0,.emp,.emp,.emp,.emp]])::(2,2,[[.int N,.sl (ws.map rwC)]])::L4,jef [_,_] (jj2 a1 (by simp)),?_⟩;have F5:=bF bL4;have K5:=bK bL4;have G5:=bN bL4;simp only[F5,K5,G5,go_sem];refine jbl ?_;simp only[go_sem];refine⟨_,[b2],rfl,_,?_,LeastR.none E T r hRe (.none r e1 e2 e2' e2'' e3)⟩;rw[jdn (s:=4) (by rw[jas,jae,jae];exact hl4),jfm];simp only[frz3,frz2,frz1,zt,zE,jad,jd9,zu,vj,qD,xl,zc,noneC,List.cons_append,List.nil_append]
 | free s e1 e2 e2' e2'' e3=>
  have a8:decide ((0:Int)<=s)=true:=dTo;simp only[a8,F2,K2,G2,go_sem];refine jcu k4 (by decide) rfl jb6 jc0 ?_;rintro _ L5 ⟨nm5,rfl,hD5⟩ hfr;have b1:=hD5.blk;have b7:∀b,(Abs.look L5 (hp b)).isSome->Abs.look L2 (hp b)=none:=fun b hb=>by
   have h1:=(hfr (hp b) hb).resolve_left (by simp[Abs.look]);revert h1;simp only[a8,F2,K2,G2,go_sem];exact fun h=>h
  have b4:∀k,(Abs.look L5 k).isSome->Abs.look L2 k=none:=fun k hk=>by
   obtain⟨x,hx⟩:=zD.1 hk;obtain⟨b,rfl⟩:=b1 k x hx;exact b7 b hk
  have c3:∀k,(Abs.look L2 k).isSome->Abs.look L5 k=none:=fun k hk=>by
   cases h5:Abs.look L5 k with
   | none=>rfl
   | some x=>rw[b4 k (by rw[h5];rfl)]at hk;cases hk
  refine⟨(4,8,[[.int 0,.int 0,.emp,.int 0,.emp,.emp,.emp,.emp]])::(2,2,[[.int N,.sl (ws.map rwC)]])::(L5++L2),?_,?_⟩
  ·simp only[a8,F2,K2,G2,go_sem];exact Behind_mix (pre:=[_,_])
  clear hfr b7;have c5:=jti b1 a1;have F3:=fun(d:Nat) (h:d<100000)=>jed (L:=L5++L2) (d:=d) c5 h;have K3:=fun(d s:Nat) (es:List (List IV)) (h:d<100000)=>joz (L:=L5++L2) (d:=d) (s:=s) (es:=es) c5 h;have G3:=fun(d:Nat) (h:d<100000)=>jax (L:=L5++L2) (d:=d) c5 h;simp only[a8,F2,K2,G2,F3,K3,G3,go_sem];refine jaj (hs.search c8 hD5) (by decide) (by simp only[zt,zE,jb3]) b1 (ja6 (by decide) b1 (ja6 (by decide) b1 jqv)) ?_;rintro _ L6 ⟨E',row',col',rfl,hD6,⟨T',hRe'⟩,hF'⟩ hfr2;have a7:=EndsAt.of hs hRe';have e0:=hD6.blk;have c0:∀k,(Abs.look L6 k).isSome->Abs.look L2 k=none:=fun k hk=>by
   rcases hfr2 k hk with h | h
   ·exact b4 k h
   ·obtain⟨x,hx⟩:=zD.1 hk;obtain⟨b,rfl⟩:=e0 k x hx;have h1:Abs.look ((4,8,[[.int 0,.int 0,.emp,.int 0,.emp,.emp,.emp,.emp]])::(2,2,[[.int N,.sl (ws.map rwC)]])::(L5++L2)) (hp b)=none:=h;rw[jae,jae,look_app]at h1;split at h1
    ·cases h1
    ·exact h1
  refine⟨(4,8,[[.int 0,.int 0,.emp,.int 0,.emp,.emp,.emp,.emp]])::(2,2,[[.int N,.sl (ws.map rwC)]])::(L6++L2),Behind_mix2 (pre:=[_,_]) (jrh b1 (by dsimp only;decide) (by dsimp only;decide)) c3,?_⟩;clear hfr2;have a6:=jti e0 a1;have b8:=hD6.sub a6 jqv;have c9:=hD2.sub a6 (SubR_app2 c0);have c7:=hs.smD c8 E' a7.ok a7.eqv a7.same;have h3:=a7.m1800 hs;generalize L6++L2=L7 at*;have F4:=bF a6;have K4:=bK a6;have G4:=bN a6;cases hF' with
  | best e4 e5=>
   simp only[a8,F4,K4,G4,go_sem];refine jaj (x_point b8 (by omega) (by omega) (a7.own hs)) (by decide) (by simp only[zt,zE,jb3]) a6 (ja6 (by decide) a6 (ja6 (by decide) a6 (SubR.refl _))) ?_;rintro _ L8 ⟨b,rfl,bL8,hs8,hLb,hl8⟩ _;refine⟨(4,8,[[.int 0,.int 0,.emp,.int 0,.emp,.emp,.emp,.emp]])::(2,2,[[.int N,.sl (ws.map rwC)]])::L8,jef [_,_] (jj2 a6 (by simp)),?_⟩;have F5:=bF bL8;have K5:=bK bL8;have G5:=bN bL8;simp only[a8,F5,K5,G5,go_sem];refine jaj (x_ray (c9.sub bL8 hs8) e1 (by omega) (by omega) (hE.own hs) (hE.free hs s e1) b5) (by decide) (by simp only[zt,zE,jb3];rfl) bL8 (ja6 (by decide) bL8 (ja6 (by decide) bL8 (SubR.refl _))) ?_;rintro _ L9 ⟨b2,rfl,bL9,hs9,hLb2,hl9⟩ _;refine⟨(4,8,[[.int 0,.int 0,.emp,.int 0,.emp,.emp,.emp,.emp]])::(2,2,[[.int N,.sl (ws.map rwC)]])::L9,jef [_,_] (jj2 bL8 (by simp)),?_⟩;have F6:=bF bL9;have K6:=bK bL9;have G6:=bN bL9;have b6:¬b2=b:=fun e=>by rw[e,hl8]at hLb2;cases hLb2
   have e8:=hs9 _ _ hl8;obtain⟨Q,hQe⟩:∃Q,Abs.del L9 (hp b)=Q:=⟨_,rfl⟩;have bQ:blks Q:=hQe▸jch bL9;have c4:List.filter (fun p=>p.1 !=hp b) L9=Q:=hQe;have lQ:Abs.look Q (hp b2)=some (4,tab N fun k=>qc (E.dir s k)):=by rw[<-hQe,jaa _ (hpne b6)];exact hl9
   have F7:=bF bQ;have G7:=bN bQ;have F8:=fun(d:Nat) (h:d<100000)=>jax (L:=Abs.del Q (hp b2)) (d:=d) (jch bQ) h;unfold Abs.del at F8;simp only[a8,F6,K6,G6,go_sem];refine jbl ?_;simp only[go_sem];refine⟨_,[b,b2],rfl,_,?_,LeastR.free E E' T T' s hRe (.free s e1 e2 e2' e2'' e3) hRe' (.best e4 e5)⟩;rw[jdn (s:=4) (by rw[jas,jae,jae];exact e8),
    jdn (s:=4) (by rw[jaa _ (hpne b6),jas,jae,jae];exact hl9),jfm]
   simp only[frz3,frz2,frz1,zt,zE,jad,jd9,zu,vj,qD,b6,zH b6,false_and,qt,xl,zc,freeC,List.cons_append,List.nil_append]
  | none r' e4 e5 e5' e5'' e6=>
   have b9:decide ((r':Int)<0)=false:=dFo;have e7:decide ((0:Int)<=r')=true:=dTo;have kr:=jjz b8 ws.length e4 (a7.mn hs (by omega)) (by omega) (by omega) (by rw[a7.n];omega) (by omega) (a7.srcs hs) (a7.free hs) (a7.own hs) c7;simp only[a8,b9,e7,zw,F4,K4,G4,go_sem];refine jaj kr (by decide) (by simp only[zt,zE,jb3];rfl) a6 (ja6 (by decide) a6 (ja6 (by decide) a6 (SubR.refl _))) ?_;rintro _ L4 ⟨b2,rfl,bL4,hs4,hLb2,hl4⟩ _;refine⟨(4,8,[[.int 0,.int 0,.emp,.int 0,.emp,.emp,.emp,.emp]])::(2,2,[[.int N,.sl (ws.map rwC)]])::L4,jef [_,_] (jj2 a6 (by simp)),?_⟩;have F5:=bF bL4;have K5:=bK bL4;have G5:=bN bL4;simp only[F5,K5,G5,go_sem];refine jbl ?_;simp only[go_sem];refine⟨_,[b2],rfl,_,?_,LeastR.none2 E E' T T' s r' hRe (.free s e1 e2 e2' e2'' e3) hRe' (.none r' e4 e5 e5' e5'' e6)⟩;rw[jdn (s:=4) (by rw[jas,jae,jae];exact hl4),jfm];simp only[frz3,frz2,frz1,zt,zE,jad,jd9,zu,vj,qD,xl,zc,noneC,List.cons_append,List.nil_append]
  | free s' e4 e5 e5' e5'' e6=>
   have h0:=LP.final_nil hs.ok a7.ok a7.eqv e4;rw[h0]at e5;exact absurd e5 (by decide)
open Classical in
noncomputable def jit(N:Nat)(ws:List Rw)(goal:List (Nat×Rat)):List IV:=if h:∃o,LeastR N ws goal o then h.choose else []
theorem jqe{o:List IV}(h:LeastR N ws goal o):o=jit N ws goal:=by
 have hex:∃o,LeastR N ws goal o:=⟨o,h⟩;unfold jit;rw[dif_pos hex];exact h.det hex.choose_spec
theorem jrs(hs:SysOk N ws)(hg:GoalOk N goal):Ctr G.P 118 [.agg [.int N,.sl (ws.map rwC)],.sl (goal.map tmC)] (· = .tup [.agg (jit N ws goal),.int 0]):=
 (x_Least hs hg).mono fun r ⟨o,h1,h2⟩=>by rw[h1,jqe h2]
end
end
end Go.Proofs.YtjcjcpebocbonaaGreat
namespace Go.LP
section
theorem jme(f:Nat->Nat)(p:Nat->Prop):∀{m:Nat},(∃i,i<m/\p i)->∃i,i<m/\p i/\∀j,j<m->p j->f i<=f j
 | 0,⟨i,hi,_⟩=>absurd hi (jv _)
 | m+1,⟨i,hi,hp⟩=>by
  by_cases h:∃k,k<m/\p k
  ·obtain⟨a,h1,h2,h3⟩:=jme f p h;by_cases hm:p m/\f m<f a
   ·refine⟨m,jE _,hm.1,fun j hj a1=> ?_⟩;by_cases e:j=m
    ·subst e;exact zu _
    ·have:=h3 j (by omega) a1;omega
   ·refine⟨a,by omega,h2,fun j hj a1=> ?_⟩;by_cases e:j=m
    ·subst e;have:¬f j<f a:=fun a6=>hm ⟨a1,a6⟩;omega
    ·exact h3 j (by omega) a1
  ·have e:i=m:=by
    by_cases e:i=m
    ·exact e
    ·exact absurd ⟨i,by omega,hp⟩ h
   subst e;refine⟨i,hi,hp,fun j hj a1=> ?_⟩;by_cases e:j=i
   ·subst e;exact zu _
   ·exact absurd ⟨j,by omega,a1⟩ h
section
variable{D E:Dic}{a b:Int}{r s:Nat}
theorem nn_of{x:Rat}(h:¬x<0):0<=x:=by grind
theorem np_of{x:Rat}(h:¬0<x):x<=0:=by grind
theorem step_or_final(hE:E.Ok):(∃r s,Rule E r s)\/∃a b,Final E a b:=by
 by_cases hr:∃i,i<E.m/\E.v i<0
 ·obtain⟨r,b1,b6,b2⟩:=jme E.own (fun i=>E.v i<0) hr;by_cases b0:∀j,j<E.n->0<E.g j->E.own r<E.free j
  ·by_cases ha:∃j,j<E.n/\E.a r j<0
   ·obtain⟨s,a1,b7,a6⟩:=jme E.free (fun j=>E.a r j<0) ha;exact .inl ⟨r,s,b1,a1,.inl ⟨b6,b2,b0,b7,a6⟩⟩
   ·exact .inr ⟨r,-1,.none r b1 b6 b2 b0 fun j hj=>nn_of fun h=>ha ⟨j,hj,h⟩⟩
  ·have hs:∃j,j<E.n/\0<E.g j:=by
    by_cases hs:∃j,j<E.n/\0<E.g j
    ·exact hs
    ·exact absurd (fun j hj hg=>absurd ⟨j,hj,hg⟩ hs) b0
   obtain⟨s,a1,a7,a6⟩:=jme E.free (fun j=>0<E.g j) hs;have a8:∀i,i<E.m->E.v i<0->E.free s<E.own i:=fun i hi hv=>by
    have h1:=b2 i hi hv;have h2:¬E.own r<E.free s:=fun h=>b0 fun j hj hg=>qv h (a6 j hj hg);have h3:=hE.apart r s b1 a1;omega
   by_cases ha:∃i,i<E.m/\0<E.a i s
   ·obtain⟨q,b3,b5,b4⟩:=jme E.own (fun i=>0<E.a i s) ha;exact .inl ⟨q,s,b3,a1,.inr ⟨a7,a6,a8,b5,b4⟩⟩
   ·exact .inr ⟨-1,s,.free s a1 a7 a6 a8 fun i hi=>np_of fun h=>ha ⟨i,hi,h⟩⟩
 ·have hv:∀i,i<E.m->0<=E.v i:=fun i hi=>nn_of fun h=>hr ⟨i,hi,h⟩;by_cases hs:∃j,j<E.n/\0<E.g j
  ·obtain⟨s,a1,a7,a6⟩:=jme E.free (fun j=>0<E.g j) hs;have a8:∀i,i<E.m->E.v i<0->E.free s<E.own i:=fun i hi h=>absurd ⟨i,hi,h⟩ hr;by_cases ha:∃i,i<E.m/\0<E.a i s
   ·obtain⟨q,b3,b5,b4⟩:=jme E.own (fun i=>0<E.a i s) ha;exact .inl ⟨q,s,b3,a1,.inr ⟨a7,a6,a8,b5,b4⟩⟩
   ·exact .inr ⟨-1,s,.free s a1 a7 a6 a8 fun i hi=>np_of fun h=>ha ⟨i,hi,h⟩⟩
  ·exact .inr ⟨-1,-1,.best hv fun j hj=>np_of fun h=>hs ⟨j,hj,h⟩⟩
theorem jl3{K:Nat}(hK:∀k,(Own D k\/Free D k)->k<K):∀(n T:Nat) (E:Dic),Reach D T E->2^K-T<=n->∃T' E' a b,Reach D T' E'/\Final E' a b
 | n,T,E,h,hn=>by
  have hb:=h.bound hK;rcases step_or_final h.facts.1 with ⟨r,s,hr⟩ | ⟨a,b,hf⟩
  ·have h2:=h.step hr;have a1:=h2.bound hK
   match n,hn with
   | 0,hn=>omega
   | n+1,hn=>exact jl3 hK n (T+1) _ h2 (by omega)
  ·exact⟨T,E,a,b,h,hf⟩
theorem ends{K:Nat}(hD:D.Ok)(hK:∀k,(Own D k\/Free D k)->k<K):∃T E a b,Reach D T E/\Final E a b:=jl3 hK (2^K) 0 D (.zero hD) (Nat.sub_le _ _)
theorem Final.inv_best(h:Final E a b)(ha:a= -1)(hb:b= -1):(∀i,i<E.m->0<=E.v i)/\∀j,j<E.n->E.g j<=0:=by
 cases h with
 | best h1 h2=>exact⟨h1,h2⟩
 | none r=>omega
 | free s=>omega
theorem Final.inv_none(h:Final E a b)(ha:a=(r:Int)):r<E.m/\E.v r<0/\∀j,j<E.n->0<=E.a r j:=by
 cases h with
 | best h1 h2=>omega
 | none r' h1 h2 h3 h4 h5=>have e:=vk.1 ha;subst e;exact⟨h1,h2,h5⟩
 | free s=>omega
theorem Final.inv_free(h:Final E a b)(hb:b=(s:Int)):s<E.n/\0<E.g s/\∀i,i<E.m->E.a i s<=0:=by
 cases h with
 | best h1 h2=>omega
 | none r=>omega
 | free s' h1 h2 h3 h4 h5=>have e:=vk.1 hb;subst e;exact⟨h1,h2,h5⟩
