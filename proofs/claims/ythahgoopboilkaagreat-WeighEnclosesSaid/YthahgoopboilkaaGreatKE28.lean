/- A part of the proof. No further condition. -/
import Derived.Test.YthahgoopboilkaaGreatKE27
import Derived.Test.YthahgoopboilkaaGreatKE21
import Derived.Test.YthahgoopboilkaaGreatKE23
set_option linter.all false
set_option maxRecDepth 10000000
set_option maxHeartbeats 16000000
namespace Go.Proofs.YthahgoopboilkaaGreat
section
open Go.Abs
open Go.LP (Dic Rw RT cf cfU ngU jcd rowsD rowD dic0 src0 first jb7)
attribute [local go_sem] ints ic big frac fc rwC tmC oc
theorem HasO.withG{L L':Abs.Rows}{nm:DN}{D:Dic}{src:Nat->Int×Bool}(h:HasO L nm D src)(hb:blks L'){g:Nat->Rat}(hl:Abs.look L' (hp nm.g)=some (4,tab D.n fun j=>qc (g j)))(ho:∀k,k≠hp nm.g->Abs.look L' k=Abs.look L k):
  HasO L' nm {D with g:=g} src:=by
 refine⟨hb,h.dg,h.ap,?_,hl,fun hm=> ?_,fun hm=> ?_,fun hm=> ?_,fun i hi=> ?_⟩
 ·rw[ho _ (hpne h.dg)];exact h.hd
 ·rw[ho _ (hpne (h.ap hm).rg)];exact h.hr hm
 ·rw[ho _ (hpne (zD (h.ap hm).go))];exact h.ho hm
 ·rw[ho _ (hpne (zD (h.ap hm).gs))];exact h.hs hm
 ·rw[ho _ (hpne (zD ((h.ap (by have hi':i<D.m:=hi;omega)).ga i hi)))];exact h.ha i hi
theorem rowD_eq(p:Dic×(Nat->Int×Bool))(row:Nat)(w:Rw):rowD p row w=if w.kind=0 then(p.1.put w true,jcd p.1 p.2 row true)else if w.kind=1 then(p.1.put w false,jcd p.1 p.2 row false)else((p.1.put w false).put w true,jcd (p.1.put w false) (jcd p.1 p.2 row false) row true):=by
 unfold rowD;dsimp only;by_cases h0:w.kind=0
 ·have h1:w.kind≠1:=by omega
  rw[zn (show ¬(w.kind≠0)from fun h=>h h0),zm h1,zm h0]
 ·rw[zn h0,zm (show w.kind≠0 from h0)];by_cases h1:w.kind=1
  ·rw[zn (show ¬(w.kind≠1)from fun h=>h h1),zm h1]
  ·rw[zm (show w.kind≠1 from h1),zn h1]
structure HasP(L R:Abs.Rows)(nm:DN)(D:Dic)(F j:Nat):Prop where
 blk:blks R
 hd:Abs.look R (hp nm.d)=some (6,[[.int D.n,sl0 nm.r 250 5 D.m,.ref nm.g 35 4 D.n,sl0 nm.o 3 1 D.m,sl0 F 3 1 j,sl0 nm.s 272 2 D.m]])
 hf:j≠0->Abs.look R (hp F)=some (1,tab j fun k=>oc k)
 fd:j≠0->F≠nm.d
 keep:∀k x,Abs.look L (hp k)=some x->k≠nm.d->Abs.look R (hp k)=some x/\(j≠0->k≠F)
theorem HasP.step{L R R':Abs.Rows}{nm:DN}{D:Dic}{F j X:Nat}(h:HasP L R nm D F j)(b:blks R')
  (hd:Abs.look R' (hp nm.d)=some (6,[[.int D.n,sl0 nm.r 250 5 D.m,.ref nm.g 35 4 D.n,sl0 nm.o 3 1 D.m,.ref X 3 1 (j+1),sl0 nm.s 272 2 D.m]]))
  (hf:Abs.look R' (hp X)=some (1,tab (j+1) fun k=>oc k)) (xd:X≠nm.d) (hk:∀k x,Abs.look R (hp k)=some x->k≠nm.d->(j≠0->k≠F)->Abs.look R' (hp k)=some x/\k≠X):HasP L R' nm D X (j+1):=
 ⟨b,by rw[hd,jao (yy j)],fun _=>hf,fun _=>xd,fun k x hx hkd=>by
  obtain⟨h1,h2⟩:=h.keep k x hx hkd;obtain⟨h3,h4⟩:=hk k x h1 hkd h2;exact⟨h3,fun _=>h4⟩⟩
theorem tab_nd{n:Nat}{a:Nat->Nat}(h:∀i j,i<n->j<n->a i=a j->i=j):(tab n a).Nodup:=by
 induction n with
 | zero=>exact vY
 | succ n ih=>
  rw[ji0,vE];refine⟨ih fun i j hi hj=>h i j (by omega) (by omega),by simp,fun x hx y hy=> ?_⟩;obtain⟨i,hi,rfl⟩:=tab_mem hx;rw[zF.1 hy];intro e;have:=h i n (by omega) (by omega) e;omega
theorem jj5{n x:Nat}{a:Nat->Nat}(h:∀i,i<n->x≠a i):x∉tab n a:=fun hx=>by
 obtain⟨i,hi,e⟩:=tab_mem hx;exact h i hi e.symm
theorem HasP.done{L R:Abs.Rows}{nm:DN}{D:Dic}{src:Nat->Int×Bool}{F:Nat}(h:HasO L nm D src)(hP:HasP L R nm D F D.n)(hf:∀j,D.free j=j)(hmn:D.m≠0->D.n≠0):∃nm':DN,nm'.d=nm.d/\HasD R nm' D.n D src:=by
 have kg:=hP.keep nm.g _ h.hg (zD h.dg);by_cases hm0:D.m=0
 ·refine⟨⟨nm.d,nm.d+nm.g+F+1,nm.g,nm.d+nm.g+F+2,if D.n=0 then nm.d+nm.g+F+3 else F,nm.d+nm.g+F+4,nm.a⟩,rfl,hP.blk,?_,?_,kg.1,fun hm=>absurd hm0 hm,fun hm=>absurd hm0 hm,fun hn=> ?_,fun hm=>absurd hm0 hm,fun i hi=>absurd hi (by omega)⟩
  ·have dg:=h.dg;rw[hm0,tab_zero];by_cases hn:D.n=0
   ·simp only[zm hn,qJ,zS,vz,not_or,vY,vU,jZ,vV];omega
   ·have h1:=hP.fd hn;have h2:=kg.2 hn;simp only[zn hn,qJ,zS,vz,not_or,vY,vU,jZ,vV];omega
  ·rw[hP.hd,hm0,jbc,jbc,jbc,jbc,jbc,jbc];by_cases hn:D.n=0
   ·rw[hn];rfl
   ·dsimp only;rw[zn hn]
  ·dsimp only;rw[zn hn,hP.hf hn];congr 2;exact jak fun k _=>by rw[hf]
 ·have hn:=hmn hm0;have ap:=h.ap hm0;have kr:=hP.keep nm.r _ (h.hr hm0) (zD ap.dr);have ko:=hP.keep nm.o _ (h.ho hm0) (zD ap.d_o);have ks:=hP.keep nm.s _ (h.hs hm0) (zD ap.ds);have ka:=fun i (hi:i<D.m)=>hP.keep (nm.a i) _ (h.ha i hi) (zD (ap.da i hi));refine⟨⟨nm.d,nm.r,nm.g,nm.o,F,nm.s,nm.a⟩,rfl,hP.blk,?_,hP.hd,kg.1,fun _=>kr.1,fun _=>ko.1,fun _=> ?_,fun _=>ks.1,fun i hi=>(ka i hi).1⟩
  ·have e1:=hP.fd hn;have e2:=kg.2 hn;have e3:=kr.2 hn;have e4:=ko.2 hn;have e5:=ks.2 hn;simp only[qJ,zS,not_or];exact⟨⟨ap.dr,h.dg,ap.d_o,zD e1,ap.ds,jj5 ap.da⟩,⟨ap.rg,ap.ro,e3,ap.rs,jj5 ap.ra⟩,⟨ap.go,e2,ap.gs,jj5 ap.ga⟩,⟨e4,ap.os,jj5 ap.oa⟩,⟨zD e5,jj5 fun i hi=>zD ((ka i hi).2 hn)⟩,jj5 ap.sa,tab_nd ap.aa⟩
  ·rw[hP.hf hn];congr 2;exact jak fun k _=>by rw[hf]
theorem x_g0{N:Nat}(ws:List Rw):∀i,(rowsD ws (dic0 N,src0) i).1.g=fun _=>0
 | 0=>rfl
 | i+1=>by
  have ih:=x_g0 (N:=N) ws i;rw[rowsD];split
  ·rw[rowD_eq]
   (repeat' split)<;>exact ih
  ·exact ih
theorem x_open(N:Nat)(ws:List Rw)(goal:List (Nat×Rat))(hok:∀w∈ws,w.Ok N)(hg:RT goal 0 N)(hN:N<=1000)(hl:ws.length<=1000)(hlg:goal.length<=1000)(hmn:ws.length≠0->N≠0)
  (hw:∀w∈ws,w.ts.length<=1000/\FL 100000000 w.val/\∀t∈w.ts,FL 100000000 t.2) (hgf:∀t∈goal,FL 100000000 t.2):
  CtrH G.P 128 [.im (.agg [.int N,.sl (ws.map rwC)]),.im (.sl (goal.map tmC))] [] (fun x L'=>∃nm:DN,x= .loc (hp nm.d) 6 0 0/\HasD L' nm N (first N ws goal) (jb7 N ws).2):=by
 have kz:=jiw N (by omega);refine jav [17,70] [] [.tmp 4] Tryz.func128 ?_;simp only[go_sem];refine jcf [false,false,false,false,true] [(2,2,[[.int N,.sl (ws.map rwC)]])] (by decide+kernel) (SubR.of_eq rfl) ?_;simp only[go_sem];refine jct kz (by decide) rfl jc8 jad ?_;rintro _ L0 ⟨A,rfl,hA0,hA1,hA2⟩ hfr;refine⟨(hp A,4,tab N fun _=>qc 0)::(2,2,[[.int N,.sl (ws.map rwC)]])::[],jcb hA1,?_⟩;clear hfr;refine And.intro ?_ ?_
 ·exact jas (by dsimp only;rw[ja0 _ _ (hp_ne (by decide)).symm];rfl) (SubR.of_eq rfl)
 simp only[go_sem];refine jhw (fun d hd0=> ?_);have hd1:Abs.look ((hp A,4,tab N fun _=>qc 0)::(2,2,[[.int N,.sl (ws.map rwC)]])::[]) (hp d)=none:=hd0;clear hd0;have hdA:¬d=A:=fun e=>by rw[e,ja2]at hd1;cases hd1
 clear hd1;simp only[hdA,zD hdA,go_sem];obtain⟨M0,hM0e,hM0⟩:∃M0,M0=(hp d,6,[[.int N,.emp,.ref A 35 4 N,.emp,.emp,.emp]])::(hp A,4,tab N fun _=>qc 0)::[]/\HasO M0 ⟨d,0,A,0,0,0,fun _=>0⟩ (rowsD ws (dic0 N,src0) 0).1 (rowsD ws (dic0 N,src0) 0).2:=by
  refine⟨_,rfl,jat (jat jc8),hdA,fun h=>absurd rfl h,ja2 _ _ _,?_,fun h=>absurd rfl h,fun h=>absurd rfl h,fun h=>absurd rfl h,fun i hi=>absurd hi (yC _)⟩;rw[ja0 _ _ (hpne (zD hdA)),ja2]<;>rfl
 refine jaz [1,2,5,19,20,21] (fun g:(Nat×DN)×Abs.Rows=>⟨[(1,.im (.sl (goal.map tmC))),(2,.loc 2 2 0 0),(5,.loc (hp d) 6 0 0),(19,.im (.sl (ws.map rwC))),(20,.im (.int ws.length)),(21,.im (.int g.1.1))],(2,2,[[.int N,.sl (ws.map rwC)]])::g.2,[]⟩)
  (fun g=>g.1.1<=ws.length/\g.1.2.d=d/\HasO g.2 g.1.2 (rowsD ws (dic0 N,src0) g.1.1).1 (rowsD ws (dic0 N,src0) g.1.1).2) (fun g=>ws.length-g.1.1) ((0,_),M0) ?_ ?_ rfl ⟨zE _,rfl,hM0⟩ ?_
 ·simp only[Int.natCast_zero,go_sem]
 ·show SubR ((2,2,[[.int N,.sl (ws.map rwC)]])::M0) [(hp d,6,[[.int N,.emp,.ref A 35 4 N,.emp,.emp,.emp]]),(hp A,4,tab N fun _=>qc 0),(2,2,[[.int N,.sl (ws.map rwC)]])];refine jb5 ?_ ?_
  ·rw[ja0 _ _ (hp_ne (by decide)),ja0 _ _ (hp_ne (by decide)),ja2]
  ·rw[hM0e];exact jb4 _ (jb4 _ jad)
 clear hM0 hM0e M0;rintro⟨⟨i,nm⟩,R⟩ ⟨hi,hnd,hR⟩;dsimp only at hi hnd hR;have bR:=hR.blk;have F2:=bF bR;have K2:=bK bR;have G2:=bN bR;have hmk:=LP.mk_rows hok i hi;have hmm:(rowsD ws (dic0 N,src0) i).1.m<=0+2*i:=LP.m_rows i;rcases zT i ws.length with hlt | hlt
 ·have hd:decide ((i:Int)<ws.length)=true:=za (by omega);obtain⟨w,hwi⟩:=jby (l:=ws) (i:=i) (by omega);have h1:=ja9 (n:=(i:Int)+1) (by omega);have hwm:=zk hwi;obtain⟨k1,k2⟩:=hok w hwm;obtain⟨l1,l2,l3⟩:=hw w hwm;have hg1:(ws.map rwC)[i]? =some (rwC w):=by rw[ze,hwi];rfl
  simp only[rwC,fc,List.cons_append,List.nil_append]at hg1;have hsucc:rowsD ws (dic0 N,src0) (i+1)=rowD (rowsD ws (dic0 N,src0) i) i w:=by rw[rowsD,hwi]
  rw[rowD_eq]at hsucc;generalize rowsD ws (dic0 N,src0) i=p at*;have hpn:p.1.n=N:=hmk.n;rcases hk0:decide (w.kind=0)with _ | _
  ·have e0:=zJ hk0;rw[zn e0]at hsucc;have kp:=x_put hR w i false (by omega) (by omega) (hpn.symm▸k1) l3 l2 (by omega);rw[hnd]at kp;simp only[rwC,fc,List.cons_append,List.nil_append]at kp;rcases hk1:decide (w.kind=1)with _ | _
   ·have e1:=zJ hk1;rw[zn e1]at hsucc;simp only[hd,hg1,hk0,hk1,F2,K2,G2,go_sem];refine jaj kp (by decide) (by simp only[zl,zC,jaw];rfl) bR (ja3 (by decide) bR (ja3 (by decide) bR (SubR.refl _))) ?_;rintro _ L1 ⟨rfl,nm1,hn1,hR1⟩ _;refine⟨(7,6,[rwC w])::(2,2,[[.int N,.sl (ws.map rwC)]])::L1,Behind_pre [_,_] (by
     intro p hp;rcases zS.1 hp with rfl | hp
     ·exact jay bR (by dsimp only;decide)
     ·rw[zF.1 hp];exact jay bR (by dsimp only;decide)),?_⟩
    have bR1:=hR1.blk;have F3:=bF bR1;have K3:=bK bR1;have G3:=bN bR1;have hpn1:(p.1.put w false).n=N:=hpn;have hpm1:(p.1.put w false).m=p.1.m+1:=rfl;have kp2:=x_put hR1 w i true (by omega) (by omega) (hpn1.symm▸k1) l3 l2 (by omega);rw[hn1]at kp2;simp only[rwC,fc,List.cons_append,List.nil_append]at kp2;simp only[hd,hk0,hk1,F3,K3,G3,go_sem];refine jaj kp2 (by decide) (by simp only[zl,zC,jaw];rfl) bR1 (ja3 (by decide) bR1 (ja3 (by decide) bR1 (SubR.refl _))) ?_;rintro _ L2 ⟨rfl,nm2,hn2,hR2⟩ _;refine⟨(7,6,[rwC w])::(2,2,[[.int N,.sl (ws.map rwC)]])::L2,Behind_pre [_,_] (by
     intro p hp;rcases zS.1 hp with rfl | hp
     ·exact jay bR1 (by dsimp only;decide)
     ·rw[zF.1 hp];exact jay bR1 (by dsimp only;decide)),?_⟩
    have bR2:=hR2.blk;have F4:=bF bR2;have K4:=bK bR2;have G4:=bN bR2;simp only[hd,hk0,hk1,F4,K4,G4,go_sem];refine jaa ((i+1,nm2),L2) ?_ (jas (by dsimp only;rw[ja0 _ _ (by decide)];exact jay bR2 (by decide)) (SubR.of_eq rfl)) rfl (by show ws.length-(i+1)<ws.length-i;omega) ⟨hlt,hn2,by dsimp only;rw[hsucc];exact hR2⟩;simp only[h1,Int.natCast_add,go_sem]
   ·have e1:=zI hk1;rw[zm e1]at hsucc;simp only[hd,hg1,hk0,hk1,F2,K2,G2,go_sem];refine jaj kp (by decide) (by simp only[zl,zC,jaw];rfl) bR (ja3 (by decide) bR (ja3 (by decide) bR (SubR.refl _))) ?_;rintro _ L1 ⟨rfl,nm1,hn1,hR1⟩ _;refine⟨(7,6,[rwC w])::(2,2,[[.int N,.sl (ws.map rwC)]])::L1,Behind_pre [_,_] (by
     intro p hp;rcases zS.1 hp with rfl | hp
     ·exact jay bR (by dsimp only;decide)
     ·rw[zF.1 hp];exact jay bR (by dsimp only;decide)),?_⟩
    have bR1:=hR1.blk;have F3:=bF bR1;have K3:=bK bR1;have G3:=bN bR1;simp only[hd,hk0,hk1,F3,K3,G3,go_sem];refine jaa ((i+1,nm1),L1) ?_ (jas (by dsimp only;rw[ja0 _ _ (by decide)];exact jay bR1 (by decide)) (SubR.of_eq rfl)) rfl (by show ws.length-(i+1)<ws.length-i;omega) ⟨hlt,hn1,by dsimp only;rw[hsucc];exact hR1⟩;simp only[h1,Int.natCast_add,go_sem]
  ·have e0:=zI hk0;have hk1:decide (w.kind=1)=false:=zq (by omega);rw[zm e0]at hsucc;have kp:=x_put hR w i true (by omega) (by omega) (hpn.symm▸k1) l3 l2 (by omega);rw[hnd]at kp;simp only[rwC,fc,List.cons_append,List.nil_append]at kp;simp only[hd,hg1,hk0,hk1,F2,K2,G2,go_sem];refine jaj kp (by decide) (by simp only[zl,zC,jaw];rfl) bR (ja3 (by decide) bR (ja3 (by decide) bR (SubR.refl _))) ?_;rintro _ L1 ⟨rfl,nm1,hn1,hR1⟩ _;refine⟨(7,6,[rwC w])::(2,2,[[.int N,.sl (ws.map rwC)]])::L1,Behind_pre [_,_] (by
    intro p hp;rcases zS.1 hp with rfl | hp
    ·exact jay bR (by dsimp only;decide)
    ·rw[zF.1 hp];exact jay bR (by dsimp only;decide)),?_⟩
   have bR1:=hR1.blk;have F3:=bF bR1;have K3:=bK bR1;have G3:=bN bR1;simp only[hd,hk0,hk1,F3,K3,G3,go_sem];refine jaa ((i+1,nm1),L1) ?_ (jas (by dsimp only;rw[ja0 _ _ (by decide)];exact jay bR1 (by decide)) (SubR.of_eq rfl)) rfl (by show ws.length-(i+1)<ws.length-i;omega) ⟨hlt,hn1,by dsimp only;rw[hsucc];exact hR1⟩;simp only[h1,Int.natCast_add,go_sem]
 have hd:decide ((i:Int)<ws.length)=false:=zq (by omega);have hiw:i=ws.length:=by omega
 subst hiw;rw[yj]at hmk;have hfst:∀g,{(rowsD ws (dic0 N,src0) ws.length).1 with g:=g}={(jb7 N ws).1 with g:=g}:=fun g=>rfl;rw[show rowsD ws (dic0 N,src0) ws.length=jb7 N ws from rfl]at hR hmk hmm;obtain⟨D,hD⟩:∃D,D=(jb7 N ws).1:=⟨_,rfl⟩;obtain⟨sr,hsr⟩:∃sr,sr=(jb7 N ws).2:=⟨_,rfl⟩;have hfi:first N ws goal={D with g:=fun j=> -cf goal j}:=by rw[hD];rfl
 rw[<-hsr,hfi];rw[<-hD]at hR hmk hmm;rw[<-hsr]at hR;clear hfst;have hDn:D.n=N:=hmk.n;have hg0:D.g=fun k=>ngU goal (fun _=>0) 0 k:=by
  rw[hD];exact x_g0 ws ws.length
 simp only[hd,go_sem];have hR0:HasO R nm {D with g:=fun k=>ngU goal (fun _=>0) 0 k} sr:=by rw[<-hg0];exact hR
 clear hR F2 K2 G2 hd hlt hi bR hg0;refine jaz [2,5,41,42,43] (fun g:Nat×Abs.Rows=>⟨[(2,.loc 2 2 0 0),(5,.loc (hp d) 6 0 0),(41,.im (.sl (goal.map tmC))),(42,.im (.int goal.length)),(43,.im (.int g.1))],(2,2,[[.int N,.sl (ws.map rwC)]])::g.2,[]⟩)
  (fun g=>g.1<=goal.length/\HasO g.2 nm {D with g:=fun k=>ngU goal (fun _=>0) g.1 k} sr) (fun g=>goal.length-g.1) (0,R) ?_ (SubR.of_eq rfl) rfl ⟨zE _,hR0⟩ ?_
 ·simp only[Int.natCast_zero,go_sem]
 clear hR0;rintro⟨i,R1⟩ ⟨hi,hR⟩;dsimp only at hi hR;have bR:=hR.blk;have F2:=bF bR;have K2:=bK bR;have G2:=bN bR;rcases zT i goal.length with hlt | hlt
 ·have hd:decide ((i:Int)<goal.length)=true:=za (by omega);obtain⟨t,ht⟩:=jby (l:=goal) (i:=i) (by omega);have h1:=ja9 (n:=(i:Int)+1) (by omega);obtain⟨g1,g2,g3⟩:=jm1 hg ht;have hg1:=tget ht;have v0:(0:Int)<=t.1:=by omega
  have vN:(t.1:Int)<D.n:=by omega
  have cd:=hR.hd;have cg:=hR.hg;dsimp only at cd cg;rw[hnd]at cd;have hq:=qget (n:=D.n) (f:=fun k=>ngU goal (fun _=>0) i k) (by rw[hDn];exact g2:t.1<D.n);have kn:=f_neg ((hgf t (zk ht)).mono (by omega:100000000<=19000000000));generalize hx: -t.2=x at kn;simp only[frac,ints,fc]at kn hg1;simp only[hd,hg1,cd,cg,hq,v0,vN,ja6,Int.toNat_natCast,F2,K2,G2,go_sem];refine jac 10 ?_;simp only[hd,hg1,cd,cg,hq,v0,vN,ja6,Int.toNat_natCast,F2,K2,G2,go_sem];refine ja4 kn (by decide) ?_;simp only[hd,hg1,cd,cg,hq,v0,vN,ja6,Int.toNat_natCast,F2,K2,G2,go_sem];refine jaa (i+1,R1.map (fun p=>if p.1=hp nm.g then(p.1,4,(tab D.n fun k=>qc (ngU goal (fun _=>0) i k)).set t.1 (fc x))else p)) ?_ ?_ rfl (by show goal.length-(i+1)<goal.length-i;omega) ⟨hlt,?_⟩
  ·simp only[h1,Int.natCast_add,go_sem]
  ·show SubR ((2,2,[[.int N,.sl (ws.map rwC)]])::_) ((9,5,[tmC t])::(2,2,[[.int N,.sl (ws.map rwC)]])::_);refine jas ?_ (SubR.of_eq rfl);rw[ja0 _ _ (by dsimp only;decide)];exact jay (jb8 bR) (by dsimp only;decide)
  ·refine HasO.withG hR (jb8 bR) ((jae cg).trans ?_) fun k hk=>jan hk;rw[qset];congr 2;refine jak fun k hk=>qd qc ?_;rw[LP.ngU_succ ht,hx]
 have hd:decide ((i:Int)<goal.length)=false:=zq (by omega);have hiw:i=goal.length:=by omega
 subst hiw;have hge:(fun k=>ngU goal (fun _=>0) goal.length k)=fun j=> -cf goal j:=funext fun k=>by rw[LP.ngU_zero hg _ (zB _),LP.cfU_all hg]
 rw[hge]at hR;obtain⟨E,hE⟩:∃E:Dic,E={D with g:=fun j=> -cf goal j}:=⟨_,rfl⟩;rw[<-hE]at hR;rw[<-hE];have hEn:E.n=N:=by rw[hE];exact hDn
 have hEf:∀j,E.free j=j:=by rw[hE];exact hmk.free
 have hEm:E.m≠0->E.n≠0:=fun hm=>by
  rw[hEn];refine hmn fun h0=>hm ?_;have:E.m=D.m:=by rw[hE]
  omega
 simp only[hd,go_sem];have cd0:=hR.hd;rw[hnd]at cd0;have hP0:HasP R1 R1 nm E 0 0:=⟨bR,hR.hd,fun h=>absurd rfl h,fun h=>absurd rfl h,fun k x hk _=>⟨hk,fun h=>absurd rfl h⟩⟩;refine jaz [5,59,60] (fun g:(Nat×Nat)×Abs.Rows=>⟨[(5,.loc (hp d) 6 0 0),(59,.im (.int N)),(60,.im (.int g.1.1))],g.2,[]⟩)
  (fun g=>g.1.1<=N/\HasP R1 g.2 nm E g.1.2 g.1.1) (fun g=>N-g.1.1) ((0,0),R1) ?_ (ja3 (by decide) bR (SubR.refl _)) rfl ⟨zE _,hP0⟩ ?_
 ·simp only[Int.natCast_zero,go_sem]
 clear hP0 hd hlt hi F2 K2 G2 cd0;rintro⟨⟨j,F⟩,R2⟩ ⟨hj,hP⟩;dsimp only at hj hP;have bP:=hP.blk;have F2:=bF bP;have K2:=bK bP;have G2:=bN bP;have cd:=hP.hd;rw[hnd]at cd;rcases zT j N with hlt | hlt
 ·have hd:decide ((j:Int)<N)=true:=za (by omega);have h1:=ja9 (n:=(j:Int)+1) (by omega);by_cases hj0:j=0
  ·subst hj0;rw[jbc (b:=F)]at cd;have hd0:decide ((0:Int)<N)=true:=za (by omega);have w1:=ja9 (n:=(1:Int)) (by omega);simp only[hd0,cd,F2,K2,G2,go_sem];refine And.intro (fun c hc=>by rw[zF.1 hc];rfl) ?_;unfold NewP NewH;intro X hX;have lX:Abs.look R2 (hp X)=none:=hX;clear hX;have Xd:¬X=d:=fun e=>by rw[e,cd]at lX;cases lX
   simp only[cd,Xd,zD Xd,F2,K2,G2,go_sem];refine jaa ((1,X),(hp X,1,[[.int 0]])::R2.map (fun p=>if p.1=hp d then(p.1,6,[[.int E.n,sl0 nm.r 250 5 E.m,.ref nm.g 35 4 E.n,sl0 nm.o 3 1 E.m,.ref X 3 1 1,sl0 nm.s 272 2 E.m]])else p)) ?_ (SubR.of_eq rfl) rfl (by show N-1<N-0;omega) ⟨hlt,HasP.step hP (jat (jb8 bP)) ?_ ?_ (hnd.symm▸Xd) fun k x hk hkd _=> ?_⟩
   ·simp only[w1,go_sem]
   ·rw[hnd,ja0 _ _ (hpne (zD Xd))];exact jae cd
   ·rw[ja2]<;>rfl
   ·have hkX:k≠X:=fun e=>by rw[e,lX]at hk;cases hk
    rw[hnd]at hkd;refine⟨?_,hkX⟩;dsimp only;rw[ja0 _ _ (hpne hkX),jan (hpne hkd)];exact hk
  ·rw[jao (b:=F) hj0]at cd;have cf':=hP.hf hj0;have fd:=hP.fd hj0;rw[hnd]at fd;obtain⟨Q,hQe⟩:∃Q,Abs.del R2 (hp F)=Q:=⟨_,rfl⟩;have lQ:∀k,k≠hp F->Abs.look Q k=Abs.look R2 k:=fun k hk=>by rw[<-hQe];exact ja7 _ hk
   have bQ:blks Q:=hQe▸jbx bP;have hQf:List.filter (fun p=>p.1 !=hp F) R2=Q:=hQe;have cdQ:=(lQ _ (hpne (zD fd))).trans cd;simp only[hd,cd,cf',ja6,jd7,F2,K2,G2,go_sem];refine And.intro (fun c hc=>by rw[zF.1 hc];rfl) (And.intro (zB _) (And.intro (by omega) ?_));unfold GrowP GrowH;intro X hX;have lX:Abs.look Q (hp X)=none:=by rw[<-hQe];exact hX
   clear hX;have Xd:¬X=d:=fun e=>by rw[e,cdQ]at lX;cases lX
   have F3:=bF bQ;have K3:=bK bQ;have G3:=bN bQ;simp only[cdQ,hQf,Xd,zD Xd,fd,zD fd,F3,K3,G3,go_sem];refine jaa ((j+1,X),(hp X,1,(tab j fun k=>oc k)++[oc j])::Q.map (fun p=>if p.1=hp d then(p.1,6,[[.int E.n,sl0 nm.r 250 5 E.m,.ref nm.g 35 4 E.n,sl0 nm.o 3 1 E.m,.ref X 3 1 (j+1),sl0 nm.s 272 2 E.m]])else p)) ?_ (SubR.of_eq rfl) rfl (by show N-(j+1)<N-j;omega) ⟨hlt,HasP.step hP (jat (jb8 bQ)) ?_ ?_ (hnd.symm▸Xd) fun k x hk hkd hkF=> ?_⟩
   ·simp only[h1,Int.natCast_add,go_sem]
   ·rw[hnd,ja0 _ _ (hpne (zD Xd))];exact jae cdQ
   ·rw[ja2,ji0]
   ·have hkQ:Abs.look Q (hp k)=some x:=by rw[lQ _ (hpne (hkF hj0))];exact hk
    have hkX:k≠X:=fun e=>by rw[e,lX]at hkQ;cases hkQ
    rw[hnd]at hkd;refine⟨?_,hkX⟩;dsimp only;rw[ja0 _ _ (hpne hkX),jan (hpne hkd)];exact hkQ
 have hd:decide ((j:Int)<N)=false:=zq (by omega);have hjN:j=E.n:=by omega
 subst hjN;simp only[hd,go_sem];refine jbh R2 bP (SubR.of_eq rfl) ?_;simp only[go_sem];obtain⟨nm',h1,h2⟩:=HasP.done hR hP hEf hEm;refine⟨nm',by rw[h1,hnd],?_⟩;rw[<-hEn];exact h2
end
section
open Go.Abs
open Go.LP (Rw RT tsum)
attribute [local go_sem] ints ic big frac fc rwC tmC
def xl(N:Nat)(x:Nat->Rat):IV:= .sl (tab N fun k=>qc (x k))
theorem x_pt1{r:Rat}(h:FL 19000000000 r):Ctr G.P 213 [frac r] (· = .bool false):=by
 have c:=jqm h;refine ja5 [.tmp 2] Tryz.func213 ?_;simp only[frac,ints]at c⊢;simp only[go_sem];refine ja1 c ?_;simp only[go_sem]
theorem x_ixf(N:Nat)(x:Nat->Rat)(hN:N<=100000)(hx:∀k,k<N->FL 19000000000 (x k)):
  Ctr G.P 222 [xl N x,.clo 213 []] (· = .int (-1)):=by
 refine ja5 [.tmp 4] Tryz.func222 ?_;unfold xl;simp only[ja6,go_sem];refine jal [0,1,7,8] [] (fun i:Nat=>⟨[(0,.im (.sl (tab N fun k=>qc (x k)))),(1,.im (.clo 213 [])),(7,.im (.int N)),(8,.im (.int i))],[],[]⟩)
  (fun i=>i<=N) (fun i=>N-i) 0 ?_ (zE _) ?_
 ·simp only[Int.natCast_zero,go_sem]
 ·intro i hi;by_cases hp:(i:Int)<N
  ·have hd:decide ((i:Int)<N)=true:=za hp;have hin:i<N:=by omega
   have h1:=ja9 (n:=(i:Int)+1) (by omega);have hg:=qget (f:=x) hin;have c:=x_pt1 (hx i hin);simp only[frac,ints]at c;simp only[hd,hg,ja6,go_sem];refine ja1 c ?_;simp only[go_sem];refine jab (i+1) ?_ (by omega) (by omega);simp only[h1,Int.natCast_add,go_sem]
  ·have hd:decide ((i:Int)<N)=false:=zq hp;simp only[hd,go_sem]
theorem x_ptF(N:Nat)(x:Nat->Rat)(hN:N<=100000)(hx:∀k,k<N->FL 19000000000 (x k)):Ctr G.P 187 [xl N x] (· = .bool true):=by
 have k1:=x_ixf N x hN hx;have k2:Ctr G.P 212 [xl N x,.clo 213 []] (· = .bool false):=by
  unfold xl at k1⊢;refine ja5 [.tmp 4] Tryz.func212 ?_;simp only[go_sem];refine ja1 k1 ?_;simp only[go_sem]
 clear k1;unfold xl at k2⊢;refine ja5 [.tmp 2] Tryz.func187 ?_;simp only[go_sem];refine ja1 k2 ?_;simp only[go_sem]
theorem x_value(ts:List (Nat×Rat))(N:Nat)(x:Nat->Rat)(h:RT ts 0 N)(hl:ts.length<=40)(hN:N<=100000)(hf:∀t∈ts,FL 100000000 t.2)(hx:∀k,k<N->FL 100000000 (x k)):
  Ctr G.P 188 [.sl (ts.map tmC),xl N x] (· =frac (tsum ts x)):=by
 have o1:=jbt 0 (by omega);rw[show((0:Int):Rat)=tsumU ts x 0 from rfl]at o1;unfold xl;simp only[frac,ints]at o1;rw[<-joq];refine ja5 [.cell 4 35] Tryz.func188 ?_;simp only[go_sem];refine ja1 o1 ?_;simp only[zw,go_sem];refine jal [1,4,5,11,12,13] [4,5] (fun i:Nat=>⟨[(1,.im (.sl (tab N fun k=>qc (x k)))),(4,.loc 4 4 0 0),(5,.loc 5 4 0 0),(11,.im (.sl (ts.map tmC))),(12,.im (.int ts.length)),(13,.im (.int i))],[(5,4,[fc (tsumU ts x i)]),(4,4,[[.int 0,.sl [],.int 0,.sl []]])],[]⟩)
  (fun i=>i<=ts.length) (fun i=>ts.length-i) 0 ?_ (zE _) ?_
 ·simp only[Int.natCast_zero,go_sem]
 ·intro i hi;by_cases hp:(i:Int)<ts.length
  ·have hd:decide ((i:Int)<ts.length)=true:=za hp;obtain⟨t,ht⟩:=jby hp;have hm:=zk ht;have h1:=ja9 (n:=(i:Int)+1) (by omega);obtain⟨g1,g2,g3⟩:=jm1 h ht;have v0:(0:Int)<=t.1:=by omega
   have vN:(t.1:Int)<N:=by omega
   have hg:=tget ht;have hq:=qget (f:=x) g2;have km:=f_mul ((hf t hm).mono (by omega:100000000<=19000000000)) ((hx t.1 g2).mono (by omega:100000000<=19000000000));have ka:=f_add (((joh hf (fun u hu=>hx u.1 ((LP.RT.mem h u hu).2.1)) i)).mono (by
    have:i*(100000000+100000000+1)<=40*(100000000+100000000+1):=qy _ (by omega);omega:_<=19000000000)) ((jh4 (hf t hm) (hx t.1 g2)).mono (by omega:100000000+100000000<=19000000000))
   rw[<-jmb ht]at ka;generalize t.2*x t.1=pr at*;generalize hs2:tsumU ts x (i+1)=s2 at*;generalize tsumU ts x i=s1 at*;simp only[frac,ints,fc]at km ka hg hq;simp only[hd,hg,go_sem];refine jaf ?_;simp only[hd,hg,hq,v0,vN,ja6,Int.toNat_natCast,go_sem];refine ja4 km (by decide) ?_;simp only[hd,hg,hq,v0,vN,ja6,Int.toNat_natCast,go_sem];refine ja1 ka ?_;simp only[go_sem];refine jab (i+1) ?_ (by omega) (by omega);simp only[h1,hs2,Int.natCast_add,go_sem]
  ·have hd:decide ((i:Int)<ts.length)=false:=zq hp;have:i=ts.length:=by omega
   subst this;simp only[hd,go_sem]
theorem jix(ts:List (Nat×Rat))(N:Nat)(x:Nat->Rat)(h:RT ts 0 N)(hl:ts.length<=40)(hN:N<=100000)(hf:∀t∈ts,FL 100000000 t.2)(hx:∀k,k<N->FL 100000000 (x k)):
  Ctr G.P 133 [.sl (ts.map tmC),xl N x] (· = .tup [frac (tsum ts x),.bool true]):=by
 have k1:=x_rt ts N h (by omega) hN hf;have k2:=x_ptF N x hN (fun k hk=>(hx k hk).mono (by omega));have k3:=x_value ts N x h hl hN hf hx;generalize tsum ts x=s at*;unfold xl at*;simp only[frac,ints]at k3⊢;refine ja5 [.cell 4 35,.tmp 5] Tryz.func133 ?_;simp only[ja6,go_sem];refine ja1 k1 ?_;simp only[go_sem];refine ja1 k2 ?_;simp only[go_sem];refine ja1 k3 ?_;simp only[go_sem]
end
section
open Go.Abs
open Go.LP (Rw RT tsum)
attribute [local go_sem] ints ic big frac fc rwC tmC
def mulT(f:Rat)(ts:List (Nat×Rat)):List (Nat×Rat):=ts.map fun t=>(t.1,t.2*f)
theorem tmC_len(ts:List (Nat×Rat)):∀c∈ts.map tmC,c.length=5:=fun c hc=>by
 obtain⟨z,_,rfl⟩:=qq.1 hc;rfl
theorem take_map_succ{α β:Type}{l:List α}{f:α->β}{i:Nat}{x:α}(h:l[i]? =some x):(l.take (i+1)).map f=(l.take i).map f++[f x]:=by
 rw[yJ,h];simp
theorem x_times(ts:List (Nat×Rat))(f:Rat)(h:RT ts 0 1500)(hl:ts.length<=100000)(hf:∀t∈ts,FL 100000000 t.2)(hr:FL 100000000 f)(h0:f≠0):
  Ctr G.P 135 [.sl (ts.map tmC),frac f] (· = .sl ((mulT f ts).map tmC)):=by
 have k1:=x_rt ts 1500 h hl (by omega) hf;have k2:=jgl (hr.mono (by omega:100000000<=19000000000));have hq:decide (f.num.sign=0)=false:=zq (fun e=>h0 (sign_zero.1 e));rw[show((1500:Nat):Int)=1500 from rfl]at k1;unfold mulT;rw[ya];simp only[frac,ints]at k2⊢;refine ja5 [.tmp 4] Tryz.func135 ?_;simp only[go_sem];refine ja1 k1 ?_;simp only[go_sem];refine ja1 k2 ?_;simp only[hq,zw,go_sem];refine jh3 [3,5,18,19,20] [3,37] [(5,37,155,5)] (fun i:Nat=>⟨[(3,.loc 3 4 0 0),(5,.vec 37 155 5 ((ts.take i).map fun t=>tmC (t.1,t.2*f))),(18,.im (.sl (ts.map tmC))),(19,.im (.int ts.length)),(20,.im (.int i))],
   [(3,4,[fc f])],[(37,5,i)]⟩)
  (fun i=>i<=ts.length) (fun i=>ts.length-i) 0 ?_ ?_ (zE _) ?_
 ·simp only[List.length_nil,go_sem];exact fun c hc=>by cases hc
 ·simp only[Int.natCast_zero,List.take_zero,zC,List.length_nil,go_sem]
 ·intro i hi;by_cases hp:(i:Int)<ts.length
  ·have hd:decide ((i:Int)<ts.length)=true:=za hp;obtain⟨t,ht⟩:=jby hp;have hm:=zk ht;have h1:=ja9 (n:=(i:Int)+1) (by omega);have km:=f_mul ((hf t hm).mono (by omega:100000000<=19000000000)) (hr.mono (by omega:100000000<=19000000000));have hg:=tget ht;have hll:((ts.take i).map fun t=>tmC (t.1,t.2*f)).length=i:=by rw[zw,qi];omega
   have hlc:∀c∈(ts.take i).map (fun t=>tmC (t.1,t.2*f)),c.length=5:=fun c hc=>by
    obtain⟨z,_,rfl⟩:=qq.1 hc;rfl
   have hts:=take_map_succ (f:=fun t=>tmC (t.1,t.2*f)) ht;generalize ((ts.take i).map fun t=>tmC (t.1,t.2*f))=acc at*;generalize ha2:((ts.take (i+1)).map fun t=>tmC (t.1,t.2*f))=acc2 at*;generalize t.2*f=pr at*;simp only[frac,ints,fc,tmC]at km hg hts;simp only[hd,hg,go_sem];refine ja1 km ?_;simp only[hll,go_sem];refine⟨hlc,fun c hc=>by rw[zF.1 hc];rfl,by omega,?_⟩;refine jab (i+1) ?_ (by omega) (by omega);simp only[tmC,fc]at ha2;simp only[h1,hll,ha2,hts,Int.natCast_add,zH,List.length_singleton,go_sem]
  ·have hd:decide ((i:Int)<ts.length)=false:=zq hp;have:i=ts.length:=by omega
   subst this;rw[yj];simp only[hd,go_sem];rfl
theorem x_opp(ts:List (Nat×Rat))(h:RT ts 0 1500)(hl:ts.length<=100000)(hf:∀t∈ts,FL 100000000 t.2):
  Ctr G.P 91 [.sl (ts.map tmC)] (· = .sl ((mulT ((-1:Int):Rat) ts).map tmC)):=by
 have k1:=jbt (-1) (by omega);have k2:=x_times ts ((-1:Int):Rat) h hl hf ((jb3 (n:= -1) (by omega)).mono (by omega)) (by decide);generalize ((-1:Int):Rat)=f at*;simp only[frac,ints]at k1 k2;refine ja5 [.tmp 2] Tryz.func91 ?_;simp only[go_sem];refine ja1 k1 ?_;simp only[go_sem];refine ja1 k2 ?_;simp only[go_sem]
end
section
open Go.Abs
open Go.LP (Dic Rw RT Ov OvRw Eqv SameV Own Free Small first jb7 tsum Sol)
theorem FL_ov{c q k:Nat}{x:Rat}(h:Ov (2^c) q x)(q0:0<q)(qB:q<=2^c)(hk:c/20+1<=k):FL k x:=by
 obtain⟨z,h1,h2⟩:=h;have hq0:((q:Int):Rat)≠0:=fun e=>by have:=Rat.intCast_eq_zero_iff.1 e;omega
 have e1:x=Rat.divInt z q:=by
  rw[Rat.divInt_eq_div,<-h1];exact(Rat.mul_div_cancel hq0).symm
 have hp:(2:Nat)^c<1048576^k:=by
  have h20:(1048576:Nat)=2^20:=by decide
  rw[h20,<-Nat.pow_mul];exact Nat.pow_lt_pow_right (by omega) (by omega)
 have hpI:((2^c:Nat):Int)<(1048576:Int)^k:=by
  have:=vH.2 hp;rw[Int.natCast_pow 1048576 k]at this;exact this
 rw[e1];exact jit (by omega) (jc1 (by omega)) (jc1 (by omega))
theorem RT_len:∀{ts:List (Nat×Rat)} {lo N:Nat},RT ts lo N->ts.length<=N-lo
 | [],_,_,_=>zE _
 | t::ts,lo,N,h=>by
  have:=RT_len h.2.2.2;have h1:=h.1;have h2:=h.2.1;rw[List.length_cons];omega
structure SysOk(N:Nat)(ws:List Rw):Prop where
 ok:∀w∈ws,w.Ok N
 n:N<=18
 len:ws.length<=900
 mn:ws.length≠0->N≠0
 ov:∀w∈ws,OvRw (2^100) 1000 w
structure GoalOk(N:Nat)(goal:List (Nat×Rat)):Prop where
 rt:RT goal 0 N
 ov:∀t∈goal,Ov (2^100) 1000 t.2
theorem joi{x:Rat}(h:Ov (2^100) 1000 x):FL 100000000 x:=FL_ov h (by decide) (by decide) (by decide)
section
variable{N:Nat}{ws:List Rw}{goal:List (Nat×Rat)}
theorem GoalOk.len(h:GoalOk N goal):goal.length<=N:=by have:=RT_len h.rt;omega
theorem GoalOk.fl(h:GoalOk N goal):∀t∈goal,FL 100000000 t.2:=fun t ht=>joi (h.ov t ht)
theorem SysOk.row(h:SysOk N ws):∀w∈ws,w.ts.length<=N/\FL 100000000 w.val/\∀t∈w.ts,FL 100000000 t.2:=fun w hw=>
 ⟨by have:=RT_len (h.ok w hw).ts;omega,joi (h.ov w hw).val,fun t ht=>joi ((h.ov w hw).ts t ht)⟩
theorem SysOk.m(h:SysOk N ws):(first N ws goal).m<=1800:=by
 have h1:(first N ws goal).m<=0+2*ws.length:=LP.m_rows (p:=(LP.dic0 N,LP.src0)) ws.length;have:=h.len;omega
theorem SysOk.smD(h:SysOk N ws)(hg:GoalOk N goal):∀E:Dic,E.Ok->Eqv (first N ws goal) E->SameV (first N ws goal) E->SmD E:=fun E hE hq hv=>by
 have hm:=LP.mk_first (goal:=goal) h.ok;obtain⟨q',hs⟩:=LP.small_all hm.ok hE hq hv (LP.small_first (by decide:0<1000) (by decide:1000<=2^100) h.ov hg.ov);rw[hm.n]at hs;have hb:2^N*(100+1)/20+1<=100000000:=by
  have h1:2^N<=2^18:=q7 (by omega) h.n;have h2:(2:Nat)^18=262144:=by decide
  omega
 exact⟨fun i hi=>FL_ov (hs.v i hi) hs.q0 hs.qB hb,fun j hj=>FL_ov (hs.g j hj) hs.q0 hs.qB hb,fun i j hi hj=>FL_ov (hs.a i j hi hj) hs.q0 hs.qB hb⟩
structure EndsAt(N:Nat)(ws:List Rw)(goal:List (Nat×Rat))(E:Dic):Prop where
 ok:E.Ok
 eqv:Eqv (first N ws goal) E
 same:SameV (first N ws goal) E
 m:E.m=(first N ws goal).m
 n:E.n=N
theorem EndsAt.of{E:Dic}{T:Nat}(hs:SysOk N ws)(h:LP.Reach (first N ws goal) T E):EndsAt N ws goal E:=by
 obtain⟨h1,h2,h3,h4,h5⟩:=h.facts;exact⟨h1,h2,h3,h4,by rw[h5,(LP.mk_first (goal:=goal) hs.ok).n]⟩
end
end
section
open Go.Abs
open Go.LP (Dic Rw RT Ov OvRw Eqv SameV Own Free Small first jb7 tsum Sol Final)
attribute [local go_sem] ints ic big frac fc
def zc:List IV:=[.int 0,.sl [],.int 0,.sl []]
def foundC(N R:Nat)(goal:List (Nat×Rat))(src:Nat->Int×Bool)(E:Dic):List IV:=[.int 0]++fc (tsum goal E.pt)++[xl N E.pt,xl R (prU E N src (fun _=>0) (fun j=> -E.g j) E.n),.sl []]
def noneC(N R:Nat)(src:Nat->Int×Bool)(E:Dic)(r:Nat):List IV:=[.int 1]++zc++[.sl [],xl R (prU E N src (rf0 E N r src) (fun j=>E.a r j) E.n),.sl []]
def freeC(N:Nat)(E E':Dic)(s:Nat):List IV:=[.int 2]++zc++[xl N E'.pt,.sl [],xl N (E.dir s)]
inductive LeastR(N:Nat)(ws:List Rw)(goal:List (Nat×Rat)):List IV->Prop
 | found (E:Dic) (T:Nat):LP.Reach (first N ws goal) T E->Final E (-1) (-1)->LeastR N ws goal (foundC N ws.length goal (jb7 N ws).2 E)
 | none (E:Dic) (T r:Nat):LP.Reach (first N ws goal) T E->Final E r (-1)->LeastR N ws goal (noneC N ws.length (jb7 N ws).2 E r)
 | none2 (E E':Dic) (T T' s r:Nat):LP.Reach (first N ws goal) T E->Final E (-1) s->LP.Reach (first N ws []) T' E'->Final E' r (-1)->LeastR N ws goal (noneC N ws.length (jb7 N ws).2 E' r)
 | free (E E':Dic) (T T' s:Nat):LP.Reach (first N ws goal) T E->Final E (-1) s->LP.Reach (first N ws []) T' E'->Final E' (-1) (-1)->LeastR N ws goal (freeC N E E' s)
theorem jgj(k:Nat):¬((k:Int)= -1):=by omega
theorem LeastR.det{N:Nat}{ws:List Rw}{goal:List (Nat×Rat)}{o o':List IV}(h:LeastR N ws goal o)(h':LeastR N ws goal o'):o=o':=by
 cases h with
 | found E T r1 f1=>
  cases h' with
  | found E2 T2 r2 f2=>rw[r1.det r2 f1 f2]
  | none E2 T2 r r2 f2=>have e:=r1.det r2 f1 f2;subst e;exact absurd (f1.det r1.facts.1 f2).1.symm (jgj r)
  | none2 E2 E3 T2 T3 s r r2 f2=>have e:=r1.det r2 f1 f2;subst e;exact absurd (f1.det r1.facts.1 f2).2.symm (jgj s)
  | free E2 E3 T2 T3 s r2 f2=>have e:=r1.det r2 f1 f2;subst e;exact absurd (f1.det r1.facts.1 f2).2.symm (jgj s)
 | none E T r r1 f1=>
  cases h' with
  | found E2 T2 r2 f2=>have e:=r1.det r2 f1 f2;subst e;exact absurd (f1.det r1.facts.1 f2).1 (jgj r)
  | none E2 T2 q r2 f2=>have e:=r1.det r2 f1 f2;subst e;have:=(f1.det r1.facts.1 f2).1;rw[j6.1 this]
  | none2 E2 E3 T2 T3 s q r2 f2=>have e:=r1.det r2 f1 f2;subst e;exact absurd (f1.det r1.facts.1 f2).1 (jgj r)
  | free E2 E3 T2 T3 s r2 f2=>have e:=r1.det r2 f1 f2;subst e;exact absurd (f1.det r1.facts.1 f2).1 (jgj r)
 | none2 E E1 T T1 s r r1 f1 r3 f3=>
  cases h' with
  | found E2 T2 r2 f2=>have e:=r1.det r2 f1 f2;subst e;exact absurd (f1.det r1.facts.1 f2).2 (jgj s)
  | none E2 T2 q r2 f2=>have e:=r1.det r2 f1 f2;subst e;exact absurd (f1.det r1.facts.1 f2).1.symm (jgj q)
  | none2 E2 E3 T2 T3 s q r2 f2 r4 f4=>have e:=r3.det r4 f3 f4;subst e;have:=(f3.det r3.facts.1 f4).1;rw[j6.1 this]
  | free E2 E3 T2 T3 s r2 f2 r4 f4=>have e:=r3.det r4 f3 f4;subst e;exact absurd (f3.det r3.facts.1 f4).1 (jgj r)
 | free E E1 T T1 s r1 f1 r3 f3=>
  cases h' with
  | found E2 T2 r2 f2=>have e:=r1.det r2 f1 f2;subst e;exact absurd (f1.det r1.facts.1 f2).2 (jgj s)
  | none E2 T2 q r2 f2=>have e:=r1.det r2 f1 f2;subst e;exact absurd (f1.det r1.facts.1 f2).1.symm (jgj q)
  | none2 E2 E3 T2 T3 s2 q r2 f2 r4 f4=>have e:=r3.det r4 f3 f4;subst e;exact absurd (f3.det r3.facts.1 f4).1.symm (jgj q)
  | free E2 E3 T2 T3 s2 r2 f2 r4 f4=>
   have e:=r3.det r4 f3 f4;have e':=r1.det r2 f1 f2;subst e e';have:=(f1.det r1.facts.1 f2).2;rw[j6.1 this]
theorem look_app{L' L:Abs.Rows}{k:Nat}:Abs.look (L'++L) k=match Abs.look L' k with | some x=>some x | none=>Abs.look L k:=by
 induction L' with
 | nil=>rfl
 | cons p L' ih=>
  obtain⟨j,v⟩:=p;rw[List.cons_append];by_cases e:k=j
  ·subst e;rw[ja2,ja2]
  ·rw[ja0 _ _ e,ja0 _ _ e];exact ih
theorem jsk{L' L:Abs.Rows}(h':blks L')(h:blks L):blks (L'++L):=fun k x hk=>by
 rw[look_app]at hk;split at hk
 ·rename_i y hy;exact h' k y hy
 ·exact h k x hk
theorem jq4{L' L:Abs.Rows}:SubR L' (L'++L):=fun k x hk=>by rw[look_app,hk]
theorem SubR_app2{L' L:Abs.Rows}(h:∀k,(Abs.look L' k).isSome->Abs.look L k=none):SubR L (L'++L):=fun k x hk=>by
 rw[look_app];split
 ·rename_i y hy;have:=h k (by rw[hy];rfl);rw[hk]at this;cases this
 ·exact hk
theorem Behind_mix{pre L L':Abs.Rows}:jfk (pre++L) [] L' (pre++(L'++L)):=fun k x hk=>by
 rw[look_app]at hk;split at hk
 ·rename_i y hy;cases hk;exact .inr ⟨rfl,by rw[look_app,hy]⟩
 ·rename_i hy;rw[look_app]at hk;split at hk
  ·rename_i z hz;cases hk;exact .inl hz
  ·exact .inr ⟨rfl,by rw[look_app,hy];exact hk⟩
theorem Behind_preX{pre L':Abs.Rows}:jfk pre [] L' (pre++L'):=fun k x hk=>by
 rw[look_app]at hk;split at hk
 ·rename_i y hy;cases hk;exact .inr ⟨rfl,hy⟩
 ·exact .inl hk
theorem jeb{Q L L2:Abs.Rows}:∀(pre:Abs.Rows),(∀p∈pre,Abs.look L p.1=none)->jfk (pre++Q) L L2 (pre++L2)
 | [],_=>fun _ _ h=> .inl h
 | (j,v)::pre,hp=>fun k x h=>by
  by_cases e:k=j
  ·subst e;rw[List.cons_append,ja2]at h⊢;exact .inr ⟨hp _ (zN ..),h⟩
  ·rw[List.cons_append,ja0 _ _ e]at h⊢;exact jeb pre (fun p h=>hp p (zQ _ h)) k x h
theorem Behind_mix2{pre L L' L2:Abs.Rows}(hp:∀p∈pre,Abs.look L p.1=none)(hd:∀k,(Abs.look L2 k).isSome->Abs.look L k=none):jfk (pre++(L++L2)) L L' (pre++(L'++L2)):=fun k x hk=>by
 rw[look_app]at hk;split at hk
 ·rename_i y hy;cases hk;refine .inr ⟨?_,by rw[look_app,hy]⟩;have:∀(pre:Abs.Rows),(∀p∈pre,Abs.look L p.1=none)->Abs.look pre k=some x->Abs.look L k=none:=by
   intro pre
   induction pre with
   | nil=>intro _ h;cases h
   | cons p pre ih=>
    intro h1 h2;obtain⟨j,v⟩:=p;by_cases e:k=j
    ·subst e;exact h1 _ (zN ..)
    ·rw[ja0 _ _ e]at h2;exact ih (fun p h=>h1 p (zQ _ h)) h2
  exact this pre hp hy
 ·rename_i hy;rw[look_app]at hk;split at hk
  ·rename_i z hz;cases hk;exact .inl hz
  ·have h1:=hd k (by rw[hk];rfl);refine .inr ⟨h1,?_⟩;rw[look_app,hy];dsimp only;rw[look_app,h1];exact hk
theorem SubR_del'{L R:Abs.Rows}{b:Nat}(hs:SubR L R)(h:Abs.look L (hp b)=none):SubR L (Abs.del R (hp b)):=fun k x hk=>by
 rw[ja7 _ (fun e=>by subst e;rw[h]at hk;cases hk)];exact hs k x hk
theorem jin{L:Abs.Rows}(hL:blks L):∀{pre:Abs.Rows},(pre.all fun p=>decide (p.1<100000))=true->∀p∈pre,Abs.look L p.1=none:=fun h p hp=>jay hL (zI (List.all_eq_true.1 h p hp))
theorem jqq{L:Abs.Rows}{a b:Nat×Nat×List (List IV)}(hL:blks L)(h1:a.1<100000)(h2:b.1<100000):∀p∈[a,b],Abs.look L p.1=none:=fun p hp=>by
 rcases zS.1 hp with rfl | hp
 ·exact jay hL h1
 ·rw[zF.1 hp];exact jay hL h2
section
variable{N:Nat}{ws:List Rw}{goal:List (Nat×Rat)}
theorem EndsAt.lt{E:Dic}(h:EndsAt N ws goal E)(hs:SysOk N ws)(k:Nat):(Own E k\/Free E k)->k<N+E.m:=fun hk=>by
 have:=(LP.own_lt (LP.mk_first (goal:=goal) hs.ok) k).1 ((h.same k).2 hk);rw[h.m];exact this
theorem EndsAt.srcs{E:Dic}(h:EndsAt N ws goal E)(hs:SysOk N ws):Srcs E N ws.length (jb7 N ws).2 where
 free j hj hN:=by have:=h.lt hs _ (.inr ⟨j,hj,rfl⟩);omega
 own i hi hN:=by have:=h.lt hs _ (.inl ⟨i,hi,rfl⟩);omega
 row i hi:=(LP.Src.rows (N:=N) (ws:=ws) ws.length).row i (by rw[h.m]at hi;exact hi)
theorem EndsAt.m1800{E:Dic}(h:EndsAt N ws goal E)(hs:SysOk N ws):E.m<=1800:=by rw[h.m];exact hs.m
theorem EndsAt.mn{E:Dic}(h:EndsAt N ws goal E)(hs:SysOk N ws):E.m≠0->E.n≠0:=fun hm=>by
 rw[h.n];refine hs.mn fun h0=>hm ?_;have h1:(first N ws goal).m<=0+2*ws.length:=LP.m_rows (p:=(LP.dic0 N,LP.src0)) ws.length;rw[h.m];omega
theorem EndsAt.own{E:Dic}(h:EndsAt N ws goal E)(hs:SysOk N ws):∀i,i<E.m->E.own i<=1000000:=fun i hi=>by
 have:=h.lt hs _ (.inl ⟨i,hi,rfl⟩);have:=h.m1800 hs;have:=hs.n;omega
theorem EndsAt.free{E:Dic}(h:EndsAt N ws goal E)(hs:SysOk N ws):∀j,j<E.n->E.free j<=1000000:=fun j hj=>by
 have:=h.lt hs _ (.inr ⟨j,hj,rfl⟩);have:=h.m1800 hs;have:=hs.n;omega
theorem SysOk.search(hs:SysOk N ws)(hg:GoalOk N goal){L:Abs.Rows}{nm:DN}(h:HasD L nm N (first N ws goal) (jb7 N ws).2):
  CtrH G.P 129 [.loc (hp nm.d) 6 0 0] L (fun x L'=>∃(E:Dic) (row col:Int),x= .im (.tup [.int row,.int col])/\HasD L' nm N E (jb7 N ws).2/\(∃T,LP.Reach (first N ws goal) T E)/\Final E row col):=by
 have hmk:=LP.mk_first (goal:=goal) hs.ok;have hm:=hs.m (goal:=goal);have hn:=hs.n;have hmn:(first N ws goal).m≠0->(first N ws goal).n≠0:=fun h0=>by
  rw[hmk.n];refine hs.mn fun h1=>h0 ?_;have h2:(first N ws goal).m<=0+2*ws.length:=LP.m_rows (p:=(LP.dic0 N,LP.src0)) ws.length;omega
 exact x_search h hmk.ok hmn (by omega) (by rw[hmk.n];omega) 2000 (by omega) (fun k hk=>by have:=(LP.own_lt hmk k).1 hk;omega) fun E e1 e2 e3 _ _=>hs.smD hg E e1 e2 e3
theorem FL_pt{E:Dic}(h:SmD E)(k:Nat):FL 100000000 (E.pt k):=by
 unfold Dic.pt;split
 ·rename_i i hi;exact h.v i (LP.find_some hi).1
 ·exact(jb3 (n:=0) (by omega)).mono (by omega)
theorem x_Least(hs:SysOk N ws)(hg:GoalOk N goal):Ctr G.P 90 [.agg [.int N,.sl (ws.map rwC)],.sl (goal.map tmC)] (fun r=>∃o,r= .tup [.agg o,.int 0]/\LeastR N ws goal o):=by
 have hn:=hs.n;have hlen:=hs.len;have hgl:=hg.len;have k1:=x_right ws N hs.ok (by omega) (by omega) (fun w hw=>⟨by have:=(hs.row w hw).1;omega,(hs.row w hw).2⟩);have k2:=x_rt goal N hg.rt (by omega) (by omega) hg.fl;have k3:=x_open N ws goal hs.ok hg.rt (by omega) (by omega) (by omega) hs.mn (fun w hw=>⟨by have:=(hs.row w hw).1;omega,(hs.row w hw).2⟩) hg.fl;have k4:=x_open N ws [] hs.ok trivial (by omega) (by omega) (by simp) hs.mn (fun w hw=>⟨by have:=(hs.row w hw).1;omega,(hs.row w hw).2⟩) (fun t ht=>by cases ht);have hg0:GoalOk N []:=⟨trivial,fun t ht=>by cases ht⟩;have n2:∀k,(2 !=hp k)=true:=fun k=>by simp only[qk,ne_eq];exact hp_ne (by decide)
 have n4:∀k,(4 !=hp k)=true:=fun k=>by simp only[qk,ne_eq];exact hp_ne (by decide)
 have n13:∀k,(13 !=hp k)=true:=fun k=>by simp only[qk,ne_eq];exact hp_ne (by decide)
 refine jk6 (φ:=fun r L'=>∃(y:IV) (bs:List Nat),r= .im y/\∃o,frzL bs y L'= .tup [.agg o,.int 0]/\LeastR N ws goal o) ?_ (fun r L' ⟨y,bs,h1,h2⟩=>⟨y,bs,h1,h2⟩);simp only[zl,zC];refine jav [] [67] [.cell 4 38,.tmp 5] Tryz.func90 ?_;simp only[go_sem];refine ja1 k1 ?_;simp only[go_sem];refine ja1 k2 ?_;simp only[go_sem];refine jd4 k3 (by decide) rfl jc8 jad ?_;rintro _ L1 ⟨nm,rfl,hD⟩ _;refine⟨(4,8,[[.int 0,.int 0,.emp,.int 0,.emp,.emp,.emp,.emp]])::(2,2,[[.int N,.sl (ws.map rwC)]])::L1,?_,?_⟩
 ·simp only[go_sem];exact Behind_preX (pre:=[_,_])
 have bL1:=hD.blk;have F1:=bF bL1;have K1:=bK bL1;have G1:=bN bL1;simp only[F1,K1,G1,go_sem];refine jaj (hs.search hg hD) (by decide) (by simp only[zl,zC,jaw]) bL1 (ja3 (by decide) bL1 (ja3 (by decide) bL1 (SubR.refl _))) ?_;rintro _ L2 ⟨E,row,col,rfl,hD2,⟨T,hRe⟩,hF⟩ _;have hE:=EndsAt.of hs hRe;refine⟨(4,8,[[.int 0,.int 0,.emp,.int 0,.emp,.emp,.emp,.emp]])::(2,2,[[.int N,.sl (ws.map rwC)]])::L2,Behind_pre [_,_] (jqq bL1 (by dsimp only;decide) (by dsimp only;decide)),?_⟩;have bL2:=hD2.blk;have F2:=bF bL2;have K2:=bK bL2;have G2:=bN bL2;have m18:=hE.m1800 hs;have hsm:=hs.smD hg E hE.ok hE.eqv hE.same;cases hF with
 | best e1 e2=>
  simp only[F2,K2,G2,go_sem];refine jaj (x_point hD2 (by omega) (by omega) (hE.own hs)) (by decide) (by simp only[zl,zC,jaw]) bL2 (ja3 (by decide) bL2 (ja3 (by decide) bL2 (SubR.refl _))) ?_;rintro _ L3 ⟨b,rfl,bL3,hs3,hLb,hl3⟩ _;refine⟨(4,8,[[.int 0,.int 0,.emp,.int 0,.emp,.emp,.emp,.emp]])::(2,2,[[.int N,.sl (ws.map rwC)]])::L3,Behind_pre [_,_] (jqq bL2 (by dsimp only;decide) (by dsimp only;decide)),?_⟩;have F3:=bF bL3;have K3:=bK bL3;have G3:=bN bL3;have ndb:¬nm.d=b:=fun e=>by have h1:=hD2.hd;rw[e,hLb]at h1;cases h1
  obtain⟨Q,hQe⟩:∃Q,Abs.del L3 (hp b)=Q:=⟨_,rfl⟩;have hQf:List.filter (fun p=>p.1 !=hp b) L3=Q:=hQe;have bQ:blks Q:=hQe▸jbx bL3;have sQ:=hQe▸SubR_del' hs3 hLb;have hDQ:=hD2.sub bQ sQ;have F4:=bF bQ;have K4:=bK bQ;have G4:=bN bQ;have bn:(2 !=hp b)=true/\(4 !=hp b)=true:=by
   simp only[qk,ne_eq];exact⟨hp_ne (by decide),hp_ne (by decide)⟩
  have kV:=jix goal N E.pt hg.rt (by omega) (by omega) hg.fl (fun k _=>FL_pt hsm k);unfold xl at kV;obtain⟨v,hv⟩:∃v,v=tsum goal E.pt:=⟨_,rfl⟩;rw[<-hv]at kV;simp only[frac,ints]at kV;have kp:=x_prices hDQ ws.length (by omega) (by omega) (by rw[hE.n];omega) (by omega) (hE.srcs hs) (hE.free hs) hsm;simp only[hl3,ndb,ja6,jd7,zB,hQf,bn,F3,F4,G4,K4,go_sem];refine ja1 kV ?_;simp only[hl3,ndb,ja6,jd7,zB,hQf,bn,F3,F4,G4,K4,go_sem];refine jcf [false,false,false,false,false,false,true] [(13,4,[fc v]),(2,2,[[.int N,.sl (ws.map rwC)]])] (by decide+kernel) ?_ ?_
  ·refine jb5 ?_ (jax ?_)
   ·rfl
   ·rfl
  simp only[zw,F4,G4,K4,go_sem];refine jct kp (by decide) (by simp only[zl,zC,qr,jaw];rfl) bQ (ja3 (by decide) bQ (ja3 (by decide) bQ (ja3 (by decide) bQ (SubR.refl _)))) ?_;rintro _ L4 ⟨b2,rfl,bL4,hs4,hLb2,hl4⟩ _;refine⟨(13,4,[fc v])::(4,8,[[.int 0,.int 0,.emp,.int 0,.emp,.emp,.emp,.emp]])::(2,2,[[.int N,.sl (ws.map rwC)]])::L4,jeb [_,_,_] (jin bQ (by simp)),?_⟩;refine And.intro (jb5 rfl (jax rfl)) ?_;have F5:=bF bL4;have K5:=bK bL4;have G5:=bN bL4;simp only[F5,K5,G5,go_sem];refine jbg ?_;simp only[go_sem];have hfin:=LeastR.found (ws:=ws) E T hRe (.best e1 e2);unfold foundC at hfin;rw[<-hv]at hfin;refine⟨_,[b2],rfl,_,?_,hfin⟩;rw[jdx (s:=4) (by rw[jau,ja0 _ _ (hp_ne (by decide)).symm,ja0 _ _ (hp_ne (by decide)).symm,ja0 _ _ (hp_ne (by decide)).symm];exact hl4),jgb];simp only[frz3,frz2,frz1,zl,zC,ja6,jd7,zB,j7,qC,xl,fc,List.cons_append,List.nil_append]
 | none r e1 e2 e2' e2'' e3=>
  have hr0:decide ((0:Int)<=r)=true:=za (by omega);have kr:=jjm hD2 ws.length e1 (hE.mn hs (by omega)) (by omega) (by omega) (by rw[hE.n];omega) (by omega) (hE.srcs hs) (hE.free hs) (hE.own hs) hsm;simp only[hr0,zw,F2,K2,G2,go_sem];refine jaj kr (by decide) (by simp only[zl,zC,jaw];rfl) bL2 (ja3 (by decide) bL2 (ja3 (by decide) bL2 (SubR.refl _))) ?_;rintro _ L4 ⟨b2,rfl,bL4,hs4,hLb2,hl4⟩ _;refine⟨(4,8,[[.int 0,.int 0,.emp,.int 0,.emp,.emp,.emp,.emp]])::(2,2,[[.int N,.sl (ws.map rwC)]])::L4,jeb [_,_] (jin bL2 (by simp)),?_⟩;have F5:=bF bL4;have K5:=bK bL4;have G5:=bN bL4;simp only[F5,K5,G5,go_sem];refine jbg ?_;simp only[go_sem];refine⟨_,[b2],rfl,_,?_,LeastR.none E T r hRe (.none r e1 e2 e2' e2'' e3)⟩;rw[jdx (s:=4) (by rw[jau,ja0 _ _ (hp_ne (by decide)).symm,ja0 _ _ (hp_ne (by decide)).symm];exact hl4),jgb];simp only[frz3,frz2,frz1,zl,zC,ja6,jd7,zB,j7,qC,xl,zc,noneC,List.cons_append,List.nil_append]
 | free s e1 e2 e2' e2'' e3=>
  have hs0:decide ((0:Int)<=s)=true:=za (by omega);simp only[hs0,F2,K2,G2,go_sem];refine jd4 k4 (by decide) rfl jc8 jad ?_;rintro _ L5 ⟨nm5,rfl,hD5⟩ hfr;have bL5:=hD5.blk;have hdis:∀b,(Abs.look L5 (hp b)).isSome->Abs.look L2 (hp b)=none:=fun b hb=>by
   have h1:=(hfr (hp b) hb).resolve_left (by simp[Abs.look]);revert h1;simp only[hs0,F2,K2,G2,go_sem];exact fun h=>h
  have hdis':∀k,(Abs.look L5 k).isSome->Abs.look L2 k=none:=fun k hk=>by
   obtain⟨x,hx⟩:=zp.1 hk;obtain⟨b,rfl⟩:=bL5 k x hx;exact hdis b hk
  have hdis2:∀k,(Abs.look L2 k).isSome->Abs.look L5 k=none:=fun k hk=>by
   cases h5:Abs.look L5 k with
   | none=>rfl
   | some x=>rw[hdis' k (by rw[h5];rfl)]at hk;cases hk
  refine⟨(4,8,[[.int 0,.int 0,.emp,.int 0,.emp,.emp,.emp,.emp]])::(2,2,[[.int N,.sl (ws.map rwC)]])::(L5++L2),?_,?_⟩
  ·simp only[hs0,F2,K2,G2,go_sem];exact Behind_mix (pre:=[_,_])
  clear hfr hdis;have b52:=jsk bL5 bL2;have F3:=fun(d:Nat) (h:d<100000)=>je8 (L:=L5++L2) (d:=d) b52 h;have K3:=fun(d s:Nat) (es:List (List IV)) (h:d<100000)=>jo7 (L:=L5++L2) (d:=d) (s:=s) (es:=es) b52 h;have G3:=fun(d:Nat) (h:d<100000)=>jay (L:=L5++L2) (d:=d) b52 h;simp only[hs0,F2,K2,G2,F3,K3,G3,go_sem];refine jaj (hs.search hg0 hD5) (by decide) (by simp only[zl,zC,jaw]) bL5 (ja3 (by decide) bL5 (ja3 (by decide) bL5 jq4)) ?_;rintro _ L6 ⟨E',row',col',rfl,hD6,⟨T',hRe'⟩,hF'⟩ hfr2;have hE':=EndsAt.of hs hRe';have bL6:=hD6.blk;have hdis6:∀k,(Abs.look L6 k).isSome->Abs.look L2 k=none:=fun k hk=>by
   rcases hfr2 k hk with h | h
   ·exact hdis' k h
   ·obtain⟨x,hx⟩:=zp.1 hk;obtain⟨b,rfl⟩:=bL6 k x hx;have h1:Abs.look ((4,8,[[.int 0,.int 0,.emp,.int 0,.emp,.emp,.emp,.emp]])::(2,2,[[.int N,.sl (ws.map rwC)]])::(L5++L2)) (hp b)=none:=h;rw[ja0 _ _ (hp_ne (by decide)).symm,ja0 _ _ (hp_ne (by decide)).symm,look_app]at h1;split at h1
    ·cases h1
    ·exact h1
  refine⟨(4,8,[[.int 0,.int 0,.emp,.int 0,.emp,.emp,.emp,.emp]])::(2,2,[[.int N,.sl (ws.map rwC)]])::(L6++L2),Behind_mix2 (pre:=[_,_]) (jqq bL5 (by dsimp only;decide) (by dsimp only;decide)) hdis2,?_⟩;clear hfr2;have b62:=jsk bL6 bL2;have hD6':=hD6.sub b62 jq4;have hD2':=hD2.sub b62 (SubR_app2 hdis6);have hsm':=hs.smD hg0 E' hE'.ok hE'.eqv hE'.same;have m18':=hE'.m1800 hs;generalize L6++L2=L7 at*;have F4:=bF b62;have K4:=bK b62;have G4:=bN b62;cases hF' with
  | best e4 e5=>
   simp only[hs0,F4,K4,G4,go_sem];refine jaj (x_point hD6' (by omega) (by omega) (hE'.own hs)) (by decide) (by simp only[zl,zC,jaw]) b62 (ja3 (by decide) b62 (ja3 (by decide) b62 (SubR.refl _))) ?_;rintro _ L8 ⟨b,rfl,bL8,hs8,hLb,hl8⟩ _;refine⟨(4,8,[[.int 0,.int 0,.emp,.int 0,.emp,.emp,.emp,.emp]])::(2,2,[[.int N,.sl (ws.map rwC)]])::L8,jeb [_,_] (jin b62 (by simp)),?_⟩;have F5:=bF bL8;have K5:=bK bL8;have G5:=bN bL8;simp only[hs0,F5,K5,G5,go_sem];refine jaj (x_ray (hD2'.sub bL8 hs8) e1 (by omega) (by omega) (hE.own hs) (hE.free hs s e1) hsm) (by decide) (by simp only[zl,zC,jaw];rfl) bL8 (ja3 (by decide) bL8 (ja3 (by decide) bL8 (SubR.refl _))) ?_;rintro _ L9 ⟨b2,rfl,bL9,hs9,hLb2,hl9⟩ _;refine⟨(4,8,[[.int 0,.int 0,.emp,.int 0,.emp,.emp,.emp,.emp]])::(2,2,[[.int N,.sl (ws.map rwC)]])::L9,jeb [_,_] (jin bL8 (by simp)),?_⟩;have F6:=bF bL9;have K6:=bK bL9;have G6:=bN bL9;have hbb:¬b2=b:=fun e=>by rw[e,hl8]at hLb2;cases hLb2
   have hlb:=hs9 _ _ hl8;obtain⟨Q,hQe⟩:∃Q,Abs.del L9 (hp b)=Q:=⟨_,rfl⟩;have bQ:blks Q:=hQe▸jbx bL9;have hQf:List.filter (fun p=>p.1 !=hp b) L9=Q:=hQe;have lQ:Abs.look Q (hp b2)=some (4,tab N fun k=>qc (E.dir s k)):=by rw[<-hQe,ja7 _ (hpne hbb)];exact hl9
   have F7:=bF bQ;have G7:=bN bQ;have F8:=fun(d:Nat) (h:d<100000)=>jay (L:=Abs.del Q (hp b2)) (d:=d) (jbx bQ) h;unfold Abs.del at F8;simp only[hs0,F6,K6,G6,go_sem];refine jbg ?_;simp only[go_sem];refine⟨_,[b,b2],rfl,_,?_,LeastR.free E E' T T' s hRe (.free s e1 e2 e2' e2'' e3) hRe' (.best e4 e5)⟩;rw[jdx (s:=4) (by rw[jau,ja0 _ _ (hp_ne (by decide)).symm,ja0 _ _ (hp_ne (by decide)).symm];exact hlb),
    jdx (s:=4) (by rw[ja7 _ (hpne hbb),jau,ja0 _ _ (hp_ne (by decide)).symm,ja0 _ _ (hp_ne (by decide)).symm];exact hl9),jgb]
   simp only[frz3,frz2,frz1,zl,zC,ja6,jd7,zB,j7,qC,hbb,zD hbb,false_and,qt,xl,zc,freeC,List.cons_append,List.nil_append]
  | none r' e4 e5 e5' e5'' e6=>
   have hr0:decide ((r':Int)<0)=false:=zq (by omega);have hr1:decide ((0:Int)<=r')=true:=za (by omega);have kr:=jjm hD6' ws.length e4 (hE'.mn hs (by omega)) (by omega) (by omega) (by rw[hE'.n];omega) (by omega) (hE'.srcs hs) (hE'.free hs) (hE'.own hs) hsm';simp only[hs0,hr0,hr1,zw,F4,K4,G4,go_sem];refine jaj kr (by decide) (by simp only[zl,zC,jaw];rfl) b62 (ja3 (by decide) b62 (ja3 (by decide) b62 (SubR.refl _))) ?_;rintro _ L4 ⟨b2,rfl,bL4,hs4,hLb2,hl4⟩ _;refine⟨(4,8,[[.int 0,.int 0,.emp,.int 0,.emp,.emp,.emp,.emp]])::(2,2,[[.int N,.sl (ws.map rwC)]])::L4,jeb [_,_] (jin b62 (by simp)),?_⟩;have F5:=bF bL4;have K5:=bK bL4;have G5:=bN bL4;simp only[F5,K5,G5,go_sem];refine jbg ?_;simp only[go_sem];refine⟨_,[b2],rfl,_,?_,LeastR.none2 E E' T T' s r' hRe (.free s e1 e2 e2' e2'' e3) hRe' (.none r' e4 e5 e5' e5'' e6)⟩;rw[jdx (s:=4) (by rw[jau,ja0 _ _ (hp_ne (by decide)).symm,ja0 _ _ (hp_ne (by decide)).symm];exact hl4),jgb];simp only[frz3,frz2,frz1,zl,zC,ja6,jd7,zB,j7,qC,xl,zc,noneC,List.cons_append,List.nil_append]
  | free s' e4 e5 e5' e5'' e6=>
   have h0:=LP.final_nil hs.ok hE'.ok hE'.eqv e4;rw[h0]at e5;exact absurd e5 (by decide)
open Classical in
noncomputable def jd9(N:Nat)(ws:List Rw)(goal:List (Nat×Rat)):List IV:=if h:∃o,LeastR N ws goal o then h.choose else []
theorem jl4{o:List IV}(h:LeastR N ws goal o):o=jd9 N ws goal:=by
 have hex:∃o,LeastR N ws goal o:=⟨o,h⟩;unfold jd9;rw[dif_pos hex];exact h.det hex.choose_spec
theorem jqy(hs:SysOk N ws)(hg:GoalOk N goal):Ctr G.P 90 [.agg [.int N,.sl (ws.map rwC)],.sl (goal.map tmC)] (· = .tup [.agg (jd9 N ws goal),.int 0]):=
 (x_Least hs hg).mono fun r ⟨o,h1,h2⟩=>by rw[h1,jl4 h2]
