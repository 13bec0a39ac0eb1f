/- A part of the proof. No further condition. -/
import Derived.Test.YtjcjcpebocbonaaGreatKZ17
set_option linter.all false
set_option maxRecDepth 10000000
set_option maxHeartbeats 16000000
namespace Go.Proofs.YtjcjcpebocbonaaGreat
section
set_option maxRecDepth 1000000
open Go.Abs
attribute [local go_sem] ints ic big
theorem jld{l:List Int}{m z:Int}(h:val l+1048576^l.length*m=z):val (l++[m % 1048576])+1048576^(l++[m % 1048576]).length*(m/1048576)=z:=by
 rw[jnx,zB,List.length_cons,List.length_nil,jcg,<-h];have e:(1048576:Int)^l.length*(m % 1048576)+1048576^l.length*1048576*(m/1048576)=1048576^l.length*m:=by
  rw[qI,<-qO,qU]
 omega
theorem jqd{n:Int}{k:Nat}(hn:n≠0)(h0:0<=n)(hk:k<=4)(h:n<1048576^(4-k)):k+1<=4/\n/1048576<1048576^(4-(k+1)):=by
 rcases zT k 4 with h1 | h1
 ·refine⟨h1,?_⟩;rw[show 4-k=(4-(k+1))+1 by omega,jcg]at h;omega
 ·rw[show 4-k=0 by omega,Int.pow_zero]at h;omega
theorem t_of(z:Int)(hz: -9223372036854775808<=z/\z<=9223372036854775807):Ctr G.P 76 [.int z] (· =big z):=by
 by_cases h0:z=0
 ·subst h0;refine ja4 [.cell 2 46] Tryz.func76 ?_;simp only[jm,jb4,Int.natAbs_zero,Int.sign_zero,zF,go_sem]
 ·have d0:decide (z=0)=false:=ze h0;have a7:∀(l:List Int),OkD l->val l=z.natAbs->l.length<=1000000000000->Ctr G.P 105 [.int z.sign,ints l] (· =big z):=fun l ho hv hl=>by
   have:=t_made z.sign l ho hl;rw[hv,Int.toNat_natCast,iNo]at this;exact this
  rcases qK h0 with a1 | hgt
  ·have d1:decide (z<0)=true:=zp a1;have b0:=zM a1;rw[b0]at a7;refine ja4 [.cell 2 46] Tryz.func76 ?_;simp only[d0,d1,go_sem];refine jdj [0,2,3,4] [2,22] [(4,22,3,1)] (fun g:Int×List Int=>⟨[(0,.im (.int (-g.1))),(2,.loc 2 2 0 0),(3,.im (.int (-1))),(4,.vec 22 3 1 (g.2.map ic))],[(2,2,[[.int 0,.sl []]])],[(22,1,g.2.length)]⟩)
    (fun g=>(0<=g.1/\g.1<= -z)/\OkD g.2/\val g.2+1048576^g.2.length*g.1= -z/\(g.2.length<=4/\g.1<1048576^(4-g.2.length))) (fun g=>g.1.toNat) (-z,[]) ?_ ?_ ⟨by dsimp only;omega,OkD.nil,by simp[val],by dsimp only;simp;omega⟩ ?_
   ·simp only[go_sem];simp
   ·simp only[zF,Int.neg_neg,go_sem]
   ·intro⟨n,l⟩ ⟨⟨n0,n1⟩,hl,hv,hlen,a8⟩;dsimp only at n0 n1 hl hv hlen a8;have a1:=a8;by_cases hn:n=0
    ·subst hn;rw[qW,yh]at hv;have hm:=a7 l hl (by omega) (by omega);simp only[Int.neg_zero,go_sem];refine ja0 hm ?_;simp only[go_sem]
    ·have dn:decide (-n=0)=false:=dFo;have hm:(-n).tmod 1048576= -(n % 1048576):=by rw[Int.neg_tmod,y6 n0]
     have hq:IntKind.i64.wrap ((-n).tdiv 1048576)= -(n/1048576):=by
      rw[Int.neg_tdiv,yH n0];exact jdi (by omega)
     by_cases hr:n % 1048576=0
     ·have a6:decide (-(n % 1048576)<0)=false:=dFo;have hz: -(n % 1048576)=n % 1048576:=by omega
      simp only[dn,hm,a6,hq,go_sem];refine⟨jgx _,by simp,by omega,?_⟩;refine ja7 (n/1048576,l++[n % 1048576]) ?_ (by dsimp only;omega) ⟨by dsimp only;omega,hl.append (OkD.cons (by omega) OkD.nil),jld hv,by dsimp only;rw[zB,List.length_cons,List.length_nil];exact jqd hn n0 hlen a1⟩;simp only[qv,zB,hz,go_sem]
     ·have a6:decide (-(n % 1048576)<0)=true:=dTo;have hz:IntKind.i64.wrap (0- -(n % 1048576))=n % 1048576:=by rw[show(0:Int)- -(n % 1048576)=n % 1048576 by omega];exact jdi (by omega)
      simp only[dn,hm,a6,hq,hz,go_sem];refine⟨jgx _,by simp,by omega,?_⟩;refine ja7 (n/1048576,l++[n % 1048576]) ?_ (by dsimp only;omega) ⟨by dsimp only;omega,hl.append (OkD.cons (by omega) OkD.nil),jld hv,by dsimp only;rw[zB,List.length_cons,List.length_nil];exact jqd hn n0 hlen a1⟩;simp only[qv,zB,hz,go_sem]
  ·have d1:decide (z<0)=false:=dFo;have b0:=zN hgt;rw[b0]at a7;refine ja4 [.cell 2 46] Tryz.func76 ?_;simp only[d0,d1,go_sem];refine jdj [0,2,3,4] [2,22] [(4,22,3,1)] (fun g:Int×List Int=>⟨[(0,.im (.int g.1)),(2,.loc 2 2 0 0),(3,.im (.int 1)),(4,.vec 22 3 1 (g.2.map ic))],[(2,2,[[.int 0,.sl []]])],[(22,1,g.2.length)]⟩)
    (fun g=>(0<=g.1/\g.1<=z)/\OkD g.2/\val g.2+1048576^g.2.length*g.1=z/\(g.2.length<=4/\g.1<1048576^(4-g.2.length))) (fun g=>g.1.toNat) (z,[]) ?_ ?_ ⟨by dsimp only;omega,OkD.nil,by simp[val],by dsimp only;simp;omega⟩ ?_
   ·simp only[go_sem];simp
   ·simp only[zF,go_sem]
   ·intro⟨n,l⟩ ⟨⟨n0,n1⟩,hl,hv,hlen,a1⟩;dsimp only at n0 n1 hl hv hlen a1;by_cases hn:n=0
    ·subst hn;rw[qW,yh]at hv;have hm:=a7 l hl (by omega) (by omega);simp only[go_sem];refine ja0 hm ?_;simp only[go_sem]
    ·have dn:decide (n=0)=false:=ze hn;have hm:n.tmod 1048576=n % 1048576:=y6 n0;have hq:IntKind.i64.wrap (n.tdiv 1048576)=n/1048576:=by
      rw[yH n0];exact jdi (by omega)
     have a6:decide (n % 1048576<0)=false:=dFo;simp only[dn,hm,a6,hq,go_sem];refine⟨jgx _,by simp,by omega,?_⟩;refine ja7 (n/1048576,l++[n % 1048576]) ?_ (by dsimp only;omega) ⟨by dsimp only;omega,hl.append (OkD.cons (by omega) OkD.nil),jld hv,by dsimp only;rw[zB,List.length_cons,List.length_nil];exact jqd hn n0 hlen a1⟩;simp only[qv,zB,go_sem]
end
section
set_option maxRecDepth 1000000
open Go.Abs
attribute [local go_sem] ints ic
theorem okd_gt{d:Int}:okd d=(!decide (d<0)&& !decide (1048575<d)):=by
 rw[okd,show(decide (1048576<=d))=decide (1048575<d)from yC.2 (by omega)]
theorem jn0(s:Int):jdp s []=decide (s=0):=by
 by_cases h:s=0
 ·subst h;rfl
 ·rw[ze h];simp[jdp,h]
theorem jmz{s:Int}{l:List Int}(ha:l.all okd=true)(hl:l≠[]):jdp s l=((decide (s=1) || decide (s= -1))&& !decide (dgt l (l.length-1)=0)):=by
 have hz:decide ((l.length:Int)=0)=false:=ze (by have:=qG.2 hl;omega);rw[jdp,ha,hz];generalize (decide (dgt l (l.length-1)=0))=b;by_cases h1:s=1
 ·subst h1;simp
 ·by_cases h2:s= -1
  ·subst h2;simp
  ·simp only[qu,yn];by_cases h3:s=0
   ·subst h3;simp
   ·by_cases h4:s< -1
    ·simp[h4,h1,h2]
    ·have h5:1<s:=by omega
     simp[h5,h1,h2]
theorem jo3(s:Int)(l:List Int)(hl:l.length<=1000000000000000):Ctr G.P 67 [.agg [.int s,ints l]] (· = .bool (jdp s l)):=by
 refine ja4 [.tmp 2] Tryz.func67 ?_;simp only[go_sem];refine jai [1,3,10,11,12] [1] (fun i:Nat=>⟨[(1,.loc 1 2 0 0),(3,.im (.int l.length)),(10,.im (.sl (l.map ic))),(11,.im (.int l.length)),(12,.im (.int i))],[(1,2,[[.int s,ints l]])],[]⟩) (fun i=>i<=l.length/\(l.take i).all okd=true) (fun i=>l.length-i) 0 ?_ ⟨zG _,rfl⟩ ?_
 ·simp only[Int.natCast_zero,go_sem]
 ·intro i ⟨hi,ha⟩;by_cases hp:(i:Int)<l.length
  ·have hd:decide ((i:Int)<l.length)=true:=zp hp;have hx:=jaz hp;have h1:=ja8 ((i:Int)+1);have hs:=jkf hp;have a6:okd (dgt l i)=false->jdp s l=false:=fun h=>by
    have:l.all okd=false:=by
     rw[wj];exact⟨_,zk hx,by simp[h]⟩
    simp[jdp,this]
   simp only[hd,zq,hx,go_sem];refine jc5 (fun d1=> ?_) (fun d1=> ?_)
   ·rw[a6 (by rw[okd_gt,d1];rfl)];simp only[d1,go_sem]
   ·simp only[d1,go_sem];refine jc5 (fun d2=> ?_) (fun d2=> ?_)
    ·rw[a6 (by rw[okd_gt,d1,d2];rfl)];simp only[go_sem]
    ·simp only[go_sem];refine ja7 (i+1) ?_ (by omega) ⟨by omega,by rw[hs,ha,okd_gt,d1,d2];rfl⟩;simp only[h1,Int.natCast_add,go_sem]
  ·have hd:decide ((i:Int)<l.length)=false:=ze hp;rw[tLo]at ha;by_cases h0:l=[]
   ·subst h0;clear hd hp;have hd:decide ((i:Int)<0)=false:=dFo;rw[jn0];simp only[List.length_nil,Int.natCast_zero,hd,vP,jm,go_sem]
   ·have b0:=qG.2 h0;have hz:decide ((l.length:Int)=0)=false:=dFo;have a1:l[l.length-1]? =some (dgt l (l.length-1)):=jaz (by omega);have hw:=ja8 ((l.length:Int)-1);have hn:((l.length:Int)-1).toNat=l.length-1:=by omega
    have a8:(0:Int)<=(l.length:Int)-1:=by omega
    have a7:(l.length:Int)-1<l.length:=by omega
    rw[jmz ha h0];simp only[hd,hz,go_sem];refine jc5 (fun d1=> ?_) (fun d1=> ?_)
    ·simp only[d1,hw,hn,a8,a7,zq,a1,go_sem]
    ·simp only[d1,go_sem];refine jc5 (fun d2=> ?_) (fun d2=> ?_)
     ·simp only[d1,d2,hw,hn,a8,a7,zq,a1,go_sem]
     ·simp only[d1,d2,go_sem]
end
section
set_option maxRecDepth 1000000
open Go.Abs
attribute [local go_sem] ints ic mb20 pw20 fd20
theorem t_psub(a b:List Int)(ha:OkD a)(hb:OkD b)(b9:val b<=val a)(la:a.length<=1000000000000)(lb:b.length<=1000000000000):Ctr G.P 96 [ints a,ints b] (· =ints (dig (val a-val b).toNat)):=by
 by_cases a7:a=[]
 ·subst a7;have h0:=jam hb;have hv:(val ([]:List Int)-val b).toNat=0:=by simp only[val]at*;omega
  rw[hv,jb4];have hc:=jl0 [] (by simp);have ht:=jfs [] OkD.nil (by simp);have hz:dig (val ([]:List Int)).toNat=[]:=jb4;rw[hz]at ht;simp only[ints,zF]at hc ht;refine ja4 [.tmp 4] Tryz.func96 ?_;simp only[zF,go_sem];refine ja0 hc ?_;simp only[go_sem];refine jai [1,5,6,12,13] [] (fun g:Unit=>⟨[(1,.im (.sl (b.map ic))),(5,.im (.sl [])),(6,.im (.int 0)),(12,.im (.int 0)),(13,.im (.int 0))],[],[]⟩) (fun _=>True) (fun _=>0) () ?_ trivial ?_
  ·simp only[Int.natCast_zero,go_sem]
  intro _ _;have hd:decide ((0:Int)<0)=false:=by decide
  simp only[hd,jI,go_sem];refine ja0 ht ?_;simp only[go_sem]
 have hc:=t_cloneH a a7 (by omega);simp only[ints]at hc;refine jp2 (goodH [] [42]) _ _ [.tmp 4] Tryz.func96 rfl rfl (by decide+kernel) rfl ?_;simp only[go_sem];refine jcw hc (by decide) rfl jb5 jba ?_;rintro _ _ ⟨X,rfl,rfl⟩ _;refine⟨_,jb9,?_⟩;have a7:=fun(d:Nat) (h:d<100000)=>hp_ne (n:=d) (b:=X) h;simp only[go_sem];refine jar [1,5,6,11,12,13] (fun g:Nat×List Int×Int=>⟨[(1,.im (.sl (b.map ic))),(5,.im (.ref X 3 1 a.length)),(6,.im (.int g.2.2)),(11,.im (.ref X 3 1 a.length)),(12,.im (.int a.length)),(13,.im (.int g.1))],[(hp X,1,g.2.1.map ic)],[]⟩)
  (fun g=>g.1<=a.length/\g.2.1.length=a.length/\OkD g.2.1/\0<=g.2.2/\g.2.2<=1/\val g.2.1-1048576^g.1*g.2.2=val a-val (b.take g.1))
  (fun g=>a.length-g.1) (0,a,0) ?_ ja5 rfl ⟨zG _,rfl,ha,yc _,by dsimp only;omega,by dsimp only;simp[val]⟩ ?_
 ·simp only[Int.natCast_zero,go_sem]
 intro⟨i,out,c⟩ ⟨hi,hl,ho,b5,b4,hv⟩;dsimp only at hi hl ho b5 b4 hv;by_cases a6:(i:Int)<a.length
 case neg=>
  have hd:decide ((i:Int)<a.length)=false:=ze a6;have b3:i=a.length:=by omega
  subst b3;have hvv:val out=val a-val b:=by
   have h1:=jdb ha;have h2:=jdb ho;have h3:=jam ho;rw[hl]at h2;rw[jfz hb (by omega)]at hv;generalize (1048576:Int)^a.length=p at*;have:c=0\/c=1:=by omega
   rcases this with rfl | rfl
   ·omega
   ·omega
  have ht:=jfs out ho (by omega);rw[hvv]at ht;have b1:(out.map ic).take a.length=out.map ic:=zY (by rw[za];omega);have hle:a.length<=out.length:=by omega
  simp only[ints]at ht;simp only[hd,b1,hle,go_sem];refine ja0 ht ?_;simp only[go_sem];refine jhj [] ?_;simp only[go_sem]
 case pos=>
  have hd:decide ((i:Int)<a.length)=true:=zp a6;have b7:=ho.dgt i;have b6:=hb.dgt i;have h1:=ja8 ((i:Int)+1);have hy:out[i]? =some (dgt out i):=jaz (by omega);have w1:=ja8 (dgt out i-c);have w2:=ja8 (dgt out i-c-dgt b i);have hs:=sub_step (by omega:i<out.length) hv rfl;have hn:dgt out i-c-dgt b i=dgt out i-dgt b i-c:=by omega
  rw[hn]at w2;generalize hN:dgt out i-dgt b i-c=n at*;have a1:=and20 n;have a2:=and1 (n/1048576) (by omega);have a3:n/1048576 % 2= -(n/1048576):=by omega
  rw[a3]at a2;have fin:(0<= -(n/1048576)/\ -(n/1048576)<=1)/\(out.set i (n % 1048576)).length=a.length/\OkD (out.set i (n % 1048576)):=
   ⟨by omega,by rw[qd];exact hl,ho.set (by omega)⟩
  obtain⟨f1,f2,f3⟩:=fin;by_cases b0:(i:Int)<b.length
  ·have a8:decide ((i:Int)<b.length)=true:=zp b0;have b2:=jaz b0;simp only[hd,a8,zq,b2,w1,hn,hN,w2,a6,hy,a1,a2,go_sem];refine jac (i+1,out.set i (n % 1048576),-(n/1048576)) ?_ (SubR.of_eq ?_) rfl ?_ ⟨?_,f2,f3,f1.1,f1.2,hs⟩
   ·simp only[h1,hn,hN,w2,a1,a2,Int.natCast_add,qm,go_sem]
   ·simp only[h1,hn,hN,w2,a1,a2,Int.natCast_add,qm,go_sem]
   ·show a.length-(i+1)<a.length-i;omega
   ·show i+1<=a.length;omega
  ·have a8:decide ((i:Int)<b.length)=false:=ze b0;have b8:dgt b i=0:=jdn (by omega);have hn2:dgt out i-c=n:=by omega
   rw[hn2]at w1;simp only[hd,a8,zq,hn2,w1,a6,hy,a1,a2,go_sem];refine jac (i+1,out.set i (n % 1048576),-(n/1048576)) ?_ (SubR.of_eq ?_) rfl ?_ ⟨?_,f2,f3,f1.1,f1.2,hs⟩
   ·simp only[h1,hn2,w1,a1,a2,Int.natCast_add,qm,go_sem]
   ·simp only[h1,hn2,w1,a1,a2,Int.natCast_add,qm,go_sem]
   ·show a.length-(i+1)<a.length-i;omega
   ·show i+1<=a.length;omega
end
section
set_option maxRecDepth 1000000
open Go.Abs
theorem jte{s:Int}{l:List Int}(h:jdp s l=true):∃z:Int,s=z.sign/\l=dig z.natAbs:=by
 have h0:=h;rw[jdp,zn]at h0;have a1:=h0.1;have a7:OkD l:=all_okd.1 a1;by_cases hl:l=[]
 ·subst hl;rw[jn0]at h;exact⟨0,zI h,by rw[Int.natAbs_zero,jb4]⟩
 ·rw[jmz a1 hl,zn,qt,yR,zO,zO,qg]at h;have b0:=qG.2 hl;have a6:l.getLast? ≠some 0:=fun e=>h.2 (by
   rw[y9]at e;have:=jaz (l:=l) (i:=l.length-1) (by omega);rw[e]at this;exact(jJ this).symm)
  have he:=eq_dig a7 a6;have a8:(val l).toNat≠0:=fun e=>hl (by rw[e,jb4]at he;exact he);rcases h.1 with h1 | h1
  ·exact⟨(val l).toNat,by rw[h1,zN (by omega)],by rw[Int.natAbs_natCast];exact he⟩
  ·exact⟨-(val l).toNat,by rw[h1,zM (by omega)],by rw[qT,Int.natAbs_natCast];exact he⟩
theorem jg9{a b q r:Int}(h:a=b*q+r)(h1:(0<=r/\r<b)\/(b<r/\r<=0)):a.fdiv b=q/\a.fmod b=r:=by
 have hq:a.fdiv b=q:=by
  rcases h1 with h1 | h1
  ·rw[yI _ (by omega)];exact((Int.ediv_emod_unique (a:=a) (b:=b) (q:=q) (r:=r) (by omega)).2 ⟨by omega,h1⟩).1
  ·rw[<-Int.neg_fdiv_neg,yI _ (by omega)];exact((Int.ediv_emod_unique (a:= -a) (b:= -b) (q:=q) (r:= -r) (by omega)).2 ⟨by rw[h,vG];omega,by omega⟩).1
 exact⟨hq,by rw[Int.fmod_def,hq];omega⟩
theorem jqr{a b:Int}(hb:b≠0)(h:¬a.sign*b.sign<0\/a.natAbs % b.natAbs=0):
  (a.natAbs/b.natAbs=(a.fdiv b).natAbs/\(a.fdiv b≠0->a.sign*b.sign=(a.fdiv b).sign))/\(a.natAbs % b.natAbs=(a.fmod b).natAbs/\(a.fmod b≠0->a.sign=(a.fmod b).sign)):=by
 have hd:=jK a.natAbs b.natAbs;have hm:=jO a.natAbs (y:=b.natAbs) (by omega);generalize a.natAbs/b.natAbs=q at*;generalize a.natAbs % b.natAbs=r at*;have a1:(b.natAbs:Int)*q+r=a.natAbs:=by exact_mod_cast hd
 have hp:∀n:Nat,(n:Int)≠0->(n:Int).sign=1:=fun n hn=>zN (by omega);have hn:∀n:Nat,-(n:Int)≠0->(-(n:Int)).sign= -1:=fun n hn=>zM (by omega);rcases yf a 0 with ha | ha | ha
 ·rw[zM ha]at h⊢;rcases qK hb with h1 | h1
  ·rw[zM h1]at h⊢;have e1:(b.natAbs:Int)= -b:=by omega
   rw[e1,vG]at a1;obtain⟨f1,f2⟩:=jg9 (a:=a) (b:=b) (q:=q) (r:= -r) (by omega) (by omega);rw[f1,f2];exact⟨⟨(Int.natAbs_natCast q).symm,fun h=>(hp q h).symm⟩,by omega,fun h=>(hn r h).symm⟩
  ·rw[zN h1]at h⊢;have hr:r=0:=h.resolve_left (by omega);subst hr;have e1:(b.natAbs:Int)=b:=by omega
   rw[e1]at a1;obtain⟨f1,f2⟩:=jg9 (a:=a) (b:=b) (q:= -q) (r:=0) (by rw[yY];omega) (by omega);rw[f1,f2];exact⟨⟨by omega,fun h=>(hn q h).symm⟩,rfl,fun h=>absurd rfl h⟩
 ·subst ha;have hr:r=0/\b.natAbs*q=0:=by simp at hd;omega
  have hq:q=0:=by
   rcases wl.1 hr.2 with h | h<;>omega
  rw[hr.1,hq];simp
 ·rw[zN ha]at h⊢;rcases qK hb with h1 | h1
  ·rw[zM h1]at h⊢;have hr:r=0:=h.resolve_left (by omega);subst hr;have e1:(b.natAbs:Int)= -b:=by omega
   rw[e1,vG]at a1;obtain⟨f1,f2⟩:=jg9 (a:=a) (b:=b) (q:= -q) (r:=0) (by rw[yY];omega) (by omega);rw[f1,f2];exact⟨⟨by omega,fun h=>(hn q h).symm⟩,rfl,fun h=>absurd rfl h⟩
  ·rw[zN h1]at h⊢;have e1:(b.natAbs:Int)=b:=by omega
   rw[e1]at a1;obtain⟨f1,f2⟩:=jg9 (a:=a) (b:=b) (q:=q) (r:=r) (by omega) (by omega);rw[f1,f2];exact⟨⟨(Int.natAbs_natCast q).symm,fun h=>(hp q h).symm⟩,(Int.natAbs_natCast r).symm,fun h=>(hp r h).symm⟩
theorem jt6{a b:Int}(h:a.sign*b.sign<0)(hr:a.natAbs % b.natAbs≠0):
  (a.natAbs/b.natAbs+1=(a.fdiv b).natAbs/\(a.fdiv b≠0-> -1=(a.fdiv b).sign))/\(b.natAbs-a.natAbs % b.natAbs=(a.fmod b).natAbs/\(a.fmod b≠0->b.sign=(a.fmod b).sign)):=by
 have hb:b≠0:=fun e=>by subst e;simp at h
 have ha:a≠0:=fun e=>by subst e;simp at h
 have hd:=jK a.natAbs b.natAbs;have hm:=jO a.natAbs (y:=b.natAbs) (by omega);generalize a.natAbs/b.natAbs=q at*;generalize a.natAbs % b.natAbs=r at*;have a1:(b.natAbs:Int)*q+r=a.natAbs:=by exact_mod_cast hd
 have hn:(-((q:Int)+1)).sign= -1:=zM (by omega);rcases qK ha with ha | ha
 ·rw[zM ha]at h;rcases qK hb with h1 | h1
  ·rw[zM h1]at h;omega
  ·have e1:(b.natAbs:Int)=b:=by omega
   rw[e1]at a1;obtain⟨f1,f2⟩:=jg9 (a:=a) (b:=b) (q:= -((q:Int)+1)) (r:=b-r) (by rw[yY,qO,jb];omega) (by omega);rw[f1,f2];exact⟨⟨by omega,fun _=>hn.symm⟩,by omega,fun _=>by rw[zN h1,zN (by omega)]⟩
 ·rw[zN ha]at h;rcases qK hb with h1 | h1
  ·have e1:(b.natAbs:Int)= -b:=by omega
   rw[e1,vG]at a1;obtain⟨f1,f2⟩:=jg9 (a:=a) (b:=b) (q:= -((q:Int)+1)) (r:=b+r) (by rw[yY,qO,jb];omega) (by omega);rw[f1,f2];exact⟨⟨by omega,fun _=>hn.symm⟩,by omega,fun _=>by rw[zM h1,zM (by omega)]⟩
  ·rw[zN h1]at h;omega
theorem jcl(z:Int)(h:(dig z.natAbs).length<=1000000000000):Ctr G.P 67 [big z] (· = .bool true):=by
 have:=jo3 z.sign (dig z.natAbs) (by omega);rw[jir]at this;exact this
attribute [local go_sem] ints ic big
theorem jef(s z:Int)(n:Nat)(hn:n=z.natAbs)(hs:z≠0->s=z.sign)(h:(dig z.natAbs).length<=1000000000000):Ctr G.P 93 [.int s,ints (dig n)] (· =big z):=by
 subst hn;have ht:=jfs (dig z.natAbs) (jbe _) h;rw[jaq,Int.toNat_natCast]at ht;by_cases hz:z=0
 ·subst hz;rw[Int.natAbs_zero,jb4]at ht⊢;refine ja4 [.cell 4 46] Tryz.func93 ?_;simp only[go_sem];refine ja0 ht ?_;simp only[Int.natAbs_zero,jb4,List.length_nil,Int.natCast_zero,jm,zF,Int.sign_zero,go_sem]
 ·have a1:decide (((dig z.natAbs).length:Int)=0)=false:=ze fun h=>by
   have:dig z.natAbs=[]:=qY.1 (by omega);rw[dig_nil]at this;omega
  rw[hs hz];refine ja4 [.cell 4 46] Tryz.func93 ?_;simp only[go_sem];refine ja0 ht ?_;simp only[a1,go_sem]
theorem jl1(z:Int):Ctr G.P 97 [.bool true,big z] (· = .tup [big z,.int 0]):=by
 refine ja4 [.cell 4 46,.tmp 5] Tryz.func97 ?_;simp only[go_sem]
theorem t_pmulb(a b:Int)(la:(dig a.natAbs).length<=100000000000)(lb:(dig b.natAbs).length<=100000000000):Ctr G.P 74 [big a,big b] (· = .tup [big (a*b),.int 0]):=by
 have ra:=jcl a (by omega);have rb:=jcl b (by omega);have ht:=t_pmul (dig a.natAbs) (dig b.natAbs) (jbe _) (jbe _) la lb;rw[jaq,jaq,<-Int.natCast_mul,Int.toNat_natCast]at ht;have hl:(dig (a*b).natAbs).length<=1000000000000:=by
  rw[jB];have:=jln la lb;omega
 have hm:=jef (a.sign*b.sign) (a*b) (a.natAbs*b.natAbs) (by rw[jB]) (fun _=>(vz a b).symm) hl;have hc:=jl1 (a*b);have w:=jdi (n:=a.sign*b.sign) (by rw[<-vz];have:=jh3 (a*b);omega);refine ja4 [.cell 4 46,.tmp 5] Tryz.func74 ?_;simp only[go_sem];refine ja0 ra ?_;simp only[go_sem];refine ja0 rb ?_;simp only[go_sem];refine jah ?_;simp only[w,go_sem];refine ja3 ht (by decide) ?_;simp only[go_sem];refine ja3 hm (by decide) ?_;simp only[go_sem];refine ja3 hc (by decide) ?_;simp only[go_sem]
theorem cmpI_sign{a b:Int}(h:a.sign≠b.sign):cmpI a.sign b.sign=cmpI a b:=by
 rcases qK h with h1 | h1
 ·have:=sign_lt h1;rw[cmpI,cmpI,zh h1,zh this]
 ·have:=sign_lt h1;rw[cmpI,cmpI,iNo,iNo,iNo,iNo]
theorem jp4{a b:Int}(h:a.sign=b.sign):a.sign*cmpI a.natAbs b.natAbs=cmpI a b:=by
 rcases yf a 0 with h1 | h1 | h1
 ·have e:=zM h1;have h2:b<0:=by
   rw[e]at h;exact Int.neg_of_sign_eq_neg_one h.symm
  rw[e];unfold cmpI;split<;>split<;>(try split)<;>(try split)<;>omega
 ·subst h1;have:b=0:=yj.1 h.symm;subst this;rfl
 ·have e:=zN h1;have h2:0<b:=by
   rw[e]at h;exact Int.pos_of_sign_eq_one h.symm
  rw[e];unfold cmpI;split<;>split<;>(try split)<;>(try split)<;>omega
theorem cmpI_le(a b:Int): -1<=cmpI a b/\cmpI a b<=1:=by
 unfold cmpI;split<;>(try split)<;>omega
theorem t_pcompareb(a b:Int)(la:(dig a.natAbs).length<=1000000000000)(lb:(dig b.natAbs).length<=1000000000000):Ctr G.P 46 [big a,big b] (· = .int (cmpI a b)):=by
 have ra:=jcl a (by omega);have rb:=jcl b (by omega);by_cases hs:a.sign=b.sign
 ·have hc:=jg0 a.natAbs b.natAbs la lb;have hd:decide (a.sign=b.sign)=true:=zp hs;have w:=jdi (n:=a.sign*cmpI a.natAbs b.natAbs) (by rw[jp4 hs];have:=cmpI_le a b;omega);rw[jp4 hs]at w;have he:=jp4 hs;refine ja4 [.tmp 4] Tryz.func46 ?_;simp only[go_sem];refine ja0 ra ?_;simp only[go_sem];refine ja0 rb ?_;simp only[hd,go_sem];refine jaf 9 ?_;simp only[go_sem];refine ja3 hc (by decide) ?_;simp only[he,w,go_sem]
 ·have hc:=t_cmp a.sign b.sign;rw[cmpI_sign hs]at hc;have hd:decide (a.sign=b.sign)=false:=ze hs;refine ja4 [.tmp 4] Tryz.func46 ?_;simp only[go_sem];refine ja0 ra ?_;simp only[go_sem];refine ja0 rb ?_;simp only[hd,go_sem];refine ja0 hc ?_;simp only[go_sem]
end
section
set_option maxRecDepth 1000000
open Go.Abs
attribute [local go_sem] ints ic mb20 pw20 fd20
theorem t_padd(x y:List Int)(hx:OkD x)(hy:OkD y)(lx:x.length<=100000000000)(ly:y.length<=100000000000):Ctr G.P 95 [ints x,ints y] (· =ints (dig (val x+val y).toNat)):=by
 by_cases c4:(x.length:Int)<y.length
 ·have b8:decide ((x.length:Int)<y.length)=true:=zp c4;rw[Int.add_comm (val x)];obtain⟨a,rfl⟩:∃a,a=y:=⟨_,rfl⟩;obtain⟨b,rfl⟩:∃b,b=x:=⟨_,rfl⟩;have ha:=hy;have hb:=hx;have c3:b.length<=a.length:=by omega
  refine ja4 [.tmp 4] Tryz.func95 ?_;simp only[b8,go_sem];have w0:=ja8 ((a.length:Int)+1);have b4:((a.length:Int)+1)*8<=140737488355328:=by omega
  have b3:(0:Int)<=(a.length:Int)+1:=by omega
  have b0:((a.length:Int)+1).toNat=a.length+1:=by omega
  simp only[w0,b4,b3,b0,go_sem];refine jai [0,1,5,6,20,21,22] [19] (fun g:Nat×List Int×Int=>⟨[(0,.im (.sl (a.map ic))),(1,.im (.sl (b.map ic))),(5,.gsl 19 3 1 (a.length+1)),(6,.im (.int g.2.2)),(20,.im (.sl (a.map ic))),(21,.im (.int a.length)),(22,.im (.int g.1))],[(19,1,g.2.1.map ic)],[]⟩)
   (fun g=>g.1<=a.length/\g.2.1.length=a.length+1/\OkD g.2.1/\0<=g.2.2/\g.2.2<=1/\val g.2.1+1048576^g.1*g.2.2=val (a.take g.1)+val (b.take g.1)/\∀j,g.1<=j->dgt g.2.1 j=0)
   (fun g=>a.length-g.1) (0,List.replicate (a.length+1) 0,0) ?_
   ⟨zG _,zQ,OkD.replicate _,yc _,by dsimp only;omega,by dsimp only;rw[jdz];simp[val],fun j _=>by
    unfold dgt;rw[yi];split<;>rfl⟩ ?_
  ·simp only[Int.natCast_zero,yw,zQ,b0,go_sem]
  intro⟨i,out,c⟩ ⟨hi,hl,ho,c0,b9,hv,hz⟩;dsimp only at hi hl ho c0 b9 hv hz;by_cases hp:(i:Int)<a.length
  case neg=>
   have hd:decide ((i:Int)<a.length)=false:=ze hp;have b7:i=a.length:=by omega
   subst b7;have a6:(a.length:Int)<((a.length+1:Nat):Int):=by omega
   have b6:OkD (out.set a.length c):=ho.set (by omega);have hvv:val (out.set a.length c)=val a+val b:=by
    rw[jgf _ _ _ (by omega),hz _ (zu _),jG,hv,jbx (zu _),jbx c3]
   have ht:=jfs (out.set a.length c) b6 (by rw[qd];omega);rw[hvv]at ht;have hy:out[a.length]? =some (dgt out a.length):=jaz (by omega);have b1:(out.map ic).set a.length [.sc (.int .i64 c)]=(out.set a.length c).map ic:=by rw[qm];rfl
   have b2:((out.set a.length c).map ic).take (a.length+1)=(out.set a.length c).map ic:=zY (by rw[za,qd];omega);have hle:a.length+1<=(out.set a.length c).length:=by rw[qd];omega
   have c5:(0:Int)<=a.length:=by omega
   simp only[ints]at ht;simp only[hd,a6,zq,hy,b1,b2,hle,go_sem];refine ja0 ht ?_;simp only[go_sem]
  case pos=>
   have hd:decide ((i:Int)<a.length)=true:=zp hp;have hx:=jaz hp;have c7:=ha.dgt i;have c6:=hb.dgt i;have h1:=ja8 ((i:Int)+1);have a6:(i:Int)<((a.length+1:Nat):Int):=by omega
   have hy:out[i]? =some (dgt out i):=jaz (by omega);have w1:=ja8 (c+dgt a i);have w2:=ja8 (c+dgt a i+dgt b i);have hn:c+dgt a i+dgt b i=dgt a i+dgt b i+c:=by omega
   rw[hn]at w2;have hs:=jth (by omega:i<out.length) (hz i (zu _)) hv rfl;generalize hN:dgt a i+dgt b i+c=n at*;have a1:=and20 n;have fin:(0<=n/1048576/\n/1048576<=1)/\(out.set i (n % 1048576)).length=a.length+1/\OkD (out.set i (n % 1048576))/\∀j,i+1<=j->dgt (out.set i (n % 1048576)) j=0:=
    ⟨by omega,by rw[qd];exact hl,ho.set (by omega),fun j hj=>by rw[jnk (by omega)];exact hz j (by omega)⟩
   obtain⟨f1,f2,f3,f4⟩:=fin;by_cases a8:(i:Int)<b.length
   ·have a7:decide ((i:Int)<b.length)=true:=zp a8;have b5:=jaz a8;simp only[hd,a7,zq,hx,b5,w1,hn,hN,w2,a6,hy,a1,go_sem];refine ja7 (i+1,out.set i (n % 1048576),n/1048576) ?_ ?_ ⟨?_,f2,f3,f1.1,f1.2,hs,f4⟩
    ·simp only[h1,hn,hN,w2,Int.natCast_add,qm,go_sem]
    ·show a.length-(i+1)<a.length-i;omega
    ·show i+1<=a.length;omega
   ·have a7:decide ((i:Int)<b.length)=false:=ze a8;have c8:dgt b i=0:=jdn (by omega);have hn2:c+dgt a i=n:=by omega
    rw[hn2]at w1;simp only[hd,a7,zq,hx,hn2,w1,a6,hy,a1,go_sem];refine ja7 (i+1,out.set i (n % 1048576),n/1048576) ?_ ?_ ⟨?_,f2,f3,f1.1,f1.2,hs,f4⟩
    ·simp only[h1,hn2,w1,Int.natCast_add,qm,go_sem]
    ·show a.length-(i+1)<a.length-i;omega
    ·show i+1<=a.length;omega
 ·have b8:decide ((x.length:Int)<y.length)=false:=ze c4;obtain⟨a,rfl⟩:∃a,a=x:=⟨_,rfl⟩;obtain⟨b,rfl⟩:∃b,b=y:=⟨_,rfl⟩;have ha:=hx;have hb:=hy;have c3:b.length<=a.length:=by omega
  refine ja4 [.tmp 4] Tryz.func95 ?_;simp only[b8,go_sem];have w0:=ja8 ((a.length:Int)+1);have b4:((a.length:Int)+1)*8<=140737488355328:=by omega
  have b3:(0:Int)<=(a.length:Int)+1:=by omega
  have b0:((a.length:Int)+1).toNat=a.length+1:=by omega
  simp only[w0,b4,b3,b0,go_sem];refine jai [0,1,5,6,20,21,22] [19] (fun g:Nat×List Int×Int=>⟨[(0,.im (.sl (a.map ic))),(1,.im (.sl (b.map ic))),(5,.gsl 19 3 1 (a.length+1)),(6,.im (.int g.2.2)),(20,.im (.sl (a.map ic))),(21,.im (.int a.length)),(22,.im (.int g.1))],[(19,1,g.2.1.map ic)],[]⟩)
   (fun g=>g.1<=a.length/\g.2.1.length=a.length+1/\OkD g.2.1/\0<=g.2.2/\g.2.2<=1/\val g.2.1+1048576^g.1*g.2.2=val (a.take g.1)+val (b.take g.1)/\∀j,g.1<=j->dgt g.2.1 j=0)
   (fun g=>a.length-g.1) (0,List.replicate (a.length+1) 0,0) ?_
   ⟨zG _,zQ,OkD.replicate _,yc _,by dsimp only;omega,by dsimp only;rw[jdz];simp[val],fun j _=>by
    unfold dgt;rw[yi];split<;>rfl⟩ ?_
  ·simp only[Int.natCast_zero,yw,zQ,b0,go_sem]
  intro⟨i,out,c⟩ ⟨hi,hl,ho,c0,b9,hv,hz⟩;dsimp only at hi hl ho c0 b9 hv hz;by_cases hp:(i:Int)<a.length
  case neg=>
   have hd:decide ((i:Int)<a.length)=false:=ze hp;have b7:i=a.length:=by omega
   subst b7;have a6:(a.length:Int)<((a.length+1:Nat):Int):=by omega
   have b6:OkD (out.set a.length c):=ho.set (by omega);have hvv:val (out.set a.length c)=val a+val b:=by
    rw[jgf _ _ _ (by omega),hz _ (zu _),jG,hv,jbx (zu _),jbx c3]
   have ht:=jfs (out.set a.length c) b6 (by rw[qd];omega);rw[hvv]at ht;have hy:out[a.length]? =some (dgt out a.length):=jaz (by omega);have b1:(out.map ic).set a.length [.sc (.int .i64 c)]=(out.set a.length c).map ic:=by rw[qm];rfl
   have b2:((out.set a.length c).map ic).take (a.length+1)=(out.set a.length c).map ic:=zY (by rw[za,qd];omega);have hle:a.length+1<=(out.set a.length c).length:=by rw[qd];omega
   have c5:(0:Int)<=a.length:=by omega
   simp only[ints]at ht;simp only[hd,a6,zq,hy,b1,b2,hle,go_sem];refine ja0 ht ?_;simp only[go_sem]
  case pos=>
   have hd:decide ((i:Int)<a.length)=true:=zp hp;have hx:=jaz hp;have c7:=ha.dgt i;have c6:=hb.dgt i;have h1:=ja8 ((i:Int)+1);have a6:(i:Int)<((a.length+1:Nat):Int):=by omega
   have hy:out[i]? =some (dgt out i):=jaz (by omega);have w1:=ja8 (c+dgt a i);have w2:=ja8 (c+dgt a i+dgt b i);have hn:c+dgt a i+dgt b i=dgt a i+dgt b i+c:=by omega
   rw[hn]at w2;have hs:=jth (by omega:i<out.length) (hz i (zu _)) hv rfl;generalize hN:dgt a i+dgt b i+c=n at*;have a1:=and20 n;have fin:(0<=n/1048576/\n/1048576<=1)/\(out.set i (n % 1048576)).length=a.length+1/\OkD (out.set i (n % 1048576))/\∀j,i+1<=j->dgt (out.set i (n % 1048576)) j=0:=
    ⟨by omega,by rw[qd];exact hl,ho.set (by omega),fun j hj=>by rw[jnk (by omega)];exact hz j (by omega)⟩
   obtain⟨f1,f2,f3,f4⟩:=fin;by_cases a8:(i:Int)<b.length
   ·have a7:decide ((i:Int)<b.length)=true:=zp a8;have b5:=jaz a8;simp only[hd,a7,zq,hx,b5,w1,hn,hN,w2,a6,hy,a1,go_sem];refine ja7 (i+1,out.set i (n % 1048576),n/1048576) ?_ ?_ ⟨?_,f2,f3,f1.1,f1.2,hs,f4⟩
    ·simp only[h1,hn,hN,w2,Int.natCast_add,qm,go_sem]
    ·show a.length-(i+1)<a.length-i;omega
    ·show i+1<=a.length;omega
   ·have a7:decide ((i:Int)<b.length)=false:=ze a8;have c8:dgt b i=0:=jdn (by omega);have hn2:c+dgt a i=n:=by omega
    rw[hn2]at w1;simp only[hd,a7,zq,hx,hn2,w1,a6,hy,a1,go_sem];refine ja7 (i+1,out.set i (n % 1048576),n/1048576) ?_ ?_ ⟨?_,f2,f3,f1.1,f1.2,hs,f4⟩
    ·simp only[h1,hn2,w1,Int.natCast_add,qm,go_sem]
    ·show a.length-(i+1)<a.length-i;omega
    ·show i+1<=a.length;omega
end
section
set_option maxRecDepth 1000000
open Go.Abs
attribute [local go_sem] ints ic big
theorem len_fmod{a b:Int}{k:Nat}(hb:b≠0)(lb:(dig b.natAbs).length<=k):(dig (a.fmod b).natAbs).length<=k:=by
 refine jcm ?_ lb;rcases qK hb with h | h
 ·have h1:a.fmod b= -((-a).fmod (-b)):=by rw[Int.fmod_def,Int.fmod_def,Int.neg_fdiv_neg,vG];omega
  have h2:=Int.fmod_lt_of_pos (-a) (b:= -b) (by omega);have h3:=Int.fmod_nonneg_of_pos (-a) (b:= -b) (by omega);omega
 ·have h2:=Int.fmod_lt_of_pos a h;have h3:=Int.fmod_nonneg_of_pos a h;omega
theorem len_fdiv{a b:Int}{k:Nat}(hb:b≠0)(la:(dig a.natAbs).length<=k):(dig (a.fdiv b).natAbs).length<=k+1:=by
 have h0:a.natAbs/b.natAbs<=a.natAbs:=wn _ _;have one:(dig 1).length<=k+1:=qH (jb2 (k:=1) (by decide)) (by omega);by_cases h:¬a.sign*b.sign<0\/a.natAbs % b.natAbs=0
 ·have:=(jqr hb h).1.1;rw[<-this];exact qH (jcm h0 la) (by omega)
 ·simp only[wb,Classical.not_not]at h;have:=(jt6 h.1 h.2).1.1;rw[<-this];refine jb2 ?_;have h1:=jhp la;rw[jcg];have h2:(0:Int)<1048576^k:=jdd k;omega
theorem jr7(a b:Int)(hb:b≠0)(la:(dig a.natAbs).length<=50000000000)(lb:(dig b.natAbs).length<=50000000000):Ctr G.P 68 [big a,big b] (· = .tup [big (a.fdiv b),big (a.fmod b),.int 0]):=by
 have ra:=jcl a (by omega);have rb:=jcl b (by omega);have a7:decide (b.sign=0)=false:=ze fun h=>hb (yj.1 h);have ho:=t_pdiv a.natAbs b.natAbs (by omega) la lb;have b2:=len_fdiv hb la;have b1:=len_fmod (a:=a) hb lb;have w:=jdi (n:=a.sign*b.sign) (by rw[<-vz];have:=jh3 (a*b);omega);have hB:0<b.natAbs:=by omega
 have a8:=jO a.natAbs hB;by_cases h:¬a.sign*b.sign<0\/a.natAbs % b.natAbs=0
 ·obtain⟨⟨e1,e2⟩,e3,e4⟩:=jqr hb h;have hm:=jef (a.sign*b.sign) (a.fdiv b) (a.natAbs/b.natAbs) e1 e2 (by omega);have a1:=jef a.sign (a.fmod b) (a.natAbs % b.natAbs) e3 e4 (by omega);refine ja4 [.cell 4 46,.cell 5 46,.tmp 6] Tryz.func68 ?_;simp only[go_sem];refine ja0 ra ?_;simp only[go_sem];refine ja0 rb ?_;simp only[a7,go_sem];refine ja0 ho ?_;simp only[w,go_sem];refine jbq (fun d d'=> ?_) (fun d d'=> ?_)
  ·have hz:=h.resolve_left (fun h=>h d');rw[hz,jb4]at a1;simp only[d,hz,jb4,zF,List.length_nil,Int.natCast_zero,jI,go_sem];refine jah ?_;simp only[w,go_sem];refine ja3 hm (by decide) ?_;simp only[go_sem];refine ja3 a1 (by decide) ?_;simp only[go_sem]
  ·simp only[d,go_sem];refine jah ?_;simp only[w,go_sem];refine ja3 hm (by decide) ?_;simp only[go_sem];refine ja3 a1 (by decide) ?_;simp only[go_sem]
 ·simp only[wb,Classical.not_not]at h;obtain⟨hs,hr⟩:=h;obtain⟨⟨e1,e2⟩,e3,e4⟩:=jt6 hs hr;have hd:decide (a.sign*b.sign<0)=true:=zp hs;have hlen:decide (0<((dig (a.natAbs % b.natAbs)).length:Int))=true:=zp (by
   have:dig (a.natAbs % b.natAbs)≠[]:=fun h=>hr (dig_nil.1 h);have:=qG.2 this;omega)
  have hle:(dig (a.natAbs/b.natAbs)).length<=50000000000:=jcm (wn _ _) la;have b0:(dig (a.natAbs % b.natAbs)).length<=50000000000:=jcm (by omega) lb;have a6:OkD [1]:=OkD.cons (by omega) OkD.nil;have hp:=t_padd (dig (a.natAbs/b.natAbs)) [1] (jbe _) a6 (by omega) (by simp);rw[jaq,jji,show((a.natAbs/b.natAbs:Nat)+1:Int).toNat=a.natAbs/b.natAbs+1 by omega]at hp;simp only[ints,ic,zt,zF]at hp;have hq:=t_psub (dig b.natAbs) (dig (a.natAbs % b.natAbs)) (jbe _) (jbe _) (by rw[jaq,jaq];omega) (by omega) (by omega);rw[jaq,jaq,show((b.natAbs:Int)-(a.natAbs % b.natAbs:Nat)).toNat=b.natAbs-a.natAbs % b.natAbs by omega]at hq;have hm:=jef (-1) (a.fdiv b) (a.natAbs/b.natAbs+1) e1 e2 (by omega);have a1:=jef b.sign (a.fmod b) (b.natAbs-a.natAbs % b.natAbs) e3 e4 (by omega);refine ja4 [.cell 4 46,.cell 5 46,.tmp 6] Tryz.func68 ?_;simp only[go_sem];refine ja0 ra ?_;simp only[go_sem];refine ja0 rb ?_;simp only[a7,go_sem];refine ja0 ho ?_;simp only[w,hd,hlen,go_sem];refine jah ?_;simp only[w,go_sem];refine ja3 hp (by decide) ?_;simp only[go_sem];refine ja3 hm (by decide) ?_;simp only[go_sem];refine ja3 hq (by decide) ?_;simp only[go_sem];refine ja3 a1 (by decide) ?_;simp only[go_sem]
theorem t_pgcd(a b:Int)(la:(dig a.natAbs).length<=50000000000)(lb:(dig b.natAbs).length<=50000000000):Ctr G.P 69 [big a,big b] (· = .tup [big (Nat.gcd a.natAbs b.natAbs:Nat),.int 0]):=by
 have ra:=jcl a (by omega);have rb:=jcl b (by omega);have a8:=jl0 (dig a.natAbs) (by omega);refine ja4 [.cell 4 46,.tmp 5] Tryz.func69 ?_;simp only[go_sem];refine ja0 ra ?_;simp only[go_sem];refine ja0 rb ?_;simp only[go_sem];refine jaf 7 ?_;simp only[go_sem];refine ja3 a8 (by decide) ?_;simp only[go_sem];refine jai [4,6,7] [4] (fun g:Nat×Nat=>⟨[(4,.loc 4 2 0 0),(6,.im (.sl ((dig g.1).map ic))),(7,.im (.sl ((dig g.2).map ic)))],[(4,2,[[.int 0,.sl []]])],[]⟩)
  (fun g=>Nat.gcd g.1 g.2=Nat.gcd a.natAbs b.natAbs/\(dig g.1).length<=50000000000/\(dig g.2).length<=50000000000) (fun g=>g.2) (a.natAbs,b.natAbs) ?_ ⟨rfl,la,lb⟩ ?_
 ·simp only[go_sem]
 ·intro⟨x,y⟩ ⟨hg,lx,ly⟩;dsimp only at hg lx ly;by_cases hy:y=0
  ·subst hy;rw[Nat.gcd_zero_right]at hg;rw[<-hg];have hm:=jef 1 x x (by omega) (fun h=>(zN (by omega)).symm) (by rw[Int.natAbs_natCast];omega);have hc:=jl1 x;have a7:=jl0 (dig x) (by omega);simp only[jb4,zF,go_sem];refine ja0 a7 ?_;simp only[go_sem];refine ja0 hm ?_;simp only[go_sem];refine ja0 hc ?_;simp only[go_sem]
  ·have a1:dig y≠[]:=fun h=>hy (dig_nil.1 h);have b0:=qG.2 a1;have hd:decide (0<((dig y).length:Int))=true:=dTo;have ho:=t_pdiv x y (by omega) (by omega) ly;have a6:=jO x (by omega:y>0);simp only[hd,go_sem];refine ja0 ho ?_;simp only[go_sem];refine ja7 (y,x % y) ?_ a6 ⟨?_,ly,jcm (by omega) ly⟩
   ·simp only[go_sem]
   ·show Nat.gcd y (x % y)=_;rw[<-hg,vo x y,Nat.gcd_rec y x,vo]
end
end Go.Proofs.YtjcjcpebocbonaaGreat
namespace Go.Abs
section
theorem u64_in(n:Int)(h:0<=n/\n<18446744073709551616):IntKind.u64.wrap n=n:=by
 have:=IntWalk.u64_in n (by omega);exact this
theorem orU(u d:Int)(s:Nat)(hu:0<=u/\u<2^s)(hd:0<=d)(hs:d*2^s<18446744073709551616)(a1:(2:Int)^s<18446744073709551616):bits .or .u64 u (d*2^s)=u+d*2^s:=by
 have hp:(0:Int)<2^s:=Int.pow_pos (by decide);have hm:0<=d*2^s:=qM hd (by omega);have e1:(d*2^s).toNat=2^s*d.toNat:=by
  have h1:((2^s*d.toNat:Nat):Int)=d*2^s:=by
   rw[Int.natCast_mul,Int.natCast_pow,qL hd,qX];rfl
  omega
 have e2:u.toNat<2^s:=by
  have h1:((2^s:Nat):Int)=2^s:=by rw[Int.natCast_pow];rfl
  omega
 have e3:(BitVec.ofInt 64 u ||| BitVec.ofInt 64 (d*2^s)).toNat=(u+d*2^s).toNat:=by
  rw[BitVec.toNat_or,jco,jco,jW (by omega) (by omega),jW (by omega) (by omega),e1,Nat.or_comm,<-wu e2];omega
 have h2:bits .or .u64 u (d*2^s)=IntKind.u64.wrap ((BitVec.ofInt 64 u ||| BitVec.ofInt 64 (d*2^s)).toNat:Nat):=rfl;rw[h2,e3,qL (by omega)];refine u64_in _ ⟨by omega,?_⟩;have a6:u+d*2^s<(d+1)*2^s:=by rw[yp];omega
 have:(BitVec.ofInt 64 u ||| BitVec.ofInt 64 (d*2^s)).toNat<2^64:=BitVec.isLt _;rw[e3]at this;omega
theorem pow20(i:Nat):(2:Int)^(20*i)=1048576^i:=by
 rw[Int.pow_mul];rfl
theorem or_digit{u d:Int}{i:Nat}(hi:i<4)(hu:0<=u/\u<1048576^i)(hd:0<=d/\d<1048576)(h3:i=3->d<=8):
  IntKind.u64.wrap (IntKind.u64.wrap d*2^min (20*(i:Int)).toNat 64)=d*1048576^i/\bits .or .u64 u (d*1048576^i)=u+d*1048576^i:=by
 rw[u64_in d (by omega),show min (20*(i:Int)).toNat 64=20*i by omega,<-pow20]at*;have hs:d*2^(20*i)<18446744073709551616/\(2:Int)^(20*i)<18446744073709551616:=by
  rw[pow20];have:i=0\/i=1\/i=2\/i=3:=by omega
  rcases this with e | e | e | e<;>subst e<;>simp at h3⊢ <;>omega
 exact⟨u64_in _ ⟨qM hd.1 (wx (Int.pow_pos (by decide))),hs.1⟩,orU u d (20*i) hu hd.1 hs.1 hs.2⟩
end
end Go.Abs
namespace Go.Proofs.YtjcjcpebocbonaaGreat
section
set_option maxRecDepth 1000000
open Go.Abs
attribute [local go_sem] ints ic big
def fits(z:Int):Bool:=decide (-9223372036854775808<=z)&&decide (z<=9223372036854775807)
def intF(z:Int):Int:=if fits z=true then z else 0
theorem val_ge{l:List Int}(h:OkD l)(i:Nat):1048576^i*dgt l i<=val l:=by
 have h1:=jdf l i;have h2:=jcz l i;have h3:=jam (h.take i);have h4:=jam (h.drop (i+1));rw[h2,qO]at h1;have h5:(0:Int)<=1048576^i*(1048576*val (l.drop (i+1))):=qM (wx (jdd i)) (by omega);omega
theorem last_ne{n:Nat}(h:dig n≠[]):1<=dgt (dig n) ((dig n).length-1):=by
 have h3:=jop n;have hp:=qG.2 h;rw[y9,jaz (l:=dig n) (by omega)]at h3;have h4:=(jbe n).dgt ((dig n).length-1);have h5:dgt (dig n) ((dig n).length-1)≠0:=fun e=>h3 (by rw[e]);omega
theorem jso{z:Int}(h:¬(dig z.natAbs).length<=4):fits z=false:=by
 have h1:=last_ne (n:=z.natAbs) (fun e=>h (by rw[e];simp));have h2:=val_ge (jbe z.natAbs) ((dig z.natAbs).length-1);rw[jaq]at h2;have h3:(1048576:Int)^4<=1048576^((dig z.natAbs).length-1):=by
  have h6:=vp.2 (yk (n:=1048576) (by omega) (show 4<=(dig z.natAbs).length-1 by omega));rw[Int.natCast_pow,Int.natCast_pow]at h6;exact h6
 have h4:(1048576:Int)^((dig z.natAbs).length-1)*1<=1048576^((dig z.natAbs).length-1)*dgt (dig z.natAbs) ((dig z.natAbs).length-1):=qq h1 (wx (jdd _));rw[fits,yK,qg,qg];omega
theorem top_big{z:Int}(h:¬dgt (dig z.natAbs) 3<=8):fits z=false:=by
 have h2:=val_ge (jbe z.natAbs) 3;rw[jaq]at h2;rw[fits,yK,qg,qg];omega
theorem jov{z:Int}(h:fits z=false):intF z=0:=by rw[intF,h];rfl
theorem jou{z:Int}(h:fits z=true):intF z=z:=by rw[intF,h];rfl
theorem u64_neg{n:Int}(h:0<=n/\n<=9223372036854775808):IntKind.i64.wrap (IntKind.u64.wrap (0-n))=0-n:=by
 rw[IntKind.wrap_i64,IntKind.wrap_u64];omega
theorem t_pint(z:Int)(lz:(dig z.natAbs).length<=1000000000000):Ctr G.P 42 [big z] (· = .tup [.int (intF z),.bool (fits z)]):=by
 have rz:=jcl z (by omega);by_cases hl:(dig z.natAbs).length<=4
 case neg=>
  have hd:decide (4<((dig z.natAbs).length:Int))=true:=dTo;rw[jov (jso hl),jso hl];refine ja4 [.tmp 2,.tmp 3] Tryz.func42 ?_;simp only[go_sem];refine ja0 rz ?_;simp only[hd,go_sem]
 case pos=>
  have hd:decide (4<((dig z.natAbs).length:Int))=false:=dFo;have b5:=jbe z.natAbs;have hz:=jaq z.natAbs;have b8:=top_big (z:=z);refine ja4 [.tmp 2,.tmp 3] Tryz.func42 ?_;simp only[go_sem];refine ja0 rz ?_;simp only[hd,go_sem];refine jai [1,4,17,18,19] [1] (fun i:Nat=>⟨[(1,.loc 1 2 0 0),(4,.im (.sc (.int .u64 (val ((dig z.natAbs).take i))))),(17,.im (.sl ((dig z.natAbs).map ic))),(18,.im (.int (dig z.natAbs).length)),(19,.im (.int i))],[(1,2,[[.int z.sign,ints (dig z.natAbs)]])],[]⟩)
   (fun i=>i<=(dig z.natAbs).length/\(i=4->dgt (dig z.natAbs) 3<=8)) (fun i=>(dig z.natAbs).length-i) 0 ?_ ⟨zG _,fun h=>by cases h⟩ ?_
  ·simp only[List.take_zero,val,Int.natCast_zero,go_sem]
  generalize hg:dig z.natAbs=l at*;intro i ⟨hi,h8⟩;by_cases hp:(i:Int)<l.length
  ·have b2:decide ((i:Int)<l.length)=true:=zp hp;have hx:=jaz hp;have hw:=ja8 ((i:Int)+1);have b7:=ja8 (20*(i:Int));have c3:i<4:=by omega
   have hu:=jam (b5.take i);have c0:=jde b5 i;have c4:=b5.dgt i;have b3:decide (20*(i:Int)<0)=false:=dFo;have b0:¬(20*(i:Int)<0):=by omega
   have b4:=jbu l i;rw[qX]at b4;by_cases h3:i=3/\¬dgt l i<=8
   ·have e1:decide ((i:Int)=3)=true:=dTo;have e2:decide (8<dgt l i)=true:=dTo;have hb:=b8 (h3.1▸h3.2);rw[jov hb,hb];simp only[b2,zq,hx,go_sem];simp only[e1,e2,go_sem]
   ·have b6:i=3->dgt l i<=8:=fun e=>jz fun h=>h3 ⟨e,h⟩;have ho:=or_digit c3 ⟨hu,c0⟩ c4 b6;have a8:i+1=4->dgt l 3<=8:=fun e=>by
     have e':i=3:=by omega
     subst e';exact b6 rfl
    simp only[b2,zq,hx,go_sem];refine jbq (fun e e'=> ?_) (fun e e'=> ?_)
    ·have e2:decide (8<dgt l i)=false:=ze (by have:=b6 (by omega);omega);simp only[e,e2,b7,b3,b0,ho.1,ho.2,go_sem];refine ja7 (i+1) ?_ (by omega) ⟨by omega,a8⟩;simp only[hw,b4,Int.natCast_add,go_sem]
    ·simp only[e,b7,b3,b0,ho.1,ho.2,go_sem];refine ja7 (i+1) ?_ (by omega) ⟨by omega,a8⟩;simp only[hw,b4,Int.natCast_add,go_sem]
  ·have b2:decide ((i:Int)<l.length)=false:=ze hp;have b9:val (l.take i)=z.natAbs:=by rw[tLo,hz]
   rw[b9];simp only[b2,go_sem];refine jbq (fun e e'=> ?_) (fun e e'=> ?_)
   ·have c6:z<0:=by
     rcases yf z 0 with h | h | h
     ·exact h
     ·subst h;cases e'
     ·rw[zN h]at e';omega
    have b1:decide (0<=z.sign)=false:=dFo;by_cases hf:fits z=true
    ·have a1:=hf;rw[fits,zn,zO,zO]at a1;have d2:decide ((z.natAbs:Int)<=9223372036854775808)=true:=dTo;have hu:=u64_neg (n:=z.natAbs) (by omega);have a7:0-(z.natAbs:Int)=z:=by omega
     rw[a7]at hu;rw[jou hf,hf];simp only[e,d2,hu,a7,go_sem]
    ·have a6:fits z=false:=by simpa using hf
     have a1:=a6;rw[fits,yK,qg,qg]at a1;have d2:decide ((z.natAbs:Int)<=9223372036854775808)=false:=dFo;rw[jov a6,a6];simp only[e,d2,b1,go_sem]
   ·have c5:0<=z:=by
     rcases yu z 0 with h | h
     ·rw[zM h]at e';omega
     ·exact h
    have b1:decide (0<=z.sign)=true:=dTo;by_cases hf:fits z=true
    ·have a1:=hf;rw[fits,zn,zO,zO]at a1;have d2:decide ((z.natAbs:Int)<9223372036854775808)=true:=dTo;have a7:(z.natAbs:Int)=z:=by omega
     rw[a7]at d2;have hu:=ja8 z;rw[jou hf,hf];simp only[e,a7,d2,b1,hu,go_sem]
    ·have a6:fits z=false:=by simpa using hf
     have a1:=a6;rw[fits,yK,qg,qg]at a1;have d2:decide ((z.natAbs:Int)<9223372036854775808)=false:=dFo;rw[jov a6,a6];simp only[e,d2,b1,go_sem]
end
section
set_option maxRecDepth 1000000
open Go.Abs
def frac(r:Rat):IV:= .agg [.int r.num.sign,ints (dig r.num.natAbs),.int (r.den:Int).sign,ints (dig (r.den:Int).natAbs)]
attribute [local go_sem] ints ic big frac
theorem den_sign(r:Rat):(r.den:Int).sign=1:=zN (by have:=r.den_pos;omega)
end
section
set_option maxRecDepth 1000000
open Go.Abs
attribute [local go_sem] ints ic big
def fracF(s:Int)(l:List Int)(t:Int)(m:List Int):Bool:=jdp s l&&(jdp t m&&(decide (t=1)&&decide (Nat.gcd (val l).toNat (val m).toNat=1)))
theorem frac_of{s t:Int}{l m:List Int}(h:fracF s l t m=true):∃r:Rat,s=r.num.sign/\l=dig r.num.natAbs/\t=(r.den:Int).sign/\m=dig (r.den:Int).natAbs:=by
 rw[fracF,zn,zn,zn,zO,zO]at h;obtain⟨h1,h2,h3,h4⟩:=h;obtain⟨z,e1,e2⟩:=jte h1;obtain⟨w,e3,e4⟩:=jte h2;subst e1 e2;have hw:0<w:=Int.sign_eq_one_iff_pos.1 (by omega);rw[e4,jaq,jaq,Int.toNat_natCast,Int.toNat_natCast]at h4;have e5:((w.natAbs:Nat):Int)=w:=by omega
 exact⟨⟨z,w.natAbs,by omega,h4⟩,rfl,rfl,by show t=((w.natAbs:Nat):Int).sign;rw[e5,e3],by show m=dig ((w.natAbs:Nat):Int).natAbs;rw[e5,e4]⟩
theorem right_frac(r:Rat):fracF r.num.sign (dig r.num.natAbs) (r.den:Int).sign (dig (r.den:Int).natAbs)=true:=by
 rw[fracF,jir,jir,jaq,jaq,Int.toNat_natCast,Int.toNat_natCast,Int.natAbs_natCast,zp (show Nat.gcd r.num.natAbs r.den=1 from r.reduced),den_sign];rfl
end
section
set_option maxRecDepth 1000000
open Go.Abs
attribute [local go_sem] ints ic big frac
def cmpR(a b:Rat):Int:=cmpI (a.num*b.den) (b.num*a.den)
theorem cmpR_neg{a b:Rat}:cmpR a b<0↔a<b:=by
 rw[wB,cmpR,cmpI];split
 ·simp[*]
 ·split<;>simp[*]
theorem cmpR_pos{a b:Rat}:0<cmpR a b↔b<a:=by
 rw[wB,cmpR,cmpI];split
 ·simp;omega
 ·split
  ·simp;omega
  ·simp;omega
end
section
set_option maxRecDepth 1000000
open Go.Abs
attribute [local go_sem] ints ic big frac
theorem one_fits(n:Int):(fits n&&decide (intF n=1))=decide (n=1):=by
 by_cases h:fits n=true
 ·rw[jou h,h,qu]
 ·have h':fits n=false:=by simpa using h
  rw[h',qZ];refine(ze fun e=> ?_).symm;subst e;exact absurd h' (by decide)
theorem t_one(z:Int)(h:(dig z.natAbs).length<=1000000000000):Ctr G.P 70 [big z] (· = .bool (decide (z=1))):=by
 have hi:=t_pint z h;have ho:=one_fits z;by_cases hf:fits z=true
 ·rw[hf]at hi ho;rw[qu]at ho;refine ja4 [.tmp 2] Tryz.func70 ?_;simp only[go_sem];refine ja0 hi ?_;simp only[ho,go_sem]
 ·have h':fits z=false:=by simpa using hf
  rw[h']at hi ho;rw[qZ]at ho;rw[<-ho];clear ho;refine ja4 [.tmp 2] Tryz.func70 ?_;simp only[go_sem];refine ja0 hi ?_;simp only[go_sem]
theorem jkz(s t:Int)(l m:List Int)(hl:l.length<=50000000000)(hm:m.length<=50000000000):Ctr G.P 44 [.agg [.int s,ints l,.int t,ints m]] (· = .bool (fracF s l t m)):=by
 have r1:=jo3 s l (by omega);have r2:=jo3 t m (by omega);by_cases h1:jdp s l=true
 case neg=>
  have h1:jdp s l=false:=by simpa using h1
  rw[h1]at r1;rw[fracF,h1,qZ];refine ja4 [.tmp 2] Tryz.func44 ?_;simp only[go_sem];refine ja0 r1 ?_;simp only[go_sem]
 case pos=>
 by_cases h2:jdp t m=true
 case neg=>
  have h2:jdp t m=false:=by simpa using h2
  rw[h1]at r1;rw[h2]at r2;rw[fracF,h2,qZ,jl];refine ja4 [.tmp 2] Tryz.func44 ?_;simp only[go_sem];refine ja0 r1 ?_;simp only[go_sem];refine ja0 r2 ?_;simp only[go_sem]
 case pos=>
 rw[h1]at r1;rw[h2]at r2;by_cases h3:t=1
 case neg=>
  have d3:decide (t=1)=false:=ze h3;rw[fracF,d3,qZ,jl,jl];refine ja4 [.tmp 2] Tryz.func44 ?_;simp only[go_sem];refine ja0 r1 ?_;simp only[go_sem];refine ja0 r2 ?_;simp only[d3,go_sem]
 case pos=>
 have d3:decide (t=1)=true:=zp h3;rw[fracF,h1,h2,d3,qu,qu,qu];obtain⟨z,e1,e2⟩:=jte h1;obtain⟨w,e3,e4⟩:=jte h2;have a1:0<w.natAbs:=by
  have:0<w:=Int.sign_eq_one_iff_pos.1 (by omega);omega
 subst e1 e2 e3 e4;rw[jaq,jaq,Int.toNat_natCast,Int.toNat_natCast];have hg:=t_pgcd z w hl hm;have a7:(dig (Nat.gcd z.natAbs w.natAbs)).length<=50000000000:=jcm (Nat.gcd_le_right _ a1) hm;have ho:=t_one (Nat.gcd z.natAbs w.natAbs:Nat) (by rw[Int.natAbs_natCast];omega);have a6:decide (((Nat.gcd z.natAbs w.natAbs:Nat):Int)=1)=decide (Nat.gcd z.natAbs w.natAbs=1):=by
  rw[yC];omega
 simp only[big,ints]at hg ho;refine ja4 [.tmp 2] Tryz.func44 ?_;simp only[go_sem];refine ja0 r1 ?_;simp only[go_sem];refine ja0 r2 ?_;simp only[d3,go_sem];refine ja0 hg ?_;simp only[go_sem];refine ja0 ho ?_;simp only[a6,go_sem]
theorem jc9(r:Rat)(lp:(dig r.num.natAbs).length<=50000000000)(lq:(dig r.den).length<=50000000000):Ctr G.P 44 [frac r] (· = .bool true):=by
 have:=jkz r.num.sign (r.den:Int).sign (dig r.num.natAbs) (dig (r.den:Int).natAbs) lp (by rw[Int.natAbs_natCast];exact lq);rw[right_frac]at this;exact this
theorem jey(a b:Int)(la:(dig a.natAbs).length<=100000000000)(lb:(dig b.natAbs).length<=100000000000):Ctr G.P 47 [big a,big b] (· =big (a*b)):=by
 have hm:=t_pmulb a b la lb;refine ja4 [.cell 4 46] Tryz.func47 ?_;simp only[go_sem];refine ja0 hm ?_;simp only[go_sem]
theorem t_pcmpf(a b:Rat)(h1:(dig a.num.natAbs).length<=50000000000)(h2:(dig a.den).length<=50000000000)(h3:(dig b.num.natAbs).length<=50000000000)(h4:(dig b.den).length<=50000000000):Ctr G.P 15 [frac a,frac b] (· = .int (cmpR a b)):=by
 have ra:=jc9 a h1 h2;have rb:=jc9 b h3 h4;have m1:=jey a.num b.den (by omega) (by rw[Int.natAbs_natCast];omega);have m2:=jey b.num a.den (by omega) (by rw[Int.natAbs_natCast];omega);have l1:(dig (a.num*b.den).natAbs).length<=1000000000000:=by
  rw[jB,Int.natAbs_natCast];have:=jln h1 h4;omega
 have l2:(dig (b.num*a.den).natAbs).length<=1000000000000:=by
  rw[jB,Int.natAbs_natCast];have:=jln h3 h2;omega
 have hc:=t_pcompareb (a.num*b.den) (b.num*a.den) l1 l2;simp only[big,ints]at m1 m2 hc;refine ja4 [.tmp 4] Tryz.func15 ?_;simp only[go_sem];refine ja0 ra ?_;simp only[go_sem];refine ja0 rb ?_;simp only[go_sem];refine jaf 12 ?_;simp only[go_sem];refine ja3 m1 (by decide) ?_;simp only[go_sem];refine ja3 m2 (by decide) ?_;simp only[go_sem];refine ja3 hc (by decide) ?_;simp only[cmpR,go_sem]
theorem t_psignf(r:Rat)(lp:(dig r.num.natAbs).length<=50000000000)(lq:(dig r.den).length<=50000000000):Ctr G.P 59 [frac r] (· = .int r.num.sign):=by
 have h:=jc9 r lp lq;refine ja4 [.tmp 2] Tryz.func59 ?_;simp only[go_sem];refine ja0 h ?_;simp only[go_sem]
theorem t_pfloor(r:Rat)(lp:(dig r.num.natAbs).length<=50000000000)(lq:(dig r.den).length<=50000000000):Ctr G.P 43 [frac r] (· =big (r.num.fdiv r.den)):=by
 have h:=jc9 r lp lq;have hd:=jr7 r.num r.den (by have:=r.den_pos;omega) lp (by rw[Int.natAbs_natCast];exact lq);simp only[big,ints]at hd;refine ja4 [.cell 2 46] Tryz.func43 ?_;simp only[go_sem];refine ja0 h ?_;simp only[go_sem];refine ja0 hd ?_;simp only[go_sem]
end
section
set_option maxRecDepth 1000000
open Go.Abs
attribute [local go_sem] ints ic Bat.c Evid.c Evid.iv Place.c Move.c
def buyF(e:Evid)(i:Int):Bool:=match e.moves[i.toNat]? with
 | some m=>match e.places[m.to.toNat]? with
  | some p=>decide (p.kind=5)
  | none=>false
 | none=>false
def fitsF(e:Evid)(b:Bat):Bool:=decide (jbb e=0)&&(btw b.mat 0 (e.mats-1)&&(riseF b.mv e.moves.length&& !(b.mv.any fun i=> !buyF e i)))
