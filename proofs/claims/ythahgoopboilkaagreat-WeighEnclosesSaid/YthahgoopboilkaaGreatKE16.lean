/- A part of the proof. No further condition. -/
import Derived.Test.YthahgoopboilkaaGreatKE15
set_option linter.all false
set_option maxRecDepth 10000000
set_option maxHeartbeats 16000000
namespace Go.Proofs.YthahgoopboilkaaGreat
section
open Go.Abs
attribute [local go_sem] ints ic big
theorem of_step{l:List Int}{m z:Int}(h:val l+1048576^l.length*m=z):val (l++[m % 1048576])+1048576^(l++[m % 1048576]).length*(m/1048576)=z:=by
 rw[jr6,zH,List.length_cons,List.length_nil,jdb,<-h];have e:(1048576:Int)^l.length*(m % 1048576)+1048576^l.length*1048576*(m/1048576)=1048576^l.length*m:=by
  rw[qR,<-qI,qU]
 omega
theorem of_len{n:Int}{k:Nat}(hn:n≠0)(h0:0<=n)(hk:k<=4)(h:n<1048576^(4-k)):k+1<=4/\n/1048576<1048576^(4-(k+1)):=by
 rcases zT k 4 with h1 | h1
 ·refine⟨h1,?_⟩;rw[show 4-k=(4-(k+1))+1 by omega,jdb]at h;omega
 ·rw[show 4-k=0 by omega,Int.pow_zero]at h;omega
end
section
open Go.Abs
attribute [local go_sem] ints ic
theorem okd_gt{d:Int}:okd d=(!decide (d<0)&& !decide (1048575<d)):=by
 rw[okd,show(decide (1048576<=d))=decide (1048575<d)from yG.2 (by omega)]
theorem jmk(s:Int):jei s []=decide (s=0):=by
 by_cases h:s=0
 ·subst h;rfl
 ·rw[zq h];simp[jei,h]
theorem jmj{s:Int}{l:List Int}(ha:l.all okd=true)(hl:l≠[]):jei s l=((decide (s=1) || decide (s= -1))&& !decide (dgt l (l.length-1)=0)):=by
 have hz:decide ((l.length:Int)=0)=false:=zq (by have:=qV.2 hl;omega);rw[jei,ha,hz];generalize (decide (dgt l (l.length-1)=0))=b;by_cases h1:s=1
 ·subst h1;simp
 ·by_cases h2:s= -1
  ·subst h2;simp
  ·simp only[qe,yk];by_cases h3:s=0
   ·subst h3;simp
   ·by_cases h4:s< -1
    ·simp[h4,h1,h2]
    ·have h5:1<s:=by omega
     simp[h5,h1,h2]
theorem jne(s:Int)(l:List Int)(hl:l.length<=1000000000000000):Ctr G.P 95 [.agg [.int s,ints l]] (· = .bool (jei s l)):=by
 refine ja5 [.tmp 2] Tryz.func95 ?_;simp only[go_sem];refine jal [1,3,10,11,12] [1] (fun i:Nat=>⟨[(1,.loc 1 2 0 0),(3,.im (.int l.length)),(10,.im (.sl (l.map ic))),(11,.im (.int l.length)),(12,.im (.int i))],[(1,2,[[.int s,ints l]])],[]⟩) (fun i=>i<=l.length/\(l.take i).all okd=true) (fun i=>l.length-i) 0 ?_ ⟨zE _,rfl⟩ ?_
 ·simp only[Int.natCast_zero,go_sem]
 ·intro i ⟨hi,ha⟩;by_cases hp:(i:Int)<l.length
  ·have hd:decide ((i:Int)<l.length)=true:=za hp;have hx:=jb2 hp;have h1:=ja9 (n:=(i:Int)+1) (by omega);have hs:=all_okd_succ hp;have hno:okd (dgt l i)=false->jei s l=false:=fun h=>by
    have:l.all okd=false:=by
     rw[List.all_eq_false];exact⟨_,zk hx,by simp[h]⟩
    simp[jei,this]
   simp only[hd,ze,hx,go_sem];refine jcq (fun d1=> ?_) (fun d1=> ?_)
   ·rw[hno (by rw[okd_gt,d1];rfl)];simp only[d1,go_sem]
   ·simp only[d1,go_sem];refine jcq (fun d2=> ?_) (fun d2=> ?_)
    ·rw[hno (by rw[okd_gt,d1,d2];rfl)];simp only[go_sem]
    ·simp only[go_sem];refine jab (i+1) ?_ (by omega) ⟨by omega,by rw[hs,ha,okd_gt,d1,d2];rfl⟩;simp only[h1,Int.natCast_add,go_sem]
  ·have hd:decide ((i:Int)<l.length)=false:=zq hp;rw[zt (by omega)]at ha;by_cases h0:l=[]
   ·subst h0;clear hd hp;have hd:decide ((i:Int)<0)=false:=zq (by omega);rw[jmk];simp only[List.length_nil,Int.natCast_zero,hd,Bool.true_beq,j0,go_sem]
   ·have hpos:=qV.2 h0;have hz:decide ((l.length:Int)=0)=false:=zq (by omega);have hlast:l[l.length-1]? =some (dgt l (l.length-1)):=jb2 (by omega);have hw:=ja9 (n:=(l.length:Int)-1) (by omega);have hn:((l.length:Int)-1).toNat=l.length-1:=by omega
    have hn0:(0:Int)<=(l.length:Int)-1:=by omega
    have hn1:(l.length:Int)-1<l.length:=by omega
    rw[jmj ha h0];simp only[hd,hz,go_sem];refine jcq (fun d1=> ?_) (fun d1=> ?_)
    ·simp only[d1,hw,hn,hn0,hn1,ze,hlast,go_sem]
    ·simp only[d1,go_sem];refine jcq (fun d2=> ?_) (fun d2=> ?_)
     ·simp only[d1,d2,hw,hn,hn0,hn1,ze,hlast,go_sem]
     ·simp only[d1,d2,go_sem]
end
section
open Go.Abs
attribute [local go_sem] ints ic mb20 pw20 fd20
theorem t_psub(a b:List Int)(ha:OkD a)(hb:OkD b)(hab:val b<=val a)(la:a.length<=1000000000000)(lb:b.length<=1000000000000):Ctr G.P 146 [ints a,ints b] (· =ints (dig (val a-val b).toNat)):=by
 by_cases hne:a=[]
 ·subst hne;have h0:=jb0 hb;have hv:(val ([]:List Int)-val b).toNat=0:=by simp only[val]at*;omega
  rw[hv,jbw];have hc:=jki [] (by simp);have ht:=jf4 [] OkD.nil (by simp);have hz:dig (val ([]:List Int)).toNat=[]:=jbw;rw[hz]at ht;simp only[ints,zC]at hc ht;refine ja5 [.tmp 4] Tryz.func146 ?_;simp only[zC,go_sem];refine ja1 hc ?_;simp only[go_sem];refine jal [1,5,6,12,13] [] (fun g:Unit=>⟨[(1,.im (.sl (b.map ic))),(5,.im (.sl [])),(6,.im (.int 0)),(12,.im (.int 0)),(13,.im (.int 0))],[],[]⟩) (fun _=>True) (fun _=>0) () ?_ trivial ?_
  ·simp only[Int.natCast_zero,go_sem]
  intro _ _;have hd:decide ((0:Int)<0)=false:=by decide
  simp only[hd,vk,go_sem];refine ja1 ht ?_;simp only[go_sem]
 have hc:=t_cloneO a hne (by omega);simp only[ints]at hc;refine ja5 [.tmp 4] Tryz.func146 ?_;simp only[go_sem];refine jm4 [] (hc) (by decide) (by simp) (by simp[rnm,look]) (by repeat' (first | exact trivial | refine⟨rfl,?_⟩)) rfl rfl rfl rfl ?_ rfl;simp only[go_sem];refine jal [1,5,6,11,12,13] [10] (fun g:Nat×List Int×Int=>⟨[(1,.im (.sl (b.map ic))),(5,.gsl 10 3 1 a.length),(6,.im (.int g.2.2)),(11,.gsl 10 3 1 a.length),(12,.im (.int a.length)),(13,.im (.int g.1))],[(10,1,g.2.1.map ic)],[]⟩)
  (fun g=>g.1<=a.length/\g.2.1.length=a.length/\OkD g.2.1/\0<=g.2.2/\g.2.2<=1/\val g.2.1-1048576^g.1*g.2.2=val a-val (b.take g.1))
  (fun g=>a.length-g.1) (0,a,0) ?_ ⟨zE _,rfl,ha,qj _,by dsimp only;omega,by dsimp only;simp[val]⟩ ?_
 ·simp only[Int.natCast_zero,go_sem]
 intro⟨i,out,c⟩ ⟨hi,hl,ho,hc0,hc1,hv⟩;dsimp only at hi hl ho hc0 hc1 hv;by_cases hp:(i:Int)<a.length
 case neg=>
  have hd:decide ((i:Int)<a.length)=false:=zq hp;have hia:i=a.length:=by omega
  subst hia;have hvv:val out=val a-val b:=by
   have h1:=jeh ha;have h2:=jeh ho;have h3:=jb0 ho;rw[hl]at h2;rw[jiz hb (by omega)]at hv;generalize (1048576:Int)^a.length=p at*;have:c=0\/c=1:=by omega
   rcases this with rfl | rfl
   ·omega
   ·omega
  have ht:=jf4 out ho (by omega);rw[hvv]at ht;have hall:(out.map ic).take a.length=out.map ic:=zt (by rw[zw];omega);have hle:a.length<=out.length:=by omega
  simp only[ints]at ht;simp only[hd,hall,hle,go_sem];refine ja1 ht ?_;simp only[go_sem]
 case pos=>
  have hd:decide ((i:Int)<a.length)=true:=za hp;have hda:=ho.dgt i;have hdb:=hb.dgt i;have h1:=ja9 (n:=(i:Int)+1) (by omega);have hy:out[i]? =some (dgt out i):=jb2 (by omega);have w1:=ja9 (n:=dgt out i-c) (by omega);have w2:=ja9 (n:=dgt out i-c-dgt b i) (by omega);have hs:=sub_step (by omega:i<out.length) hv rfl;have hn:dgt out i-c-dgt b i=dgt out i-dgt b i-c:=by omega
  rw[hn]at w2;generalize hN:dgt out i-dgt b i-c=n at*;have a1:=and20 n;have a2:=and1 (n/1048576) (by omega);have a3:n/1048576 % 2= -(n/1048576):=by omega
  rw[a3]at a2;have fin:(0<= -(n/1048576)/\ -(n/1048576)<=1)/\(out.set i (n % 1048576)).length=a.length/\OkD (out.set i (n % 1048576)):=
   ⟨by omega,by rw[qf];exact hl,ho.set (by omega)⟩
  obtain⟨f1,f2,f3⟩:=fin;by_cases hbl:(i:Int)<b.length
  ·have hd2:decide ((i:Int)<b.length)=true:=za hbl;have hxb:=jb2 hbl;simp only[hd,hd2,ze,hxb,w1,hn,hN,w2,hp,hy,a1,a2,go_sem];refine jab (i+1,out.set i (n % 1048576),-(n/1048576)) ?_ ?_ ⟨?_,f2,f3,f1.1,f1.2,hs⟩
   ·simp only[h1,hn,hN,w2,a1,a2,Int.natCast_add,qP,go_sem]
   ·show a.length-(i+1)<a.length-i;omega
   ·show i+1<=a.length;omega
  ·have hd2:decide ((i:Int)<b.length)=false:=zq hbl;have hb0:dgt b i=0:=jew (by omega);have hn2:dgt out i-c=n:=by omega
   rw[hn2]at w1;simp only[hd,hd2,ze,hn2,w1,hp,hy,a1,a2,go_sem];refine jab (i+1,out.set i (n % 1048576),-(n/1048576)) ?_ ?_ ⟨?_,f2,f3,f1.1,f1.2,hs⟩
   ·simp only[h1,hn2,w1,a1,a2,Int.natCast_add,qP,go_sem]
   ·show a.length-(i+1)<a.length-i;omega
   ·show i+1<=a.length;omega
end
section
open Go.Abs
theorem jsl{s:Int}{l:List Int}(h:jei s l=true):∃z:Int,s=z.sign/\l=dig z.natAbs:=by
 have h0:=h;rw[jei,zr]at h0;have hall:=h0.1;have hok:OkD l:=all_okd.1 hall;by_cases hl:l=[]
 ·subst hl;rw[jmk]at h;exact⟨0,zI h,by rw[Int.natAbs_zero,jbw]⟩
 ·rw[jmj hall hl,zr,qX,yL,zK,zK,qg]at h;have hlp:=qV.2 hl;have hlast:l.getLast? ≠some 0:=fun e=>h.2 (by
   rw[jq]at e;have:=jb2 (l:=l) (i:=l.length-1) (by omega);rw[e]at this;exact(jP this).symm)
  have he:=eq_dig hok hlast;have hne:(val l).toNat≠0:=fun e=>hl (by rw[e,jbw]at he;exact he);rcases h.1 with h1 | h1
  ·exact⟨(val l).toNat,by rw[h1,zU (by omega)],by rw[Int.natAbs_natCast];exact he⟩
  ·exact⟨-(val l).toNat,by rw[h1,zP (by omega)],by rw[yu,Int.natAbs_natCast];exact he⟩
theorem jfx{a b q r:Int}(h:a=b*q+r)(h1:(0<=r/\r<b)\/(b<r/\r<=0)):a.fdiv b=q/\a.fmod b=r:=by
 have hq:a.fdiv b=q:=by
  rcases h1 with h1 | h1
  ·rw[jl _ (by omega)];exact((Int.ediv_emod_unique (a:=a) (b:=b) (q:=q) (r:=r) (by omega)).2 ⟨by omega,h1⟩).1
  ·rw[<-Int.neg_fdiv_neg,jl _ (by omega)];exact((Int.ediv_emod_unique (a:= -a) (b:= -b) (q:=q) (r:= -r) (by omega)).2 ⟨by rw[h,ve];omega,by omega⟩).1
 exact⟨hq,by rw[Int.fmod_def,hq];omega⟩
theorem jpq{a b:Int}(hb:b≠0)(h:¬a.sign*b.sign<0\/a.natAbs % b.natAbs=0):
  (a.natAbs/b.natAbs=(a.fdiv b).natAbs/\(a.fdiv b≠0->a.sign*b.sign=(a.fdiv b).sign))/\(a.natAbs % b.natAbs=(a.fmod b).natAbs/\(a.fmod b≠0->a.sign=(a.fmod b).sign)):=by
 have hd:=jc a.natAbs b.natAbs;have hm:=ju a.natAbs (y:=b.natAbs) (by omega);generalize a.natAbs/b.natAbs=q at*;generalize a.natAbs % b.natAbs=r at*;have hd':(b.natAbs:Int)*q+r=a.natAbs:=by exact_mod_cast hd
 have hp:∀n:Nat,(n:Int)≠0->(n:Int).sign=1:=fun n hn=>zU (by omega);have hn:∀n:Nat,-(n:Int)≠0->(-(n:Int)).sign= -1:=fun n hn=>zP (by omega);rcases yc a 0 with ha | ha | ha
 ·rw[zP ha]at h⊢;rcases yh hb with h1 | h1
  ·rw[zP h1]at h⊢;have e1:(b.natAbs:Int)= -b:=by omega
   rw[e1,ve]at hd';obtain⟨f1,f2⟩:=jfx (a:=a) (b:=b) (q:=q) (r:= -r) (by omega) (by omega);rw[f1,f2];exact⟨⟨(Int.natAbs_natCast q).symm,fun h=>(hp q h).symm⟩,by omega,fun h=>(hn r h).symm⟩
  ·rw[zU h1]at h⊢;have hr:r=0:=h.resolve_left (by omega);subst hr;have e1:(b.natAbs:Int)=b:=by omega
   rw[e1]at hd';obtain⟨f1,f2⟩:=jfx (a:=a) (b:=b) (q:= -q) (r:=0) (by rw[ja];omega) (by omega);rw[f1,f2];exact⟨⟨by omega,fun h=>(hn q h).symm⟩,rfl,fun h=>absurd rfl h⟩
 ·subst ha;have hr:r=0/\b.natAbs*q=0:=by simp at hd;omega
  have hq:q=0:=by
   rcases vx.1 hr.2 with h | h<;>omega
  rw[hr.1,hq];simp
 ·rw[zU ha]at h⊢;rcases yh hb with h1 | h1
  ·rw[zP h1]at h⊢;have hr:r=0:=h.resolve_left (by omega);subst hr;have e1:(b.natAbs:Int)= -b:=by omega
   rw[e1,ve]at hd';obtain⟨f1,f2⟩:=jfx (a:=a) (b:=b) (q:= -q) (r:=0) (by rw[ja];omega) (by omega);rw[f1,f2];exact⟨⟨by omega,fun h=>(hn q h).symm⟩,rfl,fun h=>absurd rfl h⟩
  ·rw[zU h1]at h⊢;have e1:(b.natAbs:Int)=b:=by omega
   rw[e1]at hd';obtain⟨f1,f2⟩:=jfx (a:=a) (b:=b) (q:=q) (r:=r) (by omega) (by omega);rw[f1,f2];exact⟨⟨(Int.natAbs_natCast q).symm,fun h=>(hp q h).symm⟩,(Int.natAbs_natCast r).symm,fun h=>(hp r h).symm⟩
theorem jsb{a b:Int}(h:a.sign*b.sign<0)(hr:a.natAbs % b.natAbs≠0):
  (a.natAbs/b.natAbs+1=(a.fdiv b).natAbs/\(a.fdiv b≠0-> -1=(a.fdiv b).sign))/\(b.natAbs-a.natAbs % b.natAbs=(a.fmod b).natAbs/\(a.fmod b≠0->b.sign=(a.fmod b).sign)):=by
 have hb:b≠0:=fun e=>by subst e;simp at h
 have ha:a≠0:=fun e=>by subst e;simp at h
 have hd:=jc a.natAbs b.natAbs;have hm:=ju a.natAbs (y:=b.natAbs) (by omega);generalize a.natAbs/b.natAbs=q at*;generalize a.natAbs % b.natAbs=r at*;have hd':(b.natAbs:Int)*q+r=a.natAbs:=by exact_mod_cast hd
 have hn:(-((q:Int)+1)).sign= -1:=zP (by omega);rcases yh ha with ha | ha
 ·rw[zP ha]at h;rcases yh hb with h1 | h1
  ·rw[zP h1]at h;omega
  ·have e1:(b.natAbs:Int)=b:=by omega
   rw[e1]at hd';obtain⟨f1,f2⟩:=jfx (a:=a) (b:=b) (q:= -((q:Int)+1)) (r:=b-r) (by rw[ja,qI,jB];omega) (by omega);rw[f1,f2];exact⟨⟨by omega,fun _=>hn.symm⟩,by omega,fun _=>by rw[zU h1,zU (by omega)]⟩
 ·rw[zU ha]at h;rcases yh hb with h1 | h1
  ·have e1:(b.natAbs:Int)= -b:=by omega
   rw[e1,ve]at hd';obtain⟨f1,f2⟩:=jfx (a:=a) (b:=b) (q:= -((q:Int)+1)) (r:=b+r) (by rw[ja,qI,jB];omega) (by omega);rw[f1,f2];exact⟨⟨by omega,fun _=>hn.symm⟩,by omega,fun _=>by rw[zP h1,zP (by omega)]⟩
  ·rw[zU h1]at h;omega
theorem jck(z:Int)(h:(dig z.natAbs).length<=1000000000000):Ctr G.P 95 [big z] (· = .bool true):=by
 have:=jne z.sign (dig z.natAbs) (by omega);rw[jkr]at this;exact this
attribute [local go_sem] ints ic big
theorem jec(s z:Int)(n:Nat)(hn:n=z.natAbs)(hs:z≠0->s=z.sign)(h:(dig z.natAbs).length<=1000000000000):Ctr G.P 114 [.int s,ints (dig n)] (· =big z):=by
 subst hn;have ht:=jf4 (dig z.natAbs) (jc3 _) h;rw[jb1,Int.toNat_natCast]at ht;by_cases hz:z=0
 ·subst hz;rw[Int.natAbs_zero,jbw]at ht⊢;refine ja5 [.cell 4 33] Tryz.func114 ?_;simp only[go_sem];refine ja1 ht ?_;simp only[Int.natAbs_zero,jbw,List.length_nil,Int.natCast_zero,j0,zC,Int.sign_zero,go_sem]
 ·have hne:decide (((dig z.natAbs).length:Int)=0)=false:=zq fun h=>by
   have:dig z.natAbs=[]:=ye.1 (by omega);rw[dig_nil]at this;omega
  rw[hs hz];refine ja5 [.cell 4 33] Tryz.func114 ?_;simp only[go_sem];refine ja1 ht ?_;simp only[hne,go_sem]
theorem jkj(z:Int):Ctr G.P 142 [.bool true,big z] (· = .tup [big z,.int 0]):=by
 refine ja5 [.cell 4 33,.tmp 5] Tryz.func142 ?_;simp only[go_sem]
theorem t_pmulb(a b:Int)(la:(dig a.natAbs).length<=100000000000)(lb:(dig b.natAbs).length<=100000000000):Ctr G.P 108 [big a,big b] (· = .tup [big (a*b),.int 0]):=by
 have ra:=jck a (by omega);have rb:=jck b (by omega);have ht:=t_pmul (dig a.natAbs) (dig b.natAbs) (jc3 _) (jc3 _) la lb;rw[jb1,jb1,<-Int.natCast_mul,Int.toNat_natCast]at ht;have hl:(dig (a*b).natAbs).length<=1000000000000:=by
  rw[jk];have:=jl2 la lb;omega
 have hm:=jec (a.sign*b.sign) (a*b) (a.natAbs*b.natAbs) (by rw[jk]) (fun _=>(vG a b).symm) hl;have hc:=jkj (a*b);have w:=ja9 (n:=a.sign*b.sign) (by rw[<-vG];have:=jj0 (a*b);omega);refine ja5 [.cell 4 33,.tmp 5] Tryz.func108 ?_;simp only[go_sem];refine ja1 ra ?_;simp only[go_sem];refine ja1 rb ?_;simp only[go_sem];refine jaf ?_;simp only[w,go_sem];refine ja4 ht (by decide) ?_;simp only[go_sem];refine ja4 hm (by decide) ?_;simp only[go_sem];refine ja4 hc (by decide) ?_;simp only[go_sem]
theorem cmpI_sign{a b:Int}(h:a.sign≠b.sign):cmpI a.sign b.sign=cmpI a b:=by
 rcases yh h with h1 | h1
 ·have:=sign_lt h1;rw[cmpI,cmpI,zm h1,zm this]
 ·have:=sign_lt h1;rw[cmpI,cmpI,zn (by omega),zn (by omega),zn (by omega),zn (by omega)]
theorem jo4{a b:Int}(h:a.sign=b.sign):a.sign*cmpI a.natAbs b.natAbs=cmpI a b:=by
 rcases yc a 0 with h1 | h1 | h1
 ·have e:=zP h1;have h2:b<0:=by
   rw[e]at h;exact Int.neg_of_sign_eq_neg_one h.symm
  rw[e];unfold cmpI;split<;>split<;>(try split)<;>(try split)<;>omega
 ·subst h1;have:b=0:=yN.1 h.symm;subst this;rfl
 ·have e:=zU h1;have h2:0<b:=by
   rw[e]at h;exact Int.pos_of_sign_eq_one h.symm
  rw[e];unfold cmpI;split<;>split<;>(try split)<;>(try split)<;>omega
theorem cmpI_le(a b:Int): -1<=cmpI a b/\cmpI a b<=1:=by
 unfold cmpI;split<;>(try split)<;>omega
theorem t_pcompareb(a b:Int)(la:(dig a.natAbs).length<=1000000000000)(lb:(dig b.natAbs).length<=1000000000000):Ctr G.P 72 [big a,big b] (· = .int (cmpI a b)):=by
 have ra:=jck a (by omega);have rb:=jck b (by omega);by_cases hs:a.sign=b.sign
 ·have hc:=jfs a.natAbs b.natAbs la lb;have hd:decide (a.sign=b.sign)=true:=za hs;have w:=ja9 (n:=a.sign*cmpI a.natAbs b.natAbs) (by rw[jo4 hs];have:=cmpI_le a b;omega);rw[jo4 hs]at w;have he:=jo4 hs;refine ja5 [.tmp 4] Tryz.func72 ?_;simp only[go_sem];refine ja1 ra ?_;simp only[go_sem];refine ja1 rb ?_;simp only[hd,go_sem];refine jac 9 ?_;simp only[go_sem];refine ja4 hc (by decide) ?_;simp only[he,w,go_sem]
 ·have hc:=t_cmp a.sign b.sign;rw[cmpI_sign hs]at hc;have hd:decide (a.sign=b.sign)=false:=zq hs;refine ja5 [.tmp 4] Tryz.func72 ?_;simp only[go_sem];refine ja1 ra ?_;simp only[go_sem];refine ja1 rb ?_;simp only[hd,go_sem];refine ja1 hc ?_;simp only[go_sem]
end
section
open Go.Abs
attribute [local go_sem] ints ic mb20 pw20 fd20
theorem t_padd(x y:List Int)(hx:OkD x)(hy:OkD y)(lx:x.length<=100000000000)(ly:y.length<=100000000000):Ctr G.P 145 [ints x,ints y] (· =ints (dig (val x+val y).toNat)):=by
 by_cases hlt:(x.length:Int)<y.length
 ·have hd0:decide ((x.length:Int)<y.length)=true:=za hlt;rw[Int.add_comm (val x)];obtain⟨a,rfl⟩:∃a,a=y:=⟨_,rfl⟩;obtain⟨b,rfl⟩:∃b,b=x:=⟨_,rfl⟩;have ha:=hy;have hb:=hx;have hba:b.length<=a.length:=by omega
  refine ja5 [.tmp 4] Tryz.func145 ?_;simp only[hd0,go_sem];have w0:=ja9 (n:=(a.length:Int)+1) (by omega);have w00:((a.length:Int)+1)*8<=140737488355328:=by omega
  have w01:(0:Int)<=(a.length:Int)+1:=by omega
  have w02:((a.length:Int)+1).toNat=a.length+1:=by omega
  simp only[w0,w00,w01,w02,go_sem];refine jal [0,1,5,6,20,21,22] [19] (fun g:Nat×List Int×Int=>⟨[(0,.im (.sl (a.map ic))),(1,.im (.sl (b.map ic))),(5,.gsl 19 3 1 (a.length+1)),(6,.im (.int g.2.2)),(20,.im (.sl (a.map ic))),(21,.im (.int a.length)),(22,.im (.int g.1))],[(19,1,g.2.1.map ic)],[]⟩)
   (fun g=>g.1<=a.length/\g.2.1.length=a.length+1/\OkD g.2.1/\0<=g.2.2/\g.2.2<=1/\val g.2.1+1048576^g.1*g.2.2=val (a.take g.1)+val (b.take g.1)/\∀j,g.1<=j->dgt g.2.1 j=0)
   (fun g=>a.length-g.1) (0,List.replicate (a.length+1) 0,0) ?_
   ⟨zE _,zW,OkD.replicate _,qj _,by dsimp only;omega,by dsimp only;rw[jdq];simp[val],fun j _=>by
    unfold dgt;rw[qY];split<;>rfl⟩ ?_
  ·simp only[Int.natCast_zero,yR,zW,w02,go_sem]
  intro⟨i,out,c⟩ ⟨hi,hl,ho,hc0,hc1,hv,hz⟩;dsimp only at hi hl ho hc0 hc1 hv hz;by_cases hp:(i:Int)<a.length
  case neg=>
   have hd:decide ((i:Int)<a.length)=false:=zq hp;have hia:i=a.length:=by omega
   subst hia;have hjl:(a.length:Int)<((a.length+1:Nat):Int):=by omega
   have hok:OkD (out.set a.length c):=ho.set (by omega);have hvv:val (out.set a.length c)=val a+val b:=by
    rw[jg4 _ _ _ (by omega),hz _ (zB _),jp,hv,jc5 (zB _),jc5 hba]
   have ht:=jf4 (out.set a.length c) hok (by rw[qf];omega);rw[hvv]at ht;have hy:out[a.length]? =some (dgt out a.length):=jb2 (by omega);have hset:(out.map ic).set a.length [.sc (.int .i64 c)]=(out.set a.length c).map ic:=by rw[qP];rfl
   have hall:((out.set a.length c).map ic).take (a.length+1)=(out.set a.length c).map ic:=zt (by rw[zw,qf];omega);have hle:a.length+1<=(out.set a.length c).length:=by rw[qf];omega
   have hle2:(0:Int)<=a.length:=by omega
   simp only[ints]at ht;simp only[hd,hjl,ze,hy,hset,hall,hle,go_sem];refine ja1 ht ?_;simp only[go_sem]
  case pos=>
   have hd:decide ((i:Int)<a.length)=true:=za hp;have hx:=jb2 hp;have hda:=ha.dgt i;have hdb:=hb.dgt i;have h1:=ja9 (n:=(i:Int)+1) (by omega);have hjl:(i:Int)<((a.length+1:Nat):Int):=by omega
   have hy:out[i]? =some (dgt out i):=jb2 (by omega);have w1:=ja9 (n:=c+dgt a i) (by omega);have w2:=ja9 (n:=c+dgt a i+dgt b i) (by omega);have hn:c+dgt a i+dgt b i=dgt a i+dgt b i+c:=by omega
   rw[hn]at w2;have hs:=jsn (by omega:i<out.length) (hz i (zB _)) hv rfl;generalize hN:dgt a i+dgt b i+c=n at*;have a1:=and20 n;have fin:(0<=n/1048576/\n/1048576<=1)/\(out.set i (n % 1048576)).length=a.length+1/\OkD (out.set i (n % 1048576))/\∀j,i+1<=j->dgt (out.set i (n % 1048576)) j=0:=
    ⟨by omega,by rw[qf];exact hl,ho.set (by omega),fun j hj=>by rw[jn2 (by omega)];exact hz j (by omega)⟩
   obtain⟨f1,f2,f3,f4⟩:=fin;by_cases hbl:(i:Int)<b.length
   ·have hd2:decide ((i:Int)<b.length)=true:=za hbl;have hxb:=jb2 hbl;simp only[hd,hd2,ze,hx,hxb,w1,hn,hN,w2,hjl,hy,a1,go_sem];refine jab (i+1,out.set i (n % 1048576),n/1048576) ?_ ?_ ⟨?_,f2,f3,f1.1,f1.2,hs,f4⟩
    ·simp only[h1,hn,hN,w2,Int.natCast_add,qP,go_sem]
    ·show a.length-(i+1)<a.length-i;omega
    ·show i+1<=a.length;omega
   ·have hd2:decide ((i:Int)<b.length)=false:=zq hbl;have hb0:dgt b i=0:=jew (by omega);have hn2:c+dgt a i=n:=by omega
    rw[hn2]at w1;simp only[hd,hd2,ze,hx,hn2,w1,hjl,hy,a1,go_sem];refine jab (i+1,out.set i (n % 1048576),n/1048576) ?_ ?_ ⟨?_,f2,f3,f1.1,f1.2,hs,f4⟩
    ·simp only[h1,hn2,w1,Int.natCast_add,qP,go_sem]
    ·show a.length-(i+1)<a.length-i;omega
    ·show i+1<=a.length;omega
 ·have hd0:decide ((x.length:Int)<y.length)=false:=zq hlt;obtain⟨a,rfl⟩:∃a,a=x:=⟨_,rfl⟩;obtain⟨b,rfl⟩:∃b,b=y:=⟨_,rfl⟩;have ha:=hx;have hb:=hy;have hba:b.length<=a.length:=by omega
  refine ja5 [.tmp 4] Tryz.func145 ?_;simp only[hd0,go_sem];have w0:=ja9 (n:=(a.length:Int)+1) (by omega);have w00:((a.length:Int)+1)*8<=140737488355328:=by omega
  have w01:(0:Int)<=(a.length:Int)+1:=by omega
  have w02:((a.length:Int)+1).toNat=a.length+1:=by omega
  simp only[w0,w00,w01,w02,go_sem];refine jal [0,1,5,6,20,21,22] [19] (fun g:Nat×List Int×Int=>⟨[(0,.im (.sl (a.map ic))),(1,.im (.sl (b.map ic))),(5,.gsl 19 3 1 (a.length+1)),(6,.im (.int g.2.2)),(20,.im (.sl (a.map ic))),(21,.im (.int a.length)),(22,.im (.int g.1))],[(19,1,g.2.1.map ic)],[]⟩)
   (fun g=>g.1<=a.length/\g.2.1.length=a.length+1/\OkD g.2.1/\0<=g.2.2/\g.2.2<=1/\val g.2.1+1048576^g.1*g.2.2=val (a.take g.1)+val (b.take g.1)/\∀j,g.1<=j->dgt g.2.1 j=0)
   (fun g=>a.length-g.1) (0,List.replicate (a.length+1) 0,0) ?_
   ⟨zE _,zW,OkD.replicate _,qj _,by dsimp only;omega,by dsimp only;rw[jdq];simp[val],fun j _=>by
    unfold dgt;rw[qY];split<;>rfl⟩ ?_
  ·simp only[Int.natCast_zero,yR,zW,w02,go_sem]
  intro⟨i,out,c⟩ ⟨hi,hl,ho,hc0,hc1,hv,hz⟩;dsimp only at hi hl ho hc0 hc1 hv hz;by_cases hp:(i:Int)<a.length
  case neg=>
   have hd:decide ((i:Int)<a.length)=false:=zq hp;have hia:i=a.length:=by omega
   subst hia;have hjl:(a.length:Int)<((a.length+1:Nat):Int):=by omega
   have hok:OkD (out.set a.length c):=ho.set (by omega);have hvv:val (out.set a.length c)=val a+val b:=by
    rw[jg4 _ _ _ (by omega),hz _ (zB _),jp,hv,jc5 (zB _),jc5 hba]
   have ht:=jf4 (out.set a.length c) hok (by rw[qf];omega);rw[hvv]at ht;have hy:out[a.length]? =some (dgt out a.length):=jb2 (by omega);have hset:(out.map ic).set a.length [.sc (.int .i64 c)]=(out.set a.length c).map ic:=by rw[qP];rfl
   have hall:((out.set a.length c).map ic).take (a.length+1)=(out.set a.length c).map ic:=zt (by rw[zw,qf];omega);have hle:a.length+1<=(out.set a.length c).length:=by rw[qf];omega
   have hle2:(0:Int)<=a.length:=by omega
   simp only[ints]at ht;simp only[hd,hjl,ze,hy,hset,hall,hle,go_sem];refine ja1 ht ?_;simp only[go_sem]
  case pos=>
   have hd:decide ((i:Int)<a.length)=true:=za hp;have hx:=jb2 hp;have hda:=ha.dgt i;have hdb:=hb.dgt i;have h1:=ja9 (n:=(i:Int)+1) (by omega);have hjl:(i:Int)<((a.length+1:Nat):Int):=by omega
   have hy:out[i]? =some (dgt out i):=jb2 (by omega);have w1:=ja9 (n:=c+dgt a i) (by omega);have w2:=ja9 (n:=c+dgt a i+dgt b i) (by omega);have hn:c+dgt a i+dgt b i=dgt a i+dgt b i+c:=by omega
   rw[hn]at w2;have hs:=jsn (by omega:i<out.length) (hz i (zB _)) hv rfl;generalize hN:dgt a i+dgt b i+c=n at*;have a1:=and20 n;have fin:(0<=n/1048576/\n/1048576<=1)/\(out.set i (n % 1048576)).length=a.length+1/\OkD (out.set i (n % 1048576))/\∀j,i+1<=j->dgt (out.set i (n % 1048576)) j=0:=
    ⟨by omega,by rw[qf];exact hl,ho.set (by omega),fun j hj=>by rw[jn2 (by omega)];exact hz j (by omega)⟩
   obtain⟨f1,f2,f3,f4⟩:=fin;by_cases hbl:(i:Int)<b.length
   ·have hd2:decide ((i:Int)<b.length)=true:=za hbl;have hxb:=jb2 hbl;simp only[hd,hd2,ze,hx,hxb,w1,hn,hN,w2,hjl,hy,a1,go_sem];refine jab (i+1,out.set i (n % 1048576),n/1048576) ?_ ?_ ⟨?_,f2,f3,f1.1,f1.2,hs,f4⟩
    ·simp only[h1,hn,hN,w2,Int.natCast_add,qP,go_sem]
    ·show a.length-(i+1)<a.length-i;omega
    ·show i+1<=a.length;omega
   ·have hd2:decide ((i:Int)<b.length)=false:=zq hbl;have hb0:dgt b i=0:=jew (by omega);have hn2:c+dgt a i=n:=by omega
    rw[hn2]at w1;simp only[hd,hd2,ze,hx,hn2,w1,hjl,hy,a1,go_sem];refine jab (i+1,out.set i (n % 1048576),n/1048576) ?_ ?_ ⟨?_,f2,f3,f1.1,f1.2,hs,f4⟩
    ·simp only[h1,hn2,w1,Int.natCast_add,qP,go_sem]
    ·show a.length-(i+1)<a.length-i;omega
    ·show i+1<=a.length;omega
end
section
open Go.Abs
attribute [local go_sem] ints ic big
theorem len_fmod{a b:Int}{k:Nat}(hb:b≠0)(lb:(dig b.natAbs).length<=k):(dig (a.fmod b).natAbs).length<=k:=by
 refine jdc ?_ lb;rcases yh hb with h | h
 ·have h1:a.fmod b= -((-a).fmod (-b)):=by rw[Int.fmod_def,Int.fmod_def,Int.neg_fdiv_neg,ve];omega
  have h2:=Int.fmod_lt_of_pos (-a) (b:= -b) (by omega);have h3:=Int.fmod_nonneg_of_pos (-a) (b:= -b) (by omega);omega
 ·have h2:=Int.fmod_lt_of_pos a h;have h3:=Int.fmod_nonneg_of_pos a h;omega
theorem len_fdiv{a b:Int}{k:Nat}(hb:b≠0)(la:(dig a.natAbs).length<=k):(dig (a.fdiv b).natAbs).length<=k+1:=by
 have h0:a.natAbs/b.natAbs<=a.natAbs:=Nat.div_le_self _ _;have one:(dig 1).length<=k+1:=qn (jc1 (k:=1) (by decide)) (by omega);by_cases h:¬a.sign*b.sign<0\/a.natAbs % b.natAbs=0
 ·have:=(jpq hb h).1.1;rw[<-this];exact qn (jdc h0 la) (by omega)
 ·simp only[not_or,Classical.not_not]at h;have:=(jsb h.1 h.2).1.1;rw[<-this];refine jc1 ?_;have h1:=jh7 la;rw[jdb];have h2:(0:Int)<1048576^k:=jdl k;omega
theorem t_pdivb(a b:Int)(hb:b≠0)(la:(dig a.natAbs).length<=50000000000)(lb:(dig b.natAbs).length<=50000000000):Ctr G.P 107 [big a,big b] (· = .tup [big (a.fdiv b),big (a.fmod b),.int 0]):=by
 have ra:=jck a (by omega);have rb:=jck b (by omega);have hbs:decide (b.sign=0)=false:=zq fun h=>hb (yN.1 h);have ho:=t_pdiv a.natAbs b.natAbs (by omega) la lb;have hlq:=len_fdiv hb la;have hlr:=len_fmod (a:=a) hb lb;have w:=ja9 (n:=a.sign*b.sign) (by rw[<-vG];have:=jj0 (a*b);omega);have hB:0<b.natAbs:=by omega
 have hmlt:=ju a.natAbs hB;by_cases h:¬a.sign*b.sign<0\/a.natAbs % b.natAbs=0
 ·obtain⟨⟨e1,e2⟩,e3,e4⟩:=jpq hb h;have hm:=jec (a.sign*b.sign) (a.fdiv b) (a.natAbs/b.natAbs) e1 e2 (by omega);have hm2:=jec a.sign (a.fmod b) (a.natAbs % b.natAbs) e3 e4 (by omega);refine ja5 [.cell 4 33,.cell 5 33,.tmp 6] Tryz.func107 ?_;simp only[go_sem];refine ja1 ra ?_;simp only[go_sem];refine ja1 rb ?_;simp only[hbs,go_sem];refine ja1 ho ?_;simp only[w,go_sem];refine jcy (fun d d'=> ?_) (fun d d'=> ?_)
  ·have hz:=h.resolve_left (fun h=>h d');rw[hz,jbw]at hm2;simp only[d,hz,jbw,zC,List.length_nil,Int.natCast_zero,vk,go_sem];refine jaf ?_;simp only[w,go_sem];refine ja4 hm (by decide) ?_;simp only[go_sem];refine ja4 hm2 (by decide) ?_;simp only[go_sem]
  ·simp only[d,go_sem];refine jaf ?_;simp only[w,go_sem];refine ja4 hm (by decide) ?_;simp only[go_sem];refine ja4 hm2 (by decide) ?_;simp only[go_sem]
 ·simp only[not_or,Classical.not_not]at h;obtain⟨hs,hr⟩:=h;obtain⟨⟨e1,e2⟩,e3,e4⟩:=jsb hs hr;have hd:decide (a.sign*b.sign<0)=true:=za hs;have hlen:decide (0<((dig (a.natAbs % b.natAbs)).length:Int))=true:=za (by
   have:dig (a.natAbs % b.natAbs)≠[]:=fun h=>hr (dig_nil.1 h);have:=qV.2 this;omega)
  have hle:(dig (a.natAbs/b.natAbs)).length<=50000000000:=jdc (Nat.div_le_self _ _) la;have hle2:(dig (a.natAbs % b.natAbs)).length<=50000000000:=jdc (by omega) lb;have hone:OkD [1]:=OkD.cons (by omega) OkD.nil;have hp:=t_padd (dig (a.natAbs/b.natAbs)) [1] (jc3 _) hone (by omega) (by simp);rw[jb1,jnb,show((a.natAbs/b.natAbs:Nat)+1:Int).toNat=a.natAbs/b.natAbs+1 by omega]at hp;simp only[ints,ic,zl,zC]at hp;have hq:=t_psub (dig b.natAbs) (dig (a.natAbs % b.natAbs)) (jc3 _) (jc3 _) (by rw[jb1,jb1];omega) (by omega) (by omega);rw[jb1,jb1,show((b.natAbs:Int)-(a.natAbs % b.natAbs:Nat)).toNat=b.natAbs-a.natAbs % b.natAbs by omega]at hq;have hm:=jec (-1) (a.fdiv b) (a.natAbs/b.natAbs+1) e1 e2 (by omega);have hm2:=jec b.sign (a.fmod b) (b.natAbs-a.natAbs % b.natAbs) e3 e4 (by omega);refine ja5 [.cell 4 33,.cell 5 33,.tmp 6] Tryz.func107 ?_;simp only[go_sem];refine ja1 ra ?_;simp only[go_sem];refine ja1 rb ?_;simp only[hbs,go_sem];refine ja1 ho ?_;simp only[w,hd,hlen,go_sem];refine jaf ?_;simp only[w,go_sem];refine ja4 hp (by decide) ?_;simp only[go_sem];refine ja4 hm (by decide) ?_;simp only[go_sem];refine ja4 hq (by decide) ?_;simp only[go_sem];refine ja4 hm2 (by decide) ?_;simp only[go_sem]
theorem t_pgcd(a b:Int)(la:(dig a.natAbs).length<=50000000000)(lb:(dig b.natAbs).length<=50000000000):Ctr G.P 96 [big a,big b] (· = .tup [big (Nat.gcd a.natAbs b.natAbs:Nat),.int 0]):=by
 have ra:=jck a (by omega);have rb:=jck b (by omega);have hcl:=jki (dig a.natAbs) (by omega);refine ja5 [.cell 4 33,.tmp 5] Tryz.func96 ?_;simp only[go_sem];refine ja1 ra ?_;simp only[go_sem];refine ja1 rb ?_;simp only[go_sem];refine jac 7 ?_;simp only[go_sem];refine ja4 hcl (by decide) ?_;simp only[go_sem];refine jal [4,6,7] [4] (fun g:Nat×Nat=>⟨[(4,.loc 4 2 0 0),(6,.im (.sl ((dig g.1).map ic))),(7,.im (.sl ((dig g.2).map ic)))],[(4,2,[[.int 0,.sl []]])],[]⟩)
  (fun g=>Nat.gcd g.1 g.2=Nat.gcd a.natAbs b.natAbs/\(dig g.1).length<=50000000000/\(dig g.2).length<=50000000000) (fun g=>g.2) (a.natAbs,b.natAbs) ?_ ⟨rfl,la,lb⟩ ?_
 ·simp only[go_sem]
 ·intro⟨x,y⟩ ⟨hg,lx,ly⟩;dsimp only at hg lx ly;by_cases hy:y=0
  ·subst hy;rw[Nat.gcd_zero_right]at hg;rw[<-hg];have hm:=jec 1 x x (by omega) (fun h=>(zU (by omega)).symm) (by rw[Int.natAbs_natCast];omega);have hc:=jkj x;have hcx:=jki (dig x) (by omega);simp only[jbw,zC,go_sem];refine ja1 hcx ?_;simp only[go_sem];refine ja1 hm ?_;simp only[go_sem];refine ja1 hc ?_;simp only[go_sem]
  ·have hne:dig y≠[]:=fun h=>hy (dig_nil.1 h);have hlp:=qV.2 hne;have hd:decide (0<((dig y).length:Int))=true:=za (by omega);have ho:=t_pdiv x y (by omega) (by omega) ly;have hlt:=ju x (by omega:y>0);simp only[hd,go_sem];refine ja1 ho ?_;simp only[go_sem];refine jab (y,x % y) ?_ hlt ⟨?_,ly,jdc (by omega) ly⟩
   ·simp only[go_sem]
   ·show Nat.gcd y (x % y)=_;rw[<-hg,Nat.gcd_comm x y,Nat.gcd_rec y x,Nat.gcd_comm]
end
end Go.Proofs.YthahgoopboilkaaGreat
namespace Go.Abs
section
theorem u64_in(n:Int)(h:0<=n/\n<18446744073709551616):IntKind.u64.wrap n=n:=by
 have:=IntWalk.u64_in n (by omega);exact this
theorem orU(u d:Int)(s:Nat)(hu:0<=u/\u<2^s)(hd:0<=d)(hs:d*2^s<18446744073709551616)(hs2:(2:Int)^s<18446744073709551616):bits .or .u64 u (d*2^s)=u+d*2^s:=by
 have hp:(0:Int)<2^s:=Int.pow_pos (by decide);have hm:0<=d*2^s:=qZ hd (by omega);have e1:(d*2^s).toNat=2^s*d.toNat:=by
  have h1:((2^s*d.toNat:Nat):Int)=d*2^s:=by
   rw[Int.natCast_mul,Int.natCast_pow,yp hd,yE];rfl
  omega
 have e2:u.toNat<2^s:=by
  have h1:((2^s:Nat):Int)=2^s:=by rw[Int.natCast_pow];rfl
  omega
 have e3:(BitVec.ofInt 64 u ||| BitVec.ofInt 64 (d*2^s)).toNat=(u+d*2^s).toNat:=by
  rw[BitVec.toNat_or,jco,jco,jD (by omega) (by omega),jD (by omega) (by omega),e1,Nat.or_comm,<-vT e2];omega
 have h2:bits .or .u64 u (d*2^s)=IntKind.u64.wrap ((BitVec.ofInt 64 u ||| BitVec.ofInt 64 (d*2^s)).toNat:Nat):=rfl;rw[h2,e3,yp (by omega)];refine u64_in _ ⟨by omega,?_⟩;have hlt:u+d*2^s<(d+1)*2^s:=by rw[yV];omega
 have:(BitVec.ofInt 64 u ||| BitVec.ofInt 64 (d*2^s)).toNat<2^64:=BitVec.isLt _;rw[e3]at this;omega
theorem pow20(i:Nat):(2:Int)^(20*i)=1048576^i:=by
 rw[Int.pow_mul];rfl
theorem or_digit{u d:Int}{i:Nat}(hi:i<4)(hu:0<=u/\u<1048576^i)(hd:0<=d/\d<1048576)(h3:i=3->d<=8):
  IntKind.u64.wrap (IntKind.u64.wrap d*2^min (20*(i:Int)).toNat 64)=d*1048576^i/\bits .or .u64 u (d*1048576^i)=u+d*1048576^i:=by
 rw[u64_in d (by omega),show min (20*(i:Int)).toNat 64=20*i by omega,<-pow20]at*;have hs:d*2^(20*i)<18446744073709551616/\(2:Int)^(20*i)<18446744073709551616:=by
  rw[pow20];have:i=0\/i=1\/i=2\/i=3:=by omega
  rcases this with e | e | e | e<;>subst e<;>simp at h3⊢ <;>omega
 exact⟨u64_in _ ⟨qZ hd.1 (Int.le_of_lt (Int.pow_pos (by decide))),hs.1⟩,orU u d (20*i) hu hd.1 hs.1 hs.2⟩
end
end Go.Abs
namespace Go.Proofs.YthahgoopboilkaaGreat
section
open Go.Abs
attribute [local go_sem] ints ic big
def fits(z:Int):Bool:=decide (-9223372036854775808<=z)&&decide (z<=9223372036854775807)
def intF(z:Int):Int:=if fits z=true then z else 0
theorem val_ge{l:List Int}(h:OkD l)(i:Nat):1048576^i*dgt l i<=val l:=by
 have h1:=jd8 l i;have h2:=jcv l i;have h3:=jb0 (h.take i);have h4:=jb0 (h.drop (i+1));rw[h2,qI]at h1;have h5:(0:Int)<=1048576^i*(1048576*val (l.drop (i+1))):=qZ (Int.le_of_lt (jdl i)) (by omega);omega
theorem last_ne{n:Nat}(h:dig n≠[]):1<=dgt (dig n) ((dig n).length-1):=by
 have h3:=jnt n;have hp:=qV.2 h;rw[jq,jb2 (l:=dig n) (by omega)]at h3;have h4:=(jc3 n).dgt ((dig n).length-1);have h5:dgt (dig n) ((dig n).length-1)≠0:=fun e=>h3 (by rw[e]);omega
theorem jru{z:Int}(h:¬(dig z.natAbs).length<=4):fits z=false:=by
 have h1:=last_ne (n:=z.natAbs) (fun e=>h (by rw[e];simp));have h2:=val_ge (jc3 z.natAbs) ((dig z.natAbs).length-1);rw[jb1]at h2;have h3:(1048576:Int)^4<=1048576^((dig z.natAbs).length-1):=by
  have h6:=vy.2 (q7 (n:=1048576) (by omega) (show 4<=(dig z.natAbs).length-1 by omega));rw[Int.natCast_pow,Int.natCast_pow]at h6;exact h6
 have h4:(1048576:Int)^((dig z.natAbs).length-1)*1<=1048576^((dig z.natAbs).length-1)*dgt (dig z.natAbs) ((dig z.natAbs).length-1):=qm h1 (Int.le_of_lt (jdl _));rw[fits,jE,qg,qg];omega
theorem top_big{z:Int}(h:¬dgt (dig z.natAbs) 3<=8):fits z=false:=by
 have h2:=val_ge (jc3 z.natAbs) 3;rw[jb1]at h2;rw[fits,jE,qg,qg];omega
theorem jnz{z:Int}(h:fits z=false):intF z=0:=by rw[intF,h];rfl
theorem jnx{z:Int}(h:fits z=true):intF z=z:=by rw[intF,h];rfl
theorem u64_neg{n:Int}(h:0<=n/\n<=9223372036854775808):IntKind.i64.wrap (IntKind.u64.wrap (0-n))=0-n:=by
 rw[IntKind.wrap_i64,IntKind.wrap_u64];omega
theorem t_pint(z:Int)(lz:(dig z.natAbs).length<=1000000000000):Ctr G.P 67 [big z] (· = .tup [.int (intF z),.bool (fits z)]):=by
 have rz:=jck z (by omega);by_cases hl:(dig z.natAbs).length<=4
 case neg=>
  have hd:decide (4<((dig z.natAbs).length:Int))=true:=za (by omega);rw[jnz (jru hl),jru hl];refine ja5 [.tmp 2,.tmp 3] Tryz.func67 ?_;simp only[go_sem];refine ja1 rz ?_;simp only[hd,go_sem]
 case pos=>
  have hd:decide (4<((dig z.natAbs).length:Int))=false:=zq (by omega);have hok:=jc3 z.natAbs;have hz:=jb1 z.natAbs;have htop:=top_big (z:=z);refine ja5 [.tmp 2,.tmp 3] Tryz.func67 ?_;simp only[go_sem];refine ja1 rz ?_;simp only[hd,go_sem];refine jal [1,4,17,18,19] [1] (fun i:Nat=>⟨[(1,.loc 1 2 0 0),(4,.im (.sc (.int .u64 (val ((dig z.natAbs).take i))))),(17,.im (.sl ((dig z.natAbs).map ic))),(18,.im (.int (dig z.natAbs).length)),(19,.im (.int i))],[(1,2,[[.int z.sign,ints (dig z.natAbs)]])],[]⟩)
   (fun i=>i<=(dig z.natAbs).length/\(i=4->dgt (dig z.natAbs) 3<=8)) (fun i=>(dig z.natAbs).length-i) 0 ?_ ⟨zE _,fun h=>by cases h⟩ ?_
  ·simp only[List.take_zero,val,Int.natCast_zero,go_sem]
  generalize hg:dig z.natAbs=l at*;intro i ⟨hi,h8⟩;by_cases hp:(i:Int)<l.length
  ·have hdp:decide ((i:Int)<l.length)=true:=za hp;have hx:=jb2 hp;have hw:=ja9 (n:=(i:Int)+1) (by omega);have hw2:=ja9 (n:=20*(i:Int)) (by omega);have hi4:i<4:=by omega
   have hu:=jb0 (hok.take i);have hu2:=jdn hok i;have had:=hok.dgt i;have hn20:decide (20*(i:Int)<0)=false:=zq (by omega);have hn20':¬(20*(i:Int)<0):=by omega
   have hst:=jci l i;rw[yE]at hst;by_cases h3:i=3/\¬dgt l i<=8
   ·have e1:decide ((i:Int)=3)=true:=za (by omega);have e2:decide (8<dgt l i)=true:=za (by omega);have hb:=htop (h3.1▸h3.2);rw[jnz hb,hb];simp only[hdp,ze,hx,go_sem];simp only[e1,e2,go_sem]
   ·have h3':i=3->dgt l i<=8:=fun e=>jy fun h=>h3 ⟨e,h⟩;have ho:=or_digit hi4 ⟨hu,hu2⟩ had h3';have hnext:i+1=4->dgt l 3<=8:=fun e=>by
     have e':i=3:=by omega
     subst e';exact h3' rfl
    simp only[hdp,ze,hx,go_sem];refine jcy (fun e e'=> ?_) (fun e e'=> ?_)
    ·have e2:decide (8<dgt l i)=false:=zq (by have:=h3' (by omega);omega);simp only[e,e2,hw2,hn20,hn20',ho.1,ho.2,go_sem];refine jab (i+1) ?_ (by omega) ⟨by omega,hnext⟩;simp only[hw,hst,Int.natCast_add,go_sem]
    ·simp only[e,hw2,hn20,hn20',ho.1,ho.2,go_sem];refine jab (i+1) ?_ (by omega) ⟨by omega,hnext⟩;simp only[hw,hst,Int.natCast_add,go_sem]
  ·have hdp:decide ((i:Int)<l.length)=false:=zq hp;have hall:val (l.take i)=z.natAbs:=by rw[zt (by omega),hz]
   rw[hall];simp only[hdp,go_sem];refine jcy (fun e e'=> ?_) (fun e e'=> ?_)
   ·have hneg:z<0:=by
     rcases yc z 0 with h | h | h
     ·exact h
     ·subst h;cases e'
     ·rw[zU h]at e';omega
    have hnp:decide (0<=z.sign)=false:=zq (by omega);by_cases hf:fits z=true
    ·have hf2:=hf;rw[fits,zr,zK,zK]at hf2;have d2:decide ((z.natAbs:Int)<=9223372036854775808)=true:=za (by omega);have hu:=u64_neg (n:=z.natAbs) (by omega);have hzz:0-(z.natAbs:Int)=z:=by omega
     rw[hzz]at hu;rw[jnx hf,hf];simp only[e,d2,hu,hzz,go_sem]
    ·have hf':fits z=false:=by simpa using hf
     have hf2:=hf';rw[fits,jE,qg,qg]at hf2;have d2:decide ((z.natAbs:Int)<=9223372036854775808)=false:=zq (by omega);rw[jnz hf',hf'];simp only[e,d2,hnp,go_sem]
   ·have hpos:0<=z:=by
     rcases yS z 0 with h | h
     ·rw[zP h]at e';omega
     ·exact h
    have hnp:decide (0<=z.sign)=true:=za (by omega);by_cases hf:fits z=true
    ·have hf2:=hf;rw[fits,zr,zK,zK]at hf2;have d2:decide ((z.natAbs:Int)<9223372036854775808)=true:=za (by omega);have hzz:(z.natAbs:Int)=z:=by omega
     rw[hzz]at d2;have hu:=ja9 (n:=z) (by omega);rw[jnx hf,hf];simp only[e,hzz,d2,hnp,hu,go_sem]
    ·have hf':fits z=false:=by simpa using hf
     have hf2:=hf';rw[fits,jE,qg,qg]at hf2;have d2:decide ((z.natAbs:Int)<9223372036854775808)=false:=zq (by omega);rw[jnz hf',hf'];simp only[e,d2,hnp,go_sem]
end
section
open Go.Abs
def frac(r:Rat):IV:= .agg [.int r.num.sign,ints (dig r.num.natAbs),.int (r.den:Int).sign,ints (dig (r.den:Int).natAbs)]
attribute [local go_sem] ints ic big frac
theorem den_sign(r:Rat):(r.den:Int).sign=1:=zU (by have:=r.den_pos;omega)
end
section
open Go.Abs
attribute [local go_sem] ints ic big
def fracF(s:Int)(l:List Int)(t:Int)(m:List Int):Bool:=jei s l&&(jei t m&&(decide (t=1)&&decide (Nat.gcd (val l).toNat (val m).toNat=1)))
theorem frac_of{s t:Int}{l m:List Int}(h:fracF s l t m=true):∃r:Rat,s=r.num.sign/\l=dig r.num.natAbs/\t=(r.den:Int).sign/\m=dig (r.den:Int).natAbs:=by
 rw[fracF,zr,zr,zr,zK,zK]at h;obtain⟨h1,h2,h3,h4⟩:=h;obtain⟨z,e1,e2⟩:=jsl h1;obtain⟨w,e3,e4⟩:=jsl h2;subst e1 e2;have hw:0<w:=Int.sign_eq_one_iff_pos.1 (by omega);rw[e4,jb1,jb1,Int.toNat_natCast,Int.toNat_natCast]at h4;have e5:((w.natAbs:Nat):Int)=w:=by omega
 exact⟨⟨z,w.natAbs,by omega,h4⟩,rfl,rfl,by show t=((w.natAbs:Nat):Int).sign;rw[e5,e3],by show m=dig ((w.natAbs:Nat):Int).natAbs;rw[e5,e4]⟩
theorem jj2(r:Rat):fracF r.num.sign (dig r.num.natAbs) (r.den:Int).sign (dig (r.den:Int).natAbs)=true:=by
 rw[fracF,jkr,jkr,jb1,jb1,Int.toNat_natCast,Int.toNat_natCast,Int.natAbs_natCast,za (show Nat.gcd r.num.natAbs r.den=1 from r.reduced),den_sign];rfl
end
section
open Go.Abs
attribute [local go_sem] ints ic big frac
def cmpR(a b:Rat):Int:=cmpI (a.num*b.den) (b.num*a.den)
theorem cmpR_neg{a b:Rat}:cmpR a b<0↔a<b:=by
 rw[vX,cmpR,cmpI];split
 ·simp[*]
 ·split<;>simp[*]
theorem cmpR_pos{a b:Rat}:0<cmpR a b↔b<a:=by
 rw[vX,cmpR,cmpI];split
 ·simp;omega
 ·split
  ·simp;omega
  ·simp;omega
end
section
open Go.Abs
attribute [local go_sem] ints ic big frac
theorem one_fits(n:Int):(fits n&&decide (intF n=1))=decide (n=1):=by
 by_cases h:fits n=true
 ·rw[jnx h,h,qe]
 ·have h':fits n=false:=by simpa using h
  rw[h',qp];refine(zq fun e=> ?_).symm;subst e;exact absurd h' (by decide)
theorem t_one(z:Int)(h:(dig z.natAbs).length<=1000000000000):Ctr G.P 97 [big z] (· = .bool (decide (z=1))):=by
 have hi:=t_pint z h;have ho:=one_fits z;by_cases hf:fits z=true
 ·rw[hf]at hi ho;rw[qe]at ho;refine ja5 [.tmp 2] Tryz.func97 ?_;simp only[go_sem];refine ja1 hi ?_;simp only[ho,go_sem]
 ·have h':fits z=false:=by simpa using hf
  rw[h']at hi ho;rw[qp]at ho;rw[<-ho];clear ho;refine ja5 [.tmp 2] Tryz.func97 ?_;simp only[go_sem];refine ja1 hi ?_;simp only[go_sem]
theorem jf5(s t:Int)(l m:List Int)(hl:l.length<=50000000000)(hm:m.length<=50000000000):Ctr G.P 53 [.agg [.int s,ints l,.int t,ints m]] (· = .bool (fracF s l t m)):=by
 have r1:=jne s l (by omega);have r2:=jne t m (by omega);by_cases h1:jei s l=true
 case neg=>
  have h1:jei s l=false:=by simpa using h1
  rw[h1]at r1;rw[fracF,h1,qp];refine ja5 [.tmp 2] Tryz.func53 ?_;simp only[go_sem];refine ja1 r1 ?_;simp only[go_sem]
 case pos=>
 by_cases h2:jei t m=true
 case neg=>
  have h2:jei t m=false:=by simpa using h2
  rw[h1]at r1;rw[h2]at r2;rw[fracF,h2,qp,yq];refine ja5 [.tmp 2] Tryz.func53 ?_;simp only[go_sem];refine ja1 r1 ?_;simp only[go_sem];refine ja1 r2 ?_;simp only[go_sem]
 case pos=>
 rw[h1]at r1;rw[h2]at r2;by_cases h3:t=1
 case neg=>
  have d3:decide (t=1)=false:=zq h3;rw[fracF,d3,qp,yq,yq];refine ja5 [.tmp 2] Tryz.func53 ?_;simp only[go_sem];refine ja1 r1 ?_;simp only[go_sem];refine ja1 r2 ?_;simp only[d3,go_sem]
 case pos=>
 have d3:decide (t=1)=true:=za h3;rw[fracF,h1,h2,d3,qe,qe,qe];obtain⟨z,e1,e2⟩:=jsl h1;obtain⟨w,e3,e4⟩:=jsl h2;have hwp:0<w.natAbs:=by
  have:0<w:=Int.sign_eq_one_iff_pos.1 (by omega);omega
 subst e1 e2 e3 e4;rw[jb1,jb1,Int.toNat_natCast,Int.toNat_natCast];have hg:=t_pgcd z w hl hm;have hgl:(dig (Nat.gcd z.natAbs w.natAbs)).length<=50000000000:=jdc (Nat.gcd_le_right _ hwp) hm;have ho:=t_one (Nat.gcd z.natAbs w.natAbs:Nat) (by rw[Int.natAbs_natCast];omega);have hci:decide (((Nat.gcd z.natAbs w.natAbs:Nat):Int)=1)=decide (Nat.gcd z.natAbs w.natAbs=1):=by
  rw[yG];omega
 simp only[big,ints]at hg ho;refine ja5 [.tmp 2] Tryz.func53 ?_;simp only[go_sem];refine ja1 r1 ?_;simp only[go_sem];refine ja1 r2 ?_;simp only[d3,go_sem];refine ja1 hg ?_;simp only[go_sem];refine ja1 ho ?_;simp only[hci,go_sem]
theorem jcc(r:Rat)(lp:(dig r.num.natAbs).length<=50000000000)(lq:(dig r.den).length<=50000000000):Ctr G.P 53 [frac r] (· = .bool true):=by
 have:=jf5 r.num.sign (r.den:Int).sign (dig r.num.natAbs) (dig (r.den:Int).natAbs) lp (by rw[Int.natAbs_natCast];exact lq);rw[jj2]at this;exact this
theorem jev(a b:Int)(la:(dig a.natAbs).length<=100000000000)(lb:(dig b.natAbs).length<=100000000000):Ctr G.P 70 [big a,big b] (· =big (a*b)):=by
 have hm:=t_pmulb a b la lb;refine ja5 [.cell 4 33] Tryz.func70 ?_;simp only[go_sem];refine ja1 hm ?_;simp only[go_sem]
theorem t_pcmpf(a b:Rat)(h1:(dig a.num.natAbs).length<=50000000000)(h2:(dig a.den).length<=50000000000)(h3:(dig b.num.natAbs).length<=50000000000)(h4:(dig b.den).length<=50000000000):Ctr G.P 24 [frac a,frac b] (· = .int (cmpR a b)):=by
 have ra:=jcc a h1 h2;have rb:=jcc b h3 h4;have m1:=jev a.num b.den (by omega) (by rw[Int.natAbs_natCast];omega);have m2:=jev b.num a.den (by omega) (by rw[Int.natAbs_natCast];omega);have l1:(dig (a.num*b.den).natAbs).length<=1000000000000:=by
  rw[jk,Int.natAbs_natCast];have:=jl2 h1 h4;omega
 have l2:(dig (b.num*a.den).natAbs).length<=1000000000000:=by
  rw[jk,Int.natAbs_natCast];have:=jl2 h3 h2;omega
 have hc:=t_pcompareb (a.num*b.den) (b.num*a.den) l1 l2;simp only[big,ints]at m1 m2 hc;refine ja5 [.tmp 4] Tryz.func24 ?_;simp only[go_sem];refine ja1 ra ?_;simp only[go_sem];refine ja1 rb ?_;simp only[go_sem];refine jac 12 ?_;simp only[go_sem];refine ja4 m1 (by decide) ?_;simp only[go_sem];refine ja4 m2 (by decide) ?_;simp only[go_sem];refine ja4 hc (by decide) ?_;simp only[cmpR,go_sem]
theorem t_psignf(r:Rat)(lp:(dig r.num.natAbs).length<=50000000000)(lq:(dig r.den).length<=50000000000):Ctr G.P 82 [frac r] (· = .int r.num.sign):=by
 have h:=jcc r lp lq;refine ja5 [.tmp 2] Tryz.func82 ?_;simp only[go_sem];refine ja1 h ?_;simp only[go_sem]
end
section
open Go.Abs
attribute [local go_sem] ints ic big
