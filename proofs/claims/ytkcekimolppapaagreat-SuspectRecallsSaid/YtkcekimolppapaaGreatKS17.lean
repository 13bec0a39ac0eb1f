/- A part of the proof. No further condition. -/
import Derived.Test.YtkcekimolppapaaGreatKS16
set_option linter.all false
set_option maxRecDepth 10000000
set_option maxHeartbeats 16000000
namespace Go.Proofs.YtkcekimolppapaaGreat
section
open Go.Abs
attribute [local go_sem] ints ic big
theorem of_step{l:List Int}{m z:Int}(h:val l+1048576^l.length*m=z):val (l++[m % 1048576])+1048576^(l++[m % 1048576]).length*(m/1048576)=z:=by
 rw[jrz,zG,List.length_cons,List.length_nil,jdk,<-h];have e:(1048576:Int)^l.length*(m % 1048576)+1048576^l.length*1048576*(m/1048576)=1048576^l.length*m:=by
  rw[qU,<-qJ,qY]
 omega
theorem of_len{n:Int}{k:Nat}(hn:n≠0)(h0:0<=n)(hk:k<=4)(h:n<1048576^(4-k)):k+1<=4/\n/1048576<1048576^(4-(k+1)):=by
 rcases zU k 4 with h1 | h1
 ·refine⟨h1,?_⟩;rw[show 4-k=(4-(k+1))+1 by omega,jdk]at h;omega
 ·rw[show 4-k=0 by omega,Int.pow_zero]at h;omega
end
section
open Go.Abs
attribute [local go_sem] ints ic
theorem okd_gt{d:Int}:okd d=(!decide (d<0)&& !decide (1048575<d)):=by
 rw[okd,show(decide (1048576<=d))=decide (1048575<d)from yk.2 (by omega)]
theorem jmx(s:Int):jeq s []=decide (s=0):=by
 by_cases h:s=0
 ·subst h;rfl
 ·rw[zw h];simp[jeq,h]
theorem jmw{s:Int}{l:List Int}(ha:l.all okd=true)(hl:l≠[]):jeq s l=((decide (s=1) || decide (s= -1))&& !decide (dgt l (l.length-1)=0)):=by
 have hz:decide ((l.length:Int)=0)=false:=zw (by have:=qh.2 hl;omega);rw[jeq,ha,hz];generalize (decide (dgt l (l.length-1)=0))=b;by_cases h1:s=1
 ·subst h1;simp
 ·by_cases h2:s= -1
  ·subst h2;simp
  ·simp only[qu,qP];by_cases h3:s=0
   ·subst h3;simp
   ·by_cases h4:s< -1
    ·simp[h4,h1,h2]
    ·have h5:1<s:=by omega
     simp[h5,h1,h2]
theorem jnt(s:Int)(l:List Int)(hl:l.length<=1000000000000000):Ctr G.P 118 [.agg [.int s,ints l]] (· = .bool (jeq s l)):=by
 refine ja5 [.tmp 2] Tryz.func118 ?_;simp only[go_sem];refine jan [1,3,10,11,12] [1] (fun i:Nat=>⟨[(1,.loc 1 2 0 0),(3,.im (.int l.length)),(10,.im (.sl (l.map ic))),(11,.im (.int l.length)),(12,.im (.int i))],[(1,2,[[.int s,ints l]])],[]⟩) (fun i=>i<=l.length/\(l.take i).all okd=true) (fun i=>l.length-i) 0 ?_ ⟨zH _,rfl⟩ ?_
 ·simp only[Int.natCast_zero,go_sem]
 ·intro i ⟨hi,ha⟩;by_cases hp:(i:Int)<l.length
  ·have hd:decide ((i:Int)<l.length)=true:=zh hp;have hx:=jb6 hp;have h1:=ja7 (n:=(i:Int)+1) (by omega);have hs:=all_okd_succ hp;have hno:okd (dgt l i)=false->jeq s l=false:=fun h=>by
    have:l.all okd=false:=by
     rw[List.all_eq_false];exact⟨_,zk hx,by simp[h]⟩
    simp[jeq,this]
   simp only[hd,za,hx,go_sem];refine jc1 (fun d1=> ?_) (fun d1=> ?_)
   ·rw[hno (by rw[okd_gt,d1];rfl)];simp only[d1,go_sem]
   ·simp only[d1,go_sem];refine jc1 (fun d2=> ?_) (fun d2=> ?_)
    ·rw[hno (by rw[okd_gt,d1,d2];rfl)];simp only[go_sem]
    ·simp only[go_sem];refine jab (i+1) ?_ (by omega) ⟨by omega,by rw[hs,ha,okd_gt,d1,d2];rfl⟩;simp only[h1,Int.natCast_add,go_sem]
  ·have hd:decide ((i:Int)<l.length)=false:=zw hp;rw[zu (by omega)]at ha;by_cases h0:l=[]
   ·subst h0;clear hd hp;have hd:decide ((i:Int)<0)=false:=zw (by omega);rw[jmx];simp only[List.length_nil,Int.natCast_zero,hd,Bool.true_beq,vy,go_sem]
   ·have hpos:=qh.2 h0;have hz:decide ((l.length:Int)=0)=false:=zw (by omega);have hlast:l[l.length-1]? =some (dgt l (l.length-1)):=jb6 (by omega);have hw:=ja7 (n:=(l.length:Int)-1) (by omega);have hn:((l.length:Int)-1).toNat=l.length-1:=by omega
    have hn0:(0:Int)<=(l.length:Int)-1:=by omega
    have hn1:(l.length:Int)-1<l.length:=by omega
    rw[jmw ha h0];simp only[hd,hz,go_sem];refine jc1 (fun d1=> ?_) (fun d1=> ?_)
    ·simp only[d1,hw,hn,hn0,hn1,za,hlast,go_sem]
    ·simp only[d1,go_sem];refine jc1 (fun d2=> ?_) (fun d2=> ?_)
     ·simp only[d1,d2,hw,hn,hn0,hn1,za,hlast,go_sem]
     ·simp only[d1,d2,go_sem]
end
section
open Go.Abs
attribute [local go_sem] ints ic mb20 pw20 fd20
theorem t_psub(a b:List Int)(ha:OkD a)(hb:OkD b)(hab:val b<=val a)(la:a.length<=1000000000000)(lb:b.length<=1000000000000):Ctr G.P 129 [ints a,ints b] (· =ints (dig (val a-val b).toNat)):=by
 by_cases hne:a=[]
 ·subst hne;have h0:=jb3 hb;have hv:(val ([]:List Int)-val b).toNat=0:=by simp only[val]at*;omega
  rw[hv,jbz];have hc:=jh1 [] (by simp);have ht:=jfc [] OkD.nil (by simp);have hz:dig (val ([]:List Int)).toNat=[]:=jbz;rw[hz]at ht;simp only[ints,zF]at hc ht;refine ja5 [.tmp 4] Tryz.func129 ?_;simp only[zF,go_sem];refine ja1 hc ?_;simp only[go_sem];refine jan [1,5,6,12,13] [] (fun g:Unit=>⟨[(1,.im (.sl (b.map ic))),(5,.im (.sl [])),(6,.im (.int 0)),(12,.im (.int 0)),(13,.im (.int 0))],[],[]⟩) (fun _=>True) (fun _=>0) () ?_ trivial ?_
  ·simp only[Int.natCast_zero,go_sem]
  intro _ _;have hd:decide ((0:Int)<0)=false:=by decide
  simp only[hd,vF,go_sem];refine ja1 ht ?_;simp only[go_sem]
 have hc:=t_cloneO a hne (by omega);simp only[ints]at hc;refine ja5 [.tmp 4] Tryz.func129 ?_;simp only[go_sem];refine jmf [] (hc) (by decide) (by simp) (by simp[rnm,look]) (by repeat' (first | exact trivial | refine⟨rfl,?_⟩)) rfl rfl rfl rfl ?_ rfl;simp only[go_sem];refine jan [1,5,6,11,12,13] [10] (fun g:Nat×List Int×Int=>⟨[(1,.im (.sl (b.map ic))),(5,.gsl 10 3 1 a.length),(6,.im (.int g.2.2)),(11,.gsl 10 3 1 a.length),(12,.im (.int a.length)),(13,.im (.int g.1))],[(10,1,g.2.1.map ic)],[]⟩)
  (fun g=>g.1<=a.length/\g.2.1.length=a.length/\OkD g.2.1/\0<=g.2.2/\g.2.2<=1/\val g.2.1-1048576^g.1*g.2.2=val a-val (b.take g.1))
  (fun g=>a.length-g.1) (0,a,0) ?_ ⟨zH _,rfl,ha,yq _,by dsimp only;omega,by dsimp only;simp[val]⟩ ?_
 ·simp only[Int.natCast_zero,go_sem]
 intro⟨i,out,c⟩ ⟨hi,hl,ho,hc0,hc1,hv⟩;dsimp only at hi hl ho hc0 hc1 hv;by_cases hp:(i:Int)<a.length
 case neg=>
  have hd:decide ((i:Int)<a.length)=false:=zw hp;have hia:i=a.length:=by omega
  subst hia;have hvv:val out=val a-val b:=by
   have h1:=jep ha;have h2:=jep ho;have h3:=jb3 ho;rw[hl]at h2;rw[jjb hb (by omega)]at hv;generalize (1048576:Int)^a.length=p at*;have:c=0\/c=1:=by omega
   rcases this with rfl | rfl
   ·omega
   ·omega
  have ht:=jfc out ho (by omega);rw[hvv]at ht;have hall:(out.map ic).take a.length=out.map ic:=zu (by rw[zq];omega);have hle:a.length<=out.length:=by omega
  simp only[ints]at ht;simp only[hd,hall,hle,go_sem];refine ja1 ht ?_;simp only[go_sem]
 case pos=>
  have hd:decide ((i:Int)<a.length)=true:=zh hp;have hda:=ho.dgt i;have hdb:=hb.dgt i;have h1:=ja7 (n:=(i:Int)+1) (by omega);have hy:out[i]? =some (dgt out i):=jb6 (by omega);have w1:=ja7 (n:=dgt out i-c) (by omega);have w2:=ja7 (n:=dgt out i-c-dgt b i) (by omega);have hs:=sub_step (by omega:i<out.length) hv rfl;have hn:dgt out i-c-dgt b i=dgt out i-dgt b i-c:=by omega
  rw[hn]at w2;generalize hN:dgt out i-dgt b i-c=n at*;have a1:=and20 n;have a2:=and1 (n/1048576) (by omega);have a3:n/1048576 % 2= -(n/1048576):=by omega
  rw[a3]at a2;have fin:(0<= -(n/1048576)/\ -(n/1048576)<=1)/\(out.set i (n % 1048576)).length=a.length/\OkD (out.set i (n % 1048576)):=
   ⟨by omega,by rw[qa];exact hl,ho.set (by omega)⟩
  obtain⟨f1,f2,f3⟩:=fin;by_cases hbl:(i:Int)<b.length
  ·have hd2:decide ((i:Int)<b.length)=true:=zh hbl;have hxb:=jb6 hbl;simp only[hd,hd2,za,hxb,w1,hn,hN,w2,hp,hy,a1,a2,go_sem];refine jab (i+1,out.set i (n % 1048576),-(n/1048576)) ?_ ?_ ⟨?_,f2,f3,f1.1,f1.2,hs⟩
   ·simp only[h1,hn,hN,w2,a1,a2,Int.natCast_add,qD,go_sem]
   ·show a.length-(i+1)<a.length-i;omega
   ·show i+1<=a.length;omega
  ·have hd2:decide ((i:Int)<b.length)=false:=zw hbl;have hb0:dgt b i=0:=jf4 (by omega);have hn2:dgt out i-c=n:=by omega
   rw[hn2]at w1;simp only[hd,hd2,za,hn2,w1,hp,hy,a1,a2,go_sem];refine jab (i+1,out.set i (n % 1048576),-(n/1048576)) ?_ ?_ ⟨?_,f2,f3,f1.1,f1.2,hs⟩
   ·simp only[h1,hn2,w1,a1,a2,Int.natCast_add,qD,go_sem]
   ·show a.length-(i+1)<a.length-i;omega
   ·show i+1<=a.length;omega
end
section
open Go.Abs
theorem jtj{s:Int}{l:List Int}(h:jeq s l=true):∃z:Int,s=z.sign/\l=dig z.natAbs:=by
 have h0:=h;rw[jeq,zD]at h0;have hall:=h0.1;have hok:OkD l:=all_okd.1 hall;by_cases hl:l=[]
 ·subst hl;rw[jmx]at h;exact⟨0,zJ h,by rw[Int.natAbs_zero,jbz]⟩
 ·rw[jmw hall hl,zD,qR,jw,zW,zW,ql]at h;have hlp:=qh.2 hl;have hlast:l.getLast? ≠some 0:=fun e=>h.2 (by
   rw[jy]at e;have:=jb6 (l:=l) (i:=l.length-1) (by omega);rw[e]at this;exact(yE this).symm)
  have he:=eq_dig hok hlast;have hne:(val l).toNat≠0:=fun e=>hl (by rw[e,jbz]at he;exact he);rcases h.1 with h1 | h1
  ·exact⟨(val l).toNat,by rw[h1,zV (by omega)],by rw[Int.natAbs_natCast];exact he⟩
  ·exact⟨-(val l).toNat,by rw[h1,zR (by omega)],by rw[yC,Int.natAbs_natCast];exact he⟩
theorem jga{a b q r:Int}(h:a=b*q+r)(h1:(0<=r/\r<b)\/(b<r/\r<=0)):a.fdiv b=q/\a.fmod b=r:=by
 have hq:a.fdiv b=q:=by
  rcases h1 with h1 | h1
  ·rw[jo _ (by omega)];exact((Int.ediv_emod_unique (a:=a) (b:=b) (q:=q) (r:=r) (by omega)).2 ⟨by omega,h1⟩).1
  ·rw[<-Int.neg_fdiv_neg,jo _ (by omega)];exact((Int.ediv_emod_unique (a:= -a) (b:= -b) (q:=q) (r:= -r) (by omega)).2 ⟨by rw[h,vB];omega,by omega⟩).1
 exact⟨hq,by rw[Int.fmod_def,hq];omega⟩
theorem jqj{a b:Int}(hb:b≠0)(h:¬a.sign*b.sign<0\/a.natAbs % b.natAbs=0):
  (a.natAbs/b.natAbs=(a.fdiv b).natAbs/\(a.fdiv b≠0->a.sign*b.sign=(a.fdiv b).sign))/\(a.natAbs % b.natAbs=(a.fmod b).natAbs/\(a.fmod b≠0->a.sign=(a.fmod b).sign)):=by
 have hd:=jA a.natAbs b.natAbs;have hm:=jN a.natAbs (y:=b.natAbs) (by omega);generalize a.natAbs/b.natAbs=q at*;generalize a.natAbs % b.natAbs=r at*;have hd':(b.natAbs:Int)*q+r=a.natAbs:=by exact_mod_cast hd
 have hp:∀n:Nat,(n:Int)≠0->(n:Int).sign=1:=fun n hn=>zV (by omega);have hn:∀n:Nat,-(n:Int)≠0->(-(n:Int)).sign= -1:=fun n hn=>zR (by omega);rcases q8 a 0 with ha | ha | ha
 ·rw[zR ha]at h⊢;rcases yh hb with h1 | h1
  ·rw[zR h1]at h⊢;have e1:(b.natAbs:Int)= -b:=by omega
   rw[e1,vB]at hd';obtain⟨f1,f2⟩:=jga (a:=a) (b:=b) (q:=q) (r:= -r) (by omega) (by omega);rw[f1,f2];exact⟨⟨(Int.natAbs_natCast q).symm,fun h=>(hp q h).symm⟩,by omega,fun h=>(hn r h).symm⟩
  ·rw[zV h1]at h⊢;have hr:r=0:=h.resolve_left (by omega);subst hr;have e1:(b.natAbs:Int)=b:=by omega
   rw[e1]at hd';obtain⟨f1,f2⟩:=jga (a:=a) (b:=b) (q:= -q) (r:=0) (by rw[jf];omega) (by omega);rw[f1,f2];exact⟨⟨by omega,fun h=>(hn q h).symm⟩,rfl,fun h=>absurd rfl h⟩
 ·subst ha;have hr:r=0/\b.natAbs*q=0:=by simp at hd;omega
  have hq:q=0:=by
   rcases wy.1 hr.2 with h | h<;>omega
  rw[hr.1,hq];simp
 ·rw[zV ha]at h⊢;rcases yh hb with h1 | h1
  ·rw[zR h1]at h⊢;have hr:r=0:=h.resolve_left (by omega);subst hr;have e1:(b.natAbs:Int)= -b:=by omega
   rw[e1,vB]at hd';obtain⟨f1,f2⟩:=jga (a:=a) (b:=b) (q:= -q) (r:=0) (by rw[jf];omega) (by omega);rw[f1,f2];exact⟨⟨by omega,fun h=>(hn q h).symm⟩,rfl,fun h=>absurd rfl h⟩
  ·rw[zV h1]at h⊢;have e1:(b.natAbs:Int)=b:=by omega
   rw[e1]at hd';obtain⟨f1,f2⟩:=jga (a:=a) (b:=b) (q:=q) (r:=r) (by omega) (by omega);rw[f1,f2];exact⟨⟨(Int.natAbs_natCast q).symm,fun h=>(hp q h).symm⟩,(Int.natAbs_natCast r).symm,fun h=>(hp r h).symm⟩
theorem jt9{a b:Int}(h:a.sign*b.sign<0)(hr:a.natAbs % b.natAbs≠0):
  (a.natAbs/b.natAbs+1=(a.fdiv b).natAbs/\(a.fdiv b≠0-> -1=(a.fdiv b).sign))/\(b.natAbs-a.natAbs % b.natAbs=(a.fmod b).natAbs/\(a.fmod b≠0->b.sign=(a.fmod b).sign)):=by
 have hb:b≠0:=fun e=>by subst e;simp at h
 have ha:a≠0:=fun e=>by subst e;simp at h
 have hd:=jA a.natAbs b.natAbs;have hm:=jN a.natAbs (y:=b.natAbs) (by omega);generalize a.natAbs/b.natAbs=q at*;generalize a.natAbs % b.natAbs=r at*;have hd':(b.natAbs:Int)*q+r=a.natAbs:=by exact_mod_cast hd
 have hn:(-((q:Int)+1)).sign= -1:=zR (by omega);rcases yh ha with ha | ha
 ·rw[zR ha]at h;rcases yh hb with h1 | h1
  ·rw[zR h1]at h;omega
  ·have e1:(b.natAbs:Int)=b:=by omega
   rw[e1]at hd';obtain⟨f1,f2⟩:=jga (a:=a) (b:=b) (q:= -((q:Int)+1)) (r:=b-r) (by rw[jf,qJ,jG];omega) (by omega);rw[f1,f2];exact⟨⟨by omega,fun _=>hn.symm⟩,by omega,fun _=>by rw[zV h1,zV (by omega)]⟩
 ·rw[zV ha]at h;rcases yh hb with h1 | h1
  ·have e1:(b.natAbs:Int)= -b:=by omega
   rw[e1,vB]at hd';obtain⟨f1,f2⟩:=jga (a:=a) (b:=b) (q:= -((q:Int)+1)) (r:=b+r) (by rw[jf,qJ,jG];omega) (by omega);rw[f1,f2];exact⟨⟨by omega,fun _=>hn.symm⟩,by omega,fun _=>by rw[zR h1,zR (by omega)]⟩
  ·rw[zV h1]at h;omega
theorem jcr(z:Int)(h:(dig z.natAbs).length<=1000000000000):Ctr G.P 118 [big z] (· = .bool true):=by
 have:=jnt z.sign (dig z.natAbs) (by omega);rw[jl3]at this;exact this
attribute [local go_sem] ints ic big
theorem jek(s z:Int)(n:Nat)(hn:n=z.natAbs)(hs:z≠0->s=z.sign)(h:(dig z.natAbs).length<=1000000000000):Ctr G.P 108 [.int s,ints (dig n)] (· =big z):=by
 subst hn;have ht:=jfc (dig z.natAbs) (jc4 _) h;rw[jb5,Int.toNat_natCast]at ht;by_cases hz:z=0
 ·subst hz;rw[Int.natAbs_zero,jbz]at ht⊢;refine ja5 [.cell 4 33] Tryz.func108 ?_;simp only[go_sem];refine ja1 ht ?_;simp only[Int.natAbs_zero,jbz,List.length_nil,Int.natCast_zero,vy,zF,Int.sign_zero,go_sem]
 ·have hne:decide (((dig z.natAbs).length:Int)=0)=false:=zw fun h=>by
   have:dig z.natAbs=[]:=qM.1 (by omega);rw[dig_nil]at this;omega
  rw[hs hz];refine ja5 [.cell 4 33] Tryz.func108 ?_;simp only[go_sem];refine ja1 ht ?_;simp only[hne,go_sem]
theorem jkt(z:Int):Ctr G.P 125 [.bool true,big z] (· = .tup [big z,.int 0]):=by
 refine ja5 [.cell 4 33,.tmp 5] Tryz.func125 ?_;simp only[go_sem]
theorem t_pmulb(a b:Int)(la:(dig a.natAbs).length<=100000000000)(lb:(dig b.natAbs).length<=100000000000):Ctr G.P 130 [big a,big b] (· = .tup [big (a*b),.int 0]):=by
 have ra:=jcr a (by omega);have rb:=jcr b (by omega);have ht:=t_pmul (dig a.natAbs) (dig b.natAbs) (jc4 _) (jc4 _) la lb;rw[jb5,jb5,<-Int.natCast_mul,Int.toNat_natCast]at ht;have hl:(dig (a*b).natAbs).length<=1000000000000:=by
  rw[jn];have:=jlf la lb;omega
 have hm:=jek (a.sign*b.sign) (a*b) (a.natAbs*b.natAbs) (by rw[jn]) (fun _=>(vT a b).symm) hl;have hc:=jkt (a*b);have w:=ja7 (n:=a.sign*b.sign) (by rw[<-vT];have:=jjc (a*b);omega);refine ja5 [.cell 4 33,.tmp 5] Tryz.func130 ?_;simp only[go_sem];refine ja1 ra ?_;simp only[go_sem];refine ja1 rb ?_;simp only[go_sem];refine jam ?_;simp only[w,go_sem];refine ja4 ht (by decide) ?_;simp only[go_sem];refine ja4 hm (by decide) ?_;simp only[go_sem];refine ja4 hc (by decide) ?_;simp only[go_sem]
theorem cmpI_sign{a b:Int}(h:a.sign≠b.sign):cmpI a.sign b.sign=cmpI a b:=by
 rcases yh h with h1 | h1
 ·have:=sign_lt h1;rw[cmpI,cmpI,zm h1,zm this]
 ·have:=sign_lt h1;rw[cmpI,cmpI,zn (by omega),zn (by omega),zn (by omega),zn (by omega)]
theorem jos{a b:Int}(h:a.sign=b.sign):a.sign*cmpI a.natAbs b.natAbs=cmpI a b:=by
 rcases q8 a 0 with h1 | h1 | h1
 ·have e:=zR h1;have h2:b<0:=by
   rw[e]at h;exact Int.neg_of_sign_eq_neg_one h.symm
  rw[e];unfold cmpI;split<;>split<;>(try split)<;>(try split)<;>omega
 ·subst h1;have:b=0:=yp.1 h.symm;subst this;rfl
 ·have e:=zV h1;have h2:0<b:=by
   rw[e]at h;exact Int.pos_of_sign_eq_one h.symm
  rw[e];unfold cmpI;split<;>split<;>(try split)<;>(try split)<;>omega
theorem cmpI_le(a b:Int): -1<=cmpI a b/\cmpI a b<=1:=by
 unfold cmpI;split<;>(try split)<;>omega
theorem t_pcompareb(a b:Int)(la:(dig a.natAbs).length<=1000000000000)(lb:(dig b.natAbs).length<=1000000000000):Ctr G.P 75 [big a,big b] (· = .int (cmpI a b)):=by
 have ra:=jcr a (by omega);have rb:=jcr b (by omega);by_cases hs:a.sign=b.sign
 ·have hc:=jg3 a.natAbs b.natAbs la lb;have hd:decide (a.sign=b.sign)=true:=zh hs;have w:=ja7 (n:=a.sign*cmpI a.natAbs b.natAbs) (by rw[jos hs];have:=cmpI_le a b;omega);rw[jos hs]at w;have he:=jos hs;refine ja5 [.tmp 4] Tryz.func75 ?_;simp only[go_sem];refine ja1 ra ?_;simp only[go_sem];refine ja1 rb ?_;simp only[hd,go_sem];refine jae 9 ?_;simp only[go_sem];refine ja4 hc (by decide) ?_;simp only[he,w,go_sem]
 ·have hc:=t_cmp a.sign b.sign;rw[cmpI_sign hs]at hc;have hd:decide (a.sign=b.sign)=false:=zw hs;refine ja5 [.tmp 4] Tryz.func75 ?_;simp only[go_sem];refine ja1 ra ?_;simp only[go_sem];refine ja1 rb ?_;simp only[hd,go_sem];refine ja1 hc ?_;simp only[go_sem]
end
section
open Go.Abs
attribute [local go_sem] ints ic mb20 pw20 fd20
theorem t_padd(x y:List Int)(hx:OkD x)(hy:OkD y)(lx:x.length<=100000000000)(ly:y.length<=100000000000):Ctr G.P 127 [ints x,ints y] (· =ints (dig (val x+val y).toNat)):=by
 by_cases hlt:(x.length:Int)<y.length
 ·have hd0:decide ((x.length:Int)<y.length)=true:=zh hlt;rw[Int.add_comm (val x)];obtain⟨a,rfl⟩:∃a,a=y:=⟨_,rfl⟩;obtain⟨b,rfl⟩:∃b,b=x:=⟨_,rfl⟩;have ha:=hy;have hb:=hx;have hba:b.length<=a.length:=by omega
  refine ja5 [.tmp 4] Tryz.func127 ?_;simp only[hd0,go_sem];have w0:=ja7 (n:=(a.length:Int)+1) (by omega);have w00:((a.length:Int)+1)*8<=140737488355328:=by omega
  have w01:(0:Int)<=(a.length:Int)+1:=by omega
  have w02:((a.length:Int)+1).toNat=a.length+1:=by omega
  simp only[w0,w00,w01,w02,go_sem];refine jan [0,1,5,6,20,21,22] [19] (fun g:Nat×List Int×Int=>⟨[(0,.im (.sl (a.map ic))),(1,.im (.sl (b.map ic))),(5,.gsl 19 3 1 (a.length+1)),(6,.im (.int g.2.2)),(20,.im (.sl (a.map ic))),(21,.im (.int a.length)),(22,.im (.int g.1))],[(19,1,g.2.1.map ic)],[]⟩)
   (fun g=>g.1<=a.length/\g.2.1.length=a.length+1/\OkD g.2.1/\0<=g.2.2/\g.2.2<=1/\val g.2.1+1048576^g.1*g.2.2=val (a.take g.1)+val (b.take g.1)/\∀j,g.1<=j->dgt g.2.1 j=0)
   (fun g=>a.length-g.1) (0,List.replicate (a.length+1) 0,0) ?_
   ⟨zH _,zT,OkD.replicate _,yq _,by dsimp only;omega,by dsimp only;rw[jdx];simp[val],fun j _=>by
    unfold dgt;rw[qF];split<;>rfl⟩ ?_
  ·simp only[Int.natCast_zero,yf,zT,w02,go_sem]
  intro⟨i,out,c⟩ ⟨hi,hl,ho,hc0,hc1,hv,hz⟩;dsimp only at hi hl ho hc0 hc1 hv hz;by_cases hp:(i:Int)<a.length
  case neg=>
   have hd:decide ((i:Int)<a.length)=false:=zw hp;have hia:i=a.length:=by omega
   subst hia;have hjl:(a.length:Int)<((a.length+1:Nat):Int):=by omega
   have hok:OkD (out.set a.length c):=ho.set (by omega);have hvv:val (out.set a.length c)=val a+val b:=by
    rw[jgh _ _ _ (by omega),hz _ (zt _),jh,hv,jc6 (zt _),jc6 hba]
   have ht:=jfc (out.set a.length c) hok (by rw[qa];omega);rw[hvv]at ht;have hy:out[a.length]? =some (dgt out a.length):=jb6 (by omega);have hset:(out.map ic).set a.length [.sc (.int .i64 c)]=(out.set a.length c).map ic:=by rw[qD];rfl
   have hall:((out.set a.length c).map ic).take (a.length+1)=(out.set a.length c).map ic:=zu (by rw[zq,qa];omega);have hle:a.length+1<=(out.set a.length c).length:=by rw[qa];omega
   have hle2:(0:Int)<=a.length:=by omega
   simp only[ints]at ht;simp only[hd,hjl,za,hy,hset,hall,hle,go_sem];refine ja1 ht ?_;simp only[go_sem]
  case pos=>
   have hd:decide ((i:Int)<a.length)=true:=zh hp;have hx:=jb6 hp;have hda:=ha.dgt i;have hdb:=hb.dgt i;have h1:=ja7 (n:=(i:Int)+1) (by omega);have hjl:(i:Int)<((a.length+1:Nat):Int):=by omega
   have hy:out[i]? =some (dgt out i):=jb6 (by omega);have w1:=ja7 (n:=c+dgt a i) (by omega);have w2:=ja7 (n:=c+dgt a i+dgt b i) (by omega);have hn:c+dgt a i+dgt b i=dgt a i+dgt b i+c:=by omega
   rw[hn]at w2;have hs:=jtn (by omega:i<out.length) (hz i (zt _)) hv rfl;generalize hN:dgt a i+dgt b i+c=n at*;have a1:=and20 n;have fin:(0<=n/1048576/\n/1048576<=1)/\(out.set i (n % 1048576)).length=a.length+1/\OkD (out.set i (n % 1048576))/\∀j,i+1<=j->dgt (out.set i (n % 1048576)) j=0:=
    ⟨by omega,by rw[qa];exact hl,ho.set (by omega),fun j hj=>by rw[jnd (by omega)];exact hz j (by omega)⟩
   obtain⟨f1,f2,f3,f4⟩:=fin;by_cases hbl:(i:Int)<b.length
   ·have hd2:decide ((i:Int)<b.length)=true:=zh hbl;have hxb:=jb6 hbl;simp only[hd,hd2,za,hx,hxb,w1,hn,hN,w2,hjl,hy,a1,go_sem];refine jab (i+1,out.set i (n % 1048576),n/1048576) ?_ ?_ ⟨?_,f2,f3,f1.1,f1.2,hs,f4⟩
    ·simp only[h1,hn,hN,w2,Int.natCast_add,qD,go_sem]
    ·show a.length-(i+1)<a.length-i;omega
    ·show i+1<=a.length;omega
   ·have hd2:decide ((i:Int)<b.length)=false:=zw hbl;have hb0:dgt b i=0:=jf4 (by omega);have hn2:c+dgt a i=n:=by omega
    rw[hn2]at w1;simp only[hd,hd2,za,hx,hn2,w1,hjl,hy,a1,go_sem];refine jab (i+1,out.set i (n % 1048576),n/1048576) ?_ ?_ ⟨?_,f2,f3,f1.1,f1.2,hs,f4⟩
    ·simp only[h1,hn2,w1,Int.natCast_add,qD,go_sem]
    ·show a.length-(i+1)<a.length-i;omega
    ·show i+1<=a.length;omega
 ·have hd0:decide ((x.length:Int)<y.length)=false:=zw hlt;obtain⟨a,rfl⟩:∃a,a=x:=⟨_,rfl⟩;obtain⟨b,rfl⟩:∃b,b=y:=⟨_,rfl⟩;have ha:=hx;have hb:=hy;have hba:b.length<=a.length:=by omega
  refine ja5 [.tmp 4] Tryz.func127 ?_;simp only[hd0,go_sem];have w0:=ja7 (n:=(a.length:Int)+1) (by omega);have w00:((a.length:Int)+1)*8<=140737488355328:=by omega
  have w01:(0:Int)<=(a.length:Int)+1:=by omega
  have w02:((a.length:Int)+1).toNat=a.length+1:=by omega
  simp only[w0,w00,w01,w02,go_sem];refine jan [0,1,5,6,20,21,22] [19] (fun g:Nat×List Int×Int=>⟨[(0,.im (.sl (a.map ic))),(1,.im (.sl (b.map ic))),(5,.gsl 19 3 1 (a.length+1)),(6,.im (.int g.2.2)),(20,.im (.sl (a.map ic))),(21,.im (.int a.length)),(22,.im (.int g.1))],[(19,1,g.2.1.map ic)],[]⟩)
   (fun g=>g.1<=a.length/\g.2.1.length=a.length+1/\OkD g.2.1/\0<=g.2.2/\g.2.2<=1/\val g.2.1+1048576^g.1*g.2.2=val (a.take g.1)+val (b.take g.1)/\∀j,g.1<=j->dgt g.2.1 j=0)
   (fun g=>a.length-g.1) (0,List.replicate (a.length+1) 0,0) ?_
   ⟨zH _,zT,OkD.replicate _,yq _,by dsimp only;omega,by dsimp only;rw[jdx];simp[val],fun j _=>by
    unfold dgt;rw[qF];split<;>rfl⟩ ?_
  ·simp only[Int.natCast_zero,yf,zT,w02,go_sem]
  intro⟨i,out,c⟩ ⟨hi,hl,ho,hc0,hc1,hv,hz⟩;dsimp only at hi hl ho hc0 hc1 hv hz;by_cases hp:(i:Int)<a.length
  case neg=>
   have hd:decide ((i:Int)<a.length)=false:=zw hp;have hia:i=a.length:=by omega
   subst hia;have hjl:(a.length:Int)<((a.length+1:Nat):Int):=by omega
   have hok:OkD (out.set a.length c):=ho.set (by omega);have hvv:val (out.set a.length c)=val a+val b:=by
    rw[jgh _ _ _ (by omega),hz _ (zt _),jh,hv,jc6 (zt _),jc6 hba]
   have ht:=jfc (out.set a.length c) hok (by rw[qa];omega);rw[hvv]at ht;have hy:out[a.length]? =some (dgt out a.length):=jb6 (by omega);have hset:(out.map ic).set a.length [.sc (.int .i64 c)]=(out.set a.length c).map ic:=by rw[qD];rfl
   have hall:((out.set a.length c).map ic).take (a.length+1)=(out.set a.length c).map ic:=zu (by rw[zq,qa];omega);have hle:a.length+1<=(out.set a.length c).length:=by rw[qa];omega
   have hle2:(0:Int)<=a.length:=by omega
   simp only[ints]at ht;simp only[hd,hjl,za,hy,hset,hall,hle,go_sem];refine ja1 ht ?_;simp only[go_sem]
  case pos=>
   have hd:decide ((i:Int)<a.length)=true:=zh hp;have hx:=jb6 hp;have hda:=ha.dgt i;have hdb:=hb.dgt i;have h1:=ja7 (n:=(i:Int)+1) (by omega);have hjl:(i:Int)<((a.length+1:Nat):Int):=by omega
   have hy:out[i]? =some (dgt out i):=jb6 (by omega);have w1:=ja7 (n:=c+dgt a i) (by omega);have w2:=ja7 (n:=c+dgt a i+dgt b i) (by omega);have hn:c+dgt a i+dgt b i=dgt a i+dgt b i+c:=by omega
   rw[hn]at w2;have hs:=jtn (by omega:i<out.length) (hz i (zt _)) hv rfl;generalize hN:dgt a i+dgt b i+c=n at*;have a1:=and20 n;have fin:(0<=n/1048576/\n/1048576<=1)/\(out.set i (n % 1048576)).length=a.length+1/\OkD (out.set i (n % 1048576))/\∀j,i+1<=j->dgt (out.set i (n % 1048576)) j=0:=
    ⟨by omega,by rw[qa];exact hl,ho.set (by omega),fun j hj=>by rw[jnd (by omega)];exact hz j (by omega)⟩
   obtain⟨f1,f2,f3,f4⟩:=fin;by_cases hbl:(i:Int)<b.length
   ·have hd2:decide ((i:Int)<b.length)=true:=zh hbl;have hxb:=jb6 hbl;simp only[hd,hd2,za,hx,hxb,w1,hn,hN,w2,hjl,hy,a1,go_sem];refine jab (i+1,out.set i (n % 1048576),n/1048576) ?_ ?_ ⟨?_,f2,f3,f1.1,f1.2,hs,f4⟩
    ·simp only[h1,hn,hN,w2,Int.natCast_add,qD,go_sem]
    ·show a.length-(i+1)<a.length-i;omega
    ·show i+1<=a.length;omega
   ·have hd2:decide ((i:Int)<b.length)=false:=zw hbl;have hb0:dgt b i=0:=jf4 (by omega);have hn2:c+dgt a i=n:=by omega
    rw[hn2]at w1;simp only[hd,hd2,za,hx,hn2,w1,hjl,hy,a1,go_sem];refine jab (i+1,out.set i (n % 1048576),n/1048576) ?_ ?_ ⟨?_,f2,f3,f1.1,f1.2,hs,f4⟩
    ·simp only[h1,hn2,w1,Int.natCast_add,qD,go_sem]
    ·show a.length-(i+1)<a.length-i;omega
    ·show i+1<=a.length;omega
end
section
open Go.Abs
attribute [local go_sem] ints ic big
theorem len_fmod{a b:Int}{k:Nat}(hb:b≠0)(lb:(dig b.natAbs).length<=k):(dig (a.fmod b).natAbs).length<=k:=by
 refine jdl ?_ lb;rcases yh hb with h | h
 ·have h1:a.fmod b= -((-a).fmod (-b)):=by rw[Int.fmod_def,Int.fmod_def,Int.neg_fdiv_neg,vB];omega
  have h2:=Int.fmod_lt_of_pos (-a) (b:= -b) (by omega);have h3:=Int.fmod_nonneg_of_pos (-a) (b:= -b) (by omega);omega
 ·have h2:=Int.fmod_lt_of_pos a h;have h3:=Int.fmod_nonneg_of_pos a h;omega
theorem len_fdiv{a b:Int}{k:Nat}(hb:b≠0)(la:(dig a.natAbs).length<=k):(dig (a.fdiv b).natAbs).length<=k+1:=by
 have h0:a.natAbs/b.natAbs<=a.natAbs:=Nat.div_le_self _ _;have one:(dig 1).length<=k+1:=qn (jc3 (k:=1) (by decide)) (by omega);by_cases h:¬a.sign*b.sign<0\/a.natAbs % b.natAbs=0
 ·have:=(jqj hb h).1.1;rw[<-this];exact qn (jdl h0 la) (by omega)
 ·simp only[not_or,Classical.not_not]at h;have:=(jt9 h.1 h.2).1.1;rw[<-this];refine jc3 ?_;have h1:=jhn la;rw[jdk];have h2:(0:Int)<1048576^k:=jds k;omega
theorem t_pdivb(a b:Int)(hb:b≠0)(la:(dig a.natAbs).length<=50000000000)(lb:(dig b.natAbs).length<=50000000000):Ctr G.P 131 [big a,big b] (· = .tup [big (a.fdiv b),big (a.fmod b),.int 0]):=by
 have ra:=jcr a (by omega);have rb:=jcr b (by omega);have hbs:decide (b.sign=0)=false:=zw fun h=>hb (yp.1 h);have ho:=t_pdiv a.natAbs b.natAbs (by omega) la lb;have hlq:=len_fdiv hb la;have hlr:=len_fmod (a:=a) hb lb;have w:=ja7 (n:=a.sign*b.sign) (by rw[<-vT];have:=jjc (a*b);omega);have hB:0<b.natAbs:=by omega
 have hmlt:=jN a.natAbs hB;by_cases h:¬a.sign*b.sign<0\/a.natAbs % b.natAbs=0
 ·obtain⟨⟨e1,e2⟩,e3,e4⟩:=jqj hb h;have hm:=jek (a.sign*b.sign) (a.fdiv b) (a.natAbs/b.natAbs) e1 e2 (by omega);have hm2:=jek a.sign (a.fmod b) (a.natAbs % b.natAbs) e3 e4 (by omega);refine ja5 [.cell 4 33,.cell 5 33,.tmp 6] Tryz.func131 ?_;simp only[go_sem];refine ja1 ra ?_;simp only[go_sem];refine ja1 rb ?_;simp only[hbs,go_sem];refine ja1 ho ?_;simp only[w,go_sem];refine jdi (fun d d'=> ?_) (fun d d'=> ?_)
  ·have hz:=h.resolve_left (fun h=>h d');rw[hz,jbz]at hm2;simp only[d,hz,jbz,zF,List.length_nil,Int.natCast_zero,vF,go_sem];refine jam ?_;simp only[w,go_sem];refine ja4 hm (by decide) ?_;simp only[go_sem];refine ja4 hm2 (by decide) ?_;simp only[go_sem]
  ·simp only[d,go_sem];refine jam ?_;simp only[w,go_sem];refine ja4 hm (by decide) ?_;simp only[go_sem];refine ja4 hm2 (by decide) ?_;simp only[go_sem]
 ·simp only[not_or,Classical.not_not]at h;obtain⟨hs,hr⟩:=h;obtain⟨⟨e1,e2⟩,e3,e4⟩:=jt9 hs hr;have hd:decide (a.sign*b.sign<0)=true:=zh hs;have hlen:decide (0<((dig (a.natAbs % b.natAbs)).length:Int))=true:=zh (by
   have:dig (a.natAbs % b.natAbs)≠[]:=fun h=>hr (dig_nil.1 h);have:=qh.2 this;omega)
  have hle:(dig (a.natAbs/b.natAbs)).length<=50000000000:=jdl (Nat.div_le_self _ _) la;have hle2:(dig (a.natAbs % b.natAbs)).length<=50000000000:=jdl (by omega) lb;have hone:OkD [1]:=OkD.cons (by omega) OkD.nil;have hp:=t_padd (dig (a.natAbs/b.natAbs)) [1] (jc4 _) hone (by omega) (by simp);rw[jb5,jnp,show((a.natAbs/b.natAbs:Nat)+1:Int).toNat=a.natAbs/b.natAbs+1 by omega]at hp;simp only[ints,ic,zB,zF]at hp;have hq:=t_psub (dig b.natAbs) (dig (a.natAbs % b.natAbs)) (jc4 _) (jc4 _) (by rw[jb5,jb5];omega) (by omega) (by omega);rw[jb5,jb5,show((b.natAbs:Int)-(a.natAbs % b.natAbs:Nat)).toNat=b.natAbs-a.natAbs % b.natAbs by omega]at hq;have hm:=jek (-1) (a.fdiv b) (a.natAbs/b.natAbs+1) e1 e2 (by omega);have hm2:=jek b.sign (a.fmod b) (b.natAbs-a.natAbs % b.natAbs) e3 e4 (by omega);refine ja5 [.cell 4 33,.cell 5 33,.tmp 6] Tryz.func131 ?_;simp only[go_sem];refine ja1 ra ?_;simp only[go_sem];refine ja1 rb ?_;simp only[hbs,go_sem];refine ja1 ho ?_;simp only[w,hd,hlen,go_sem];refine jam ?_;simp only[w,go_sem];refine ja4 hp (by decide) ?_;simp only[go_sem];refine ja4 hm (by decide) ?_;simp only[go_sem];refine ja4 hq (by decide) ?_;simp only[go_sem];refine ja4 hm2 (by decide) ?_;simp only[go_sem]
theorem t_pgcd(a b:Int)(la:(dig a.natAbs).length<=50000000000)(lb:(dig b.natAbs).length<=50000000000):Ctr G.P 119 [big a,big b] (· = .tup [big (Nat.gcd a.natAbs b.natAbs:Nat),.int 0]):=by
 have ra:=jcr a (by omega);have rb:=jcr b (by omega);have hcl:=jh1 (dig a.natAbs) (by omega);refine ja5 [.cell 4 33,.tmp 5] Tryz.func119 ?_;simp only[go_sem];refine ja1 ra ?_;simp only[go_sem];refine ja1 rb ?_;simp only[go_sem];refine jae 7 ?_;simp only[go_sem];refine ja4 hcl (by decide) ?_;simp only[go_sem];refine jan [4,6,7] [4] (fun g:Nat×Nat=>⟨[(4,.loc 4 2 0 0),(6,.im (.sl ((dig g.1).map ic))),(7,.im (.sl ((dig g.2).map ic)))],[(4,2,[[.int 0,.sl []]])],[]⟩)
  (fun g=>Nat.gcd g.1 g.2=Nat.gcd a.natAbs b.natAbs/\(dig g.1).length<=50000000000/\(dig g.2).length<=50000000000) (fun g=>g.2) (a.natAbs,b.natAbs) ?_ ⟨rfl,la,lb⟩ ?_
 ·simp only[go_sem]
 ·intro⟨x,y⟩ ⟨hg,lx,ly⟩;dsimp only at hg lx ly;by_cases hy:y=0
  ·subst hy;rw[Nat.gcd_zero_right]at hg;rw[<-hg];have hm:=jek 1 x x (by omega) (fun h=>(zV (by omega)).symm) (by rw[Int.natAbs_natCast];omega);have hc:=jkt x;have hcx:=jh1 (dig x) (by omega);simp only[jbz,zF,go_sem];refine ja1 hcx ?_;simp only[go_sem];refine ja1 hm ?_;simp only[go_sem];refine ja1 hc ?_;simp only[go_sem]
  ·have hne:dig y≠[]:=fun h=>hy (dig_nil.1 h);have hlp:=qh.2 hne;have hd:decide (0<((dig y).length:Int))=true:=zh (by omega);have ho:=t_pdiv x y (by omega) (by omega) ly;have hlt:=jN x (by omega:y>0);simp only[hd,go_sem];refine ja1 ho ?_;simp only[go_sem];refine jab (y,x % y) ?_ hlt ⟨?_,ly,jdl (by omega) ly⟩
   ·simp only[go_sem]
   ·show Nat.gcd y (x % y)=_;rw[<-hg,Nat.gcd_comm x y,Nat.gcd_rec y x,Nat.gcd_comm]
end
end Go.Proofs.YtkcekimolppapaaGreat
namespace Go.Abs
section
theorem u64_in(n:Int)(h:0<=n/\n<18446744073709551616):IntKind.u64.wrap n=n:=by
 have:=IntWalk.u64_in n (by omega);exact this
theorem orU(u d:Int)(s:Nat)(hu:0<=u/\u<2^s)(hd:0<=d)(hs:d*2^s<18446744073709551616)(hs2:(2:Int)^s<18446744073709551616):bits .or .u64 u (d*2^s)=u+d*2^s:=by
 have hp:(0:Int)<2^s:=Int.pow_pos (by decide);have hm:0<=d*2^s:=qZ hd (by omega);have e1:(d*2^s).toNat=2^s*d.toNat:=by
  have h1:((2^s*d.toNat:Nat):Int)=d*2^s:=by
   rw[Int.natCast_mul,Int.natCast_pow,yY hd,yF];rfl
  omega
 have e2:u.toNat<2^s:=by
  have h1:((2^s:Nat):Int)=2^s:=by rw[Int.natCast_pow];rfl
  omega
 have e3:(BitVec.ofInt 64 u ||| BitVec.ofInt 64 (d*2^s)).toNat=(u+d*2^s).toNat:=by
  rw[BitVec.toNat_or,jcx,jcx,jJ (by omega) (by omega),jJ (by omega) (by omega),e1,Nat.or_comm,<-ww e2];omega
 have h2:bits .or .u64 u (d*2^s)=IntKind.u64.wrap ((BitVec.ofInt 64 u ||| BitVec.ofInt 64 (d*2^s)).toNat:Nat):=rfl;rw[h2,e3,yY (by omega)];refine u64_in _ ⟨by omega,?_⟩;have hlt:u+d*2^s<(d+1)*2^s:=by rw[yU];omega
 have:(BitVec.ofInt 64 u ||| BitVec.ofInt 64 (d*2^s)).toNat<2^64:=BitVec.isLt _;rw[e3]at this;omega
theorem pow20(i:Nat):(2:Int)^(20*i)=1048576^i:=by
 rw[Int.pow_mul];rfl
theorem or_digit{u d:Int}{i:Nat}(hi:i<4)(hu:0<=u/\u<1048576^i)(hd:0<=d/\d<1048576)(h3:i=3->d<=8):
  IntKind.u64.wrap (IntKind.u64.wrap d*2^min (20*(i:Int)).toNat 64)=d*1048576^i/\bits .or .u64 u (d*1048576^i)=u+d*1048576^i:=by
 rw[u64_in d (by omega),show min (20*(i:Int)).toNat 64=20*i by omega,<-pow20]at*;have hs:d*2^(20*i)<18446744073709551616/\(2:Int)^(20*i)<18446744073709551616:=by
  rw[pow20];have:i=0\/i=1\/i=2\/i=3:=by omega
  rcases this with e | e | e | e<;>subst e<;>simp at h3⊢ <;>omega
 exact⟨u64_in _ ⟨qZ hd.1 (Int.le_of_lt (Int.pow_pos (by decide))),hs.1⟩,orU u d (20*i) hu hd.1 hs.1 hs.2⟩
end
end Go.Abs
namespace Go.Proofs.YtkcekimolppapaaGreat
section
open Go.Abs
attribute [local go_sem] ints ic big
def fits(z:Int):Bool:=decide (-9223372036854775808<=z)&&decide (z<=9223372036854775807)
def intF(z:Int):Int:=if fits z=true then z else 0
theorem val_ge{l:List Int}(h:OkD l)(i:Nat):1048576^i*dgt l i<=val l:=by
 have h1:=jde l i;have h2:=jd5 l i;have h3:=jb3 (h.take i);have h4:=jb3 (h.drop (i+1));rw[h2,qJ]at h1;have h5:(0:Int)<=1048576^i*(1048576*val (l.drop (i+1))):=qZ (Int.le_of_lt (jds i)) (by omega);omega
theorem last_ne{n:Nat}(h:dig n≠[]):1<=dgt (dig n) ((dig n).length-1):=by
 have h3:=jof n;have hp:=qh.2 h;rw[jy,jb6 (l:=dig n) (by omega)]at h3;have h4:=(jc4 n).dgt ((dig n).length-1);have h5:dgt (dig n) ((dig n).length-1)≠0:=fun e=>h3 (by rw[e]);omega
theorem jss{z:Int}(h:¬(dig z.natAbs).length<=4):fits z=false:=by
 have h1:=last_ne (n:=z.natAbs) (fun e=>h (by rw[e];simp));have h2:=val_ge (jc4 z.natAbs) ((dig z.natAbs).length-1);rw[jb5]at h2;have h3:(1048576:Int)^4<=1048576^((dig z.natAbs).length-1):=by
  have h6:=vn.2 (qS (n:=1048576) (by omega) (show 4<=(dig z.natAbs).length-1 by omega));rw[Int.natCast_pow,Int.natCast_pow]at h6;exact h6
 have h4:(1048576:Int)^((dig z.natAbs).length-1)*1<=1048576^((dig z.natAbs).length-1)*dgt (dig z.natAbs) ((dig z.natAbs).length-1):=qg h1 (Int.le_of_lt (jds _));rw[fits,jL,ql,ql];omega
theorem top_big{z:Int}(h:¬dgt (dig z.natAbs) 3<=8):fits z=false:=by
 have h2:=val_ge (jc4 z.natAbs) 3;rw[jb5]at h2;rw[fits,jL,ql,ql];omega
theorem jom{z:Int}(h:fits z=false):intF z=0:=by rw[intF,h];rfl
theorem jol{z:Int}(h:fits z=true):intF z=z:=by rw[intF,h];rfl
theorem u64_neg{n:Int}(h:0<=n/\n<=9223372036854775808):IntKind.i64.wrap (IntKind.u64.wrap (0-n))=0-n:=by
 rw[IntKind.wrap_i64,IntKind.wrap_u64];omega
theorem t_pint(z:Int)(lz:(dig z.natAbs).length<=1000000000000):Ctr G.P 162 [big z] (· = .tup [.int (intF z),.bool (fits z)]):=by
 have rz:=jcr z (by omega);by_cases hl:(dig z.natAbs).length<=4
 case neg=>
  have hd:decide (4<((dig z.natAbs).length:Int))=true:=zh (by omega);rw[jom (jss hl),jss hl];refine ja5 [.tmp 2,.tmp 3] Tryz.func162 ?_;simp only[go_sem];refine ja1 rz ?_;simp only[hd,go_sem]
 case pos=>
  have hd:decide (4<((dig z.natAbs).length:Int))=false:=zw (by omega);have hok:=jc4 z.natAbs;have hz:=jb5 z.natAbs;have htop:=top_big (z:=z);refine ja5 [.tmp 2,.tmp 3] Tryz.func162 ?_;simp only[go_sem];refine ja1 rz ?_;simp only[hd,go_sem];refine jan [1,4,17,18,19] [1] (fun i:Nat=>⟨[(1,.loc 1 2 0 0),(4,.im (.sc (.int .u64 (val ((dig z.natAbs).take i))))),(17,.im (.sl ((dig z.natAbs).map ic))),(18,.im (.int (dig z.natAbs).length)),(19,.im (.int i))],[(1,2,[[.int z.sign,ints (dig z.natAbs)]])],[]⟩)
   (fun i=>i<=(dig z.natAbs).length/\(i=4->dgt (dig z.natAbs) 3<=8)) (fun i=>(dig z.natAbs).length-i) 0 ?_ ⟨zH _,fun h=>by cases h⟩ ?_
  ·simp only[List.take_zero,val,Int.natCast_zero,go_sem]
  generalize hg:dig z.natAbs=l at*;intro i ⟨hi,h8⟩;by_cases hp:(i:Int)<l.length
  ·have hdp:decide ((i:Int)<l.length)=true:=zh hp;have hx:=jb6 hp;have hw:=ja7 (n:=(i:Int)+1) (by omega);have hw2:=ja7 (n:=20*(i:Int)) (by omega);have hi4:i<4:=by omega
   have hu:=jb3 (hok.take i);have hu2:=jdt hok i;have had:=hok.dgt i;have hn20:decide (20*(i:Int)<0)=false:=zw (by omega);have hn20':¬(20*(i:Int)<0):=by omega
   have hst:=jco l i;rw[yF]at hst;by_cases h3:i=3/\¬dgt l i<=8
   ·have e1:decide ((i:Int)=3)=true:=zh (by omega);have e2:decide (8<dgt l i)=true:=zh (by omega);have hb:=htop (h3.1▸h3.2);rw[jom hb,hb];simp only[hdp,za,hx,go_sem];simp only[e1,e2,go_sem]
   ·have h3':i=3->dgt l i<=8:=fun e=>yu fun h=>h3 ⟨e,h⟩;have ho:=or_digit hi4 ⟨hu,hu2⟩ had h3';have hnext:i+1=4->dgt l 3<=8:=fun e=>by
     have e':i=3:=by omega
     subst e';exact h3' rfl
    simp only[hdp,za,hx,go_sem];refine jdi (fun e e'=> ?_) (fun e e'=> ?_)
    ·have e2:decide (8<dgt l i)=false:=zw (by have:=h3' (by omega);omega);simp only[e,e2,hw2,hn20,hn20',ho.1,ho.2,go_sem];refine jab (i+1) ?_ (by omega) ⟨by omega,hnext⟩;simp only[hw,hst,Int.natCast_add,go_sem]
    ·simp only[e,hw2,hn20,hn20',ho.1,ho.2,go_sem];refine jab (i+1) ?_ (by omega) ⟨by omega,hnext⟩;simp only[hw,hst,Int.natCast_add,go_sem]
  ·have hdp:decide ((i:Int)<l.length)=false:=zw hp;have hall:val (l.take i)=z.natAbs:=by rw[zu (by omega),hz]
   rw[hall];simp only[hdp,go_sem];refine jdi (fun e e'=> ?_) (fun e e'=> ?_)
   ·have hneg:z<0:=by
     rcases q8 z 0 with h | h | h
     ·exact h
     ·subst h;cases e'
     ·rw[zV h]at e';omega
    have hnp:decide (0<=z.sign)=false:=zw (by omega);by_cases hf:fits z=true
    ·have hf2:=hf;rw[fits,zD,zW,zW]at hf2;have d2:decide ((z.natAbs:Int)<=9223372036854775808)=true:=zh (by omega);have hu:=u64_neg (n:=z.natAbs) (by omega);have hzz:0-(z.natAbs:Int)=z:=by omega
     rw[hzz]at hu;rw[jol hf,hf];simp only[e,d2,hu,hzz,go_sem]
    ·have hf':fits z=false:=by simpa using hf
     have hf2:=hf';rw[fits,jL,ql,ql]at hf2;have d2:decide ((z.natAbs:Int)<=9223372036854775808)=false:=zw (by omega);rw[jom hf',hf'];simp only[e,d2,hnp,go_sem]
   ·have hpos:0<=z:=by
     rcases yS z 0 with h | h
     ·rw[zR h]at e';omega
     ·exact h
    have hnp:decide (0<=z.sign)=true:=zh (by omega);by_cases hf:fits z=true
    ·have hf2:=hf;rw[fits,zD,zW,zW]at hf2;have d2:decide ((z.natAbs:Int)<9223372036854775808)=true:=zh (by omega);have hzz:(z.natAbs:Int)=z:=by omega
     rw[hzz]at d2;have hu:=ja7 (n:=z) (by omega);rw[jol hf,hf];simp only[e,hzz,d2,hnp,hu,go_sem]
    ·have hf':fits z=false:=by simpa using hf
     have hf2:=hf';rw[fits,jL,ql,ql]at hf2;have d2:decide ((z.natAbs:Int)<9223372036854775808)=false:=zw (by omega);rw[jom hf',hf'];simp only[e,d2,hnp,go_sem]
end
section
open Go.Abs
def frac(r:Rat):IV:= .agg [.int r.num.sign,ints (dig r.num.natAbs),.int (r.den:Int).sign,ints (dig (r.den:Int).natAbs)]
attribute [local go_sem] ints ic big frac
theorem den_sign(r:Rat):(r.den:Int).sign=1:=zV (by have:=r.den_pos;omega)
end
section
open Go.Abs
attribute [local go_sem] ints ic big
def fracF(s:Int)(l:List Int)(t:Int)(m:List Int):Bool:=jeq s l&&(jeq t m&&(decide (t=1)&&decide (Nat.gcd (val l).toNat (val m).toNat=1)))
theorem frac_of{s t:Int}{l m:List Int}(h:fracF s l t m=true):∃r:Rat,s=r.num.sign/\l=dig r.num.natAbs/\t=(r.den:Int).sign/\m=dig (r.den:Int).natAbs:=by
 rw[fracF,zD,zD,zD,zW,zW]at h;obtain⟨h1,h2,h3,h4⟩:=h;obtain⟨z,e1,e2⟩:=jtj h1;obtain⟨w,e3,e4⟩:=jtj h2;subst e1 e2;have hw:0<w:=Int.sign_eq_one_iff_pos.1 (by omega);rw[e4,jb5,jb5,Int.toNat_natCast,Int.toNat_natCast]at h4;have e5:((w.natAbs:Nat):Int)=w:=by omega
 exact⟨⟨z,w.natAbs,by omega,h4⟩,rfl,rfl,by show t=((w.natAbs:Nat):Int).sign;rw[e5,e3],by show m=dig ((w.natAbs:Nat):Int).natAbs;rw[e5,e4]⟩
theorem right_frac(r:Rat):fracF r.num.sign (dig r.num.natAbs) (r.den:Int).sign (dig (r.den:Int).natAbs)=true:=by
 rw[fracF,jl3,jl3,jb5,jb5,Int.toNat_natCast,Int.toNat_natCast,Int.natAbs_natCast,zh (show Nat.gcd r.num.natAbs r.den=1 from r.reduced),den_sign];rfl
end
section
open Go.Abs
attribute [local go_sem] ints ic big frac
def cmpR(a b:Rat):Int:=cmpI (a.num*b.den) (b.num*a.den)
theorem cmpR_neg{a b:Rat}:cmpR a b<0↔a<b:=by
 rw[wa,cmpR,cmpI];split
 ·simp[*]
 ·split<;>simp[*]
theorem jor{a b:Rat}:0<cmpR a b↔b<a:=by
 rw[wa,cmpR,cmpI];split
 ·simp;omega
 ·split
  ·simp;omega
  ·simp;omega
end
section
open Go.Abs
attribute [local go_sem] ints ic big frac
theorem one_fits(n:Int):(fits n&&decide (intF n=1))=decide (n=1):=by
 by_cases h:fits n=true
 ·rw[jol h,h,qu]
 ·have h':fits n=false:=by simpa using h
  rw[h',qL];refine(zw fun e=> ?_).symm;subst e;exact absurd h' (by decide)
theorem t_one(z:Int)(h:(dig z.natAbs).length<=1000000000000):Ctr G.P 120 [big z] (· = .bool (decide (z=1))):=by
 have hi:=t_pint z h;have ho:=one_fits z;by_cases hf:fits z=true
 ·rw[hf]at hi ho;rw[qu]at ho;refine ja5 [.tmp 2] Tryz.func120 ?_;simp only[go_sem];refine ja1 hi ?_;simp only[ho,go_sem]
 ·have h':fits z=false:=by simpa using hf
  rw[h']at hi ho;rw[qL]at ho;rw[<-ho];clear ho;refine ja5 [.tmp 2] Tryz.func120 ?_;simp only[go_sem];refine ja1 hi ?_;simp only[go_sem]
theorem jks(s t:Int)(l m:List Int)(hl:l.length<=50000000000)(hm:m.length<=50000000000):Ctr G.P 63 [.agg [.int s,ints l,.int t,ints m]] (· = .bool (fracF s l t m)):=by
 have r1:=jnt s l (by omega);have r2:=jnt t m (by omega);by_cases h1:jeq s l=true
 case neg=>
  have h1:jeq s l=false:=by simpa using h1
  rw[h1]at r1;rw[fracF,h1,qL];refine ja5 [.tmp 2] Tryz.func63 ?_;simp only[go_sem];refine ja1 r1 ?_;simp only[go_sem]
 case pos=>
 by_cases h2:jeq t m=true
 case neg=>
  have h2:jeq t m=false:=by simpa using h2
  rw[h1]at r1;rw[h2]at r2;rw[fracF,h2,qL,yV];refine ja5 [.tmp 2] Tryz.func63 ?_;simp only[go_sem];refine ja1 r1 ?_;simp only[go_sem];refine ja1 r2 ?_;simp only[go_sem]
 case pos=>
 rw[h1]at r1;rw[h2]at r2;by_cases h3:t=1
 case neg=>
  have d3:decide (t=1)=false:=zw h3;rw[fracF,d3,qL,yV,yV];refine ja5 [.tmp 2] Tryz.func63 ?_;simp only[go_sem];refine ja1 r1 ?_;simp only[go_sem];refine ja1 r2 ?_;simp only[d3,go_sem]
 case pos=>
 have d3:decide (t=1)=true:=zh h3;rw[fracF,h1,h2,d3,qu,qu,qu];obtain⟨z,e1,e2⟩:=jtj h1;obtain⟨w,e3,e4⟩:=jtj h2;have hwp:0<w.natAbs:=by
  have:0<w:=Int.sign_eq_one_iff_pos.1 (by omega);omega
 subst e1 e2 e3 e4;rw[jb5,jb5,Int.toNat_natCast,Int.toNat_natCast];have hg:=t_pgcd z w hl hm;have hgl:(dig (Nat.gcd z.natAbs w.natAbs)).length<=50000000000:=jdl (Nat.gcd_le_right _ hwp) hm;have ho:=t_one (Nat.gcd z.natAbs w.natAbs:Nat) (by rw[Int.natAbs_natCast];omega);have hci:decide (((Nat.gcd z.natAbs w.natAbs:Nat):Int)=1)=decide (Nat.gcd z.natAbs w.natAbs=1):=by
  rw[yk];omega
 simp only[big,ints]at hg ho;refine ja5 [.tmp 2] Tryz.func63 ?_;simp only[go_sem];refine ja1 r1 ?_;simp only[go_sem];refine ja1 r2 ?_;simp only[d3,go_sem];refine ja1 hg ?_;simp only[go_sem];refine ja1 ho ?_;simp only[hci,go_sem]
theorem jch(r:Rat)(lp:(dig r.num.natAbs).length<=50000000000)(lq:(dig r.den).length<=50000000000):Ctr G.P 63 [frac r] (· = .bool true):=by
 have:=jks r.num.sign (r.den:Int).sign (dig r.num.natAbs) (dig (r.den:Int).natAbs) lp (by rw[Int.natAbs_natCast];exact lq);rw[right_frac]at this;exact this
theorem jf1(a b:Int)(la:(dig a.natAbs).length<=100000000000)(lb:(dig b.natAbs).length<=100000000000):Ctr G.P 72 [big a,big b] (· =big (a*b)):=by
 have hm:=t_pmulb a b la lb;refine ja5 [.cell 4 33] Tryz.func72 ?_;simp only[go_sem];refine ja1 hm ?_;simp only[go_sem]
theorem t_pcmpf(a b:Rat)(h1:(dig a.num.natAbs).length<=50000000000)(h2:(dig a.den).length<=50000000000)(h3:(dig b.num.natAbs).length<=50000000000)(h4:(dig b.den).length<=50000000000):Ctr G.P 28 [frac a,frac b] (· = .int (cmpR a b)):=by
 have ra:=jch a h1 h2;have rb:=jch b h3 h4;have m1:=jf1 a.num b.den (by omega) (by rw[Int.natAbs_natCast];omega);have m2:=jf1 b.num a.den (by omega) (by rw[Int.natAbs_natCast];omega);have l1:(dig (a.num*b.den).natAbs).length<=1000000000000:=by
  rw[jn,Int.natAbs_natCast];have:=jlf h1 h4;omega
 have l2:(dig (b.num*a.den).natAbs).length<=1000000000000:=by
  rw[jn,Int.natAbs_natCast];have:=jlf h3 h2;omega
 have hc:=t_pcompareb (a.num*b.den) (b.num*a.den) l1 l2;simp only[big,ints]at m1 m2 hc;refine ja5 [.tmp 4] Tryz.func28 ?_;simp only[go_sem];refine ja1 ra ?_;simp only[go_sem];refine ja1 rb ?_;simp only[go_sem];refine jae 12 ?_;simp only[go_sem];refine ja4 m1 (by decide) ?_;simp only[go_sem];refine ja4 m2 (by decide) ?_;simp only[go_sem];refine ja4 hc (by decide) ?_;simp only[cmpR,go_sem]
theorem t_psignf(r:Rat)(lp:(dig r.num.natAbs).length<=50000000000)(lq:(dig r.den).length<=50000000000):Ctr G.P 20 [frac r] (· = .int r.num.sign):=by
 have h:=jch r lp lq;refine ja5 [.tmp 2] Tryz.func20 ?_;simp only[go_sem];refine ja1 h ?_;simp only[go_sem]
end
section
open Go.Abs
attribute [local go_sem] ints ic big
