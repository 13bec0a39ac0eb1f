/- A part of the proof. No further condition. -/
import Derived.Test.YtdhlmmoicchgpaaGreatKV12
set_option linter.all false
set_option maxRecDepth 10000000
set_option maxHeartbeats 16000000
namespace Go.Proofs.YtdhlmmoicchgpaaGreat
section
open Go.Abs
def big(z:Int):IV:= .agg [.int z.sign,ints (dig z.natAbs)]
theorem jkr(z:Int):jeu z.sign (dig z.natAbs)=true:=by
 have h1:(dig z.natAbs).all okd=true:=all_okd.2 (jc3 _);have hs: -1<=z.sign/\z.sign<=1:=by
  rcases qU z 0 with h | h | h
  ·rw[zM h];omega
  ·subst h;decide
  ·rw[zP h];omega
 have hz:(dig z.natAbs=[])↔z.sign=0:=by
  rw[dig_nil,yf];omega
 simp only[jeu,h1,qg,zC,q6,zT,yF,qK,zO];refine⟨by omega,by omega,?_,?_⟩
 ·rw[yz,<-hz];constructor
  ·intro h;exact yS.1 (by omega)
  ·intro h;rw[h];rfl
 ·by_cases h:dig z.natAbs=[]
  ·left;rw[h];rfl
  ·right;intro h2;have h3:=jnk z.natAbs;rw[yK]at h3;have h4:=qJ.2 h;have h5:=jba (l:=dig z.natAbs) (i:=(dig z.natAbs).length-1) (by omega);rw[h5,h2]at h3;exact h3 rfl
theorem jj8(z:Int): -1<=z.sign/\z.sign<=1:=by
 rcases qU z 0 with h | h | h
 ·rw[zM h];omega
 ·subst h;decide
 ·rw[zP h];omega
attribute [local go_sem] ints ic big
theorem jl4{a b:Nat}{k m:Nat}(ha:(dig a).length<=k)(hb:(dig b).length<=m):(dig (a*b)).length<=k+m:=by
 refine jc1 ?_;have h1:(a:Int)<1048576^k:=by
  have:=jf2 (jc3 a);rw[jbb]at this;exact vw this (by
   have h3:=jn.2 (qV (n:=1048576) (by omega) ha);rw[Int.natCast_pow,Int.natCast_pow]at h3;exact h3)
 have h2:(b:Int)<1048576^m:=by
  have:=jf2 (jc3 b);rw[jbb]at this;exact vw this (by
   have h3:=jn.2 (qV (n:=1048576) (by omega) hb);rw[Int.natCast_pow,Int.natCast_pow]at h3;exact h3)
 have g1:a<1048576^k:=vi.1 (by rw[Int.natCast_pow];exact h1);have g2:b<1048576^m:=vi.1 (by rw[Int.natCast_pow];exact h2);have g3:=vi.2 (Nat.mul_lt_mul'' g1 g2);rw[<-Nat.pow_add,Int.natCast_pow]at g3;exact g3
end
section
open Go.Abs
attribute [local go_sem] ints ic big
theorem joe{l m:List Int}{i:Nat}(h:l.take i=m.take i)(hl:(i:Int)<l.length)(hm:(i:Int)<m.length)(hd:dgt l i=dgt m i):l.take (i+1)=m.take (i+1):=by
 rw[qN,qN,h,jba hl,jba hm,hd]
theorem jp3{l m:List Int}{i:Nat}(h:dgt l i≠dgt m i):l≠m:=fun e=>h (by rw[e])
theorem dig_inj{a b:Nat}(h:dig a=dig b):a=b:=by
 have h1:=jbb a;rw[h,jbb]at h1;omega
theorem jnz{a b:Int}:(decide (a.sign=b.sign)&&decide (dig a.natAbs=dig b.natAbs))=decide (a=b):=by
 rw[vu];simp only[zC,zO];constructor
 ·intro⟨h1,h2⟩;have h3:=dig_inj h2;have h4:=Int.sign_mul_natAbs a;have h5:=Int.sign_mul_natAbs b;rw[<-h4,<-h5,h1,h3]
 ·intro h;subst h;exact⟨rfl,rfl⟩
def cmpI(a b:Int):Int:=if a<b then-1 else if a=b then 0 else 1
theorem sign_lt{a b:Int}(h:a.sign<b.sign):a<b:=by
 rcases qU a 0 with h1 | h1 | h1<;>rcases qU b 0 with h2 | h2 | h2<;>
  simp[zM,zP, *]at h<;>omega
end
section
open Go.Abs
attribute [local go_sem] ints ic big
theorem jhh{n k:Nat}(h:(dig n).length<=k):(n:Int)<1048576^k:=by
 have:=jf2 (jc3 n);rw[jbb]at this;exact vw this (by
  have h3:=jn.2 (qV (n:=1048576) (by omega) h);rw[Int.natCast_pow,Int.natCast_pow]at h3;exact h3)
theorem len_add{n a b k:Nat}(ha:(dig a).length<=k)(hb:(dig b).length<=k)(h:n<=a+b):(dig n).length<=k+1:=by
 refine jc1 ?_;have h1:=jhh ha;have h2:=jhh hb;rw[jdi];omega
end
section
open Go.Abs
attribute [local go_sem] ints ic
end
section
open Go.Abs
attribute [local go_sem] ints ic big
theorem jdj{n m k:Nat}(h:n<=m)(hm:(dig m).length<=k):(dig n).length<=k:=jc1 (by have:=jhh hm;omega)
end
section
open Go.Abs
attribute [local go_sem] ints ic mb20 pw20 fd20
theorem t_nan(x:Int):Ctr G.P 84 [.int x] (· = .bool false):=by
 refine ja5 [.tmp 2] Tryz.func84 ?_;simp only[yx,go_sem]
theorem t_cmp(x y:Int):Ctr G.P 66 [.int x,.int y] (· = .int (cmpI x y)):=by
 have h1:=t_nan x;have h2:=t_nan y;refine ja5 [.tmp 4] Tryz.func66 ?_;simp only[go_sem];refine ja2 h1 ?_;simp only[go_sem];refine ja2 h2 ?_;simp only[go_sem];refine jd5 (fun d1 d1'=> ?_) (fun d1 d1'=> ?_)
 ·have:cmpI x y= -1:=zm d1';rw[this];simp only[d1,go_sem]
 ·simp only[d1,go_sem];refine jd5 (fun d2 d2'=> ?_) (fun d2 d2'=> ?_)
  ·have:cmpI x y=1:=by rw[cmpI,zr d1',zr (by omega)]
   rw[this];simp only[d1,d2,go_sem]
  ·have:cmpI x y=0:=by rw[cmpI,zr d1',zm (by omega)]
   rw[this];simp only[d1,d2,go_sem]
theorem cmp_len{n m:Nat}(h:(dig n).length≠(dig m).length):cmpI ((dig n).length:Int) ((dig m).length:Int)=cmpI (n:Int) (m:Int):=by
 rcases vj h with h1 | h1
 ·have:n<m:=by
   rcases zR n m with h2 | h2
   ·exact h2
   ·have:=jdj h2 (zn _);omega
  rw[cmpI,cmpI,zm (by omega),zm (by omega)]
 ·have:m<n:=by
   rcases zR m n with h2 | h2
   ·exact h2
   ·have:=jdj h2 (zn _);omega
  rw[cmpI,cmpI,zr (by omega),zr (by omega),zr (by omega),zr (by omega)]
theorem cmp_dgt{a b:List Int}(ha:OkD a)(hb:OkD b){m:Nat}(h:∀j,m<j->dgt a j=dgt b j)(hne:dgt a m≠dgt b m):cmpI (dgt a m) (dgt b m)=cmpI (val a) (val b):=by
 rcases qX hne with h1 | h1
 ·have:=lt_at ha hb m h h1;rw[cmpI,cmpI,zm h1,zm this]
 ·have:=lt_at hb ha m (fun j hj=>(h j hj).symm) h1;rw[cmpI,cmpI,zr (by omega),zr (by omega),zr (by omega),zr (by omega)]
theorem jfx(x y:Nat)(lx:(dig x).length<=1000000000000)(ly:(dig y).length<=1000000000000):Ctr G.P 103 [ints (dig x),ints (dig y)] (· = .int (cmpI (x:Int) (y:Int))):=by
 by_cases hl:(dig x).length=(dig y).length
 case neg=>
  have hc:=t_cmp ((dig x).length:Int) ((dig y).length:Int);rw[cmp_len hl]at hc;have hd:decide (((dig x).length:Int)=(dig y).length)=false:=zw (by omega);refine ja5 [.tmp 4] Tryz.func103 ?_;simp only[hd,go_sem];refine ja2 hc ?_;simp only[go_sem]
 case pos=>
  have hvx:=jbb x;have hvy:=jbb y;have hox:=jc3 x;have hoy:=jc3 y;generalize dig x=a at*;generalize dig y=b at*;rw[<-hvx,<-hvy];have hli:(a.length:Int)=b.length:=by omega
  have hw:=jaa (n:=(b.length:Int)-1) (by omega);refine ja5 [.tmp 4] Tryz.func103 ?_;simp only[hli,yx,hw,go_sem];refine jaw [0,1,5] [] (fun n:Nat=>⟨[(0,.im (.sl (a.map ic))),(1,.im (.sl (b.map ic))),(5,.im (.int ((n:Int)-1)))],[],[]⟩) (fun n=>n<=b.length/\∀j,n<=j->dgt a j=dgt b j) (fun n=>n) b.length ?_
   ⟨zn _,fun j hj=>by rw[jf7 (by omega),jf7 (by omega)]⟩ ?_
  ·simp only[hw,go_sem]
  intro n ⟨hn,hz⟩;rcases n with _ | m
  ·have hd:decide ((0:Int)<=((0:Nat):Int)-1)=false:=by decide
   have hv:val a=val b:=jr5 fun j=>hz j (zI _);have hv':cmpI (val a) (val b)=0:=by rw[cmpI,zr (by omega),zm hv]
   rw[hv'];simp only[hd,go_sem]
  ·have h2:((m+1:Nat):Int)-1=m:=by omega
   have hd:decide ((0:Int)<=(m:Int))=true:=ze (by omega);have h3:=jaa (n:=(m:Int)-1) (by omega);have hx:=jba (l:=a) (i:=m) (by omega);have hy:=jba (l:=b) (i:=m) (by omega);simp only[h2,hd,go_sem];refine jaf 9 ?_;simp only[h2,za,hx,hy,go_sem];refine jd5 (fun he he'=> ?_) (fun he he'=> ?_)
   ·simp only[h2,he,go_sem];refine jai m ?_ (by omega) ⟨by omega,fun j hj=> ?_⟩
    ·simp only[h2,h3,go_sem]
    ·rcases zR m j with h | h
     ·exact hz j h
     ·rw[show j=m by omega];exact he'
   ·have hc:=t_cmp (dgt a m) (dgt b m);rw[cmp_dgt hox hoy (fun j hj=>hz j hj) he']at hc;simp only[h2,he,go_sem];refine jaf 10 ?_;simp only[h2,za,hx,hy,go_sem];refine ja4 hc (by decide) ?_;simp only[go_sem]
end
section
open Go.Abs
attribute [local go_sem] ints ic mb20 pw20 fd20
def winL(U:List Int)(i:Nat)(X:List Int):List Int:=U.take i++X++U.drop (i+X.length)
theorem jqp{U X:List Int}{i:Nat}(h:i+X.length<=U.length):(winL U i X).length=U.length:=by
 simp only[winL,zD,qa,yT];omega
theorem jqq{U X:List Int}{i k:Nat}(hi:i<=U.length)(hk:k<X.length):(winL U i X)[i+k]? =some (dgt X k):=by
 have hl:(U.take i).length=i:=by rw[qa];omega
 rw[winL,z7,zQ (by omega),hl,jZ,zL hk];exact jba (by omega)
theorem jqn{U X:List Int}{i k:Nat}{y:Int}(hi:i<=U.length)(hk:k<X.length):(winL U i X).set (i+k) y=winL U i (X.set k y):=by
 have hl:(U.take i).length=i:=by rw[qa];omega
 rw[winL,winL,qk,z7,z7,List.set_append_right _ _ (by omega),hl,jZ,List.set_append_left _ _ hk]
theorem winL_self{U:List Int}{i m:Nat}(h:i+m<=U.length):winL U i ((U.drop i).take m)=U:=by
 have hl:((U.drop i).take m).length=m:=by rw[qa,yT];omega
 rw[winL,hl,z7,<-vD,yJ,yJ]
theorem mul_step{out v:List Int}{k:Nat}{c n g V:Int}(hi:k<out.length)(h:val out-1048576^k*c=V-g*val (v.take k))(hn:n=dgt out k-c-g*dgt v k):
  val (out.set k (n % 1048576))-1048576^(k+1)* -(n/1048576)=V-g*val (v.take (k+1)):=by
 rw[jgb _ _ _ hi,jcm,jdi];generalize (1048576:Int)^k=p at*;have e0:=qH n 1048576;have e:p*(n % 1048576-dgt out k)-p*1048576* -(n/1048576)=p*(n-dgt out k):=by
  rw[qG,<-j9];congr 1;omega
 have e2:p*(n-dgt out k)= -(p*(g*dgt v k))-p*c:=by
  rw[hn,show dgt out k-c-g*dgt v k-dgt out k= -(g*dgt v k)-c by omega,j9,yV]
 have e3:g*(val (v.take k)+p*dgt v k)=g*val (v.take k)+p*(g*dgt v k):=by rw[qu,jT]
 rw[e3];omega
theorem back_step{out v:List Int}{k:Nat}{c n V:Int}(hi:k<out.length)(h:val out+1048576^k*c=V+val (v.take k))(hn:n=c+dgt out k+dgt v k):
  val (out.set k (n % 1048576))+1048576^(k+1)*(n/1048576)=V+val (v.take (k+1)):=by
 rw[jgb _ _ _ hi,jcm,jdi];generalize (1048576:Int)^k=p at*;have e0:=qH n 1048576;have e:p*(n % 1048576-dgt out k)+p*1048576*(n/1048576)=p*(n-dgt out k):=by
  rw[qG,<-qu];congr 1;omega
 have e2:p*(n-dgt out k)=p*c+p*dgt v k:=by
  rw[hn,show c+dgt out k+dgt v k-dgt out k=c+dgt v k by omega,qu]
 omega
def jgy(w v g:Int):Int:=if 0<=w-g*v then g else g-1
theorem jr1(U W v:List Int)(i0 n:Nat)(g:Int)(hW:OkD W)(hv:OkD v)(lW:W.length=n+1)(lv:v.length=n)(hU:i0+(n+1)<=U.length)(hU2:U.length<=10000000000000)
  (hg:0<=g/\g<1048576) (hq:0<=val W-g*val v\/0<=val W-(g-1)*val v):
  CtrM G.P 157 [.osl 900 1 i0 (n+1),.im (ints v),.im (.int g)] [(900,1,(winL U i0 W).map ic)]
   (fun r Es new=>r= .im (.int (jgy (val W) (val v) g))/\Es=[(winL U i0 (padD (n+1) (val W-jgy (val W) (val v) g*val v).toNat)).map ic]/\new=none):=by
 have hWl:=jf2 hW;have hv0:=jb9 hv;have hgv:0<=g*val v:=qM hg.1 hv0;rw[lW]at hWl;refine jnt good _ _ [.tmp 6] Tryz.func157 rfl rfl (by decide+kernel) rfl rfl (by simp) ?_;simp only[go_sem];refine jaw [0,1,2,7,12,13,14] [900] (fun s:Nat×List Int×Int=>⟨[(0,.osl 900 1 i0 (n+1)),(1,.im (.sl (v.map ic))),(2,.im (.int g)),(7,.im (.int s.2.2)),(12,.osl 900 1 i0 (n+1)),(13,.im (.int ((n+1:Nat):Int))),(14,.im (.int s.1))],[(900,1,(winL U i0 s.2.1).map ic)],[]⟩)
  (fun s=>s.1<=n+1/\s.2.1.length=n+1/\OkD s.2.1/\0<=s.2.2/\s.2.2<=1048576/\val s.2.1-1048576^s.1*s.2.2=val W-g*val (v.take s.1)) (fun s=>n+1-s.1) (0,W,0) ?_
  ⟨zI _,lW,hW,yw _,by dsimp only;omega,by dsimp only;simp[val]⟩ ?_
 ·simp only[Int.natCast_zero,go_sem]
 intro⟨k,X,c⟩ ⟨hk,lX,hX,hc0,hc1,hinv⟩;dsimp only at hk lX hX hc0 hc1 hinv;by_cases hp:(k:Int)<((n+1:Nat):Int)
 case pos=>
  have hd:decide ((k:Int)<((n+1:Nat):Int))=true:=ze hp;have hdX:=hX.dgt k;have hdv:=hv.dgt k;have hmul:=jl0 hg hdv;have h1:=jaa (n:=(k:Int)+1) (by omega);have hy:=jqq (U:=U) (X:=X) (i:=i0) (k:=k) (by omega) (by omega);have w0:=jaa (n:=g*dgt v k) (by omega);have w1:=jaa (n:=dgt X k-c) (by omega);have w2:=jaa (n:=dgt X k-c-g*dgt v k) (by omega);have hs:=mul_step (by omega:k<X.length) hinv rfl;generalize hN:dgt X k-c-g*dgt v k=t at*;have a1:=and20 t;have a2:=jaa (n:=0-t/1048576) (by omega);have hset:((winL U i0 X).map ic).set (i0+k) [.sc (.int .i64 (t % 1048576))]=(winL U i0 (X.set k (t % 1048576))).map ic:=by
   rw[<-jqn (by omega) (by omega),qI];rfl
  have e0:0-t/1048576= -(t/1048576):=by omega
  rw[e0]at a2;have fin:(0<= -(t/1048576)/\ -(t/1048576)<=1048576)/\(X.set k (t % 1048576)).length=n+1/\OkD (X.set k (t % 1048576)):=
   ⟨by omega,by rw[qk];exact lX,hX.set (by omega)⟩
  obtain⟨f1,f2,f3⟩:=fin;by_cases hbl:(k:Int)<v.length
  ·have hd2:decide ((k:Int)<v.length)=true:=ze hbl;have hxb:=jba hbl;simp only[hd,hp,hd2,za,hxb,hy,w0,w1,hN,w2,a1,a2,hset,e0,go_sem];refine jai (k+1,X.set k (t % 1048576),-(t/1048576)) ?_ ?_ ⟨?_,f2,f3,f1.1,f1.2,hs⟩
   ·simp only[h1,Int.natCast_add,go_sem]
   ·show n+1-(k+1)<n+1-k;omega
   ·show k+1<=n+1;omega
  ·have hd2:decide ((k:Int)<v.length)=false:=zw hbl;have hb0:dgt v k=0:=jf7 (by omega);rw[hb0,q5,jx]at hN;rw[hN]at w1;simp only[hd,hp,hd2,za,hy,hN,w1,a1,a2,hset,e0,go_sem];refine jai (k+1,X.set k (t % 1048576),-(t/1048576)) ?_ ?_ ⟨?_,f2,f3,f1.1,f1.2,hs⟩
   ·simp only[h1,Int.natCast_add,go_sem]
   ·show n+1-(k+1)<n+1-k;omega
   ·show k+1<=n+1;omega
 case neg=>
  have hd:decide ((k:Int)<((n+1:Nat):Int))=false:=zw hp;have hkn:k=n+1:=by omega
  subst hkn;rw[jc4 (l:=v) (by omega)]at hinv;have hXl:=jf2 hX;have hX0:=jb9 hX;rw[lX]at hXl;by_cases hc:c=0
  ·subst hc;rw[q5,jx]at hinv;have hset:jgy (val W) (val v) g=g:=zm (by omega);have hpad:=pad_eq hX;rw[lX,hinv]at hpad;rw[hset];simp only[hd,<-hpad,yx,go_sem]
  ·have hcd:decide (c=0)=false:=zw hc;have hP:=je3 (n+1);have hcm:1048576^(n+1)*1<=1048576^(n+1)*c:=qf (by omega) (by omega);have hneg:¬0<=val W-g*val v:=by omega
   have hset:jgy (val W) (val v) g=g-1:=zr hneg;have hq':=hq.resolve_left hneg;rw[hset];have wg:=jaa (n:=g-1) (by omega);simp only[hd,hcd,go_sem];refine jaw [0,1,2,10,47,48,49] [900] (fun s:Nat×List Int×Int=>⟨[(0,.osl 900 1 i0 (n+1)),(1,.im (.sl (v.map ic))),(2,.im (.int g)),(10,.im (.int s.2.2)),(47,.osl 900 1 i0 (n+1)),(48,.im (.int ((n+1:Nat):Int))),(49,.im (.int s.1))],[(900,1,(winL U i0 s.2.1).map ic)],[]⟩)
    (fun s=>s.1<=n+1/\s.2.1.length=n+1/\OkD s.2.1/\0<=s.2.2/\s.2.2<=1/\val s.2.1+1048576^s.1*s.2.2=val X+val (v.take s.1)) (fun s=>n+1-s.1) (0,X,0) ?_
    ⟨zI _,lX,hX,yw _,by dsimp only;omega,by dsimp only;simp[val]⟩ ?_
   ·simp only[Int.natCast_zero,go_sem]
   intro⟨k,Y,e⟩ ⟨hk2,lY,hY,he0,he1,hinv2⟩;dsimp only at hk2 lY hY he0 he1 hinv2;by_cases hp2:(k:Int)<((n+1:Nat):Int)
   case pos=>
    have hd3:decide ((k:Int)<((n+1:Nat):Int))=true:=ze hp2;have hdY:=hY.dgt k;have hdv:=hv.dgt k;have h1:=jaa (n:=(k:Int)+1) (by omega);have hy:=jqq (U:=U) (X:=Y) (i:=i0) (k:=k) (by omega) (by omega);have w1:=jaa (n:=e+dgt Y k) (by omega);have w2:=jaa (n:=e+dgt Y k+dgt v k) (by omega);have hs:=back_step (by omega:k<Y.length) hinv2 rfl;generalize hN:e+dgt Y k+dgt v k=t at*;have a1:=and20 t;have hset2:((winL U i0 Y).map ic).set (i0+k) [.sc (.int .i64 (t % 1048576))]=(winL U i0 (Y.set k (t % 1048576))).map ic:=by
     rw[<-jqn (by omega) (by omega),qI];rfl
    have fin:(0<=t/1048576/\t/1048576<=1)/\(Y.set k (t % 1048576)).length=n+1/\OkD (Y.set k (t % 1048576)):=
     ⟨by omega,by rw[qk];exact lY,hY.set (by omega)⟩
    obtain⟨f1,f2,f3⟩:=fin;by_cases hbl:(k:Int)<v.length
    ·have hd2:decide ((k:Int)<v.length)=true:=ze hbl;have hxb:=jba hbl;simp only[hd3,hp2,hd2,za,hxb,hy,w1,hN,w2,a1,hset2,go_sem];refine jai (k+1,Y.set k (t % 1048576),t/1048576) ?_ ?_ ⟨?_,f2,f3,f1.1,f1.2,hs⟩
     ·simp only[h1,Int.natCast_add,go_sem]
     ·show n+1-(k+1)<n+1-k;omega
     ·show k+1<=n+1;omega
    ·have hd2:decide ((k:Int)<v.length)=false:=zw hbl;have hb0:dgt v k=0:=jf7 (by omega);rw[hb0,yc]at hN;rw[hN]at w1;simp only[hd3,hp2,hd2,za,hy,hN,w1,a1,hset2,go_sem];refine jai (k+1,Y.set k (t % 1048576),t/1048576) ?_ ?_ ⟨?_,f2,f3,f1.1,f1.2,hs⟩
     ·simp only[h1,Int.natCast_add,go_sem]
     ·show n+1-(k+1)<n+1-k;omega
     ·show k+1<=n+1;omega
   case neg=>
    have hd3:decide ((k:Int)<((n+1:Nat):Int))=false:=zw hp2;have hkn:k=n+1:=by omega
    subst hkn;rw[jc4 (l:=v) (by omega)]at hinv2;have hYl:=jf2 hY;have hY0:=jb9 hY;rw[lY]at hYl;have hYv:val Y=val W-(g-1)*val v:=by
     have e1:(g-1)*val v=g*val v-val v:=by rw[jE];omega
     rw[e1]at hq'⊢;have e2:1048576^(n+1)*(c-e)=1048576^(n+1)*c-1048576^(n+1)*e:=j9 ..;have hce:c-e=0:=by
      rcases qU (c-e) 0 with h | h | h
      ·have:1048576^(n+1)*(c-e)<=1048576^(n+1)*(-1):=qf (by omega) (by omega);omega
      ·exact h
      ·have:1048576^(n+1)*1<=1048576^(n+1)*(c-e):=qf (by omega) (by omega);omega
     rw[hce,q5]at e2;omega
    have hpad:=pad_eq hY;rw[lY,hYv]at hpad;simp only[hd3,wg,<-hpad,yx,go_sem]
end
end Go.Proofs.YtdhlmmoicchgpaaGreat
namespace Go.Abs
section
theorem ex2(x y D:Int):(x*1048576+y)*D=1048576*(x*D)+y*D:=by
 rw[yn,q8 x,qG]
theorem ex3(g x y D z:Int):g*((x*1048576+y)*D+z)=1048576*(g*x*D)+g*y*D+g*z:=by
 rw[ex2,qu,qu,jT g,<-qG g,<-qG g]
theorem knuth_first{g rest top v1 v2 w V W D Vl Wl:Int}(hD:0<D)(hV:V=(v1*1048576+v2)*D+Vl)(hVl:0<=Vl)(hv2:0<=v2)(hW:W=(top*1048576+w)*D+Wl)(hWl:Wl<D)
  (hw:w<1048576) (hg:g*v1+rest=top) (hr:rest<v1) (g0:0<=g):W<(g+1)*V:=by
 have h1:0<=g*(v2*D):=qM g0 (qM hv2 (by omega));have h1':0<=g*Vl:=qM g0 hVl;have h1'':0<=v2*D:=qM hv2 (by omega);have h2:(top+1)*D<=(g*v1+v1)*D:=qn (by omega) (by omega);have h3:w*D<=1048575*D:=qn (by omega) (by omega);have e:(g+1)*V=g*V+V:=by rw[yn,ym]
 rw[yn,yn,ym]at h2;rw[<-qG]at h1;have e2:g*V=1048576*(g*v1*D)+g*v2*D+g*Vl:=by rw[hV,ex3]
 have e3:V=1048576*(v1*D)+v2*D+Vl:=by rw[hV,ex2]
 have e4:W=1048576*(top*D)+w*D+Wl:=by rw[hW,ex2]
 rw[e,e2,e3,e4];clear hV hW e e2 e3 e4;omega
theorem knuth_down{g rest top v1 v2 w V W D Vl Wl:Int}(hD:0<D)(hV:V=(v1*1048576+v2)*D+Vl)(hVl:0<=Vl)(hW:W=(top*1048576+w)*D+Wl)(hWl:Wl<D)
  (hg:g*v1+rest=top) (g0:0<=g) (h:rest*1048576+w<g*v2):W<g*V:=by
 have h1:0<=g*Vl:=qM g0 hVl;have h2:(rest*1048576+w+1)*D<=(g*v2)*D:=qn (by omega) (by omega);have h3:(g*v1+rest)*D=top*D:=by rw[hg]
 rw[yn,ex2,ym]at h2;rw[yn]at h3;have e2:g*V=1048576*(g*v1*D)+g*v2*D+g*Vl:=by rw[hV,ex3]
 have e4:W=1048576*(top*D)+w*D+Wl:=by rw[hW,ex2]
 rw[e2,e4];clear hV hW e2 e4;omega
theorem jmh{g rest top v1 v2 w V W D Vl Wl:Int}(hD:0<D)(hV:V=(v1*1048576+v2)*D+Vl)(hVl:Vl<D)(hW:W=(top*1048576+w)*D+Wl)(hWl:0<=Wl)
  (hg:g*v1+rest=top) (g0:1<=g) (g1:g<1048576) (hv1:1<=v1) (hv2:0<=v2/\v2<1048576) (hw:0<=w) (h:1048576<=rest\/g*v2<=rest*1048576+w):(g-1)*V<=W:=by
 have h0:g*v2<=rest*1048576+w:=by
  rcases h with h | h
  ·have:g*v2<=1048575*1048575:=jP (by omega) (by omega) hv2.1 (by omega);omega
  ·exact h
 have h1:(g-1)*Vl<=(g-1)*D:=qf (by omega) (by omega);have h2:(g*v2)*D<=(rest*1048576+w)*D:=qn h0 (by omega);have h3:(g*v1+rest)*D=top*D:=by rw[hg]
 have h4:(g-1)*D<=(v1*1048576+v2)*D:=qn (by omega) (by omega);rw[ex2]at h2;rw[yn]at h3;rw[ex2]at h4;have e:(g-1)*V=g*V-V:=by rw[jE,ym]
 have e2:g*V=1048576*(g*v1*D)+g*v2*D+g*Vl:=by rw[hV,ex3]
 have e3:V=1048576*(v1*D)+v2*D+Vl:=by rw[hV,ex2]
 have e4:W=1048576*(top*D)+w*D+Wl:=by rw[hW,ex2]
 have e5:(g-1)*Vl=g*Vl-Vl:=by rw[jE,ym]
 have e6:(g-1)*D=g*D-D:=by rw[jE,ym]
 rw[e5,e6]at h1;rw[e6]at h4;rw[e,e2,e3,e4];clear hV hW e e2 e3 e4 e5 e6;omega
theorem jop{g V W:Int}(hV:0<V)(h1:W<(g+1)*V)(h2:0<=W-g*V\/0<=W-(g-1)*V):
  (if 0<=W-g*V then g else g-1)=W/V/\W-(if 0<=W-g*V then g else g-1)*V=W % V:=by
 have key:∀q:Int,0<=W-q*V->W-q*V<V->q=W/V/\W-q*V=W % V:=fun q hq0 hq1=>by
  have hq:W/V=q:=by
   rw[show W=(W-q*V)+q*V by omega,Int.add_mul_ediv_right _ _ (by omega),Int.ediv_eq_zero_of_lt hq0 hq1,jw]
  refine⟨hq.symm,?_⟩;have:=qH W V;rw[hq,q8]at this;omega
 have e1:(g+1)*V=g*V+V:=by rw[yn,ym]
 have e2:(g-1)*V=g*V-V:=by rw[jE,ym]
 split
 ·rename_i h;exact key g h (by omega)
 ·rename_i h;exact key (g-1) (h2.resolve_left h) (by omega)
end
end Go.Abs
namespace Go.Proofs.YtdhlmmoicchgpaaGreat
section
open Go.Abs
attribute [local go_sem] ints ic mb20 pw20 fd20
theorem dgt_drop(l:List Int)(i j:Nat):dgt (l.drop i) j=dgt l (i+j):=by unfold dgt;rw[qQ]
theorem dgt_take_lt{l:List Int}{n j:Nat}(h:j<n):dgt (l.take n) j=dgt l j:=by unfold dgt;rw[qj,zm h]
theorem top_two{l:List Int}{n:Nat}(hl:OkD l)(hn:2<=n)(hlen:l.length=n):∃Vl,val l=(dgt l (n-1)*1048576+dgt l (n-2))*1048576^(n-2)+Vl/\0<=Vl/\Vl<1048576^(n-2):=by
 refine⟨val (l.take (n-2)),?_,jb9 (hl.take _),jdt hl _⟩;have h1:=jdd l (n-2);have h2:=jd2 l (n-2);have h3:=jd2 l (n-2+1);rw[show n-2+1=n-1 by omega]at h2 h3;rw[qy (by omega:l.length<=n-1+1),show val []=0 from rfl,q5,yc]at h3;rw[h3]at h2;rw[h2]at h1;rw[h1,q8 (1048576^(n-2))];have:dgt l (n-2)+1048576*dgt l (n-1)=dgt l (n-1)*1048576+dgt l (n-2):=by omega
 rw[this];omega
theorem top_three{l:List Int}{n:Nat}(hl:OkD l)(hn:2<=n)(hlen:l.length=n+1):∃Wl,val l=((dgt l n*1048576+dgt l (n-1))*1048576+dgt l (n-2))*1048576^(n-2)+Wl/\0<=Wl/\Wl<1048576^(n-2):=by
 refine⟨val (l.take (n-2)),?_,jb9 (hl.take _),jdt hl _⟩;have h1:=jdd l (n-2);have h2:=jd2 l (n-2);have h3:=jd2 l (n-2+1);rw[show n-2+1=n-1 by omega]at h2 h3;have h4:=jd2 l (n-1+1);rw[show n-1+1=n by omega]at h3 h4;rw[qy (by omega:l.length<=n+1),show val []=0 from rfl,q5,yc]at h4;rw[h4]at h3;rw[h3]at h2;rw[h2]at h1;rw[h1,q8 (1048576^(n-2))];have:dgt l (n-2)+1048576*(dgt l (n-1)+1048576*dgt l n)=(dgt l n*1048576+dgt l (n-1))*1048576+dgt l (n-2):=by omega
 rw[this];omega
theorem shifted{y s n:Nat}(hn:(dig y).length=n)(hn1:1<=n)(h1:524288<=dgt (dig y) (n-1)*s)(h2:(dgt (dig y) (n-1)+1)*s<=1048576):
  (dig (y*s)).length=n/\524288<=dgt (dig (y*s)) (n-1)/\(524288:Int)*1048576^(n-1)<=((y*s:Nat):Int):=by
 have hv:=jbb y;have ho:=jc3 y;have hs:=jdd (dig y) (n-1);have hd:=jd2 (dig y) (n-1);rw[qy (by omega:(dig y).length<=n-1+1),show val []=0 from rfl,q5,yc]at hd;rw[hd,hv]at hs;have h3:=jdt ho (n-1);have h4:=jb9 (ho.take (n-1));have hp:=je3 (n-1);have hpn:(1048576:Int)^n=1048576^(n-1)*1048576:=by rw[<-jdi,show n-1+1=n by omega]
 generalize dgt (dig y) (n-1)=t at*;generalize val ((dig y).take (n-1))=lo at*;generalize hP:(1048576:Int)^(n-1)=P at*;have hys:((y*s:Nat):Int)=lo*s+P*(t*s):=by rw[Int.natCast_mul,hs,yn,qG]
 have hs0:(0:Int)<=s:=Int.natCast_nonneg s;have e1:0<=lo*s:=qM h4 hs0;have e2:P*524288<=P*(t*s):=qf h1 (by omega);have e3:lo*s<=(P-1)*s:=qn (by omega) hs0;have e4:(P-1)*s=P*s-s:=by rw[jE,ym]
 have e5:P*((t+1)*s)<=P*1048576:=qf h2 (by omega);have e6:P*((t+1)*s)=P*(t*s)+P*s:=by rw[yn,ym,qu]
 have hspos:(1:Int)<=s:=by
  rcases yG s with h | h
  ·subst h;simp at h1
  ·omega
 have lo1:(524288:Int)*P<=((y*s:Nat):Int):=by rw[hys,q8 524288];omega
 have hi1:((y*s:Nat):Int)<1048576^n:=by rw[hys,hpn];omega
 have hle:(dig (y*s)).length<=n:=jc1 hi1;have hvv:=jbb (y*s);have hoo:=jc3 (y*s);have hlen:(dig (y*s)).length=n:=by
  rcases zR (dig (y*s)).length n with h | h
  ·have g1:=jdt hoo (n-1);rw[jc4 (by omega:(dig (y*s)).length<=n-1),hvv,hP]at g1;omega
  ·omega
 refine⟨hlen,?_,lo1⟩;have g1:=jdd (dig (y*s)) (n-1);have g2:=jd2 (dig (y*s)) (n-1);rw[qy (by omega:(dig (y*s)).length<=n-1+1),show val []=0 from rfl,q5,yc]at g2;have g3:=jdt hoo (n-1);rw[g2,hvv,hP]at g1;rw[hP]at g3;generalize dgt (dig (y*s)) (n-1)=t' at*;rcases ya t' 524288 with h | h
 ·have:P*t'<=P*524287:=qf (by omega) (by omega);omega
 ·exact h
