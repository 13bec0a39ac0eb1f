/- A part of the proof. No further condition. -/
import Derived.Test.YtjcjcpebocbonaaGreatKZ42
import Derived.Test.YtjcjcpebocbonaaGreatKZ43
import Derived.LoopN
import Derived.RangeFuncNested
import Derived.RangeFuncBound
import Derived.RangeFuncCalls
import Derived.RangeFuncLeaves
import Derived.RangeFuncBox
import Derived.RangeFuncGives
import Derived.Shelf.Abstract
import Derived.Shelf.RegionOpen
import Derived.OwnWalkIn
import Derived.TacticsInMore
import Derived.LoopNIn
import Derived.LoopIn
import Derived.BigRegionIn
import Derived.BigFrameIn
import Derived.Maps.RangeRun
import Derived.RangeFuncWrites
import Derived.Maps.AppendAt
set_option linter.all false
set_option maxRecDepth 10000000
set_option maxHeartbeats 16000000
namespace Go.Proofs.YtjcjcpebocbonaaGreat
section
set_option maxRecDepth 1000000
open Go.Abs
attribute [local go_sem] Evid.iv Evid.c Place.c Move.c Cert.c Recall.c Purity.c ints ic pickC
theorem joa(e:Evid)(p:Int)(hc:jbb e=0)(h0:0<=p/\p<(e.places.length:Int))(hl:e.places.length<=1000):Ctr G.P 39 [e.iv,.int p] (· = .bool (decide (ji6 e p=0))):=by
 have k:=c21 e;rw[hc]at k;have k2:=c67 p e.places.length;obtain⟨q,hq⟩:∃q,e.places[p.toNat]? =some q:=⟨_,zw (by omega)⟩;rw[jlp hq];have e2:idx p e.places.length=true:=idx_iff.2 h0;rw[e2]at k2;obtain⟨h0,h1⟩:=h0;unfold Evid.iv Evid.c at*;refine ja4 [.tmp 4] Tryz.func39 ?_;simp only[go_sem];refine ja0 k ?_;simp only[go_sem];refine ja0 k2 ?_;simp only[zq,hq,h0,h1,Place.c,go_sem]
theorem jlb{l:List Move}{k:Nat}{pl day:Int}{i:Nat}{x:Move}(hx:l[i]? =some x):jca l k pl day (i+1)=jca l k pl day i++(if arrQ pl day x=true then rowQ i k else []):=by rw[jca,hx]
theorem q_picks(e:Evid)(hc:jbb e=0)(pl day:Int):Ctr G.P 14 [e.iv,.int pl,.int day] (· = .sl ((jdh e pl day).map pickC)):=by
 have b5:=jes (jay hc).1;have b6:=(jay hc).2.1;have b0:∀(l:List (Int×Int)),∀c∈l.map pickC,c.length=2:=fun l c hc=>by
  obtain⟨z,_,rfl⟩:=z8.1 hc;rfl
 unfold jdh;refine ja4 [.tmp 6] Tryz.func14 ?_;unfold Evid.iv Evid.c;simp only[go_sem];refine jdj [1,2,3,7,8] [3,49] [(7,49,97,2)] (fun i:Nat=>⟨[(1,.im (.int pl)),(2,.im (.int day)),(3,.loc 3 8 0 0),(7,.vec 49 97 2 ((jca e.moves e.mats.toNat pl day i).map pickC)),(8,.im (.int i))],[(3,8,[e.c])],[(49,2,(jca e.moves e.mats.toNat pl day i).length)]⟩)
  (fun i=>i<=e.moves.length/\(jca e.moves e.mats.toNat pl day i).length<=i*6) (fun i=>e.moves.length-i) 0 ?_ ?_ ⟨zG _,zu _⟩ ?_
 ·simp only[List.length_nil,go_sem];exact fun c hc=>by cases hc
 ·simp only[jca,zF,List.length_nil,Int.natCast_zero,go_sem]
 intro i ⟨hi,hlen⟩;by_cases hp:(i:Int)<e.moves.length
 case neg=>
  have hd:decide ((i:Int)<e.moves.length)=false:=ze hp;obtain rfl:i=e.moves.length:=by omega
  simp only[hd,za,go_sem]
 have hd:decide ((i:Int)<e.moves.length)=true:=zp hp;have hn:=ja8 ((i:Int)+1);have a7:(0:Int)<=i:=by omega
 have a6:(i:Int)<e.moves.length:=hp;obtain⟨x,hx⟩:=jcf hp;have hw:=jlb (k:=e.mats.toNat) (pl:=pl) (day:=day) hx;generalize jca e.moves e.mats.toNat pl day i=a1 at*;rcases ht:arrQ pl day x with _ | _
 ·rw[ht,zl (by decide),qr]at hw;rw[arrQ,yK]at ht;have a8:decide ((0:Int)<e.mats)=true:=dTo;simp only[hd,za,go_sem];refine jai [1,2,3,7,8,9] [3,49] (fun _:Unit=>⟨[(1,.im (.int pl)),(2,.im (.int day)),(3,.loc 3 8 0 0),(7,.vec 49 97 2 (a1.map pickC)),(8,.im (.int i)),(9,.im (.int 0))],[(3,8,[e.c])],[(49,2,a1.length)]⟩) (fun _=>True) (fun _=>0) () ?_ trivial ?_
  ·simp only[go_sem]
  intro _ _;rcases h1:decide (x.to=pl)with _ | _
  ·simp only[a8,zq,hx,a7,a6,h1,za,go_sem];refine ja7 (i+1) ?_ (by omega) ⟨by omega,?_⟩
   ·simp only[hw,hn,Int.natCast_add,go_sem]
   ·rw[hw];omega
  ·have h2:decide (x.day=day)=false:=by rw[h1]at ht;simpa using ht
   simp only[a8,zq,hx,a7,a6,h1,h2,za,go_sem];refine ja7 (i+1) ?_ (by omega) ⟨by omega,?_⟩
   ·simp only[hw,hn,Int.natCast_add,go_sem]
   ·rw[hw];omega
 ·rw[ht,zh rfl]at hw;rw[arrQ,zn]at ht;obtain⟨h1,h2⟩:=ht;simp only[hd,za,go_sem];refine jai [1,2,3,7,8,9] [3,49] (fun m:Nat=>⟨[(1,.im (.int pl)),(2,.im (.int day)),(3,.loc 3 8 0 0),(7,.vec 49 97 2 ((a1++rowQ i m).map pickC)),(8,.im (.int i)),(9,.im (.int m))],[(3,8,[e.c])],[(49,2,(a1++rowQ i m).length)]⟩)
   (fun m=>m<=e.mats.toNat) (fun m=>e.mats.toNat-m) 0 ?_ (zG _) ?_
  ·simp only[rowQ,qr,Int.natCast_zero,go_sem]
  intro m hm;by_cases b1:m<e.mats.toNat
  ·have dm:decide ((m:Int)<e.mats)=true:=dTo;have b2:=ja8 ((m:Int)+1);have b3:((a1++rowQ i m).map pickC).length=(a1++rowQ i m).length:=za _;have b4:(a1++rowQ i (m+1))=(a1++rowQ i m)++[((i:Int),(m:Int))]:=by rw[rowQ,qe]
   have b7:(a1++rowQ i m).length<=20000:=by rw[zB,jiq];omega
   generalize a1++rowQ i m=acc at*;simp only[dm,zq,hx,a7,a6,h1,h2,za,go_sem];refine⟨b0 acc,fun c hc=>by rw[zE.1 hc];rfl,by omega,?_⟩;refine ja7 (m+1) ?_ (by omega) b1;simp only[b2,b3,b4,Int.natCast_add,qv,zt,zF,zB,List.length_cons,List.length_nil,go_sem]
  ·have dm:decide ((m:Int)<e.mats)=false:=dFo;obtain rfl:m=e.mats.toNat:=by omega
   simp only[dm,go_sem];refine ja7 (i+1) ?_ (by omega) ⟨by omega,?_⟩
   ·simp only[hw,hn,Int.natCast_add,go_sem]
   ·rw[hw,zB,jiq];omega
end
section
set_option maxRecDepth 1000000
open Go.Abs
attribute [local go_sem] Evid.iv Evid.c Place.c Move.c Cert.c Recall.c Purity.c ints ic pickC
theorem q_brought0(e:Evid)(pl day:Int)(h:argQ e pl day=false):Ctr G.P 11 [e.iv,.int pl,.int day] (· = .tup [.int 0,.int 1]):=by
 have a1:=c21 e;have kI:=q_in pl 0 (e.places.length-1);have kD:=q_in day 0 100000;rcases h1:decide (jbb e=0)with _ | _
 ·generalize jbb e=ck at*;simp only[Evid.iv,Evid.c]at*;refine ja4 [.tmp 6,.tmp 7] Tryz.func11 ?_;simp only[go_sem];refine ja0 a1 ?_;simp only[h1,go_sem]
 have h0:=zI h1;rw[h0]at a1;have a7:=jes (jay h0).1;have w1:=ja8 ((e.places.length:Int)-1);rcases h2:Go.LQ.inR pl 0 ((e.places.length:Int)-1)with _ | _
 ·rw[h2]at kI;simp only[Evid.iv,Evid.c]at*;refine ja4 [.tmp 6,.tmp 7] Tryz.func11 ?_;simp only[go_sem];refine ja0 a1 ?_;simp only[w1,za,go_sem];refine ja0 kI ?_;simp only[go_sem]
 rw[h2]at kI;have a6:=h2;simp only[Go.LQ.inR,zn,zO]at a6;have kS:=joa e pl h0 (by omega) (by omega);rcases h3:decide (ji6 e pl=0)with _ | _
 ·rw[h3]at kS;have h4:Go.LQ.inR day 0 100000=false:=by
   unfold argQ at h;rw[h1,h2,h3]at h
   simpa using h
  rw[h4]at kD;simp only[Evid.iv,Evid.c]at*;refine ja4 [.tmp 6,.tmp 7] Tryz.func11 ?_;simp only[go_sem];refine ja0 a1 ?_;simp only[w1,za,go_sem];refine ja0 kI ?_;simp only[go_sem];refine ja0 kS ?_;simp only[go_sem];refine ja0 kD ?_;simp only[go_sem]
 ·rw[h3]at kS;simp only[Evid.iv,Evid.c]at*;refine ja4 [.tmp 6,.tmp 7] Tryz.func11 ?_;simp only[go_sem];refine ja0 a1 ?_;simp only[w1,za,go_sem];refine ja0 kI ?_;simp only[go_sem];refine ja0 kS ?_;simp only[go_sem]
def accQ(pl day:Int)(x:Move)(acc:List (Int×Int))(i m:Nat):List (Int×Int):=acc++(if arrQ pl day x=true then rowQ i m else [])
theorem jkr{pl day:Int}{x:Move}{acc:List (Int×Int)}{i m:Nat}:(accQ pl day x acc i m).length<=acc.length+m:=by
 unfold accQ;rw[zB];split
 ·rw[jiq];omega
 ·rw[List.length_nil];omega
theorem q_brought1(e:Evid)(pl day:Int)(h:argQ e pl day=true)(f:Int)(hf:f≠0)(z1 z3:Int)(z2 z4:List (List IV))(kt:Ctr G.P 40 [e.iv,.sl ((jdh e pl day).map pickC)] (· = .tup [.agg [.int z1,.sl z2,.int z3,.sl z4],.int f])):
  Ctr G.P 11 [e.iv,.int pl,.int day] (· = .tup [.int 0,.int f]):=by
 have b0:=c21 e;have kI:=q_in pl 0 (e.places.length-1);have kD:=q_in day 0 100000;obtain⟨h0,⟨p0,p1⟩,hk,d0,d1⟩:=ji1 h;have kS:=joa e pl h0 ⟨p0,p1⟩ (by have:=jes (jay h0).1;omega);rw[h0]at b0;rw[show Go.LQ.inR pl 0 ((e.places.length:Int)-1)=true by unfold Go.LQ.inR;simp only[zn,zO];omega]at kI;rw[show Go.LQ.inR day 0 100000=true by unfold Go.LQ.inR;simp only[zn,zO];omega]at kD;rw[ze hk]at kS;have b6:decide (f=0)=false:=ze hf;have b8:=jes (jay h0).1;have b9:=(jay h0).2.1;have b2:∀(l:List (Int×Int)),∀c∈l.map pickC,c.length=2:=fun l c hc=>by
  obtain⟨z,_,rfl⟩:=z8.1 hc;rfl
 have w1:=ja8 ((e.places.length:Int)-1);unfold jdh at*;simp only[Evid.iv,Evid.c]at*;refine ja4 [.tmp 6,.tmp 7] Tryz.func11 ?_;simp only[go_sem];refine ja0 b0 ?_;simp only[w1,za,go_sem];refine ja0 kI ?_;simp only[go_sem];refine ja0 kS ?_;simp only[go_sem];refine ja0 kD ?_;simp only[za,go_sem];refine jdj [1,2,3,8,41,42,43] [3,68] [(8,68,97,2)] (fun i:Nat=>⟨[(1,.im (.int pl)),(2,.im (.int day)),(3,.loc 3 8 0 0),(8,.vec 68 97 2 ((jca e.moves e.mats.toNat pl day i).map pickC)),(41,.im (.sl (e.moves.map Move.c))),(42,.im (.int e.moves.length)),(43,.im (.int i))],[(3,8,[e.c])],[(68,2,(jca e.moves e.mats.toNat pl day i).length)]⟩)
  (fun i=>i<=e.moves.length/\(jca e.moves e.mats.toNat pl day i).length<=i*6) (fun i=>e.moves.length-i) 0 ?_ ?_ ⟨zG _,zu _⟩ ?_
 ·simp only[List.length_nil,go_sem];exact fun c hc=>by cases hc
 ·simp only[jca,zF,List.length_nil,Int.natCast_zero,go_sem]
 intro i ⟨hi,hlen⟩;by_cases hp:(i:Int)<e.moves.length
 ·have hd:decide ((i:Int)<e.moves.length)=true:=zp hp;have hn:=ja8 ((i:Int)+1);have b5:(0:Int)<=i:=by omega
  have b4:(i:Int)<e.moves.length:=hp;obtain⟨x,hx⟩:=jcf hp;have hw:=jlb (k:=e.mats.toNat) (pl:=pl) (day:=day) hx;generalize jca e.moves e.mats.toNat pl day i=a1 at*;have hw:jca e.moves e.mats.toNat pl day (i+1)=accQ pl day x a1 i e.mats.toNat:=hw;clear kt;simp only[hd,zq,hx,b5,b4,za,go_sem];refine jai [1,2,3,8,9,10,41,42,43,49,50] [3,10,68] (fun m:Nat=>⟨[(1,.im (.int pl)),(2,.im (.int day)),(3,.loc 3 8 0 0),(8,.vec 68 97 2 ((accQ pl day x a1 i m).map pickC)),(9,.im (.int i)),(10,.loc 10 6 0 0),(41,.im (.sl (e.moves.map Move.c))),(42,.im (.int e.moves.length)),(43,.im (.int i)),(49,.im (.int e.mats)),(50,.im (.int m))],[(10,6,[x.c]),(3,8,[e.c])],[(68,2,(accQ pl day x a1 i m).length)]⟩)
   (fun m=>m<=e.mats.toNat) (fun m=>e.mats.toNat-m) 0 ?_ (zG _) ?_
  ·have b7:accQ pl day x a1 i 0=a1:=by unfold accQ;split<;>simp[rowQ]
   simp only[b7,Int.natCast_zero,go_sem]
  intro m hm;by_cases a7:m<e.mats.toNat
  ·have dm:decide ((m:Int)<e.mats)=true:=dTo;have a8:=ja8 ((m:Int)+1);have b1:=jkr (pl:=pl) (day:=day) (x:=x) (acc:=a1) (i:=i) (m:=m);have b3:((accQ pl day x a1 i m).map pickC).length=(accQ pl day x a1 i m).length:=za _;rcases ht:arrQ pl day x with _ | _
   ·have a6:accQ pl day x a1 i (m+1)=accQ pl day x a1 i m:=by unfold accQ;rw[ht];rfl
    rw[arrQ,yK]at ht;generalize accQ pl day x a1 i m=acc at*;rcases h1:decide (x.to=pl)with _ | _
    ·simp only[dm,h1,go_sem];refine ja7 (m+1) ?_ (by omega) a7;simp only[a8,a6,Int.natCast_add,go_sem]
    ·have h2:decide (x.day=day)=false:=by rw[h1]at ht;simpa using ht
     simp only[dm,h1,h2,go_sem];refine ja7 (m+1) ?_ (by omega) a7;simp only[a8,a6,Int.natCast_add,go_sem]
   ·have a6:accQ pl day x a1 i (m+1)=accQ pl day x a1 i m++[((i:Int),(m:Int))]:=by unfold accQ;rw[ht,zh rfl,zh rfl,rowQ,qe]
    rw[arrQ,zn]at ht;obtain⟨h1,h2⟩:=ht;generalize accQ pl day x a1 i m=acc at*;simp only[dm,h1,h2,go_sem];refine⟨b2 acc,fun c hc=>by rw[zE.1 hc];rfl,by omega,?_⟩;refine ja7 (m+1) ?_ (by omega) a7;simp only[a8,b3,a6,Int.natCast_add,qv,zt,zF,zB,List.length_cons,List.length_nil,go_sem]
  ·have dm:decide ((m:Int)<e.mats)=false:=dFo;obtain rfl:m=e.mats.toNat:=by omega
   have b1:=jkr (pl:=pl) (day:=day) (x:=x) (acc:=a1) (i:=i) (m:=e.mats.toNat);rw[<-hw]at b1⊢;simp only[dm,go_sem];refine ja7 (i+1) ?_ (by omega) ⟨by omega,by omega⟩;simp only[hn,Int.natCast_add,go_sem]
 have hd:decide ((i:Int)<e.moves.length)=false:=ze hp;obtain rfl:i=e.moves.length:=by omega
 simp only[hd,go_sem];refine ja0 kt ?_;simp only[b6,go_sem]
theorem q_brought2(e:Evid)(pl day:Int)(h:argQ e pl day=true)(lo:Rat)(b1:FL 4000000000 lo)(kt:Ctr G.P 40 [e.iv,.sl ((jdh e pl day).map pickC)] (· = .tup [frac lo,.int 0])):
  Ctr G.P 11 [e.iv,.int pl,.int day] (· = .tup [.int (intF (jlv (lo/((1000:Int):Rat)))),.int 0]):=by
 have b2:=c21 e;have kI:=q_in pl 0 (e.places.length-1);have kD:=q_in day 0 100000;obtain⟨h0,⟨p0,p1⟩,hk,d0,d1⟩:=ji1 h;have kS:=joa e pl h0 ⟨p0,p1⟩ (by have:=jes (jay h0).1;omega);rw[h0]at b2;rw[show Go.LQ.inR pl 0 ((e.places.length:Int)-1)=true by unfold Go.LQ.inR;simp only[zn,zO];omega]at kI;rw[show Go.LQ.inR day 0 100000=true by unfold Go.LQ.inR;simp only[zn,zO];omega]at kD;rw[ze hk]at kS;have k0:=jcj 1000 (by omega);have a6:FL 19000000000 ((1000:Int):Rat):=(jbn (n:=1000) (by omega)).mono (by omega);have k1:=f_div (a:=lo) (b:=((1000:Int):Rat)) (by decide) (b1.mono (by omega)) a6;have hq:FL 4000000010 (lo/((1000:Int):Rat)):=by
  rw[Rat.div_def];have h1:FL 10 ((((1000:Int):Rat))⁻¹):=by
   rw[show(((1000:Int):Rat))⁻¹=Rat.divInt 1 1000 by decide+kernel];exact jgc (by decide) (by decide+kernel) (by decide+kernel)
  exact jje b1 h1
 have k2:=t_pfloor (lo/((1000:Int):Rat)) (by have:=hq.1;omega) (by have:=hq.2;omega);unfold jlv;have b4:((lo/((1000:Int):Rat)).num.fdiv (lo/((1000:Int):Rat)).den).natAbs<=(lo/((1000:Int):Rat)).num.natAbs:=fdiv_abs _;have k3:=t_pint ((lo/((1000:Int):Rat)).num.fdiv (lo/((1000:Int):Rat)).den) (jcm b4 (by have:=hq.1;omega));clear hq b4 a6 b1;generalize (lo/((1000:Int):Rat)).num.fdiv (lo/((1000:Int):Rat)).den=z at*;generalize lo/((1000:Int):Rat)=lq at*;simp only[frac,big]at*;generalize (dig ((1000:Int):Rat).num.natAbs).map ic=b8 at*;generalize (dig ((((1000:Int):Rat).den:Int)).natAbs).map ic=b7 at*;generalize ((1000:Int):Rat).num.sign=b6 at*;generalize ((((1000:Int):Rat).den:Int)).sign=b5 at*;generalize (dig lo.num.natAbs).map ic=y1 at*;generalize (dig (lo.den:Int).natAbs).map ic=y2 at*;generalize (dig lq.num.natAbs).map ic=y4 at*;generalize (dig (lq.den:Int).natAbs).map ic=y5 at*;generalize (dig z.natAbs).map ic=y3 at*;generalize lo.num.sign=s1 at*;generalize (lo.den:Int).sign=s2 at*;generalize lq.num.sign=s4 at*;generalize (lq.den:Int).sign=s5 at*;generalize z.sign=s3 at*;have c6:=jes (jay h0).1;have c7:=(jay h0).2.1;have b9:∀(l:List (Int×Int)),∀c∈l.map pickC,c.length=2:=fun l c hc=>by
  obtain⟨z,_,rfl⟩:=z8.1 hc;rfl
 have w1:=ja8 ((e.places.length:Int)-1);unfold jdh at*;simp only[Evid.iv,Evid.c]at*;refine ja4 [.tmp 6,.tmp 7] Tryz.func11 ?_;simp only[go_sem];refine ja0 b2 ?_;simp only[w1,za,go_sem];refine ja0 kI ?_;simp only[go_sem];refine ja0 kS ?_;simp only[go_sem];refine ja0 kD ?_;simp only[za,go_sem];refine jdj [1,2,3,8,41,42,43] [3,68] [(8,68,97,2)] (fun i:Nat=>⟨[(1,.im (.int pl)),(2,.im (.int day)),(3,.loc 3 8 0 0),(8,.vec 68 97 2 ((jca e.moves e.mats.toNat pl day i).map pickC)),(41,.im (.sl (e.moves.map Move.c))),(42,.im (.int e.moves.length)),(43,.im (.int i))],[(3,8,[e.c])],[(68,2,(jca e.moves e.mats.toNat pl day i).length)]⟩)
  (fun i=>i<=e.moves.length/\(jca e.moves e.mats.toNat pl day i).length<=i*6) (fun i=>e.moves.length-i) 0 ?_ ?_ ⟨zG _,zu _⟩ ?_
 ·simp only[List.length_nil,go_sem];exact fun c hc=>by cases hc
 ·simp only[jca,zF,List.length_nil,Int.natCast_zero,go_sem]
 intro i ⟨hi,hlen⟩;by_cases hp:(i:Int)<e.moves.length
 ·have hd:decide ((i:Int)<e.moves.length)=true:=zp hp;have hn:=ja8 ((i:Int)+1);have c4:(0:Int)<=i:=by omega
  have c3:(i:Int)<e.moves.length:=hp;obtain⟨x,hx⟩:=jcf hp;have hw:=jlb (k:=e.mats.toNat) (pl:=pl) (day:=day) hx;generalize jca e.moves e.mats.toNat pl day i=a1 at*;have hw:jca e.moves e.mats.toNat pl day (i+1)=accQ pl day x a1 i e.mats.toNat:=hw;clear kt;simp only[hd,zq,hx,c4,c3,za,go_sem];refine jai [1,2,3,8,9,10,41,42,43,49,50] [3,10,68] (fun m:Nat=>⟨[(1,.im (.int pl)),(2,.im (.int day)),(3,.loc 3 8 0 0),(8,.vec 68 97 2 ((accQ pl day x a1 i m).map pickC)),(9,.im (.int i)),(10,.loc 10 6 0 0),(41,.im (.sl (e.moves.map Move.c))),(42,.im (.int e.moves.length)),(43,.im (.int i)),(49,.im (.int e.mats)),(50,.im (.int m))],[(10,6,[x.c]),(3,8,[e.c])],[(68,2,(accQ pl day x a1 i m).length)]⟩)
   (fun m=>m<=e.mats.toNat) (fun m=>e.mats.toNat-m) 0 ?_ (zG _) ?_
  ·have c5:accQ pl day x a1 i 0=a1:=by unfold accQ;split<;>simp[rowQ]
   simp only[c5,Int.natCast_zero,go_sem]
  intro m hm;by_cases a8:m<e.mats.toNat
  ·have dm:decide ((m:Int)<e.mats)=true:=dTo;have b0:=ja8 ((m:Int)+1);have b3:=jkr (pl:=pl) (day:=day) (x:=x) (acc:=a1) (i:=i) (m:=m);have c0:((accQ pl day x a1 i m).map pickC).length=(accQ pl day x a1 i m).length:=za _;rcases ht:arrQ pl day x with _ | _
   ·have a7:accQ pl day x a1 i (m+1)=accQ pl day x a1 i m:=by unfold accQ;rw[ht];rfl
    rw[arrQ,yK]at ht;generalize accQ pl day x a1 i m=acc at*;rcases h1:decide (x.to=pl)with _ | _
    ·simp only[dm,h1,go_sem];refine ja7 (m+1) ?_ (by omega) a8;simp only[b0,a7,Int.natCast_add,go_sem]
    ·have h2:decide (x.day=day)=false:=by rw[h1]at ht;simpa using ht
     simp only[dm,h1,h2,go_sem];refine ja7 (m+1) ?_ (by omega) a8;simp only[b0,a7,Int.natCast_add,go_sem]
   ·have a7:accQ pl day x a1 i (m+1)=accQ pl day x a1 i m++[((i:Int),(m:Int))]:=by unfold accQ;rw[ht,zh rfl,zh rfl,rowQ,qe]
    rw[arrQ,zn]at ht;obtain⟨h1,h2⟩:=ht;generalize accQ pl day x a1 i m=acc at*;simp only[dm,h1,h2,go_sem];refine⟨b9 acc,fun c hc=>by rw[zE.1 hc];rfl,by omega,?_⟩;refine ja7 (m+1) ?_ (by omega) a8;simp only[b0,c0,a7,Int.natCast_add,qv,zt,zF,zB,List.length_cons,List.length_nil,go_sem]
  ·have dm:decide ((m:Int)<e.mats)=false:=dFo;obtain rfl:m=e.mats.toNat:=by omega
   have b3:=jkr (pl:=pl) (day:=day) (x:=x) (acc:=a1) (i:=i) (m:=e.mats.toNat);rw[<-hw]at b3⊢;simp only[dm,go_sem];refine ja7 (i+1) ?_ (by omega) ⟨by omega,by omega⟩;simp only[hn,Int.natCast_add,go_sem]
 have hd:decide ((i:Int)<e.moves.length)=false:=ze hp;obtain rfl:i=e.moves.length:=by omega
 simp only[hd,go_sem];refine ja0 kt ?_;simp only[go_sem];refine jah ?_;simp only[go_sem];refine ja3 k0 (by decide) ?_;simp only[go_sem];refine ja3 k1 (by decide) ?_;simp only[go_sem];refine ja0 k2 ?_;simp only[go_sem];refine ja0 k3 ?_;simp only[go_sem]
theorem jq5{e:Evid}(pl day:Int)(hs:SmallE e):∃n f,QSay e pl day n f/\Ctr G.P 11 [e.iv,.int pl,.int day] (· = .tup [.int n,.int f]):=by
 rcases hf:argQ e pl day with _ | _
 ·exact⟨0,1,⟨fun _=>⟨rfl,rfl⟩,(fun h=>by rw[hf]at h;cases h)⟩,q_brought0 e pl day hf⟩
 have h0:=(ji1 hf).1;have a1:=picksE_ok h0 (pl:=pl) (day:=day);obtain⟨r,f,bd,s,kR⟩:=w_range (e:=e) (ps:=jdh e pl day) hs (by
  show(jca e.moves e.mats.toNat pl day e.moves.length).length<=10000;have h1:=jhu (l:=e.moves) (k:=e.mats.toNat) (pl:=pl) (day:=day) e.moves.length;have h2:=hs.mt;omega)
 have kL:=w_least s kR;cases bd with
 | none=>
  obtain⟨_,h1 | h1⟩:=s.zero rfl
  ·have:=s.arg.1 h1;rw[a1]at this;cases this
  subst h1;refine⟨0,15,⟨(fun h=>by rw[hf]at h;cases h),fun _=> .inl ⟨rfl,rfl,?_⟩⟩,q_brought1 e pl day hf 15 (by decide) 0 0 [] [] kL⟩;have:=s.say;cases this with
  | none h=>exact h a1
 | some p=>
  obtain⟨lo,hi⟩:=p;obtain⟨_,_,a6,_⟩:=s.say.inv;exact⟨intF (jlv (lo/((1000:Int):Rat))),0,⟨(fun h=>by rw[hf]at h;cases h),fun _=> .inr ⟨rfl,lo,hi,s.say,rfl⟩⟩,q_brought2 e pl day hf lo a6 kL⟩
end
section
set_option maxRecDepth 1000000
open Go.Shelf Go.RowKit Go.Lib Go.Sort
def sortKeys_ren:Go.Shelf.Ren:=⟨fun | 6=>107 | 15=>130 | 14=>129 | 28=>158 | 29=>159 | 20=>150 | 21=>151 | 22=>152 | 23=>153 | 24=>154 | 25=>155 | 26=>156 | 27=>157 | 46=>182 | 47=>183 | 48=>184 | 49=>185 | 50=>186 | 57=>196 | n=>n,fun | 22=>141 | 24=>80 | 25=>146 | 3=>3 | 39=>164 | 0=>0 | 53=>221 | 55=>132 | 4=>4 | 46=>215 | 45=>214 | 50=>99 | 5=>5 | 9=>9 | 66=>245 | 70=>249 | 76=>260 | 77=>43 | n=>n,fun | n=>n⟩
theorem js5:Go.Proofs.SlLaysF0.n6 Tryz.prog sortKeys_ren:={
 mixed:=by kernel_rfl
 f6:=⟨Tryz.f107.name,by decide,Tryz.func107.trans (zS some (by kernel_rfl))⟩
 f14:=⟨Tryz.f129.name,by decide,Tryz.func129.trans (zS some (by kernel_rfl))⟩
 f15:=Tryz.func130.trans (zS some (by kernel_rfl))
 f20:=⟨Tryz.f150.name,by decide,Tryz.func150.trans (zS some (by kernel_rfl))⟩
 f21:=⟨Tryz.f151.name,by decide,Tryz.func151.trans (zS some (by kernel_rfl))⟩
 f22:=⟨Tryz.f152.name,by decide,Tryz.func152.trans (zS some (by kernel_rfl))⟩
 f23:=⟨Tryz.f153.name,by decide,Tryz.func153.trans (zS some (by kernel_rfl))⟩
 f24:=⟨Tryz.f154.name,by decide,Tryz.func154.trans (zS some (by kernel_rfl))⟩
 f25:=⟨Tryz.f155.name,by decide,Tryz.func155.trans (zS some (by kernel_rfl))⟩
 f26:=⟨Tryz.f156.name,by decide,Tryz.func156.trans (zS some (by kernel_rfl))⟩
 f27:=⟨Tryz.f157.name,by decide,Tryz.func157.trans (zS some (by kernel_rfl))⟩
 f28:=Tryz.func158.trans (zS some (by kernel_rfl))
 f29:=Tryz.func159.trans (zS some (by kernel_rfl))
 f46:=⟨Tryz.f182.name,by decide,Tryz.func182.trans (zS some (by kernel_rfl))⟩
 f47:=Tryz.func183.trans (zS some (by kernel_rfl))
 f48:=Tryz.func184.trans (zS some (by kernel_rfl))
 f49:=⟨Tryz.f185.name,by decide,Tryz.func185.trans (zS some (by kernel_rfl))⟩
 f50:=⟨Tryz.f186.name,by decide,Tryz.func186.trans (zS some (by kernel_rfl))⟩
 f57:=⟨Tryz.f196.name,by decide,Tryz.func196.trans (zS some (by kernel_rfl))⟩
 t0:=Tryz.underlying0
 a0:=Tryz.isAgg0
 z0:=Tryz.sizeOf0
 v0:=Tryz.zeroValue0
 t3:=Tryz.underlying3
 a3:=Tryz.isAgg3
 z3:=Tryz.sizeOf3
 v3:=Tryz.zeroValue3
 t4:=Tryz.underlying4
 a4:=Tryz.isAgg4
 z4:=Tryz.sizeOf4
 v4:=Tryz.zeroValue4
 t5:=Tryz.underlying5
 a5:=Tryz.isAgg5
 z5:=Tryz.sizeOf5
 v5:=Tryz.zeroValue5
 t9:=Tryz.underlying9
 a9:=Tryz.isAgg9
 z9:=Tryz.sizeOf9
 v9:=Tryz.zeroValue9
 t22:=Tryz.underlying141
 a22:=Tryz.isAgg141
 z22:=Tryz.sizeOf141
 v22:=Tryz.zeroValue141
 t25:=Tryz.underlying146
 a25:=Tryz.isAgg146
 z25:=Tryz.sizeOf146
 v25:=Tryz.zeroValue146
 t39:=Tryz.underlying164
 a39:=Tryz.isAgg164
 z39:=Tryz.sizeOf164
 v39:=Tryz.zeroValue164
 t45:=Tryz.underlying214
 a45:=Tryz.isAgg214
 z45:=Tryz.sizeOf214
 v45:=Tryz.zeroValue214
 t46:=Tryz.underlying215
 a46:=Tryz.isAgg215
 z46:=Tryz.sizeOf215
 v46:=Tryz.zeroValue215
 t50:=Tryz.underlying99
 a50:=Tryz.isAgg99
 z50:=Tryz.sizeOf99
 v50:=Tryz.zeroValue99
 t53:=Tryz.underlying221
 a53:=Tryz.isAgg221
 z53:=Tryz.sizeOf221
 v53:=Tryz.zeroValue221
 t55:=Tryz.underlying132
 a55:=Tryz.isAgg132
 z55:=Tryz.sizeOf132
 v55:=Tryz.zeroValue132
 t66:=Tryz.underlying245
 a66:=Tryz.isAgg245
 z66:=Tryz.sizeOf245
 v66:=Tryz.zeroValue245
 t70:=Tryz.underlying249
 a70:=Tryz.isAgg249
 z70:=Tryz.sizeOf249
 v70:=Tryz.zeroValue249
 t76:=Tryz.underlying260
 a76:=Tryz.isAgg260
 z76:=Tryz.sizeOf260
 v76:=Tryz.zeroValue260
 t77:=Tryz.underlying43
 a77:=Tryz.isAgg43
 z77:=Tryz.sizeOf43
 v77:=Tryz.zeroValue43}
def cmpIntsQ_ren:Go.Shelf.Ren:=⟨fun | 5=>72 | 7=>99 | n=>n,fun | 22=>3 | 3=>3 | 4=>4 | n=>n,fun | n=>n⟩
theorem jko:Go.Proofs.SlLaysC2.n5 Tryz.prog cmpIntsQ_ren:={
 mixed:=by kernel_rfl
 f5:=⟨Tryz.f72.name,by decide,Tryz.func72.trans (zS some (by kernel_rfl))⟩
 f7:=⟨Tryz.f99.name,by decide,Tryz.func99.trans (zS some (by kernel_rfl))⟩
 t3:=Tryz.underlying3
 a3:=Tryz.isAgg3
 z3:=Tryz.sizeOf3
 v3:=Tryz.zeroValue3
 t4:=Tryz.underlying4
 a4:=Tryz.isAgg4
 z4:=Tryz.sizeOf4
 v4:=Tryz.zeroValue4
 t22:=Tryz.underlying3
 a22:=Tryz.isAgg3
 z22:=Tryz.sizeOf3
 v22:=Tryz.zeroValue3}
end
section
set_option maxRecDepth 1000000
open Go.Shelf Go.RowKit Go.Lib Go.Sort
structure KeyV where
 a:Int
 b:Int
 c:Int
 deriving Inhabited
def KeyV.l(x:KeyV):List Int:=[x.a,x.b,x.c]
def KeyV.enc(x:KeyV):List Value:=[.int .i64 x.a,.int .i64 x.b,.int .i64 x.c]
def KeyV.cmp(x y:KeyV):Int:=LQ.cmpL x.l y.l
theorem ci_eq{x:Int}:compareInt x x=0:=by unfold compareInt;rw[iNo,iNo]
theorem ci_ne{x y:Int}(h:x≠y):compareInt x y≠0:=by
 unfold compareInt;split
 ·decide
 ·split
  ·decide
  ·omega
theorem cl_ne{x y:Int}{a b:List Int}(h:x≠y):LQ.cmpL (x::a) (y::b)=compareInt x y:=by
 rw[LQ.cmpL];unfold compareInt;by_cases h1:x<y
 ·rw[zh h1,zh h1]
 ·rw[zl h1,zl h1,iPo,iPo]
theorem cl_eq{x:Int}{a b:List Int}:LQ.cmpL (x::a) (x::b)=LQ.cmpL a b:=by rw[LQ.cmpL,iNo,iNo]
theorem cmp3_1(B1 B2:Nat)(x y:KeyV)(W:World)(hc:compareInt x.a y.a≠0)(h0:W.cell? ⟨B1,0,none⟩=some (.int .i64 x.a))(h1:W.cell? ⟨B1,1,none⟩=some (.int .i64 x.b))(h2:W.cell? ⟨B1,2,none⟩=some (.int .i64 x.c))
  (g0:W.cell? ⟨B2,0,none⟩=some (.int .i64 y.a)) (g1:W.cell? ⟨B2,1,none⟩=some (.int .i64 y.b)) (g2:W.cell? ⟨B2,2,none⟩=some (.int .i64 y.c)):
  Calls Tryz.prog 54 #[.slice (some ⟨B1,0,none⟩) 3 3,.slice (some ⟨B2,0,none⟩) 3 3] W fun e w'=>e= .returned (.int .i64 (compareInt x.a y.a))/\w'=W:=by
 have a1:=fun p q W'=>AnyG.cmp_Compare_int jko p q W';change ∀p q W',Calls Tryz.prog 72 _ _ _ at a1;obtain⟨a,b,c⟩:=x;obtain⟨a',b',c'⟩:=y;dsimp only at*
 go_enter Tryz.func54,Tryz.ntmps54
 go_wp2
 refine wp_loop_rounds 4 ?_;rw[rounds_succ]
 go_wp2_with (go_at_call 72;refine(a1 _ _ _).mono ?_;rintro e w' ⟨rfl,rfl⟩)
 go_ret
 exact⟨rfl,rfl⟩
theorem cmp3_2(B1 B2:Nat)(x y:KeyV)(W:World)(ha:compareInt x.a y.a=0)(hc:compareInt x.b y.b≠0)(h0:W.cell? ⟨B1,0,none⟩=some (.int .i64 x.a))(h1:W.cell? ⟨B1,1,none⟩=some (.int .i64 x.b))(h2:W.cell? ⟨B1,2,none⟩=some (.int .i64 x.c))
  (g0:W.cell? ⟨B2,0,none⟩=some (.int .i64 y.a)) (g1:W.cell? ⟨B2,1,none⟩=some (.int .i64 y.b)) (g2:W.cell? ⟨B2,2,none⟩=some (.int .i64 y.c)):
  Calls Tryz.prog 54 #[.slice (some ⟨B1,0,none⟩) 3 3,.slice (some ⟨B2,0,none⟩) 3 3] W fun e w'=>e= .returned (.int .i64 (compareInt x.b y.b))/\w'=W:=by
 have a1:=fun p q W'=>AnyG.cmp_Compare_int jko p q W';change ∀p q W',Calls Tryz.prog 72 _ _ _ at a1;obtain⟨a,b,c⟩:=x;obtain⟨a',b',c'⟩:=y;dsimp only at*
 go_enter Tryz.func54,Tryz.ntmps54
 go_wp2
 refine wp_loop_rounds 4 ?_;rw[rounds_succ]
 go_wp2_with (go_at_call 72;refine(a1 _ _ _).mono ?_;rintro e w' ⟨rfl,rfl⟩)
 rw[rounds_succ]
 go_wp2_with (go_at_call 72;refine(a1 _ _ _).mono ?_;rintro e w' ⟨rfl,rfl⟩)
 go_ret
 exact⟨rfl,rfl⟩
theorem cmp3_3(B1 B2:Nat)(x y:KeyV)(W:World)(ha:compareInt x.a y.a=0)(hb:compareInt x.b y.b=0)(hc:compareInt x.c y.c≠0)(h0:W.cell? ⟨B1,0,none⟩=some (.int .i64 x.a))(h1:W.cell? ⟨B1,1,none⟩=some (.int .i64 x.b))(h2:W.cell? ⟨B1,2,none⟩=some (.int .i64 x.c))
  (g0:W.cell? ⟨B2,0,none⟩=some (.int .i64 y.a)) (g1:W.cell? ⟨B2,1,none⟩=some (.int .i64 y.b)) (g2:W.cell? ⟨B2,2,none⟩=some (.int .i64 y.c)):
  Calls Tryz.prog 54 #[.slice (some ⟨B1,0,none⟩) 3 3,.slice (some ⟨B2,0,none⟩) 3 3] W fun e w'=>e= .returned (.int .i64 (compareInt x.c y.c))/\w'=W:=by
 have a1:=fun p q W'=>AnyG.cmp_Compare_int jko p q W';change ∀p q W',Calls Tryz.prog 72 _ _ _ at a1;obtain⟨a,b,c⟩:=x;obtain⟨a',b',c'⟩:=y;dsimp only at*
 go_enter Tryz.func54,Tryz.ntmps54
 go_wp2
 refine wp_loop_rounds 4 ?_;rw[rounds_succ]
 go_wp2_with (go_at_call 72;refine(a1 _ _ _).mono ?_;rintro e w' ⟨rfl,rfl⟩)
 rw[rounds_succ]
 go_wp2_with (go_at_call 72;refine(a1 _ _ _).mono ?_;rintro e w' ⟨rfl,rfl⟩)
 rw[rounds_succ]
 go_wp2_with (go_at_call 72;refine(a1 _ _ _).mono ?_;rintro e w' ⟨rfl,rfl⟩)
 go_ret
 exact⟨rfl,rfl⟩
theorem cmp3_4(B1 B2:Nat)(x y:KeyV)(W:World)(ha:compareInt x.a y.a=0)(hb:compareInt x.b y.b=0)(hc:compareInt x.c y.c=0)(h0:W.cell? ⟨B1,0,none⟩=some (.int .i64 x.a))(h1:W.cell? ⟨B1,1,none⟩=some (.int .i64 x.b))(h2:W.cell? ⟨B1,2,none⟩=some (.int .i64 x.c))
  (g0:W.cell? ⟨B2,0,none⟩=some (.int .i64 y.a)) (g1:W.cell? ⟨B2,1,none⟩=some (.int .i64 y.b)) (g2:W.cell? ⟨B2,2,none⟩=some (.int .i64 y.c)):
  Calls Tryz.prog 54 #[.slice (some ⟨B1,0,none⟩) 3 3,.slice (some ⟨B2,0,none⟩) 3 3] W fun e w'=>e= .returned (.int .i64 (0))/\w'=W:=by
 have a1:=fun p q W'=>AnyG.cmp_Compare_int jko p q W';change ∀p q W',Calls Tryz.prog 72 _ _ _ at a1;obtain⟨a,b,c⟩:=x;obtain⟨a',b',c'⟩:=y;dsimp only at*
 go_enter Tryz.func54,Tryz.ntmps54
 go_wp2
 refine wp_loop_rounds 4 ?_;rw[rounds_succ]
 go_wp2_with (go_at_call 72;refine(a1 _ _ _).mono ?_;rintro e w' ⟨rfl,rfl⟩)
 rw[rounds_succ]
 go_wp2_with (go_at_call 72;refine(a1 _ _ _).mono ?_;rintro e w' ⟨rfl,rfl⟩)
 rw[rounds_succ]
 go_wp2_with (go_at_call 72;refine(a1 _ _ _).mono ?_;rintro e w' ⟨rfl,rfl⟩)
 rw[rounds_succ]
 go_wp2_with (go_at_call 72;refine(a1 _ _ _).mono ?_;rintro e w' ⟨rfl,rfl⟩)
 go_ret
 exact⟨rfl,rfl⟩
theorem cmp3(B1 B2:Nat)(x y:KeyV)(W:World)(h0:W.cell? ⟨B1,0,none⟩=some (.int .i64 x.a))(h1:W.cell? ⟨B1,1,none⟩=some (.int .i64 x.b))(h2:W.cell? ⟨B1,2,none⟩=some (.int .i64 x.c))
  (g0:W.cell? ⟨B2,0,none⟩=some (.int .i64 y.a)) (g1:W.cell? ⟨B2,1,none⟩=some (.int .i64 y.b)) (g2:W.cell? ⟨B2,2,none⟩=some (.int .i64 y.c)):
  Calls Tryz.prog 54 #[.slice (some ⟨B1,0,none⟩) 3 3,.slice (some ⟨B2,0,none⟩) 3 3] W fun e w'=>e= .returned (.int .i64 (KeyV.cmp x y))/\w'=W:=by
 unfold KeyV.cmp KeyV.l;by_cases e1:x.a=y.a
 ·rw[e1,cl_eq];have c1:compareInt x.a y.a=0:=by rw[e1];exact ci_eq
  by_cases e2:x.b=y.b
  ·rw[e2,cl_eq];have c2:compareInt x.b y.b=0:=by rw[e2];exact ci_eq
   by_cases e3:x.c=y.c
   ·rw[e3,cl_eq];exact cmp3_4 B1 B2 x y W c1 c2 (by rw[e3];exact ci_eq) h0 h1 h2 g0 g1 g2
   ·rw[cl_ne e3];exact cmp3_3 B1 B2 x y W c1 c2 (ci_ne e3) h0 h1 h2 g0 g1 g2
  ·rw[cl_ne e2];exact cmp3_2 B1 B2 x y W c1 (ci_ne e2) h0 h1 h2 g0 g1 g2
 ·rw[cl_ne e1];exact cmp3_1 B1 B2 x y W (ci_ne e1) h0 h1 h2 g0 g1 g2
theorem KeyV.lt(x y:KeyV):ltOf KeyV.cmp x y=decide (LQ.cmpL x.l y.l<0):=rfl
theorem KeyV.swo:SWO (ltOf KeyV.cmp) where
 irrefl x:=by rw[KeyV.lt,LQ.cmpL_refl];rfl
 trans x y z h1 h2:=by rw[KeyV.lt]at*;exact zp (LQ.cmpL_trans (zI h1) (zI h2))
 ntrans x y z h1 h2:=by
  rw[KeyV.lt]at*;have h1:=zJ h1;have h2:=zJ h2;refine ze fun h=> ?_;have hf:=LQ.cmpL_flip x.l y.l;rcases LQ.cmpL_cases x.l y.l with e | e | e
  ·omega
  ·rw[LQ.cmpL_eq e]at h;exact h2 h
  ·exact h2 (LQ.cmpL_trans (by omega) h)
theorem two_cells(W:World)(a b c a' b' c':Value)(T:TypeId)(n:Nat):
  (((W.alloc (Obj.cells #[a,b,c] T)).alloc (Obj.cells #[a',b',c'] T)).drewN n).cell? ⟨W.heap.size,0,none⟩=some a/\(((W.alloc (Obj.cells #[a,b,c] T)).alloc (Obj.cells #[a',b',c'] T)).drewN n).cell? ⟨W.heap.size,1,none⟩=some b/\(((W.alloc (Obj.cells #[a,b,c] T)).alloc (Obj.cells #[a',b',c'] T)).drewN n).cell? ⟨W.heap.size,2,none⟩=some c/\
  (((W.alloc (Obj.cells #[a,b,c] T)).alloc (Obj.cells #[a',b',c'] T)).drewN n).cell? ⟨W.heap.size+1,0,none⟩=some a'/\(((W.alloc (Obj.cells #[a,b,c] T)).alloc (Obj.cells #[a',b',c'] T)).drewN n).cell? ⟨W.heap.size+1,1,none⟩=some b'/\(((W.alloc (Obj.cells #[a,b,c] T)).alloc (Obj.cells #[a',b',c'] T)).drewN n).cell? ⟨W.heap.size+1,2,none⟩=some c':=by
 have h1:((W.alloc (Obj.cells #[a,b,c] T)).alloc (Obj.cells #[a',b',c'] T)).heap[W.heap.size]? =some (Obj.cells #[a,b,c] T):=by
  rw[heap_alloc_old _ _ (by rw[World.size_alloc];omega),heap_alloc_new]
 have h2:((W.alloc (Obj.cells #[a,b,c] T)).alloc (Obj.cells #[a',b',c'] T)).heap[W.heap.size+1]? =some (Obj.cells #[a',b',c'] T):=by
  have:=heap_alloc_new (W.alloc (Obj.cells #[a,b,c] T)) (Obj.cells #[a',b',c'] T);rw[World.size_alloc]at this;exact this
 simp only[World.cell?_drewN];unfold World.cell?;simp only[h1,h2];refine⟨rfl,rfl,rfl,rfl,rfl,rfl⟩
theorem sort_closureQ(x y:KeyV)(W:World):Calls Tryz.prog 82 #[.agg x.enc.toArray,.agg y.enc.toArray] W fun e w'=>e= .returned (.int .i64 (KeyV.cmp x y))/\∃q a7,w'=grow (W.drewN q) a7:=by
 have a6:=cmp3;unfold KeyV.enc
 go_enter Tryz.func82,Tryz.ntmps82
 go_wp2
 have a1:=two_cells W (.int .i64 x.a) (.int .i64 x.b) (.int .i64 x.c) (.int .i64 y.a) (.int .i64 y.b) (.int .i64 y.c) 80
 go_region_with (go_at_call 54;refine(a6 _ _ x y _ (by first | exact(a1 _).1 | exact(a1 0).1) (a1 _).2.1 (a1 _).2.2.1 (a1 _).2.2.2.1 (a1 _).2.2.2.2.1 (a1 _).2.2.2.2.2).mono ?_;rintro e w' ⟨rfl,rfl⟩)
 all_goals
  go_wp2
  go_ret
  exact⟨rfl,_,_,by rw[alloc_eq_grow,alloc_eq_grow,grow_grow];rfl⟩
theorem sort_callsQ(blk off cap:Nat)(d:Array KeyV)(w:World)(hH:HoldsK KeyV.enc 3 w blk off d)(hblk:blk<w.heap.size)(a1:d.size<4611686018427387904):
  Calls Tryz.prog 107 #[.slice (some ⟨blk,off,none⟩) d.size cap,.func (.func 82) #[] #[]] w fun e w'=>e= .returned (.tuple #[])/\∃d' n os,PermIn 0 d.size d d'/\SortedIn (ltOf KeyV.cmp) 0 d.size d'/\w'=sortWorldK KeyV.enc 3 w blk off n d' os:=by
 have eg:∀args w,(callFunc 82 args).run Tryz.prog w= .ok (.enter 82 args) w:=enters_of Tryz.func82 (by kernel_rfl) rfl;exact AnyQ.slices_SortFunc js5 3 Tryz.isAgg80 Tryz.sizeOf80 KeyV.enc (fun x=>rfl) (fun x v hv=>by
  unfold KeyV.enc at hv;simp at hv;rcases hv with rfl | rfl | rfl<;>rfl) KeyV.cmp KeyV.swo 82 #[] blk off cap d w eg (fun _ _ _ _ x y=>sort_closureQ x y _) hH hblk a1
end
section
set_option maxRecDepth 1000000
open Go.RowKit Go.Shelf Go.Maps
attribute [local go_sem] Oper.semAt_some
theorem jn4:∀{L:List MapEntry} {e:MapEntry},(L.map (·.born)).Nodup->e∈L->L.Perm (e::L.filter fun x=> !(x.born==e.born))
 | [],e,_,h=>by cases h
 | a::L,e,hn,h=>by
  rw[zt,qJ]at hn;by_cases a1:a.born=e.born
  ·have ha:a=e:=by
    rcases zL.1 h with rfl | h
    ·rfl
    ·exact absurd (z8.2 ⟨e,h,a1.symm⟩) hn.1
   subst ha;have:(a::L).filter (fun x=> !(x.born==a.born))=L:=by
    rw[jS (by simp),List.filter_eq_self.2];intro x hx;have:x.born≠a.born:=fun e=>hn.1 (by rw[<-e];exact z8.2 ⟨x,hx,rfl⟩);simp[this]
   rw[this]
  ·have he:e∈L:=by
    rcases zL.1 h with rfl | h
    ·exact absurd rfl a1
    ·exact h
   rw[jR (by simp[a1])];exact((jn4 hn.2 he).cons a).trans (List.Perm.swap _ _ _)
theorem left_push(es:Array MapEntry)(seen:Array Nat)(n:Nat):(leftOf es (seen.push n)).toList=(leftOf es seen).toList.filter fun x=> !(x.born==n):=by
 unfold leftOf;rw[yU,yU,List.filter_filter];refine wy fun x _=> ?_;rw[contains_push];cases seen.contains x.born<;>cases (x.born==n)<;>rfl
theorem left_nodup{es:Array MapEntry}(seen:Array Nat)(h:(es.toList.map (·.born)).Nodup):((leftOf es seen).toList.map (·.born)).Nodup:=by
 unfold leftOf;rw[yU];exact vT (wd _ vJ) h
def Came(es:Array MapEntry)(seen:Array Nat)(pre:List KeyV):Prop:=(pre.map (fun x=>Value.agg x.enc.toArray)++(leftOf es seen).toList.map (·.key)).Perm (es.toList.map (·.key))
theorem Came.start(es:Array MapEntry):Came es #[] []:=by
 unfold Came leftOf;rw[yU,zF,List.nil_append,List.filter_eq_self.2 (fun x _=>by simp)]
theorem Came.step{es:Array MapEntry}{seen:Array Nat}{pre:List KeyV}{e:MapEntry}{x:KeyV}(h:Came es seen pre)(hn:(es.toList.map (·.born)).Nodup)(he:e∈(leftOf es seen).toList)(hx:e.key= .agg x.enc.toArray):Came es (seen.push e.born) (pre++[x]):=by
 unfold Came at*;rw[left_push,qv,zt,zF,<-hx];refine List.Perm.trans ?_ h;rw[qe];refine List.Perm.append_left _ ?_;exact((jn4 (left_nodup seen hn) he).map (·.key)).symm
theorem Came.done{es:Array MapEntry}{seen:Array Nat}{pre:List KeyV}(h:Came es seen pre)(h0:(leftOf es seen).size=0):(pre.map (fun x=>Value.agg x.enc.toArray)).Perm (es.toList.map (·.key)):=by
 unfold Came at h;have:(leftOf es seen).toList=[]:=by rw[<-qY,Array.length_toList];exact h0
 rw[this,zF,qr]at h;exact h
theorem Came.len{es:Array MapEntry}{seen:Array Nat}{pre:List KeyV}(h:Came es seen pre){e:MapEntry}(he:e∈(leftOf es seen).toList):pre.length<es.size:=by
 have:=h.length_eq;simp only[zB,za,Array.length_toList]at this;have h2:0<(leftOf es seen).toList.length:=List.length_pos_of_mem he;rw[Array.length_toList]at h2;omega
def leftN(b r:Nat)(w:World):Nat:=match w.heap[b]?,w.heap[r]? with
 | some (.map es _),some (.mapIter _ _ seen _)=>(leftOf es seen).size
 | _,_=>0
theorem jix{b r:Nat}{w:World}{es:Array MapEntry}{c s:Nat}{m:Option Nat}{seen:Array Nat}{c':Nat}(h1:w.heap[b]? =some (.map es c))(h2:w.heap[r]? =some (.mapIter m s seen c')):leftN b r w=(leftOf es seen).size:=by
 unfold leftN;rw[h1,h2]
theorem keys1_in(F:Fence)(n:Nat)(hf:F.fn 108)(c8:F.round=none)(hn:1<=n)(l Bm om b clock:Nat)(es:Array MapEntry)(c5:(es.toList.map (·.born)).Nodup)(e7:∀e∈es.toList,e.born<clock)(c0:∀e∈es.toList,∃x:KeyV,e.key= .agg x.enc.toArray)
  (J Jx:List KeyV->World->Prop)
  (hY:∀pre x W,J pre W->pre.length<es.size->YieldAt F (n-1) Tryz.prog l #[.agg x.enc.toArray] W fun e W'=>(e= .returned (.bool true)/\J (pre++[x]) W'/\KeepsWalks W W')\/(e= .returned (.bool false)/\Jx (pre++[x]) W'))
  (W:World) (hJ:AbidesFrom W.heap.size J) (hm:W.cell? ⟨Bm,om,none⟩=some (.map (some b))) (hb:W.heap[b]? =some (.map es clock)) (h0:J [] W):
  CallsIn F n Tryz.prog 108 #[.func (.yield l) #[] #[],.pointer (some ⟨Bm,om,none⟩)] W fun e W'=>(∃v,e= .returned v)/\
   ((∃xs,(xs.map (fun x:KeyV=>Value.agg x.enc.toArray)).Perm (es.toList.map (·.key))/\J xs W')\/(∃pre,True/\Jx pre W')):=by
 have hu:Tryz.prog.underlying 76=some (.map 80 3):=Tryz.underlying76;have b1:=run_range_map (P:=Tryz.prog) W 76 80 3 b es clock hu hb;refine callsIn_of_wp Tryz.func108 rfl hf ?_ c8;simp only[Tryz.ntmps108,qP,List.length_cons,List.length_nil,Nat.reduceAdd,Nat.reduceSub,vH,Array.replicate_zero,wz,vK,List.nil_append,List.cons_append]
 gi_wp2
 obtain⟨w0,hw0⟩:∃w0,w0=W.alloc (.mapIter (some b) clock #[] clock):=⟨_,rfl⟩;have c4:W.grownBy w0 none:=by rw[hw0];exact World.grownBy_alloc W _ none
 have e1:w0.heap[W.heap.size]? =some (.mapIter (some b) clock #[] clock):=by rw[hw0];exact World.alloc_heap_new W _
 have e9:w0.heap[b]? =some (.map es clock):=(c4.block b (zm.1 hb).1 (by simp)).trans hb;have h4:J [] w0:=hJ [] W w0 none h0 c4 (fun r e=>by cases e);rw[<-hw0];clear b1
 gi_loopw [3] (fun _ wr=>∃(seen:Array Nat) (last:Nat) (pre:List KeyV),wr.heap[W.heap.size]? =some (.mapIter (some b) clock seen last)/\clock<=last/\wr.heap[b]? =some (.map es clock)/\Came es seen pre/\J pre wr)
  (fun _ wr=>leftN b W.heap.size wr)
 case atStart=>exact⟨#[],clock,[],e1,zu _,e9,Came.start es,h4⟩
 case round=>
  obtain⟨seen,last,pre,hr,b5,a6,hC,b7⟩:=hrel;rcases run_next_at (P:=Tryz.prog) wr 0 W.heap.size b clock last seen es clock hr a6 e7 b5 with ⟨e6,a1⟩ | ⟨e,he,w1,b0,a1⟩
  ·clear hY
   gi_wp2
   go_end0
   exact⟨⟨_,rfl⟩,.inl ⟨pre,hC.done e6,b7⟩⟩
  ·have b3:e∈es.toList:=(mem_left he).1;obtain⟨x,hx⟩:=c0 e b3;have e2:=hC.len he;have h5:=hC.step c5 he hx;have a7:w1.heap=wr.heap:=by rcases b0 with rfl | rfl<;>rfl
   obtain⟨w2,hw2⟩:∃w2,w2=ChangeMaps.setBlock w1 W.heap.size (Obj.mapIter (some b) clock (seen.push e.born) clock):=⟨_,rfl⟩;have b8:W.heap.size<wr.heap.size:=(zm.1 hr).1;have c9:W.heap.size≠b:=fun e=>by rw[e,a6]at hr;cases hr
   have b4:w2.heap[W.heap.size]? =some (.mapIter (some b) clock (seen.push e.born) clock):=by
    rw[hw2];show(w1.heap.setIfInBounds _ _)[_]? =_;rw[a7];simp[b8]
   have c3:wr.grownBy w2 (some W.heap.size):=by
    rw[hw2];refine⟨by rcases b0 with rfl | rfl<;>rfl,by rcases b0 with rfl | rfl<;>rfl,by rcases b0 with rfl | rfl<;>rfl,?_,fun k hk e3=> ?_⟩
    ·show _<=(w1.heap.setIfInBounds _ _).size;rw[a7];simp
    ·show(w1.heap.setIfInBounds _ _)[k]? =_;rw[a7,ql (fun e=>e3 (by rw[e]))]
   have a8:w2.heap[b]? =some (.map es clock):=(c3.block b (zm.1 a6).1 (fun e=>c9 (by cases e;rfl))).trans a6;have b2:=run_entry_at (P:=Tryz.prog) w2 W.heap.size b clock seen es clock e b4 a8 b3 c5;have h3:J pre w2:=hJ pre wr w2 (some W.heap.size) b7 c3 (fun r e=>by cases e;exact⟨zu _,_,hr,rfl⟩);rw[<-hw2,hx]at a1;rw[hx]at b2;have e5:leftN b W.heap.size wr=(leftOf es seen).size:=jix a6 hr;have c7:=left_shrinks es seen e he;clear hw2 b0 b7 hr a6 hC hx;obtain⟨w3,hw3⟩:∃w3,w3=w2.alloc (Obj.cells #[.int .i64 x.a,.int .i64 x.b,.int .i64 x.c] 80):=⟨_,rfl⟩;have b6:w2.grownBy w3 none:=by rw[hw3];exact World.grownBy_alloc w2 _ none
   have h2:J pre w3:=hJ pre w2 w3 none h3 b6 (fun r e=>by cases e);have e0:w3.heap[W.heap.size]? =some (.mapIter (some b) clock (seen.push e.born) clock):=(b6.block _ (zm.1 b4).1 (by simp)).trans b4;have e8:w3.heap[b]? =some (.map es clock):=(b6.block b (zm.1 a8).1 (by simp)).trans a8;obtain⟨fn,tmps,assign,body,hy,hR⟩:=hY pre x w3 h2 e2;unfold KeyV.enc at a1 b2 hy;rw[hw3]at hy
   gi_wp2
   rw[<-hw3];refine hR.mono ?_;rintro e' W4 (⟨rfl,hJ4,hk4⟩ | ⟨rfl,hJx4⟩)
   ·have b9:=hk4.same _ _ e0 rfl;have c6:=hk4.same _ _ e8 rfl;have e4:leftN b W.heap.size W4=(leftOf es (seen.push e.born)).size:=jix c6 b9;clear hy a1 b2
    gi_wp2
    exact⟨⟨_,_,_,_,_,_,_,_,_,⟨seen.push e.born,clock,pre++[x],b9,zu _,c6,h5,hJ4⟩,rfl⟩,by rw[e4,e5];exact c7⟩
   ·clear hy a1 b2
    gi_wp2
    refine bodyPost_ret (results_none rfl _ _ _) rfl ?_;exact⟨⟨_,rfl⟩,.inr ⟨_,trivial,hJx4⟩⟩
theorem keys_stops(F:Fence)(n:Nat)(hf:F.fn 108)(a6:F.round=none)(hn:1<=n)(Bm om b clock:Nat)(es:Array MapEntry)(a7:(es.toList.map (·.born)).Nodup)(a8:∀e∈es.toList,e.born<clock)(a1:∀e∈es.toList,∃x:KeyV,e.key= .agg x.enc.toArray)
  (w:World) (b0:Bm<w.heap.size) (hm:w.cell? ⟨Bm,om,none⟩=some (.map (some b))) (hb:w.heap[b]? =some (.map es clock)):
  SeqStopsK F n Tryz.prog 108 #[.pointer (some ⟨Bm,om,none⟩)] (fun x:KeyV=> #[.agg x.enc.toArray]) KeepsWalks (fun xs=>(xs.map (fun x:KeyV=>Value.agg x.enc.toArray)).Perm (es.toList.map (·.key))) (fun _=>True) es.size w:=fun l J Jx W hW hJ _ hY h0=>
 keys1_in F n hf a6 hn l Bm om b clock es a7 a8 a1 J Jx hY W hJ ((hW.cell (p:=⟨Bm,om,none⟩) b0).trans hm) ((hW.block b (zm.1 hb).1).trans hb) h0
end
section
set_option maxRecDepth 1000000
open Go.RowKit Go.Shelf Go.Maps
attribute [local go_sem] Oper.semAt_some
theorem infoK:(Tryz.prog.info? 80).map (fun i=>(i.zero,i.size,i.bytes))=some (some (.agg #[.int .i64 0,.int .i64 0,.int .i64 0]),3,24):=by kernel_rfl
theorem keepsW_of{W W':World}(h:KeepsOthers W W'):KeepsWalks W W':=⟨h.size,fun k o hk hw=>h.same k o hk (by cases o<;>first | rfl | cases hw)⟩
theorem ji7(w:World)(a b c:Value)(t:TypeId):∀j u,[a,b,c][j]? =some u->(w.alloc (.cells #[a,b,c] t)).cell? ((⟨w.heap.size,0,none⟩:Addr).add j)=some u:=by
 intro j u hj;have h:=heap_alloc_new w (.cells #[a,b,c] t);generalize w.alloc (.cells #[a,b,c] t)=w' at h⊢
 match j,hj with
 | 0,hj=>cases hj;simp[World.cell?,Addr.add,h]
 | 1,hj=>cases hj;simp[World.cell?,Addr.add,h]
 | 2,hj=>cases hj;simp[World.cell?,Addr.add,h]
 | j+3,hj=>simp at hj
def encs(xs:List KeyV):List Value:=xs.flatMap KeyV.enc
theorem encs_snoc(xs:List KeyV)(x:KeyV):encs (xs++[x])=encs xs++x.enc:=by unfold encs;rw[List.flatMap_append];simp
theorem keys1_nil(F:Fence)(n:Nat)(hf:F.fn 108)(a6:F.round=none)(hn:1<=n)(l Bm om:Nat)
  (J Jx:List KeyV->World->Prop) (W:World) (hJ:AbidesFrom W.heap.size J) (hm:W.cell? ⟨Bm,om,none⟩=some (.map none)) (h0:J [] W):
  CallsIn F n Tryz.prog 108 #[.func (.yield l) #[] #[],.pointer (some ⟨Bm,om,none⟩)] W fun e W'=>(∃v,e= .returned v)/\
   ((∃xs,(xs.map (fun x:KeyV=>Value.agg x.enc.toArray)).Perm []/\J xs W')\/(∃pre,True/\Jx pre W')):=by
 have hu:Tryz.prog.underlying 76=some (.map 80 3):=Tryz.underlying76;have a1:=Go.run_range_nilMap (P:=Tryz.prog) W 76 80 3 hu;have a7:∀ty,(Instr.next (.pointer (some ⟨W.heap.size,0,none⟩)) false ty).run Tryz.prog (W.alloc (.mapIter none 0 #[] 0))=_:=fun ty=>Go.run_next_nilMap _ ty 0 0 #[];refine callsIn_of_wp Tryz.func108 rfl hf ?_ a6;simp only[Tryz.ntmps108,qP,List.length_cons,List.length_nil,Nat.reduceAdd,Nat.reduceSub,vH,Array.replicate_zero,wz,vK,List.nil_append,List.cons_append]
 gi_wp2
 obtain⟨w0,hw0⟩:∃w0,w0=W.alloc (.mapIter none 0 #[] 0):=⟨_,rfl⟩;have a8:J [] w0:=hJ [] W w0 none h0 (by rw[hw0];exact World.grownBy_alloc W _ none) (fun r e=>by cases e);rw[<-hw0]at a7⊢;clear a1 hw0
 gi_loopw [3] (fun _ wr=>wr=w0) (fun _ _=>0)
 case atStart=>rfl
 case round=>
  subst hrel
  gi_wp2
  go_end0
  exact⟨⟨_,rfl⟩,.inl ⟨[],yQ _,a8⟩⟩
structure KeySeq(w:World)(Bm om:Nat)(ks:List Value):Prop where
 stops:SeqStopsK Fence.wide 9 Tryz.prog 108 #[.pointer (some ⟨Bm,om,none⟩)] (fun x:KeyV=> #[.agg x.enc.toArray]) KeepsWalks (fun xs=>(xs.map (fun x:KeyV=>Value.agg x.enc.toArray)).Perm ks) (fun _=>True) ks.length w
 len:ks.length<=1000000
theorem keySeq_nil{w:World}{Bm om:Nat}(a1:Bm<w.heap.size)(hm:w.cell? ⟨Bm,om,none⟩=some (.map none)):KeySeq w Bm om []:=
 ⟨fun l J Jx W hW hJ _ hY h0=>keys1_nil Fence.wide 9 trivial rfl (by decide) l Bm om J Jx W hJ ((hW.cell (p:=⟨Bm,om,none⟩) a1).trans hm) h0,by decide⟩
theorem keySeq_map{w:World}{Bm om b clock:Nat}{es:Array MapEntry}(a6:(es.toList.map (·.born)).Nodup)(a7:∀e∈es.toList,e.born<clock)(a1:∀e∈es.toList,∃x:KeyV,e.key= .agg x.enc.toArray)(hN:es.size<=1000000)
  (a8:Bm<w.heap.size) (hm:w.cell? ⟨Bm,om,none⟩=some (.map (some b))) (hb:w.heap[b]? =some (.map es clock)):KeySeq w Bm om (es.toList.map (·.key)):=by
 have hl:(es.toList.map (·.key)).length=es.size:=by simp
 refine⟨?_,by rw[hl];exact hN⟩;rw[hl];exact keys_stops Fence.wide 9 trivial rfl (by decide) Bm om b clock es a6 a7 a1 w a8 hm hb
theorem appendSeq_in(Bm om:Nat)(ks:List Value)(w:World)(hq:KeySeq w Bm om ks):
  CallsIn Fence.wide 10 Tryz.prog 128 #[.slice none 0 0,.func (.func 108) #[] #[.pointer (some ⟨Bm,om,none⟩)]] w fun e w'=>∃(v:Value) (xs:List KeyV),e= .returned v/\
   (xs.map (fun x:KeyV=>Value.agg x.enc.toArray)).Perm ks/\w'.ownsRow w.heap.size 80 3 v xs.length (encs xs)/\Below w.heap.size w w':=by
 obtain⟨a7,hN⟩:=hq;have c6:maxLen=9223372036854775807:=rfl;obtain⟨i0,hi,b4,b3,b2⟩:=info_parts infoK;refine callsIn_of_wp_marks (c:=_) Tryz.func128 rfl trivial ?_ rfl;simp only[Tryz.ntmps128,qP,List.length_cons,List.length_nil,Nat.reduceAdd,Nat.reduceSub,vH,Array.replicate_zero,wz,vK,List.nil_append,List.cons_append]
 gi_wp2
 obtain⟨W0,hW0⟩:∃W0,w.alloc (.cells #[.slice none 0 0] 141)=W0:=⟨_,rfl⟩;rw[hW0];have c5:W0.heap.size=w.heap.size+1:=by rw[<-hW0];simp
 have b6:Boxed W0 w.heap.size 141 (.slice none 0 0):=by rw[<-hW0];exact Boxed.new w _ _
 have b0:Below w.heap.size w W0:=by rw[<-hW0];exact(Below.refl _ w).alloc (zu _) _
 clear hW0;refine wpIn_rangeFunc_ownH (F:=Fence.wide) (n:=10) rfl (by decide) (gf:=108) (lb:= #[.pointer (some ⟨Bm,om,none⟩)]) rfl trivial (enters_of Tryz.func108 (by kernel_rfl) rfl)
  a7 (fun h k=>walksK_t h k) (fun W l o o' _ h1 _ h3=>KeepsWalks.putObj _ h1 h3) b0 (fun _=>rfl)
  (fun(pre:List KeyV) W=>(∃v,Boxed W w.heap.size 141 v/\W.ownsRow w.heap.size 80 3 v pre.length (encs pre)/\True)/\Below w.heap.size w W)
  (fun _ _ _=>False)
  (OwnFrom.and (Own.from (holdsRow_own w.heap.size w.heap.size 141 80 3 (fun pre:List KeyV=>pre.length) encs (fun _ _=>True)) _) (ownFrom_below (zu _) (by omega)))
  (fun _ _ _ _ _ hs _ _=>hs)
  ⟨⟨_,b6,World.ownsRow_nil _ _ _ _,trivial⟩,b0⟩
  (fun x a' W=>∃vb,W.heap[vb]? =some (.cells #[.int .i64 x.a,.int .i64 x.b,.int .i64 x.c] 80 (0,0))/\
   a'={tmps:= #[.slice none 0 0,.func (.func 108) #[] #[.pointer (some ⟨Bm,om,none⟩)],.pointer (some ⟨w.heap.size,0,none⟩),undef,.slice none 0 0,.pointer (some ⟨vb,0,none⟩),.func (.func 108) #[] #[.pointer (some ⟨Bm,om,none⟩)],.agg x.enc.toArray,undef,undef,undef,undef,undef],defers:=[]})
  (fun x a' _ W W' row hs hg hr=>by
   obtain⟨vb,h1,h2⟩:=hs;refine⟨vb,(hg.block vb (zm.1 h1).1 fun e=> ?_).trans h1,h2⟩;obtain⟨_,o,ho,hc⟩:=hr vb e.symm;rw[h1]at ho;cases ho;cases hc) ?assign ?body ?done ?stop
 case assign=>
  rintro l pre x W K ⟨⟨v,hv,hrow,_⟩,hB⟩ hK;have b1:=hK {tmps:= #[.slice none 0 0,.func (.func 108) #[] #[.pointer (some ⟨Bm,om,none⟩)],.pointer (some ⟨w.heap.size,0,none⟩),undef,.slice none 0 0,.pointer (some ⟨W.heap.size,0,none⟩),.func (.func 108) #[] #[.pointer (some ⟨Bm,om,none⟩)],.agg x.enc.toArray,undef,undef,undef,undef,undef],defers:=[]}
   (W.alloc (.cells #[.int .i64 x.a,.int .i64 x.b,.int .i64 x.c] 80)) ((KeepsOthers.alloc W _).from _) (KeepsWalks.alloc W _) ⟨⟨v,hv.alloc _,hrow.alloc _,trivial⟩,hB.alloc hB.size _⟩ ⟨_,heap_alloc_new W _,rfl⟩
  unfold KeyV.enc at b1⊢
  gi_wp2
  exact b1
 case body=>
  rintro l pre x a' W hlw _ ⟨⟨v,hv,hrow,_⟩,hB⟩ ⟨vb,hvb,rfl⟩ hlt;have hc:=hv.cell;have b7:=hB.size;have e0:W.cell? ⟨vb,0,none⟩=some (.int .i64 x.a):=by simp[World.cell?,hvb]
  have c9:W.cell? ⟨vb,1,none⟩=some (.int .i64 x.b):=by simp[World.cell?,hvb]
  have c8:W.cell? ⟨vb,2,none⟩=some (.int .i64 x.c):=by simp[World.cell?,hvb]
  have b8:=hrow;unfold KeyV.enc
  gi_wp2_with (gi_at_builtin;refine wpListIn_append_own _ rfl _ _ 141 rfl w.heap.size 80 i0 (.agg #[.int .i64 0,.int .i64 0,.int .i64 0]) 3 24 Tryz.underlying141 hi b4 b3 b2 rfl (by decide) _ _ _ rfl (hrow.alloc _) ⟨W.heap.size,0,none⟩ 1 1 [.int .i64 x.a,.int .i64 x.b,.int .i64 x.c] rfl rfl (ji7 _ _ _ _ _) (by simp[Value.oneCell']) (by omega) (by omega) (by simp;omega) ?_;intro v' w1 a1 a6 _;obtain⟨g',c4,rfl⟩:=ownsRow_succ a1;obtain⟨hv1,b5,b9,a8,c0⟩:=hv.appended (by decide) hrow b7 (zu _) a1 a6;have c3:=hv1.cell;have c7:=hv1.frozen)
  refine⟨a8.from _,keepsW_of a8,⟨_,b5,?_,trivial⟩,hB.trans c0⟩;rw[encs_snoc,zB];exact b9
 case done=>
  rintro D xs W hD hS ⟨⟨v,hv,hrow,_⟩,hB⟩ hK;have hc:=hv.cell
  gi_wp2
  refine⟨by simp,.inl ⟨_,_,rfl,run_takeDeferred hK,?_⟩⟩;exact⟨_,results_tmp rfl _ _ _,v,xs,rfl,hS,ownsRow_putObj hrow _ hK rfl,hB.trans (belowK_b (w:=w) (zu _) W D _ _ (by omega) hK rfl rfl)⟩
 case stop=>
  rintro D c pre W _ _ h _;exact h.elim
