/- A part of the proof. No further condition. -/
import Derived.Test.YtgncgpfjldefpaaGreatKR22
import Derived.Test.YtgncgpfjldefpaaGreatKR12
set_option linter.all false
set_option maxRecDepth 10000000
set_option maxHeartbeats 16000000
namespace Go.Proofs.YtgncgpfjldefpaaGreat
section
open Go.Abs
attribute [local go_sem] ints ic Bat.c Evid.c Evid.iv Place.c Move.c
theorem rise_go(n:Int):∀(l:List Int) (last:Int),jjm n last l=true->(∀i∈l,last<i/\i<n)/\l.Pairwise (· < ·)
 | [],_,_=>⟨fun i hi=>(by cases hi),List.Pairwise.nil⟩
 | x::r,last,h=>by
  rw[jjm,zB,zB,zU,zU]at h;obtain⟨h1,h2,h3⟩:=h;obtain⟨g1,g2⟩:=rise_go n r x h3;refine⟨fun i hi=> ?_,.cons (fun i hi=>(g1 i hi).1) g2⟩;rcases zT.1 hi with rfl | hi
  ·exact⟨h1,h2⟩
  ·have:=g1 i hi;omega
theorem jpr{l:List Int}{n:Int}(h:riseF l n=true):(∀i∈l,0<=i/\i<n)/\l.Pairwise (· < ·)/\l≠[]:=by
 rw[riseF,zB,zU]at h;obtain⟨g1,g2⟩:=rise_go n l (-1) h.1;exact⟨fun i hi=>by have:=g1 i hi;omega,g2,fun e=>by rw[e]at h;simp at h⟩
def buyF(e:Evid)(i:Int):Bool:=match e.moves[i.toNat]? with
 | some m=>match e.places[m.to.toNat]? with
  | some p=>decide (p.kind=5)
  | none=>false
 | none=>false
def fitsF(e:Evid)(b:Bat):Bool:=decide (jbe e=0)&&(btw b.mat 0 (e.mats-1)&&(riseF b.mv e.moves.length&& !(b.mv.any fun i=> !buyF e i)))
theorem jml{e:Evid}{b:Bat}(h:fitsF e b=true):jbe e=0/\(0<=b.mat/\b.mat<e.mats)/\riseF b.mv e.moves.length=true/\∀i∈b.mv,buyF e i=true:=by
 simp only[fitsF,zB,zU,btw_iff,yx,yX,jn,Bool.not_eq_false']at h;exact⟨h.1,by omega,h.2.2.1,fun i hi=>by simpa using h.2.2.2 i hi⟩
theorem pb_fits1(e:Evid)(hc:jbe e=0){i:Int}(hi:0<=i/\i<(e.moves.length:Int)):Ctr G.P 85 [.int i,.ip e.c 0] (· = .bool (!buyF e i)):=by
 obtain⟨n,rfl⟩:=jj hi.1;have hn:n<e.moves.length:=by omega
 have hni:(n:Int)<(e.moves.length:Int):=hi.2;have hn0:(0:Int)<=n:=hi.1;obtain⟨m,hm⟩:∃m,e.moves[n]? =some m:=⟨_,ze hn⟩;obtain⟨_,t1,t2⟩:=ji0 hc m (zl hm);obtain⟨day,fr,to,sc,rd,al⟩:=m;dsimp only at t1 t2;obtain⟨k,rfl⟩:=jj t1;have hk:k<e.places.length:=by omega
 obtain⟨q,hq⟩:∃q,e.places[k]? =some q:=⟨_,ze hk⟩;have eb:buyF e n=decide (q.kind=5):=by unfold buyF;rw[Int.toNat_natCast,hm];dsimp only;rw[Int.toNat_natCast,hq]
 rw[eb];refine ja4 [.tmp 3] Tryz.func85 ?_;simp only[go_sem];refine jai 12 ?_;simp only[zq,hm,hn,hni,hn0,hk,t1,t2,hq,zh,go_sem]
theorem jna(e:Evid)(b:Bat)(hl:b.mv.length<=100000):Ctr G.P 52 [e.iv,.agg b.c] (· = .bool (fitsF e b)):=by
 have kck:=c21 e;have kI:=pb_in b.mat 0 (e.mats-1);have kR:=jow b.mv (e.moves.length:Int) hl;unfold fitsF;rcases h1:decide (jbe e=0)with _ | _
 ·generalize jbe e=ck at*;unfold Evid.iv at*;simp only[Evid.c,ints]at*;refine ja4 [.tmp 4] Tryz.func52 ?_;simp only[go_sem];refine ja1 kck ?_;simp only[h1,go_sem]
 have h0:=zJ h1;rw[h0]at kck;have h1e:=(jbt h0).2.1;have h6e:=(jgl (jbt h0).1);have w1:=ja9 (n:=e.mats-1) (by omega);rcases h2:btw b.mat 0 (e.mats-1)with _ | _
 ·rw[h2]at kI;unfold Evid.iv at*;simp only[Evid.c,ints]at*;refine ja4 [.tmp 4] Tryz.func52 ?_;simp only[go_sem];refine ja1 kck ?_;simp only[w1,go_sem];refine ja1 kI ?_;simp only[go_sem]
 rcases h3:riseF b.mv (e.moves.length:Int)with _ | _
 ·rw[h2]at kI;rw[h3]at kR;unfold Evid.iv at*;simp only[Evid.c,ints]at*;refine ja4 [.tmp 4] Tryz.func52 ?_;simp only[go_sem];refine ja1 kck ?_;simp only[w1,go_sem];refine ja1 kI ?_;simp only[zh,go_sem];refine ja1 kR ?_;simp only[go_sem]
 have kC:=jpw b.mv hl (fun i=> !buyF e i) 85 [.ip e.c 0] (by decide) (fun n hn=>pb_fits1 e h0 ((jpr h3).1 n hn));rw[h2]at kI;rw[h3]at kR;generalize (b.mv.any fun i=> !buyF e i)=z at*;unfold Evid.iv at*;simp only[Evid.c,ints]at*;refine ja4 [.tmp 4] Tryz.func52 ?_;simp only[go_sem];refine ja1 kck ?_;simp only[w1,go_sem];refine ja1 kI ?_;simp only[zh,go_sem];refine ja1 kR ?_;simp only[go_sem];refine ja1 kC ?_;simp only[go_sem]
def pk1(m i:Int):List IV:=[.int i,.int m]
def pkB(b:Bat):List (List IV):=b.mv.map (pk1 b.mat)
theorem pb_certain0(e:Evid)(b:Bat)(hl:b.mv.length<=100000)(h:fitsF e b=false):Ctr G.P 20 [e.iv,.agg b.c] (· = .tup [.int 0,.int 1]):=by
 have kF:=jna e b hl;rw[h]at kF;unfold Evid.iv at*;simp only[Evid.c,ints]at*;refine ja4 [.tmp 4,.tmp 5] Tryz.func20 ?_;simp only[go_sem];refine ja1 kF ?_;simp only[go_sem]
theorem pb_certain1(e:Evid)(b:Bat)(hl:b.mv.length<=100000)(h:fitsF e b=true)(f:Int)(hf:f≠0)(z1 z3:Int)(z2 z4:List (List IV))(kL:Ctr G.P 53 [e.iv,.sl (pkB b)] (· = .tup [.agg [.int z1,.sl z2,.int z3,.sl z4],.int f])):
  Ctr G.P 20 [e.iv,.agg b.c] (· = .tup [.int 0,.int f]):=by
 have kF:=jna e b hl;rw[h]at kF;have hdf:decide (f=0)=false:=za hf;simp only[pkB,ints,Evid.c,Evid.iv]at*;generalize e.mats=a1 at*;generalize e.houses=a2 at*;generalize e.scales=a3 at*;generalize e.places.map Place.c=C1 at*;generalize e.moves.map Move.c=C2 at*;generalize e.certs.map Cert.c=C3 at*;generalize e.recalls.map Recall.c=C4 at*;generalize e.purs.map Purity.c=C5 at*;refine ja4 [.tmp 4,.tmp 5] Tryz.func20 ?_;simp only[go_sem];refine ja1 kF ?_;simp only[zh,go_sem];refine jg5 [2,3,6,18,19,20] [3,2,30] [(6,30,105,2)] (fun n:Nat=>⟨[(2,.loc 2 8 0 0),(3,.loc 3 2 0 0),(6,.vec 30 105 2 ((b.mv.take n).map (pk1 b.mat))),(18,.im (.sl (b.mv.map ic))),(19,.im (.int b.mv.length)),(20,.im (.int n))],[(3,2,[b.c]),(2,8,[[.int a1,.int a2,.int a3,.sl C1,.sl C2,.sl C3,.sl C4,.sl C5]])],[(30,2,n)]⟩)
  (fun n=>n<=b.mv.length) (fun n=>b.mv.length-n) 0 ?_ ?_ (zG _) ?_
 ·simp only[go_sem];simp
 ·simp only[Int.natCast_zero,List.take_zero,zE,go_sem]
 intro n hn;by_cases hp:(n:Int)<b.mv.length
 ·have hd:decide ((n:Int)<b.mv.length)=true:=zk hp;obtain⟨x,hx⟩:=jbq hp;have h1:=ja9 (n:=(n:Int)+1) (by omega);have hin:n<b.mv.length:=by omega
  have hlt:(b.mv.take n).length=n:=by rw[qe];omega
  have htk:(b.mv.take (n+1)).map (pk1 b.mat)=(b.mv.take n).map (pk1 b.mat)++[[.int x,.int b.mat]]:=by rw[take_succ hx,qp];rfl
  have hle:(n+1)*16<=140737488355328:=by omega
  simp only[hd,zq,hx,hin,hlt,zh,hle,go_sem];refine And.intro (fun c hc=> ?_) (And.intro (fun c hc=> ?_) ?_)
  ·obtain⟨z,_,rfl⟩:=qd.1 hc;rfl
  ·rw[zC.1 hc];rfl
  refine jad (n+1) ?_ ?_ ?_
  ·simp only[h1,Int.natCast_add,htk,go_sem]
  ·show b.mv.length-(n+1)<b.mv.length-n;omega
  ·show n+1<=b.mv.length;omega
 have hd:decide ((n:Int)<b.mv.length)=false:=za hp;have hne:n=b.mv.length:=by omega
 subst hne;rw[qC];simp only[hd,go_sem];refine ja1 kL ?_;simp only[hdf,go_sem]
theorem jkr(e:Evid)(b:Bat)(hl:b.mv.length<=100000)(h:fitsF e b=true)(lo:Rat)(lp:(dig lo.num.natAbs).length<=50000000000)(lq:(dig lo.den).length<=50000000000)(kL:Ctr G.P 53 [e.iv,.sl (pkB b)] (· = .tup [frac lo,.int 0])):
  Ctr G.P 20 [e.iv,.agg b.c] (· = .tup [.int (intF (lo.num.fdiv lo.den)),.int 0]):=by
 have kF:=jna e b hl;rw[h]at kF;have k1:=t_pfloor lo lp lq;have hab:(lo.num.fdiv lo.den).natAbs<=lo.num.natAbs:=by
  rw[yo _ (by omega)];have h1:(0:Int)<lo.den:=by have:=lo.den_pos;omega
  rcases yn lo.num 0 with h2 | h2
  ·have h3:lo.num<=lo.num/(lo.den:Int):=by
    rw[Int.le_ediv_iff_mul_le h1];have:lo.num*(lo.den:Int)<=lo.num*1:=Int.mul_le_mul_of_nonpos_left (by omega) (by omega);omega
   have h4:lo.num/(lo.den:Int)<0:=jG h1 (by omega);omega
  ·have h3:lo.num/(lo.den:Int)<=lo.num:=Int.ediv_le_self _ h2;have h4:0<=lo.num/(lo.den:Int):=jA h2 (by omega);omega
 have k2:=t_pint (lo.num.fdiv lo.den) (jdb hab (by omega));generalize lo.num.fdiv lo.den=z at*;clear hab lp lq;simp only[pkB,ints,Evid.c,Evid.iv,frac,big]at*;generalize (dig lo.num.natAbs).map ic=y1 at*;generalize (dig (lo.den:Int).natAbs).map ic=y2 at*;generalize (dig z.natAbs).map ic=y3 at*;generalize lo.num.sign=s1 at*;generalize (lo.den:Int).sign=s2 at*;generalize z.sign=s3 at*;generalize e.mats=a1 at*;generalize e.houses=a2 at*;generalize e.scales=a3 at*;generalize e.places.map Place.c=C1 at*;generalize e.moves.map Move.c=C2 at*;generalize e.certs.map Cert.c=C3 at*;generalize e.recalls.map Recall.c=C4 at*;generalize e.purs.map Purity.c=C5 at*;refine ja4 [.tmp 4,.tmp 5] Tryz.func20 ?_;simp only[go_sem];refine ja1 kF ?_;simp only[zh,go_sem];refine jg5 [2,3,6,18,19,20] [3,2,30] [(6,30,105,2)] (fun n:Nat=>⟨[(2,.loc 2 8 0 0),(3,.loc 3 2 0 0),(6,.vec 30 105 2 ((b.mv.take n).map (pk1 b.mat))),(18,.im (.sl (b.mv.map ic))),(19,.im (.int b.mv.length)),(20,.im (.int n))],[(3,2,[b.c]),(2,8,[[.int a1,.int a2,.int a3,.sl C1,.sl C2,.sl C3,.sl C4,.sl C5]])],[(30,2,n)]⟩)
  (fun n=>n<=b.mv.length) (fun n=>b.mv.length-n) 0 ?_ ?_ (zG _) ?_
 ·simp only[go_sem];simp
 ·simp only[Int.natCast_zero,List.take_zero,zE,go_sem]
 intro n hn;by_cases hp:(n:Int)<b.mv.length
 ·have hd:decide ((n:Int)<b.mv.length)=true:=zk hp;obtain⟨x,hx⟩:=jbq hp;have h1:=ja9 (n:=(n:Int)+1) (by omega);have hin:n<b.mv.length:=by omega
  have hlt:(b.mv.take n).length=n:=by rw[qe];omega
  have htk:(b.mv.take (n+1)).map (pk1 b.mat)=(b.mv.take n).map (pk1 b.mat)++[[.int x,.int b.mat]]:=by rw[take_succ hx,qp];rfl
  have hle:(n+1)*16<=140737488355328:=by omega
  simp only[hd,zq,hx,hin,hlt,zh,hle,go_sem];refine And.intro (fun c hc=> ?_) (And.intro (fun c hc=> ?_) ?_)
  ·obtain⟨z,_,rfl⟩:=qd.1 hc;rfl
  ·rw[zC.1 hc];rfl
  refine jad (n+1) ?_ ?_ ?_
  ·simp only[h1,Int.natCast_add,htk,go_sem]
  ·show b.mv.length-(n+1)<b.mv.length-n;omega
  ·show n+1<=b.mv.length;omega
 have hd:decide ((n:Int)<b.mv.length)=false:=za hp;have hne:n=b.mv.length:=by omega
 subst hne;rw[qC];simp only[hd,go_sem];refine ja1 kL ?_;simp only[go_sem];refine ja1 k1 ?_;simp only[go_sem];refine ja1 k2 ?_;simp only[go_sem]
end
section
open Go.Abs
attribute [local go_sem] ints ic Bat.c Pap.c Led.c
theorem jox(x b:Bat)(hx:x.mv.length<=100000)(hb:b.mv.length<=100000):Ctr G.P 66 [.agg x.c,.ip b.c 0] (· = .bool (overF x b)):=by
 have k1:=jm9 x b hx hb;simp only[Bat.c,ints]at*;refine ja4 [.tmp 3] Tryz.func66 ?_;simp only[go_sem];refine ja1 k1 ?_;simp only[go_sem]
theorem pb_iba1(x:Bat)(g:Nat)(caps:List IV)(hg:3<=g/\g<G.fns)(hc:Ctr G.P g (.agg x.c::caps) (· = .bool true)):
  Ctr G.P 65 [.sl [x.c],.clo g caps] (· = .int 0):=by
 simp only[Bat.c,ints]at*;refine ja4 [.tmp 4] Tryz.func65 ?_;simp only[go_sem];refine jao [0,1,7,8] [] (fun _:Nat=>⟨[(0,.im (.sl [x.c])),(1,.im (.clo g caps)),(7,.im (.int 1)),(8,.im (.int 0))],[],[]⟩)
  (fun _=>True) (fun i=>i) 0 ?_ trivial ?_
 ·simp only[go_sem]
 intro i _;simp only[go_sem];refine jbp hc hg ?_;simp only[go_sem]
theorem pb_eqs(l:List Int)(hl:l.length<=100000):Ctr G.P 67 [ints l,ints l] (· = .bool true):=by
 unfold ints;refine ja4 [.tmp 4] Tryz.func67 ?_;simp only[go_sem];refine jao [0,1,12,13] [] (fun i:Nat=>⟨[(0,.im (.sl (l.map ic))),(1,.im (.sl (l.map ic))),(12,.im (.int l.length)),(13,.im (.int i))],[],[]⟩)
  (fun i=>i<=l.length) (fun i=>l.length-i) 0 ?_ (zG _) ?_
 ·simp only[Int.natCast_zero,zh,go_sem]
 intro i hi;by_cases hp:(i:Int)<l.length
 ·have hd:decide ((i:Int)<l.length)=true:=zk hp;obtain⟨x,hx⟩:=jbq hp;have hin:i<l.length:=by omega
  have h1:=ja9 (n:=(i:Int)+1) (by omega);simp only[hd,go_sem];refine jai 9 ?_;simp only[zq,hx,hp,hin,zh,go_sem];refine jad (i+1) ?_ ?_ ?_
  ·simp only[h1,Int.natCast_add,go_sem]
  ·show l.length-(i+1)<l.length-i;omega
  ·show i+1<=l.length;omega
 ·have hd:decide ((i:Int)<l.length)=false:=za hp;simp only[hd,go_sem]
