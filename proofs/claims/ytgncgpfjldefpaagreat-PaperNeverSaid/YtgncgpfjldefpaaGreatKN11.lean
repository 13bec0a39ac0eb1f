/- A part of the proof. No further condition. -/
import Derived.Test.YtgncgpfjldefpaaGreatKN10
set_option linter.all false
set_option maxRecDepth 10000000
set_option maxHeartbeats 16000000
namespace Go.Proofs.YtgncgpfjldefpaaGreat
section
open Go.Abs
attribute [local go_sem] Evid.iv Evid.c Place.c Move.c Cert.c Recall.c Purity.c Sample.c Recipe.c ints ic
def jdw(e:Evid):Int->List Move->Int
 | _,[]=>0
 | last,m::r=>if decide (m.day<last)=true then 17 else if decide (100000<m.day)=true then 17 else if moveF e m=false then 1 else jdw e m.day r
def jc5(e:Evid):Int:=
 if(pairs e).all fitP=false then 6 else if decide (e.mats<1)=true then 1 else if decide (e.houses<0)=true then 1 else if decide (e.scales<0)=true then 1 else if e.places.all (jiq e)=false then 1 else
 if jdw e 0 e.moves≠0 then jdw e 0 e.moves else if saidF e=true then 0 else 1
theorem jg4{α:Type}{l:List α}{i:Nat}{x:α}(h:l[i]? =some x):l.drop i=x::l.drop (i+1):=by
 obtain⟨hi,rfl⟩:=zt.1 h;exact qr hi
theorem jia{e:Evid}(h:(pairs e).all fitP=true):e.places.length<=100/\e.moves.length<=200/\e.certs.length<=100/\e.recalls.length<=30/\e.purs.length<=200/\e.mats<=6/\e.houses<=100/\e.scales<=30:=by
 simp[pairs,fitP]at h;omega
theorem c21(e:Evid):Ctr G.P 21 [e.iv] (· = .int (jc5 e)):=by
 have h46:=c46 e;rcases hf:(pairs e).all fitP with _ | _
 ·have hc:jc5 e=6:=by simp[jc5,hf]
  rw[hf]at h46;refine ja3 [.tmp 2] Tryz.func21 ?_;unfold Evid.iv Evid.c;rw[hc];simp only[go_sem];refine ja1 h46 ?_;simp only[go_sem]
 ·obtain⟨l1,l2,l3,l4,l5,_,_,_⟩:=jia hf;have h47:=c47 e (by omega);have h49:=c49 e (by omega) (by omega) (by omega);rw[hf]at h46;have hc:jc5 e=if decide (e.mats<1)=true then 1 else if decide (e.houses<0)=true then 1 else if decide (e.scales<0)=true then 1 else if e.places.all (jiq e)=false then 1 else
   if jdw e 0 e.moves≠0 then jdw e 0 e.moves else if saidF e=true then 0 else 1:=by simp[jc5,hf]
  clear hf;refine ja3 [.tmp 2] Tryz.func21 ?_;rw[hc];clear hc;generalize hpl:e.places.all (jiq e)=pl at*;generalize hsd:saidF e=sd at*;unfold Evid.iv Evid.c;simp only[go_sem];refine ja1 h46 ?_;simp only[go_sem]
  repeat' (first | (refine jc3 (fun hd=> ?_) (fun hd=> ?_)<;>simp only[*,go_sem]) | (refine jbs (h47) (by first | decide | assumption) ?_;simp only[*,go_sem]) | (refine ja5 (h47) (by decide) ?_;simp only[*,go_sem]))
  rename_i k1 k2 k3 k4;clear h47 h46;refine jaj [1,3,29,30,31] [1] (fun g:Nat×Int=>⟨[(1,.loc 1 8 0 0),(3,.im (.int g.2)),(29,.im (.sl (e.moves.map Move.c))),(30,.im (.int e.moves.length)),(31,.im (.int g.1))],[(1,8,[e.c])],[]⟩)
   (fun g=>g.1<=e.moves.length/\jdw e 0 e.moves=jdw e g.2 (e.moves.drop g.1)) (fun g=>e.moves.length-g.1) (0,0) ?_ ⟨zF _,rfl⟩ ?_
  ·simp only[Evid.c,Int.natCast_zero,go_sem]
  ·intro⟨i,last⟩ ⟨hi,ha⟩;dsimp only at hi ha;by_cases hp:(i:Int)<e.moves.length
   ·have hd:decide ((i:Int)<e.moves.length)=true:=zk hp;obtain⟨x,hx⟩:=jb9 hp;have h1:=ja6 (n:=(i:Int)+1) (by omega);rw[jg4 hx,jdw]at ha;simp only[hd,zq,hx,Move.c,Evid.c,go_sem]
    repeat' (first | (refine jc3 (fun hd=> ?_) (fun hd=> ?_)<;>simp only[*,go_sem]) | (refine jbs (c48 e x) (by first | decide | assumption) ?_;simp only[*,go_sem]) | (refine ja5 (c48 e x) (by decide) ?_;simp only[*,go_sem]))
    refine ja7 (i+1,x.day) ?_ ?_ ⟨?_,?_⟩
    ·simp only[h1,Evid.c,Int.natCast_add,go_sem]
    ·show e.moves.length-(i+1)<e.moves.length-i;omega
    ·show i+1<=e.moves.length;omega
    ·rw[ha];simp only[*,yk,Bool.true_eq_false,qp]
   ·have hd:decide ((i:Int)<e.moves.length)=false:=za hp;have hi':e.moves.drop i=[]:=zV (by omega);rw[hi',jdw]at ha;simp only[hd,Evid.c,go_sem];refine ja1 h49 ?_;simp only[*,go_sem]
    repeat' (first | (refine jc3 (fun hd=> ?_) (fun hd=> ?_)<;>simp only[*,go_sem]) | (refine jbs (h49) (by first | decide | assumption) ?_;simp only[*,go_sem]) | (refine ja5 (h49) (by decide) ?_;simp only[*,go_sem]))
end
section
open Go.Abs
attribute [local go_sem] Evid.iv Evid.c Place.c Move.c Cert.c Recall.c Purity.c Sample.c Recipe.c ints ic
theorem check_len{e:Evid}(h:jc5 e=0):e.places.length<=100/\e.moves.length<=200/\e.certs.length<=100/\e.recalls.length<=30/\e.purs.length<=200/\e.mats<=6/\e.houses<=100/\e.scales<=30:=by
 refine jia ?_;by_cases hf:(pairs e).all fitP=true
 ·exact hf
 ·simp only[yX]at hf;unfold jc5 at h;rw[zm hf]at h;cases h
end
section
open Go.Abs
attribute [local go_sem] Evid.iv Evid.c Place.c Move.c Cert.c Recall.c Purity.c Sample.c Recipe.c ints ic
end
section
open Go.Abs
attribute [local go_sem] Evid.iv Evid.c Place.c Move.c Cert.c Recall.c Purity.c Sample.c Recipe.c ints ic
def purs(l:List Purity):IV:= .sl (l.map Purity.c)
end
section
open Go.Abs
attribute [local go_sem] Evid.iv Evid.c Place.c Move.c Cert.c Recall.c Purity.c Sample.c Recipe.c ints ic
theorem jck{α:Type}{l:List α}{f:α->Bool}{i:Nat}{x:α}(h:l[i]? =some x):(l.take (i+1)).any f=((l.take i).any f || f x):=by
 rw[take_succ h,List.any_append];simp
theorem jka{α:Type}{l:List α}{f:α->Bool}{i:Nat}{x:α}(h:l[i]? =some x)(hf:f x=true):l.any f=true:=
 jf.2 ⟨x,zl h,hf⟩
theorem c52(l:List Int)(hl:l.length<=100000)(p:Int->Bool)(g:Nat)(caps:List IV)(hg:3<=g/\g<G.fns)(hc:∀n:Int,Ctr G.P g (.int n::caps) (· = .bool (p n))):
  Ctr G.P 100 [ints l,.clo g caps] (fun r=>∃k:Int,r= .int k/\decide (0<=k)=l.any p):=by
 refine ja3 [.tmp 4] Tryz.func100 ?_;unfold ints;simp only[go_sem];refine jaj [0,1,7,8] [] (fun i:Nat=>⟨[(0,.im (.sl (l.map ic))),(1,.im (.clo g caps)),(7,.im (.int l.length)),(8,.im (.int i))],[],[]⟩)
  (fun i=>i<=l.length/\(l.take i).any p=false) (fun i=>l.length-i) 0 ?_ ⟨zF _,rfl⟩ ?_
 ·simp only[Int.natCast_zero,go_sem]
 ·intro i ⟨hi,ha⟩;by_cases hp:(i:Int)<l.length
  ·have hd:decide ((i:Int)<l.length)=true:=zk hp;obtain⟨x,hx⟩:=jb9 hp;have h1:=ja6 (n:=(i:Int)+1) (by omega);simp only[hd,zq,hx,ic,go_sem];refine jbs (hc x) hg ?_;simp only[go_sem];refine jc3 (fun he=> ?_) (fun he=> ?_)
   ·simp only[he,go_sem];exact⟨i,rfl,by rw[jka hx he];simp⟩
   ·simp only[he,go_sem];refine ja7 (i+1) ?_ (by omega) ⟨by omega,by rw[jck hx,ha,he];rfl⟩;simp only[h1,Int.natCast_add,go_sem]
  ·have hd:decide ((i:Int)<l.length)=false:=za hp;rw[zD (by omega)]at ha;simp only[hd,go_sem];exact⟨-1,rfl,by rw[ha];rfl⟩
theorem c26(l:List Int)(hl:l.length<=100000)(p:Int->Bool)(g:Nat)(caps:List IV)(hg:3<=g/\g<G.fns)(hc:∀n:Int,Ctr G.P g (.int n::caps) (· = .bool (p n))):
  Ctr G.P 70 [ints l,.clo g caps] (· = .bool (l.any p)):=by
 have h:=c52 l hl p g caps hg hc;refine ja3 [.tmp 4] Tryz.func70 ?_;simp only[go_sem];refine jda h ?_;rintro r ⟨k,rfl,hk⟩;rw[<-hk];simp only[go_sem]
end
section
open Go.Abs
attribute [local go_sem] ints ic Bat.c Pap.c Led.c
theorem pb_in(n lo hi:Int):Ctr G.P 30 [.int n,.int lo,.int hi] (· = .bool (btw n lo hi)):=by
 unfold btw;refine ja3 [.tmp 6] Tryz.func30 ?_;simp only[go_sem]
 repeat' (refine jcz (fun hd hp=> ?_) (fun hd hp=> ?_)<;>simp only[hd,go_sem])
theorem jpf(l:List Int)(n:Int)(hl:l.length<=100000):Ctr G.P 31 [ints l,.int n] (· = .bool (riseF l n)):=by
 refine ja3 [.tmp 4] Tryz.func31 ?_;unfold ints riseF;simp only[go_sem];refine jaj [0,1,5,8,9,10] [] (fun g:Nat×Int=>⟨[(0,.im (.sl (l.map ic))),(1,.im (.int n)),(5,.im (.int g.2)),(8,.im (.sl (l.map ic))),(9,.im (.int l.length)),(10,.im (.int g.1))],[],[]⟩)
  (fun g=>g.1<=l.length/\jk1 n (-1) l=jk1 n g.2 (l.drop g.1)) (fun g=>l.length-g.1) (0,-1) ?_ ⟨zF _,rfl⟩ ?_
 ·simp only[zw,Int.natCast_zero,go_sem]
 intro⟨i,last⟩ ⟨hi,ha⟩;dsimp only at hi ha;by_cases hp:(i:Int)<l.length
 ·have hd:decide ((i:Int)<l.length)=true:=zk hp;obtain⟨x,hx⟩:=jb9 hp;have h1:=ja6 (n:=(i:Int)+1) (by omega);rw[jg4 hx,jk1]at ha;rcases d1:decide (x<=last)with _ | _
  ·have e1:decide (last<x)=true:=zk (by have:=zK d1;omega);rcases d2:decide (n<=x)with _ | _
   ·have e2:decide (x<n)=true:=zk (by have:=zK d2;omega);rw[e1,e2,z8,z8]at ha;simp only[hd,d1,d2,zq,hx,ic,go_sem];refine ja7 (i+1,x) ?_ ?_ ⟨?_,ha⟩
    ·simp only[h1,Int.natCast_add,go_sem]
    ·show l.length-(i+1)<l.length-i;omega
    ·show i+1<=l.length;omega
   ·have e2:decide (x<n)=false:=za (by have:=zJ d2;omega);rw[e1,e2,z8,qb]at ha;simp only[hd,d1,d2,zq,hx,ic,ha,qb,go_sem]
  ·have e1:decide (last<x)=false:=za (by have:=zJ d1;omega);rw[e1,qb]at ha;simp only[hd,d1,zq,hx,ic,ha,qb,go_sem]
 ·have hd:decide ((i:Int)<l.length)=false:=za hp;rw[zV (by omega),jk1]at ha;have e1:decide ((0:Int)<(l.length:Int))=decide (0<l.length):=yn.2 (by omega);rw[ha,z8];simp only[hd,zw,e1,go_sem]
theorem pb_index(l:List Int)(v:Int)(hl:l.length<=100000):Ctr G.P 101 [ints l,.int v] (fun r=>∃k:Int,r= .int k/\decide (0<=k)=l.contains v):=by
 refine ja3 [.tmp 4] Tryz.func101 ?_;unfold ints;simp only[go_sem];refine jaj [0,1,7,8] [] (fun i:Nat=>⟨[(0,.im (.sl (l.map ic))),(1,.im (.int v)),(7,.im (.int l.length)),(8,.im (.int i))],[],[]⟩)
  (fun i=>i<=l.length/\(l.take i).any (fun x=>decide (v=x))=false) (fun i=>l.length-i) 0 ?_ ⟨zF _,rfl⟩ ?_
 ·simp only[zw,Int.natCast_zero,go_sem]
 have hc:l.contains v=l.any (fun x=>decide (v=x)):=by
  rw[List.contains_eq_any_beq];congr 1
 rw[hc];intro i ⟨hi,ha⟩;by_cases hp:(i:Int)<l.length
 ·have hd:decide ((i:Int)<l.length)=true:=zk hp;obtain⟨x,hx⟩:=jb9 hp;have h1:=ja6 (n:=(i:Int)+1) (by omega);rcases he:decide (v=x)with _ | _
  ·simp only[hd,zq,hx,ic,he,go_sem];refine ja7 (i+1) ?_ (by omega) ⟨by omega,by rw[jck hx,ha,he];rfl⟩;simp only[h1,Int.natCast_add,go_sem]
  ·simp only[hd,zq,hx,ic,he,go_sem];exact⟨i,rfl,by rw[jka hx he];simp⟩
 ·have hd:decide ((i:Int)<l.length)=false:=za hp;rw[zD (by omega)]at ha;simp only[hd,go_sem];exact⟨-1,rfl,by rw[ha];rfl⟩
theorem pb_contains(l:List Int)(v:Int)(hl:l.length<=100000):Ctr G.P 72 [ints l,.int v] (· = .bool (l.contains v)):=by
 have h:=pb_index l v hl;refine ja3 [.tmp 4] Tryz.func72 ?_;simp only[go_sem];refine jda h ?_;rintro r ⟨k,rfl,hk⟩;rw[<-hk];simp only[go_sem]
theorem pb_over1(b:Bat)(i:Int)(hb:b.mv.length<=100000):Ctr G.P 71 [.int i,.ip b.c 0] (· = .bool (b.mv.contains i)):=by
 have h:=pb_contains b.mv i hb;unfold ints at h;refine ja3 [.tmp 3] Tryz.func71 ?_;simp only[go_sem];refine ja1 h ?_;simp only[go_sem]
theorem jmm(a b:Bat)(ha:a.mv.length<=100000)(hb:b.mv.length<=100000):Ctr G.P 34 [.agg a.c,.agg b.c] (· = .bool (overF a b)):=by
 have h:=c26 a.mv ha (fun i=>b.mv.contains i) 71 [.ip b.c 0] (by decide) (fun i=>pb_over1 b i hb);unfold ints overF at*;rcases hm:decide (a.mat=b.mat)with _ | _
 ·refine ja3 [.tmp 4] Tryz.func34 ?_;simp only[hm,qb,go_sem]
 ·refine ja3 [.tmp 4] Tryz.func34 ?_;simp only[hm,go_sem];refine ja1 h ?_;simp only[z8,go_sem]
theorem pb_live(x:Pap):Ctr G.P 37 [.agg x.c] (· = .bool x.live):=by
 unfold Pap.live;rcases h1:x.ret with _ | _<;>rcases h2:x.gone with _ | _
 all_goals
  refine ja3 [.tmp 2] Tryz.func37 ?_;simp only[h1,h2,go_sem]
end
section
open Go.Abs
attribute [local go_sem] ints ic Bat.c Pap.c Led.c
theorem pb_ibat(l:List Bat)(hl:l.length<=100000)(p:Bat->Bool)(g:Nat)(caps:List IV)(hg:3<=g/\g<G.fns)(hc:∀x∈l,Ctr G.P g (.agg x.c::caps) (· = .bool (p x))):
  Ctr G.P 65 [.sl (l.map Bat.c),.clo g caps] (fun r=>∃k:Int,r= .int k/\decide (0<=k)=l.any p):=by
 refine ja3 [.tmp 4] Tryz.func65 ?_;simp only[go_sem];refine jaj [0,1,7,8] [] (fun i:Nat=>⟨[(0,.im (.sl (l.map Bat.c))),(1,.im (.clo g caps)),(7,.im (.int l.length)),(8,.im (.int i))],[],[]⟩)
  (fun i=>i<=l.length/\(l.take i).any p=false) (fun i=>l.length-i) 0 ?_ ⟨zF _,rfl⟩ ?_
 ·simp only[Int.natCast_zero,zw,go_sem]
 ·intro i ⟨hi,ha⟩;by_cases hp:(i:Int)<l.length
  ·have hd:decide ((i:Int)<l.length)=true:=zk hp;obtain⟨x,hx⟩:=jb9 hp;have h1:=ja6 (n:=(i:Int)+1) (by omega);have hcx:=hc x (zl hx);simp only[Bat.c,ints]at hcx;simp only[hd,zq,hx,go_sem];refine jbs hcx hg ?_;simp only[go_sem];refine jc3 (fun he=> ?_) (fun he=> ?_)
   ·simp only[he,go_sem];exact⟨i,rfl,by rw[jka hx he];simp⟩
   ·simp only[he,go_sem];refine ja7 (i+1) ?_ (by omega) ⟨by omega,by rw[jck hx,ha,he];rfl⟩;simp only[h1,Int.natCast_add,go_sem]
  ·have hd:decide ((i:Int)<l.length)=false:=za hp;rw[zD (by omega)]at ha;simp only[hd,go_sem];exact⟨-1,rfl,by rw[ha];rfl⟩
theorem pb_cbat(l:List Bat)(hl:l.length<=100000)(p:Bat->Bool)(g:Nat)(caps:List IV)(hg:3<=g/\g<G.fns)(hc:∀x∈l,Ctr G.P g (.agg x.c::caps) (· = .bool (p x))):
  Ctr G.P 32 [.sl (l.map Bat.c),.clo g caps] (· = .bool (l.any p)):=by
 have h:=pb_ibat l hl p g caps hg hc;refine ja3 [.tmp 4] Tryz.func32 ?_;simp only[go_sem];refine jda h ?_;rintro r ⟨k,rfl,hk⟩;rw[<-hk];simp only[go_sem]
theorem pb_ipap(l:List Pap)(hl:l.length<=100000)(p:Pap->Bool)(g:Nat)(caps:List IV)(hg:3<=g/\g<G.fns)(hc:∀x∈l,Ctr G.P g (.agg x.c::caps) (· = .bool (p x))):
  Ctr G.P 73 [.sl (l.map Pap.c),.clo g caps] (fun r=>∃k:Int,r= .int k/\decide (0<=k)=l.any p):=by
 refine ja3 [.tmp 4] Tryz.func73 ?_;simp only[go_sem];refine jaj [0,1,7,8] [] (fun i:Nat=>⟨[(0,.im (.sl (l.map Pap.c))),(1,.im (.clo g caps)),(7,.im (.int l.length)),(8,.im (.int i))],[],[]⟩)
  (fun i=>i<=l.length/\(l.take i).any p=false) (fun i=>l.length-i) 0 ?_ ⟨zF _,rfl⟩ ?_
 ·simp only[Int.natCast_zero,zw,go_sem]
 ·intro i ⟨hi,ha⟩;by_cases hp:(i:Int)<l.length
  ·have hd:decide ((i:Int)<l.length)=true:=zk hp;obtain⟨x,hx⟩:=jb9 hp;have h1:=ja6 (n:=(i:Int)+1) (by omega);have hcx:=hc x (zl hx);simp only[Pap.c]at hcx;simp only[hd,zq,hx,go_sem];refine jbs hcx hg ?_;simp only[go_sem];refine jc3 (fun he=> ?_) (fun he=> ?_)
   ·simp only[he,go_sem];exact⟨i,rfl,by rw[jka hx he];simp⟩
   ·simp only[he,go_sem];refine ja7 (i+1) ?_ (by omega) ⟨by omega,by rw[jck hx,ha,he];rfl⟩;simp only[h1,Int.natCast_add,go_sem]
  ·have hd:decide ((i:Int)<l.length)=false:=za hp;rw[zD (by omega)]at ha;simp only[hd,go_sem];exact⟨-1,rfl,by rw[ha];rfl⟩
theorem pb_cpap(l:List Pap)(hl:l.length<=100000)(p:Pap->Bool)(g:Nat)(caps:List IV)(hg:3<=g/\g<G.fns)(hc:∀x∈l,Ctr G.P g (.agg x.c::caps) (· = .bool (p x))):
  Ctr G.P 35 [.sl (l.map Pap.c),.clo g caps] (· = .bool (l.any p)):=by
 have h:=pb_ipap l hl p g caps hg hc;refine ja3 [.tmp 4] Tryz.func35 ?_;simp only[go_sem];refine jda h ?_;rintro r ⟨k,rfl,hk⟩;rw[<-hk];simp only[go_sem]
theorem pb_right1(a b:Bat)(ha:a.mv.length<=100000)(hb:b.mv.length<=100000):Ctr G.P 33 [.agg a.c,.ip b.c 0] (· = .bool (overF a b)):=by
 have h:=jmm a b ha hb;simp only[Bat.c,ints]at h;refine ja3 [.tmp 3] Tryz.func33 ?_;simp only[go_sem];refine ja1 h ?_;simp only[go_sem]
theorem pb_right2(x:Pap)(p:Led)(hl:p.bs.length<=100000):Ctr G.P 36 [.agg x.c,.ip p.c 0] (· = .bool (!papOk p.bs.length x)):=by
 have k1:=pb_in x.bat 0 ((p.bs.length:Int)-1);have k2:=pb_in x.grams 1 1099511627776;have k3:=pb_in x.own 0 999;have w1:=ja6 (n:=(p.bs.length:Int)-1) (by omega);unfold papOk;rcases h1:btw x.bat 0 ((p.bs.length:Int)-1)with _ | _
 ·rw[h1]at k1;refine ja3 [.tmp 3] Tryz.func36 ?_;simp only[zw,w1,go_sem];refine ja1 k1 ?_;simp only[go_sem]
 rw[h1]at k1;rcases h2:btw x.grams 1 1099511627776 with _ | _
 ·rw[h2]at k2;refine ja3 [.tmp 3] Tryz.func36 ?_;simp only[zw,w1,go_sem];refine ja1 k1 ?_;simp only[go_sem];refine ja1 k2 ?_;simp only[go_sem]
 rw[h2]at k2;rcases h3:btw x.own 0 999 with _ | _
 ·rw[h3]at k3;refine ja3 [.tmp 3] Tryz.func36 ?_;simp only[zw,w1,go_sem];refine ja1 k1 ?_;simp only[go_sem];refine ja1 k2 ?_;simp only[go_sem];refine ja1 k3 ?_;simp only[go_sem]
 rw[h3]at k3;rcases h4:x.ret with _ | _<;>rcases h5:x.gone with _ | _
 all_goals
  refine ja3 [.tmp 3] Tryz.func36 ?_;simp only[zw,w1,go_sem];refine ja1 k1 ?_;simp only[go_sem];refine ja1 k2 ?_;simp only[go_sem];refine ja1 k3 ?_;simp only[h4,h5,go_sem]
end
section
open Go.Abs
attribute [local go_sem] ints ic Bat.c Pap.c Led.c
def jg9(p:Led):Prop:=∀b∈p.bs,b.mv.length<=100000
theorem jf3(p:Led)(hmv:jg9 p):Ctr G.P 10 [.agg p.c] (· = .bool (jbh p)):=by
 rcases d1:decide (40<(p.bs.length:Int))with _ | _
 case true=>
  have hr:jbh p=false:=by unfold jbh;rw[za (by have:=zJ d1;omega),qb]
  rw[hr];refine ja3 [.tmp 2] Tryz.func10 ?_;simp only[zw,d1,go_sem]
 rcases d2:decide (300<(p.ps.length:Int))with _ | _
 case true=>
  have hr:jbh p=false:=by unfold jbh;rw[za (p:=p.ps.length<=300) (by have:=zJ d2;omega),qb,y4]
  rw[hr];refine ja3 [.tmp 2] Tryz.func10 ?_;simp only[zw,d1,d2,go_sem]
 have b1:=zK d1;have b2:=zK d2;have hr:jbh p=(jhz [] p.bs&&p.ps.all (papOk p.bs.length)):=by
  unfold jbh;rw[zk (by omega),zk (p:=p.ps.length<=300) (by omega),z8,z8]
 have hall:(p.bs.map Bat.c).all (fun c=>c.length==2)=true:=List.all_eq_true.2 fun c hc=>by
  obtain⟨z,_,rfl⟩:=qy.1 hc;rfl
 have k4:=pb_cpap p.ps (by omega) (fun x=> !papOk p.bs.length x) 36 [.ip p.c 0] (by decide) (fun x _=>pb_right2 x p (by omega));have h4:(!(p.ps.any fun x=> !papOk p.bs.length x))=p.ps.all (papOk p.bs.length):=by rw[List.all_eq_not_any_not]
 rw[hr,<-h4];clear hr h4;generalize (p.ps.any fun x=> !papOk p.bs.length x)=pp at*;simp only[Led.c]at k4;refine ja3 [.tmp 2] Tryz.func10 ?_;simp only[zw,d1,d2,go_sem];refine jaj [1,16,17,18] [1] (fun i:Nat=>⟨[(1,.loc 1 2 0 0),(16,.im (.sl (p.bs.map Bat.c))),(17,.im (.int p.bs.length)),(18,.im (.int i))],[(1,2,[p.c])],[]⟩)
  (fun i=>i<=p.bs.length/\jhz [] p.bs=jhz (p.bs.take i) (p.bs.drop i)) (fun i=>p.bs.length-i) 0 ?_ ⟨zF _,rfl⟩ ?_
 ·simp only[Int.natCast_zero,zw,go_sem]
 intro i ⟨hi,ha⟩;by_cases hp:(i:Int)<p.bs.length
 ·have hd:decide ((i:Int)<p.bs.length)=true:=zk hp;obtain⟨x,hx⟩:=jb9 hp;have h1:=ja6 (n:=(i:Int)+1) (by omega);have hxm:=hmv x (zl hx);have k1:=pb_in x.mat 0 5;have k2:=jpf x.mv 200 hxm;have k3:=pb_cbat (p.bs.take i) (by rw[qa];omega) (fun a=>overF a x) 33 [.ip x.c 0] (by decide) (fun a ha=>pb_right1 a x (hmv a (qR ha)) hxm);have htk:(p.bs.map Bat.c).take i=(p.bs.take i).map Bat.c:=vt.symm;have hi0:(0:Int)<=(i:Int):=by omega
  have hin:(i:Int)<=(p.bs.length:Int):=by omega
  rw[jg4 hx,jhz,batOk,<-take_succ hx]at ha;simp only[Bat.c,ints]at k2 k3 hall htk;rcases e1:btw x.mat 0 5 with _ | _
  ·rw[e1,qb,qb]at ha;rw[e1]at k1;simp only[hd,zq,hx,go_sem];refine ja1 k1 ?_;simp only[ha,qb,go_sem]
  rw[e1,z8]at ha;rw[e1]at k1;rcases e2:riseF x.mv 200 with _ | _
  ·rw[e2,qb,qb]at ha;rw[e2]at k2;simp only[hd,zq,hx,go_sem];refine ja1 k1 ?_;simp only[go_sem];refine ja1 k2 ?_;simp only[ha,qb,go_sem]
  rw[e2,z8]at ha;rw[e2]at k2;rcases e3:(p.bs.take i).any (fun a=>overF a x)with _ | _
  ·rw[e3,Bool.not_false,z8]at ha;rw[e3]at k3;simp only[hd,zq,hx,go_sem];refine ja1 k1 ?_;simp only[go_sem];refine ja1 k2 ?_;simp only[hi0,hin,hall,htk,Nat.sub_zero,zw,go_sem];refine ja1 k3 ?_;simp only[go_sem];refine ja7 (i+1) ?_ (by omega) ⟨by omega,ha⟩;simp only[h1,Int.natCast_add,go_sem]
  ·rw[e3,jC,qb]at ha;rw[e3]at k3;simp only[hd,zq,hx,go_sem];refine ja1 k1 ?_;simp only[go_sem];refine ja1 k2 ?_;simp only[hi0,hin,hall,htk,Nat.sub_zero,zw,go_sem];refine ja1 k3 ?_;simp only[ha,qb,go_sem]
 ·have hd:decide ((i:Int)<p.bs.length)=false:=za hp;rw[zV (by omega),jhz]at ha;rw[ha];simp only[hd,go_sem];refine ja1 k4 ?_;simp only[z8,go_sem]
end
section
open Go.Abs
attribute [local go_sem] ints ic Bat.c Pap.c Led.c
theorem jkg(p:Led)(k:Int)(hmv:jg9 p):Ctr G.P 29 [.agg p.c,.int k] (· = .int (totF p k)):=by
 have kR:=jf3 p hmv;rcases hr:jbh p with _ | _
 ·have ht:totF p k=0:=by unfold totF;rw[hr,zp (by decide)]
  rw[ht];rw[hr]at kR;refine ja3 [.tmp 4] Tryz.func29 ?_;simp only[go_sem];refine ja1 kR ?_;simp only[go_sem]
 ·have hin:=jhm hr;have hlen:=(jcc hr).2.1;rw[tot_eq hr];rw[hr]at kR;refine ja3 [.tmp 4] Tryz.func29 ?_;simp only[go_sem];refine ja1 kR ?_;simp only[go_sem];refine jaj [1,5,12,13,14] [] (fun g:Nat×Int=>⟨[(1,.im (.int k)),(5,.im (.int g.2)),(12,.im (.sl (p.ps.map Pap.c))),(13,.im (.int p.ps.length)),(14,.im (.int g.1))],[],[]⟩)
   (fun g=>g.1<=p.ps.length/\sumG (tk k) p.ps=g.2+sumG (tk k) (p.ps.drop g.1)/\0<=g.2/\g.2<=1099511627776*g.1) (fun g=>p.ps.length-g.1) (0,0) ?_ ⟨zF _,by simp,by simp,by simp⟩ ?_
  ·simp only[zw,Int.natCast_zero,go_sem]
  intro⟨i,acc⟩ ⟨hi,ha,hb,hc⟩;dsimp only at hi ha hb hc;by_cases hp:(i:Int)<p.ps.length
  ·have hd:decide ((i:Int)<p.ps.length)=true:=zk hp;obtain⟨x,hx⟩:=jb9 hp;have h1:=ja6 (n:=(i:Int)+1) (by omega);obtain⟨_,_,x1,x2⟩:=hin x (zl hx);have h2:=ja6 (n:=acc+x.grams) (by omega);rw[jg4 hx,sumG]at ha;rcases e1:decide (x.bat=k)with _ | _
   ·rw[show tk k x=false by simp[tk,e1],zp (by decide),jq]at ha;simp only[hd,e1,zq,hx,go_sem];refine ja7 (i+1,acc) ?_ ?_ ⟨?_,ha,hb,?_⟩
    ·simp only[h1,Int.natCast_add,go_sem]
    ·show p.ps.length-(i+1)<p.ps.length-i;omega
    ·show i+1<=p.ps.length;omega
    ·show acc<=1099511627776*((i+1:Nat):Int);omega
   ·rcases e2:x.gone with _ | _
    ·rw[show tk k x=true by simp[tk,e1,e2],zm rfl]at ha;simp only[hd,e1,e2,zq,hx,go_sem];refine ja7 (i+1,acc+x.grams) ?_ ?_ ⟨?_,by rw[ha];simp only[Int.add_assoc],?_,?_⟩
     ·simp only[h1,h2,Int.natCast_add,go_sem]
     ·show p.ps.length-(i+1)<p.ps.length-i;omega
     ·show i+1<=p.ps.length;omega
     ·show 0<=acc+x.grams;omega
     ·show acc+x.grams<=1099511627776*((i+1:Nat):Int);omega
    ·rw[show tk k x=false by simp[tk,e2],zp (by decide),jq]at ha;simp only[hd,e1,e2,zq,hx,go_sem];refine ja7 (i+1,acc) ?_ ?_ ⟨?_,ha,hb,?_⟩
     ·simp only[h1,Int.natCast_add,go_sem]
     ·show p.ps.length-(i+1)<p.ps.length-i;omega
     ·show i+1<=p.ps.length;omega
     ·show acc<=1099511627776*((i+1:Nat):Int);omega
  ·have hd:decide ((i:Int)<p.ps.length)=false:=za hp;rw[zV (by omega),sumG,qN]at ha;simp only[hd,ha,go_sem]
end
section
open Go.Abs
attribute [local go_sem] ints ic Bat.c Pap.c Led.c
def jmi(b:Bat):Bool:=decide ((b.mv.length:Int)<=20)
def fewF(p:Led):Bool:=(p.bs.take 50).all jmi&&(decide ((p.bs.length:Int)<=20)&&(decide ((p.ps.length:Int)<=40) || (decide (295<(p.ps.length:Int))&&decide ((p.ps.length:Int)<=305))))
theorem all_take1{α:Type}{l:List α}{f:α->Bool}{i:Nat}{x:α}(h:l[i]? =some x):(l.take (i+1)).all f=((l.take i).all f&&f x):=by
 rw[take_succ h,vZ];simp
theorem pb_few(p:Led):Ctr G.P 9 [.agg p.c] (· = .bool (fewF p)):=by
 refine ja3 [.tmp 2] Tryz.func9 ?_;simp only[go_sem];refine jaj [1,3] [1] (fun i:Nat=>⟨[(1,.loc 1 2 0 0),(3,.im (.int i))],[(1,2,[p.c])],[]⟩)
  (fun i=>i<=p.bs.length/\i<=50/\(p.bs.take i).all jmi=true) (fun i=>p.bs.length-i) 0 ?_ ⟨zF _,zF _,rfl⟩ ?_
 ·simp only[Int.natCast_zero,go_sem]
 intro i ⟨hi,h50,ha⟩;have fin:(p.bs.take 50).all jmi=true->fewF p=(decide ((p.bs.length:Int)<=20)&&(decide ((p.ps.length:Int)<=40) || (decide (295<(p.ps.length:Int))&&decide ((p.ps.length:Int)<=305)))):=fun h=>by unfold fewF;rw[h,z8]
 by_cases hp:(i:Int)<p.bs.length
 ·have hd:decide ((i:Int)<p.bs.length)=true:=zk hp;rcases d5:decide ((i:Int)<50)with _ | _
  ·have h5:i=50:=by have:=zK d5;omega
   rw[h5]at ha;rw[fin ha];simp only[zw,hd,d5,go_sem]
   repeat' (first | (refine jc3 (fun hd=> ?_) (fun hd=> ?_)<;>simp only[*,zw,go_sem]))
  ·have b5:=zJ d5;obtain⟨x,hx⟩:=jb9 hp;have h1:=ja6 (n:=(i:Int)+1) (by omega);rcases d6:decide (20<(x.mv.length:Int))with _ | _
   ·simp only[zw,hd,d5,d6,zq,hx,go_sem];refine ja7 (i+1) ?_ (by omega) ⟨by omega,by omega,?_⟩
    ·simp only[h1,Int.natCast_add,go_sem]
    ·rw[all_take1 hx,ha,z8];exact zk (by have:=zK d6;omega)
   ·have hf:fewF p=false:=by
     unfold fewF;have:(p.bs.take 50).all jmi=false:=by
      rw[vy];refine⟨x,zl (i:=i) (by rw[qf,zm (by omega)];exact hx),?_⟩;have:=zJ d6;simp[jmi];omega
     rw[this,qb]
    rw[hf];simp only[zw,hd,d5,d6,zq,hx,go_sem]
 ·have hd:decide ((i:Int)<p.bs.length)=false:=za hp;rw[zD (by omega)]at ha;have h50:(p.bs.take 50).all jmi=true:=List.all_eq_true.2 fun x hx=>List.all_eq_true.1 ha x (qR hx);rw[fin h50];simp only[zw,hd,go_sem]
  repeat' (first | (refine jc3 (fun hd=> ?_) (fun hd=> ?_)<;>simp only[*,zw,go_sem]))
theorem few_parts{p:Led}(h:fewF p=true):p.bs.length<=20/\p.ps.length<=305/\jg9 p/\∀b∈p.bs,b.mv.length<=20:=by
 simp only[fewF,zu,qI,zS]at h;obtain⟨h1,h2,h3⟩:=h;rw[zD (by omega),List.all_eq_true]at h1;have h4:∀b∈p.bs,b.mv.length<=20:=fun b hb=>by have:=zJ (h1 b hb);omega
 exact⟨by omega,by omega,fun b hb=>by have:=h4 b hb;omega,h4⟩
def bl(b:Bool):List IV:=[.bool b]
theorem jro(l m:List Bool)(hl:l.length<=100000):Ctr G.P 28 [.sl (l.map bl),.sl (m.map bl)] (· = .bool (decide (l=m))):=by
 refine ja3 [.tmp 4] Tryz.func28 ?_;rcases d0:decide ((l.length:Int)=(m.length:Int))with _ | _
 ·have hne:decide (l=m)=false:=za fun e=>by subst e;simp at d0
  rw[hne];simp only[zw,d0,go_sem]
 have hlm:l.length=m.length:=by have:=zJ d0;omega
 simp only[zw,d0,go_sem];refine jaj [0,1,5] [] (fun i:Nat=>⟨[(0,.im (.sl (l.map bl))),(1,.im (.sl (m.map bl))),(5,.im (.int i))],[],[]⟩)
  (fun i=>i<=l.length/\l.take i=m.take i) (fun i=>l.length-i) 0 ?_ ⟨zF _,rfl⟩ ?_
 ·simp only[Int.natCast_zero,go_sem]
 intro i ⟨hi,ha⟩;by_cases hp:(i:Int)<l.length
 ·have hd:decide ((i:Int)<l.length)=true:=zk hp;obtain⟨x,hx⟩:=jb9 hp;obtain⟨y,hy⟩:=jb9 (l:=m) (i:=i) (by omega);have h1:=ja6 (n:=(i:Int)+1) (by omega);by_cases e:x=y
  ·subst e;simp only[hd,zw,go_sem];refine jaf 9 ?_;cases x
   ·simp only[zq,hx,hy,bl,go_sem];refine ja7 (i+1) ?_ (by omega) ⟨by omega,by rw[take_succ hx,take_succ hy,ha]⟩;simp only[h1,Int.natCast_add,go_sem]
   ·simp only[zq,hx,hy,bl,go_sem];refine ja7 (i+1) ?_ (by omega) ⟨by omega,by rw[take_succ hx,take_succ hy,ha]⟩;simp only[h1,Int.natCast_add,go_sem]
  ·have hne:decide (l=m)=false:=za fun h=>by subst h;rw[hx]at hy;cases hy;exact e rfl
   rw[hne];simp only[hd,zw,go_sem];refine jaf 9 ?_;cases x<;>cases y
   ·exact absurd rfl e
   ·simp only[zq,hx,hy,bl,go_sem]
   ·simp only[zq,hx,hy,bl,go_sem]
   ·exact absurd rfl e
 ·have hd:decide ((i:Int)<l.length)=false:=za hp;rw[zD (by omega),zD (by omega)]at ha;rw[zk ha];simp only[hd,zw,go_sem]
end
section
open Go.Abs
attribute [local go_sem] ints ic Bat.c Pap.c Led.c
theorem pb_iint(l:List Int)(hl:l.length<=100000)(p:Int->Bool)(g:Nat)(caps:List IV)(hg:3<=g/\g<G.fns)(hc:∀n∈l,Ctr G.P g (.int n::caps) (· = .bool (p n))):
  Ctr G.P 100 [ints l,.clo g caps] (fun r=>∃k:Int,r= .int k/\decide (0<=k)=l.any p):=by
 refine ja3 [.tmp 4] Tryz.func100 ?_;unfold ints;simp only[go_sem];refine jaj [0,1,7,8] [] (fun i:Nat=>⟨[(0,.im (.sl (l.map ic))),(1,.im (.clo g caps)),(7,.im (.int l.length)),(8,.im (.int i))],[],[]⟩)
  (fun i=>i<=l.length/\(l.take i).any p=false) (fun i=>l.length-i) 0 ?_ ⟨zF _,rfl⟩ ?_
 ·simp only[Int.natCast_zero,zw,go_sem]
 ·intro i ⟨hi,ha⟩;by_cases hp:(i:Int)<l.length
  ·have hd:decide ((i:Int)<l.length)=true:=zk hp;obtain⟨x,hx⟩:=jb9 hp;have h1:=ja6 (n:=(i:Int)+1) (by omega);simp only[hd,zq,hx,ic,go_sem];refine jbs (hc x (zl hx)) hg ?_;simp only[go_sem];refine jc3 (fun he=> ?_) (fun he=> ?_)
   ·simp only[he,go_sem];exact⟨i,rfl,by rw[jka hx he];simp⟩
   ·simp only[he,go_sem];refine ja7 (i+1) ?_ (by omega) ⟨by omega,by rw[jck hx,ha,he];rfl⟩;simp only[h1,Int.natCast_add,go_sem]
  ·have hd:decide ((i:Int)<l.length)=false:=za hp;rw[zD (by omega)]at ha;simp only[hd,go_sem];exact⟨-1,rfl,by rw[ha];rfl⟩
theorem jqo(l:List Int)(hl:l.length<=100000)(p:Int->Bool)(g:Nat)(caps:List IV)(hg:3<=g/\g<G.fns)(hc:∀n∈l,Ctr G.P g (.int n::caps) (· = .bool (p n))):
  Ctr G.P 70 [ints l,.clo g caps] (· = .bool (l.any p)):=by
 have h:=pb_iint l hl p g caps hg hc;refine ja3 [.tmp 4] Tryz.func70 ?_;simp only[go_sem];refine jda h ?_;rintro r ⟨k,rfl,hk⟩;rw[<-hk];simp only[go_sem]
theorem pb_step2(p:Led)(i:Int)(hl:p.ps.length<=100000):Ctr G.P 76 [.int i,.ip p.c 0] (· = .bool (!btw i 0 ((p.ps.length:Int)-1))):=by
 have k1:=pb_in i 0 ((p.ps.length:Int)-1);have w1:=ja6 (n:=(p.ps.length:Int)-1) (by omega);refine ja3 [.tmp 3] Tryz.func76 ?_;simp only[zw,w1,go_sem];refine ja1 k1 ?_;simp only[go_sem]
theorem pb_step3(x:Pap)(b:Int):Ctr G.P 77 [.agg x.c,.ip [.int b] 0] (· = .bool (!decide (x.own=b))):=by
 refine ja3 [.tmp 3] Tryz.func77 ?_;simp only[go_sem]
theorem pb_step4(x:Pap):Ctr G.P 78 [.agg x.c] (· = .bool (!x.live)):=by
 have k1:=pb_live x;simp only[Pap.c]at k1;refine ja3 [.tmp 2] Tryz.func78 ?_;simp only[go_sem];refine ja1 k1 ?_;simp only[go_sem]
def atF(p:Led)(f:Pap->Bool)(i:Int):Bool:=match p.ps[i.toNat]? with
 | some x=>f x
 | none=>false
theorem pb_step11(p:Led)(f:Pap->Bool)(g:Nat)(caps:List IV)(hg:3<=g/\g<G.fns)(hc:∀x∈p.ps,Ctr G.P g (.agg x.c::caps) (· = .bool (f x)))(i:Int)(hi:btw i 0 ((p.ps.length:Int)-1)=true):
  Ctr G.P 75 [.int i,.ip [.clo g caps] 0,.ip p.c 0] (· = .bool (atF p f i)):=by
 have hb:=btw_iff.1 hi;obtain⟨n,rfl⟩:=yI hb.1;have hn:n<p.ps.length:=by omega
 obtain⟨x,hx⟩:∃x,p.ps[n]? =some x:=⟨_,ze hn⟩;have hcx:=hc x (zl hx);unfold atF;rw[Int.toNat_natCast,hx];simp only[Pap.c]at hcx;refine ja3 [.tmp 4] Tryz.func75 ?_;simp only[go_sem];refine jaf 8 ?_;simp only[zq,hx,hn,zw,go_sem];refine ja5 hcx hg ?_;simp only[go_sem]
theorem jrn(p:Led)(is:List Int)(hl:is.length<=100000)(f:Pap->Bool)(g:Nat)(caps:List IV)(hg:3<=g/\g<G.fns)(hc:∀x∈p.ps,Ctr G.P g (.agg x.c::caps) (· = .bool (f x)))(hi:∀i∈is,btw i 0 ((p.ps.length:Int)-1)=true):
  Ctr G.P 74 [.clo g caps,.ip [ints is] 0,.ip p.c 0] (· = .bool (someF p f is)):=by
 have h:=jqo is hl (atF p f) 75 [.ip [.clo g caps] 0,.ip p.c 0] (by decide) (fun i hm=>pb_step11 p f g caps hg hc i (hi i hm));have e:is.any (atF p f)=someF p f is:=rfl;rw[e]at h;simp only[ints,Led.c]at h;refine ja3 [.tmp 4] Tryz.func74 ?_;simp only[go_sem];refine ja1 h ?_;simp only[go_sem]
end
end Go.Proofs.YtgncgpfjldefpaaGreat
namespace Go.Abs
section
def val:List Int->Int
 | []=>0
 | d::l=>d+1048576*val l
def OkD(l:List Int):Prop:=∀d∈l,0<=d/\d<1048576
def dgt(l:List Int)(i:Nat):Int:=(l[i]?).getD 0
def dig(n:Nat):List Int:=if h:n=0 then []else((n % 1048576:Nat):Int)::dig (n/1048576)
 termination_by n
 decreasing_by omega
theorem OkD.nil:OkD []:=fun _ h=>by cases h
theorem OkD.cons{d:Int}{l:List Int}(h:0<=d/\d<1048576)(hl:OkD l):OkD (d::l):=fun x hx=>by
 rcases zW.1 hx with rfl | hx
 ·exact h
 ·exact hl x hx
theorem OkD.tail{d:Int}{l:List Int}(h:OkD (d::l)):OkD l:=fun x hx=>h x (qe _ hx)
theorem OkD.head{d:Int}{l:List Int}(h:OkD (d::l)):0<=d/\d<1048576:=h d (qd ..)
theorem OkD.take{l:List Int}(h:OkD l)(n:Nat):OkD (l.take n):=fun x hx=>h x (qR hx)
theorem OkD.drop{l:List Int}(h:OkD l)(n:Nat):OkD (l.drop n):=fun x hx=>h x (yF hx)
theorem OkD.append{a b:List Int}(ha:OkD a)(hb:OkD b):OkD (a++b):=fun x hx=>(qG.1 hx).elim (ha x) (hb x)
theorem OkD.dgt{l:List Int}(h:OkD l)(i:Nat):0<=dgt l i/\dgt l i<1048576:=by
 unfold Go.Abs.dgt;cases hi:l[i]? with
 | none=>simp
 | some d=>exact h d (zl hi)
theorem jay:∀{l:List Int},OkD l->0<=val l
 | [],_=>yj _
 | d::l,h=>by
  have:=jay h.tail;have:=h.head;simp only[val];omega
theorem jdr:∀{l:List Int},OkD l->val l<1048576^l.length
 | [],_=>by simp[val]
 | d::l,h=>by
  have h1:=jdr h.tail;have h2:=h.head;simp only[val,List.length_cons,Int.pow_succ];omega
theorem jbc:dig 0=[]:=by rw[dig];simp
theorem jgp{n:Nat}(h:n≠0):dig n=((n % 1048576:Nat):Int)::dig (n/1048576):=by
 conv=>lhs;rw[dig]
 rw[dif_neg h]
theorem jbn(n:Nat):OkD (dig n):=by
 induction n using Nat.strongRecOn with
 | _ n ih=>
  by_cases h:n=0
  ·subst h;rw[jbc];exact OkD.nil
  ·rw[jgp h];exact OkD.cons (by omega) (ih _ (by omega))
theorem jax(n:Nat):val (dig n)=n:=by
 induction n using Nat.strongRecOn with
 | _ n ih=>
  by_cases h:n=0
  ·subst h;rw[jbc];rfl
  ·rw[jgp h,val,ih _ (by omega)];omega
theorem dig_nil{n:Nat}:dig n=[]↔n=0:=by
 constructor
 ·intro h;have:=jax n;rw[h]at this;simp only[val]at this;omega
 ·intro h;subst h;exact jbc
theorem eq_dig:∀{l:List Int},OkD l->l.getLast? ≠some 0->l=dig (val l).toNat
 | [],_,_=>by simp[val,jbc]
 | d::l,h,hl=>by
  have hd:=h.head;have hv:=jay h.tail;cases l with
  | nil=>
   have:d≠0:=fun e=>hl (by simp[e]);simp only[val,qV,qN];rw[jgp (by omega),show d.toNat/1048576=0 by omega,jbc];congr 1;omega
  | cons e l=>
   have hl':(e::l).getLast? ≠some 0:=by rw[List.getLast?_cons_cons]at hl;exact hl
   have ih:=eq_dig h.tail hl';have hne:(val (e::l)).toNat≠0:=fun h0=>by rw[h0,jbc]at ih;cases ih
   generalize hw:e::l=w at*;have hval:val (d::w)=d+1048576*val w:=rfl;rw[jgp (by omega),show(val (d::w)).toNat/1048576=(val w).toNat by omega,<-ih];congr 1;omega
theorem jo2(n:Nat):(dig n).getLast? ≠some 0:=by
 induction n using Nat.strongRecOn with
 | _ n ih=>
  by_cases h:n=0
  ·subst h;rw[jbc];simp
  ·rw[jgp h];by_cases h2:n/1048576=0
   ·rw[h2,jbc];simp;omega
   ·have:=ih (n/1048576) (by omega);cases hd:dig (n/1048576)with
    | nil=>rw[dig_nil]at hd;exact absurd hd h2
    | cons e l=>rw[List.getLast?_cons_cons,<-hd];exact this
theorem jf5:∀(a b:List Int),val (a++b)=val a+1048576^a.length*val b
 | [],b=>by simp[val]
 | d::a,b=>by
  simp only[List.cons_append,val,jf5 a b,List.length_cons,Int.pow_succ,qK,qE];rw[jO (1048576:Int)];omega
theorem jc6(l:List Int)(i:Nat):val (l.take (i+1))=val (l.take i)+1048576^i*dgt l i:=by
 rcases zX i l.length with h | h
 ·rw[List.take_succ_eq_append_getElem h,jf5];have:(l.take i).length=i:=by rw[qa];omega
  have hd:dgt l i=l[i]:=by unfold dgt;rw[ze h];rfl
  rw[this,hd];have hs:val [l[i]]=l[i]:=by
   show l[i]+1048576*0=l[i];omega
  rw[hs]
 ·rw[zD (by omega),zD h,show dgt l i=0 by unfold dgt;rw[qM h];rfl,qV,qN]
theorem jdi(l:List Int)(i:Nat):val l=val (l.take i)+1048576^i*val (l.drop i):=by
 rcases zX i l.length with h | h
 ·conv=>lhs;rw[<-jh i l]
  rw[jf5];have:(l.take i).length=i:=by rw[qa];omega
  rw[this]
 ·rw[zD h,zV h];simp[val]
theorem jd7(l:List Int)(i:Nat):val (l.drop i)=dgt l i+1048576*val (l.drop (i+1)):=by
 rcases zX i l.length with h | h
 ·rw[qr h,val];simp[dgt,h]
 ·rw[zV h,zV (by omega)];simp[val,dgt,qM h]
theorem jfo(a b:List Int):∀(n k:Nat),a.length+b.length<=k+n->(∀j,k<=j->dgt a j=dgt b j)->val (a.drop k)=val (b.drop k)
 | 0,k,h,_=>by rw[zV (by omega),zV (by omega)]
 | n+1,k,h,hj=>by
  rw[jd7 a,jd7 b,hj k (zB _),jfo a b n (k+1) (by omega) fun j h=>hj j (by omega)]
theorem jdl(i:Nat):(0:Int)<1048576^i:=Int.pow_pos (by omega)
theorem jdh{l:List Int}(h:OkD l)(i:Nat):val (l.take i)<1048576^i:=by
 have h1:=jdr (h.take i);have h2:(1048576:Int)^(l.take i).length<=1048576^i:=by
  have hl:(l.take i).length<=i:=by rw[qa];omega
  have h3:(1048576:Nat)^(l.take i).length<=1048576^i:=yc (by omega) hl;have h4:=vf.2 h3;rw[Int.natCast_pow,Int.natCast_pow]at h4;exact h4
 omega
theorem lt_at{a b:List Int}(ha:OkD a)(hb:OkD b)(i:Nat)(h:∀j,i<j->dgt a j=dgt b j)(hlt:dgt a i<dgt b i):val a<val b:=by
 have e:val (a.drop (i+1))=val (b.drop (i+1)):=jfo a b (a.length+b.length) (i+1) (by omega) fun j hj=>h j (by omega);have h1:=jdh ha i;have h2:=jay (hb.take i);have hp:=jdl i;rw[jdi a i,jdi b i,jd7 a i,jd7 b i,e];generalize val (b.drop (i+1))=v;generalize (1048576:Int)^i=p at*;have h3:p*(dgt a i+1048576*v)+p<=p*(dgt b i+1048576*v):=by
  have:p*(dgt a i+1048576*v)+p=p*(dgt a i+1+1048576*v):=by rw[qK,qK,qK];omega
  rw[this];exact qq (by omega) (by omega)
 omega
theorem jnn{a b:List Int}(h:∀j,dgt a j=dgt b j):val a=val b:=by
 have:=jfo a b (a.length+b.length) 0 (by omega) fun j _=>h j
 simpa using this
theorem dgt_take{l:List Int}{n j:Nat}(h:∀i,n<=i->dgt l i=0):dgt (l.take n) j=dgt l j:=by
 unfold dgt at*;rw[qf];split
 ·rfl
 ·rename_i hj;exact(h j (by omega)).symm
theorem jnf{l:List Int}(hl:OkD l){n:Nat}(hn:n<=l.length)(hz:∀i,n<=i->dgt l i=0)(hlast:n=0\/dgt l (n-1)≠0):l.take n=dig (val l).toNat:=by
 have hv:val (l.take n)=val l:=jnn fun j=>dgt_take hz;rw[<-hv];refine eq_dig (hl.take n) fun h=> ?_;rcases hlast with h0 | h0
 ·subst h0;simp at h
 ·have hlen:(l.take n).length=n:=by rw[qa];omega
  rw[y5,hlen]at h;have hn0:0<n:=by
   rcases yO n with e | e
   ·subst e;simp at h
   ·exact e
  rw[qf,zm (by omega)]at h;exact h0 (by simp[dgt,h])
end
section
theorem jja(d:Int):val [d]=d:=by
 show d+1048576*0=d;omega
theorem jnd(l:List Int)(d:Int):val (l++[d])=val l+1048576^l.length*d:=by rw[jf5,jja]
theorem jcq(i:Nat):(1048576:Int)^(i+1)=1048576^i*1048576:=Int.pow_succ ..
theorem jmn{out a b:List Int}{i:Nat}{c n d c':Int}(hlen:out.length=i)(h:val out-1048576^i*c=val (a.take i)-val (b.take i))(hn:n=dgt a i-dgt b i-c)(hd:d-1048576*c'=n):
  val (out++[d])-1048576^(i+1)*c'=val (a.take (i+1))-val (b.take (i+1)):=by
 rw[jnd,hlen,jc6,jc6,jcq];generalize (1048576:Int)^i=p at*;have e:p*d-p*1048576*c'=p*n:=by rw[qE,<-jn,hd]
 have e2:p*n=p*dgt a i-p*dgt b i-p*c:=by rw[hn,jn,jn]
 omega
theorem jbu{l:List Int}{i:Nat}(h:l.length<=i):val (l.take i)=val l:=by rw[zD h]
theorem jfe{l:List Int}(hl:OkD l){i:Nat}(h:val l<1048576^i):val (l.drop i)=0:=by
 have h1:=jdi l i;have h2:=jay (hl.take i);have h3:=jay (hl.drop i);have hp:=jdl i;rcases yC 0 (val (l.drop i))with h4 | h4
 ·have:1048576^i*1<=1048576^i*val (l.drop i):=qq (by omega) (by omega);omega
 ·omega
theorem jfv{l:List Int}(hl:OkD l){i:Nat}(h:val l<1048576^i):val (l.take i)=val l:=by
 have h1:=jdi l i;rw[jfe hl h,qV]at h1;omega
theorem jbg{n k:Nat}(h:(n:Int)<1048576^k):(dig n).length<=k:=by
 induction k generalizing n with
 | zero=>
  have:n=0:=by simp at h;omega
  subst this;rw[jbc];exact zB _
 | succ k ih=>
  by_cases hn:n=0
  ·subst hn;rw[jbc];exact zF _
  ·rw[jgp hn,List.length_cons];rw[jcq]at h;have:=ih (n:=n/1048576) (by omega);omega
end
end Go.Abs
namespace Go.Proofs.YtgncgpfjldefpaaGreat
section
open Go.Abs
attribute [local go_sem] ints ic
theorem jgz(l:List Int):∀c∈l.map ic,c.length=1:=fun c hc=>by
 obtain⟨z,_,rfl⟩:=qy.1 hc;rfl
theorem jmy(l:List Int):((l.map ic).all fun c=>c.length==1)=true:=by
 rw[List.all_eq_true];intro c hc;rw[yS];exact jgz l c hc
theorem jb7{l:List Int}{i:Nat}(h:(i:Int)<l.length):l[i]? =some (dgt l i):=by
 have h:i<l.length:=by omega
 unfold dgt;rw[ze h];rfl
theorem dgt_at{l:List Int}{i:Nat}{d:Int}(h:l[i]? =some d):dgt l i=d:=by simp[dgt,h]
theorem jdo{l:List Int}{i:Nat}(h:l.length<=i):dgt l i=0:=by simp[dgt,qM h]
theorem ji2(l:List Int)(i:Nat):Ctr G.P 166 [ints l,.int i] (· = .int (dgt l i)):=by
 by_cases hp:(i:Int)<l.length
 ·have hd:decide ((i:Int)<l.length)=true:=zk hp;have hx:l[i]? =some (dgt l i):=by
   have h:i<l.length:=by omega
   unfold dgt;rw[ze h];rfl
  generalize dgt l i=d at*;refine ja3 [.tmp 4] Tryz.func166 ?_;simp only[hd,zq,hx,go_sem]
 ·have hd:decide ((i:Int)<l.length)=false:=za hp;rw[jdo (by omega)];refine ja3 [.tmp 4] Tryz.func166 ?_;simp only[hd,go_sem]
theorem jmd(l:List Int)(hl:OkD l)(hlen:l.length<=1000000000000):Ctr G.P 146 [ints l] (· =ints (dig (val l).toNat)):=by
 refine ja3 [.tmp 2] Tryz.func146 ?_;simp only[go_sem];refine jaj [0,3] [] (fun n:Nat=>⟨[(0,.im (.sl (l.map ic))),(3,.im (.int n))],[],[]⟩) (fun n=>n<=l.length/\∀i,n<=i->dgt l i=0) (fun n=>n) l.length ?_ ⟨zB _,fun i hi=>jdo hi⟩ ?_
 ·simp only[go_sem]
 ·intro n ⟨hn,hz⟩;have fin:n=0\/dgt l (n-1)≠0->(l.map ic).take n=(dig (val l).toNat).map ic:=fun h=>by
   rw[<-vt,jnf hl hn hz h]
  have hnn:(n:Int)<=l.length:=by omega
  rcases n with _ | m
  ·have hd:decide ((0:Int)<((0:Nat):Int))=false:=by decide
   have hf:=fin (.inl rfl);rw[List.take_zero]at hf;have hg:dig (val l).toNat=[]:=ju.1 hf.symm;rw[hg];simp only[hd,Int.natCast_zero,vw,jmy,go_sem];exact⟨by simp,by simp⟩
  ·have hd:decide ((0:Int)<((m+1:Nat):Int))=true:=zk (by omega);have h1:=ja6 (n:=(m:Int)) (by omega);have h2:((m+1:Nat):Int)-1=m:=by omega
   have h3:((m+1:Nat):Int).toNat=m+1:=by omega
   have h4:(0:Int)<=((m+1:Nat):Int):=by omega
   obtain⟨d,hx⟩:∃d,l[m]? =some d:=⟨_,ze (by omega)⟩;have hdm:=dgt_at hx;simp only[hd,h1,h2,zq,hx,go_sem];refine jcz (fun hb hb'=> ?_) (fun hb hb'=> ?_)
   ·simp only[hd,h1,h2,go_sem];refine ja7 m ?_ (by omega) ⟨by omega,fun i hi=> ?_⟩
    ·simp only[h1,h2,go_sem]
    ·rcases zX m i with h | h
     ·exact hz i h
     ·rw[show i=m by omega,hdm];exact hb'
   ·have hf:=fin (.inr (by rw[vD,hdm];exact hb'));simp only[jmy,hnn,h3,h4,go_sem];refine⟨by simp,?_,?_,?_⟩
    ·rw[Nat.sub_zero,hf];exact jgz _
    ·rw[qa,zw];omega
    ·rw[Nat.sub_zero,hf]
end
end Go.Proofs.YtgncgpfjldefpaaGreat
namespace Go.Abs
section
theorem jgd:∀(l:List Int) (j:Nat) (v:Int),j<l.length->val (l.set j v)=val l+1048576^j*(v-dgt l j)
 | [],j,v,h=>by simp at h
 | d::l,0,v,_=>by
  have:dgt (d::l) 0=d:=rfl;rw[List.set_cons_zero,this,Int.pow_zero,yH];show v+1048576*val l=d+1048576*val l+(v-d);omega
 | d::l,j+1,v,h=>by
  have ih:=jgd l j v (by simpa using h);have hd:dgt (d::l) (j+1)=dgt l j:=by simp[dgt]
  rw[List.set_cons_succ,hd,jcq];show d+1048576*val (l.set j v)=d+1048576*val l+_;rw[ih,qK,qW (1048576^j) 1048576,qE];omega
theorem OkD.set{l:List Int}(h:OkD l){j:Nat}{v:Int}(hv:0<=v/\v<1048576):OkD (l.set j v):=fun x hx=>by
 rcases qZ hx with h1 | h1
 ·exact h x h1
 ·rw[h1];exact hv
theorem jit{x y:Int}(hx:0<=x/\x<1048576)(hy:0<=y/\y<1048576):0<=x*y/\x*y<=1048575*1048575:=
 ⟨qL hx.1 hy.1,j9 (by omega) (by omega) hy.1 (by omega)⟩
theorem jjc{out b:List Int}{j i k:Nat}{c n x V:Int}(hj:j=i+k)(hjl:j<out.length)(h:val out+1048576^j*c=V+1048576^i*(x*val (b.take k)))(hn:n=dgt out j+x*dgt b k+c):
  val (out.set j (n % 1048576))+1048576^(j+1)*(n/1048576)=V+1048576^i*(x*val (b.take (k+1))):=by
 rw[jgd out j _ hjl,jc6,jcq,qK x,qK];have e1:1048576^j*(n % 1048576-dgt out j)+1048576^j*1048576*(n/1048576)=1048576^j*(n-dgt out j):=by
  rw[qE,<-qK];congr 1;have:=qU n 1048576;omega
 have e2:1048576^j*(n-dgt out j)=1048576^j*c+1048576^j*(x*dgt b k):=by
  rw[<-qK];congr 1;omega
 have e3:(1048576:Int)^i*(x*(1048576^k*dgt b k))=1048576^j*(x*dgt b k):=by
  rw[hj,Int.pow_add,jO x,qE]
 rw[e3];omega
theorem times_last{a b:List Int}{i:Nat}{x W c':Int}(ha:OkD a)(hb:OkD b)(hx:0<=x/\x<1048576)(hW:0<=W)(hc:0<=c')
  (h:W+1048576^(i+b.length+1)*c'=val (a.take i)*val b+1048576^i*(x*val b)):c'=0:=by
 have h1:=jdh ha i;have h0:=jay (ha.take i);have h2:=jdr hb;have h3:=jay hb;have hp:=jdl i;have e1:val (a.take i)*val b<=(1048576^i-1)*val b:=qh (by omega) h3;have e2:x*val b<=1048575*val b:=qh (by omega) h3;have e3:1048576^i*(x*val b)<=1048576^i*(1048575*val b):=qq e2 (by omega);have e4:(1048576:Int)^i*val b<=1048576^i*(1048576^b.length-1):=qq (by omega) (by omega);have e5:(1048576:Int)^(i+b.length+1)=1048576^i*1048576^b.length*1048576:=by rw[jcq,Int.pow_add]
 rw[e5]at h;have e6:(1048576:Int)^i*(1048575*val b)=1048575*(1048576^i*val b):=by rw[jO]
 have e7:(1048576^i-1)*val b=1048576^i*val b-val b:=by rw[jL];omega
 have e8:(1048576:Int)^i*(1048576^b.length-1)=1048576^i*1048576^b.length-1048576^i:=by rw[jn];omega
 rcases yC 0 c' with h4 | h4
 ·have hq:0<(1048576:Int)^i*1048576^b.length*1048576:=Int.mul_pos (Int.mul_pos hp (jdl _)) (by omega);have:(1048576:Int)^i*1048576^b.length*1048576*1<=1048576^i*1048576^b.length*1048576*c':=qq (by omega) (by omega);generalize (1048576:Int)^i*1048576^b.length*1048576*c'=Z at*;generalize (1048576:Int)^i*1048576^b.length=q at*;generalize (1048576:Int)^i*val b=r at*;omega
 ·omega
theorem jdj(n:Nat):val (List.replicate n 0)=0:=by
 induction n with
 | zero=>rfl
 | succ n ih=>rw[List.replicate_succ];show 0+1048576*val (List.replicate n 0)=0;rw[ih];rfl
theorem OkD.replicate(n:Nat):OkD (List.replicate n 0):=fun x hx=>by rw[vj hx];omega
end
end Go.Abs
namespace Go.Proofs.YtgncgpfjldefpaaGreat
section
open Go.Abs
attribute [local go_sem] ints ic
theorem jfa(l:List Int)(hl:OkD l)(hlen:l.length<=1000000000000):Ctr G.P 141 [ints l] (· =ints (dig (val l).toNat)):=by
 refine ja3 [.tmp 2] Tryz.func141 ?_;simp only[go_sem];refine jaj [0,3] [] (fun n:Nat=>⟨[(0,.im (.sl (l.map ic))),(3,.im (.int n))],[],[]⟩) (fun n=>n<=l.length/\∀i,n<=i->dgt l i=0) (fun n=>n) l.length ?_ ⟨zB _,fun i hi=>jdo hi⟩ ?_
 ·simp only[go_sem]
 ·intro n ⟨hn,hz⟩;have fin:n=0\/dgt l (n-1)≠0->(l.map ic).take n=(dig (val l).toNat).map ic:=fun h=>by
   rw[<-vt,jnf hl hn hz h]
  have hnn:(n:Int)<=l.length:=by omega
  rcases n with _ | m
  ·have hd:decide ((0:Int)<((0:Nat):Int))=false:=by decide
   have hf:=fin (.inl rfl);rw[List.take_zero]at hf;have hg:dig (val l).toNat=[]:=ju.1 hf.symm;rw[hg];simp only[hd,Int.natCast_zero,vw,jmy,go_sem]
  ·have hd:decide ((0:Int)<((m+1:Nat):Int))=true:=zk (by omega);have h1:=ja6 (n:=(m:Int)) (by omega);have h2:((m+1:Nat):Int)-1=m:=by omega
   have h3:((m+1:Nat):Int).toNat=m+1:=by omega
   have h4:(0:Int)<=((m+1:Nat):Int):=by omega
   obtain⟨d,hx⟩:∃d,l[m]? =some d:=⟨_,ze (by omega)⟩;have hdm:=dgt_at hx;simp only[hd,h1,h2,zq,hx,go_sem];refine jcz (fun hb hb'=> ?_) (fun hb hb'=> ?_)
   ·simp only[hd,h1,h2,hb,go_sem];refine ja7 m ?_ (by omega) ⟨by omega,fun i hi=> ?_⟩
    ·simp only[h1,h2,go_sem]
    ·rcases zX m i with h | h
     ·exact hz i h
     ·rw[show i=m by omega,hdm];exact hb'
   ·have hf:=fin (.inr (by rw[vD,hdm];exact hb'));simp only[jmy,hnn,h3,h4,hb,hf,Nat.sub_zero,go_sem]
theorem t_ptrimO(l:List Int)(hl:OkD l)(hlen:l.length<=1000000000000):CtrM G.P 141 [.gsl 900 3 1 l.length] [(900,1,l.map ic)] (fun r Es new=>r= .gsl 900 3 1 (dig (val l).toNat).length/\Es=[l.map ic]/\new=none):=by
 refine job good _ _ [.tmp 2] Tryz.func141 rfl rfl (by decide+kernel) rfl rfl (by simp) ?_;simp only[go_sem];refine jaj [0,3] [900] (fun n:Nat=>⟨[(0,.gsl 900 3 1 l.length),(3,.im (.int n))],[(900,1,l.map ic)],[]⟩) (fun n=>n<=l.length/\∀i,n<=i->dgt l i=0) (fun n=>n) l.length ?_ ⟨zB _,fun i hi=>jdo hi⟩ ?_
 ·simp only[go_sem]
 ·intro n ⟨hn,hz⟩;have fin:n=0\/dgt l (n-1)≠0->(dig (val l).toNat).length=n:=fun h=>by
   rw[<-jnf hl hn hz h,qa];omega
  have hnn:(n:Int)<=l.length:=by omega
  rcases n with _ | m
  ·have hd:decide ((0:Int)<((0:Nat):Int))=false:=by decide
   have hf:=fin (.inl rfl);rw[hf];simp only[hd,Int.natCast_zero,vw,jmy,yj,Int.toNat_zero,j5,go_sem]
  ·have hd:decide ((0:Int)<((m+1:Nat):Int))=true:=zk (by omega);have h1:=ja6 (n:=(m:Int)) (by omega);have h2:((m+1:Nat):Int)-1=m:=by omega
   have h3:((m+1:Nat):Int).toNat=m+1:=by omega
   have h4:(0:Int)<=((m+1:Nat):Int):=by omega
   have h5:(m:Int)<l.length:=by omega
   obtain⟨d,hx⟩:∃d,l[m]? =some d:=⟨_,ze (by omega)⟩;have hdm:=dgt_at hx;simp only[hd,h1,h2,h5,zq,hx,go_sem];refine jcz (fun hb hb'=> ?_) (fun hb hb'=> ?_)
   ·simp only[hd,h1,h2,hb,go_sem];refine ja7 m ?_ (by omega) ⟨by omega,fun i hi=> ?_⟩
    ·simp only[h1,h2,go_sem]
    ·rcases zX m i with h | h
     ·exact hz i h
     ·rw[show i=m by omega,hdm];exact hb'
   ·have hf:=fin (.inr (by rw[vD,hdm];exact hb'));rw[hf];simp only[jmy,hnn,h3,h4,hb,Nat.sub_zero,j5,go_sem]
theorem ji3(l:List Int)(hlen:l.length<=1000000000000):Ctr G.P 69 [ints l] (· =ints l):=by
 refine ja3 [.tmp 2] Tryz.func69 ?_;simp only[go_sem];refine jol (fun h=> ?_) ?_
 ·have:l=[]:=ju.1 h;subst this;simp only[zC,go_sem]
 ·simp only[go_sem];exact⟨by simp,jgz l,by omega⟩
theorem t_cloneO(l:List Int)(hne:l≠[])(hlen:l.length<=1000000000000):CtrM G.P 69 [.im (ints l)] [] (fun r Es new=>r= .gsl 901 3 1 l.length/\Es=[]/\new=some (1,l.map ic)):=by
 have hne':l.map ic≠[]:=fun h=>hne (ju.1 h);refine job goodO _ _ [.tmp 2] Tryz.func69 rfl rfl (by decide+kernel) rfl rfl (by simp) ?_;simp only[go_sem];refine jol (fun h=>absurd h hne') ?_;simp only[hne',go_sem];exact⟨jgz l,by omega⟩
