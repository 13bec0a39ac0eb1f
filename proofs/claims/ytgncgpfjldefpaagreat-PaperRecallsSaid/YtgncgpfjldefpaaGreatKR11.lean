/- A part of the proof. No further condition. -/
import Derived.Test.YtgncgpfjldefpaaGreatKR10
set_option linter.all false
set_option maxRecDepth 10000000
set_option maxHeartbeats 16000000
namespace Go.Proofs.YtgncgpfjldefpaaGreat
section
open Go.Abs
attribute [local go_sem] Evid.iv Evid.c Place.c Move.c Cert.c Recall.c Purity.c Sample.c Recipe.c ints ic
theorem jci{α:Type}{l:List α}{f:α->Bool}{i:Nat}{x:α}(h:l[i]? =some x):(l.take (i+1)).any f=((l.take i).any f || f x):=by
 rw[take_succ h,List.any_append];simp
theorem jjv{α:Type}{l:List α}{f:α->Bool}{i:Nat}{x:α}(h:l[i]? =some x)(hf:f x=true):l.any f=true:=
 jy.2 ⟨x,zl h,hf⟩
theorem c52(l:List Int)(hl:l.length<=100000)(p:Int->Bool)(g:Nat)(caps:List IV)(hg:3<=g/\g<G.fns)(hc:∀n:Int,Ctr G.P g (.int n::caps) (· = .bool (p n))):
  Ctr G.P 100 [ints l,.clo g caps] (fun r=>∃k:Int,r= .int k/\decide (0<=k)=l.any p):=by
 refine ja4 [.tmp 4] Tryz.func100 ?_;unfold ints;simp only[go_sem];refine jao [0,1,7,8] [] (fun i:Nat=>⟨[(0,.im (.sl (l.map ic))),(1,.im (.clo g caps)),(7,.im (.int l.length)),(8,.im (.int i))],[],[]⟩)
  (fun i=>i<=l.length/\(l.take i).any p=false) (fun i=>l.length-i) 0 ?_ ⟨zG _,rfl⟩ ?_
 ·simp only[Int.natCast_zero,go_sem]
 ·intro i ⟨hi,ha⟩;by_cases hp:(i:Int)<l.length
  ·have hd:decide ((i:Int)<l.length)=true:=zk hp;obtain⟨x,hx⟩:=jbq hp;have h1:=ja9 (n:=(i:Int)+1) (by omega);simp only[hd,zq,hx,ic,go_sem];refine jbp (hc x) hg ?_;simp only[go_sem];refine jcm (fun he=> ?_) (fun he=> ?_)
   ·simp only[he,go_sem];exact⟨i,rfl,by rw[jjv hx he];simp⟩
   ·simp only[he,go_sem];refine jad (i+1) ?_ (by omega) ⟨by omega,by rw[jci hx,ha,he];rfl⟩;simp only[h1,Int.natCast_add,go_sem]
  ·have hd:decide ((i:Int)<l.length)=false:=za hp;rw[zD (by omega)]at ha;simp only[hd,go_sem];exact⟨-1,rfl,by rw[ha];rfl⟩
theorem c26(l:List Int)(hl:l.length<=100000)(p:Int->Bool)(g:Nat)(caps:List IV)(hg:3<=g/\g<G.fns)(hc:∀n:Int,Ctr G.P g (.int n::caps) (· = .bool (p n))):
  Ctr G.P 70 [ints l,.clo g caps] (· = .bool (l.any p)):=by
 have h:=c52 l hl p g caps hg hc;refine ja4 [.tmp 4] Tryz.func70 ?_;simp only[go_sem];refine jdf h ?_;rintro r ⟨k,rfl,hk⟩;rw[<-hk];simp only[go_sem]
end
section
open Go.Abs
attribute [local go_sem] ints ic Bat.c Pap.c Led.c
theorem pb_in(n lo hi:Int):Ctr G.P 30 [.int n,.int lo,.int hi] (· = .bool (btw n lo hi)):=by
 unfold btw;refine ja4 [.tmp 6] Tryz.func30 ?_;simp only[go_sem]
 repeat' (refine jde (fun hd hp=> ?_) (fun hd hp=> ?_)<;>simp only[hd,go_sem])
theorem jow(l:List Int)(n:Int)(hl:l.length<=100000):Ctr G.P 31 [ints l,.int n] (· = .bool (riseF l n)):=by
 refine ja4 [.tmp 4] Tryz.func31 ?_;unfold ints riseF;simp only[go_sem];refine jao [0,1,5,8,9,10] [] (fun g:Nat×Int=>⟨[(0,.im (.sl (l.map ic))),(1,.im (.int n)),(5,.im (.int g.2)),(8,.im (.sl (l.map ic))),(9,.im (.int l.length)),(10,.im (.int g.1))],[],[]⟩)
  (fun g=>g.1<=l.length/\jjm n (-1) l=jjm n g.2 (l.drop g.1)) (fun g=>l.length-g.1) (0,-1) ?_ ⟨zG _,rfl⟩ ?_
 ·simp only[zh,Int.natCast_zero,go_sem]
 intro⟨i,last⟩ ⟨hi,ha⟩;dsimp only at hi ha;by_cases hp:(i:Int)<l.length
 ·have hd:decide ((i:Int)<l.length)=true:=zk hp;obtain⟨x,hx⟩:=jbq hp;have h1:=ja9 (n:=(i:Int)+1) (by omega);rw[jh7 hx,jjm]at ha;rcases d1:decide (x<=last)with _ | _
  ·have e1:decide (last<x)=true:=zk (by have:=zK d1;omega);rcases d2:decide (n<=x)with _ | _
   ·have e2:decide (x<n)=true:=zk (by have:=zK d2;omega);rw[e1,e2,qx,qx]at ha;simp only[hd,d1,d2,zq,hx,ic,go_sem];refine jad (i+1,x) ?_ ?_ ⟨?_,ha⟩
    ·simp only[h1,Int.natCast_add,go_sem]
    ·show l.length-(i+1)<l.length-i;omega
    ·show i+1<=l.length;omega
   ·have e2:decide (x<n)=false:=za (by have:=zJ d2;omega);rw[e1,e2,qx,qa]at ha;simp only[hd,d1,d2,zq,hx,ic,ha,qa,go_sem]
  ·have e1:decide (last<x)=false:=za (by have:=zJ d1;omega);rw[e1,qa]at ha;simp only[hd,d1,zq,hx,ic,ha,qa,go_sem]
 ·have hd:decide ((i:Int)<l.length)=false:=za hp;rw[zY (by omega),jjm]at ha;have e1:decide ((0:Int)<(l.length:Int))=decide (0<l.length):=yy.2 (by omega);rw[ha,qx];simp only[hd,zh,e1,go_sem]
theorem pb_index(l:List Int)(v:Int)(hl:l.length<=100000):Ctr G.P 101 [ints l,.int v] (fun r=>∃k:Int,r= .int k/\decide (0<=k)=l.contains v):=by
 refine ja4 [.tmp 4] Tryz.func101 ?_;unfold ints;simp only[go_sem];refine jao [0,1,7,8] [] (fun i:Nat=>⟨[(0,.im (.sl (l.map ic))),(1,.im (.int v)),(7,.im (.int l.length)),(8,.im (.int i))],[],[]⟩)
  (fun i=>i<=l.length/\(l.take i).any (fun x=>decide (v=x))=false) (fun i=>l.length-i) 0 ?_ ⟨zG _,rfl⟩ ?_
 ·simp only[zh,Int.natCast_zero,go_sem]
 have hc:l.contains v=l.any (fun x=>decide (v=x)):=by
  rw[List.contains_eq_any_beq];congr 1
 rw[hc];intro i ⟨hi,ha⟩;by_cases hp:(i:Int)<l.length
 ·have hd:decide ((i:Int)<l.length)=true:=zk hp;obtain⟨x,hx⟩:=jbq hp;have h1:=ja9 (n:=(i:Int)+1) (by omega);rcases he:decide (v=x)with _ | _
  ·simp only[hd,zq,hx,ic,he,go_sem];refine jad (i+1) ?_ (by omega) ⟨by omega,by rw[jci hx,ha,he];rfl⟩;simp only[h1,Int.natCast_add,go_sem]
  ·simp only[hd,zq,hx,ic,he,go_sem];exact⟨i,rfl,by rw[jjv hx he];simp⟩
 ·have hd:decide ((i:Int)<l.length)=false:=za hp;rw[zD (by omega)]at ha;simp only[hd,go_sem];exact⟨-1,rfl,by rw[ha];rfl⟩
theorem pb_contains(l:List Int)(v:Int)(hl:l.length<=100000):Ctr G.P 72 [ints l,.int v] (· = .bool (l.contains v)):=by
 have h:=pb_index l v hl;refine ja4 [.tmp 4] Tryz.func72 ?_;simp only[go_sem];refine jdf h ?_;rintro r ⟨k,rfl,hk⟩;rw[<-hk];simp only[go_sem]
theorem pb_over1(b:Bat)(i:Int)(hb:b.mv.length<=100000):Ctr G.P 71 [.int i,.ip b.c 0] (· = .bool (b.mv.contains i)):=by
 have h:=pb_contains b.mv i hb;unfold ints at h;refine ja4 [.tmp 3] Tryz.func71 ?_;simp only[go_sem];refine ja1 h ?_;simp only[go_sem]
theorem jm9(a b:Bat)(ha:a.mv.length<=100000)(hb:b.mv.length<=100000):Ctr G.P 34 [.agg a.c,.agg b.c] (· = .bool (overF a b)):=by
 have h:=c26 a.mv ha (fun i=>b.mv.contains i) 71 [.ip b.c 0] (by decide) (fun i=>pb_over1 b i hb);unfold ints overF at*;rcases hm:decide (a.mat=b.mat)with _ | _
 ·refine ja4 [.tmp 4] Tryz.func34 ?_;simp only[hm,qa,go_sem]
 ·refine ja4 [.tmp 4] Tryz.func34 ?_;simp only[hm,go_sem];refine ja1 h ?_;simp only[qx,go_sem]
theorem pb_live(x:Pap):Ctr G.P 37 [.agg x.c] (· = .bool x.live):=by
 unfold Pap.live;rcases h1:x.ret with _ | _<;>rcases h2:x.gone with _ | _
 all_goals
  refine ja4 [.tmp 2] Tryz.func37 ?_;simp only[h1,h2,go_sem]
end
section
open Go.Abs
attribute [local go_sem] ints ic Bat.c Pap.c Led.c
theorem pb_ibat(l:List Bat)(hl:l.length<=100000)(p:Bat->Bool)(g:Nat)(caps:List IV)(hg:3<=g/\g<G.fns)(hc:∀x∈l,Ctr G.P g (.agg x.c::caps) (· = .bool (p x))):
  Ctr G.P 65 [.sl (l.map Bat.c),.clo g caps] (fun r=>∃k:Int,r= .int k/\decide (0<=k)=l.any p):=by
 refine ja4 [.tmp 4] Tryz.func65 ?_;simp only[go_sem];refine jao [0,1,7,8] [] (fun i:Nat=>⟨[(0,.im (.sl (l.map Bat.c))),(1,.im (.clo g caps)),(7,.im (.int l.length)),(8,.im (.int i))],[],[]⟩)
  (fun i=>i<=l.length/\(l.take i).any p=false) (fun i=>l.length-i) 0 ?_ ⟨zG _,rfl⟩ ?_
 ·simp only[Int.natCast_zero,zh,go_sem]
 ·intro i ⟨hi,ha⟩;by_cases hp:(i:Int)<l.length
  ·have hd:decide ((i:Int)<l.length)=true:=zk hp;obtain⟨x,hx⟩:=jbq hp;have h1:=ja9 (n:=(i:Int)+1) (by omega);have hcx:=hc x (zl hx);simp only[Bat.c,ints]at hcx;simp only[hd,zq,hx,go_sem];refine jbp hcx hg ?_;simp only[go_sem];refine jcm (fun he=> ?_) (fun he=> ?_)
   ·simp only[he,go_sem];exact⟨i,rfl,by rw[jjv hx he];simp⟩
   ·simp only[he,go_sem];refine jad (i+1) ?_ (by omega) ⟨by omega,by rw[jci hx,ha,he];rfl⟩;simp only[h1,Int.natCast_add,go_sem]
  ·have hd:decide ((i:Int)<l.length)=false:=za hp;rw[zD (by omega)]at ha;simp only[hd,go_sem];exact⟨-1,rfl,by rw[ha];rfl⟩
theorem pb_cbat(l:List Bat)(hl:l.length<=100000)(p:Bat->Bool)(g:Nat)(caps:List IV)(hg:3<=g/\g<G.fns)(hc:∀x∈l,Ctr G.P g (.agg x.c::caps) (· = .bool (p x))):
  Ctr G.P 32 [.sl (l.map Bat.c),.clo g caps] (· = .bool (l.any p)):=by
 have h:=pb_ibat l hl p g caps hg hc;refine ja4 [.tmp 4] Tryz.func32 ?_;simp only[go_sem];refine jdf h ?_;rintro r ⟨k,rfl,hk⟩;rw[<-hk];simp only[go_sem]
theorem pb_ipap(l:List Pap)(hl:l.length<=100000)(p:Pap->Bool)(g:Nat)(caps:List IV)(hg:3<=g/\g<G.fns)(hc:∀x∈l,Ctr G.P g (.agg x.c::caps) (· = .bool (p x))):
  Ctr G.P 73 [.sl (l.map Pap.c),.clo g caps] (fun r=>∃k:Int,r= .int k/\decide (0<=k)=l.any p):=by
 refine ja4 [.tmp 4] Tryz.func73 ?_;simp only[go_sem];refine jao [0,1,7,8] [] (fun i:Nat=>⟨[(0,.im (.sl (l.map Pap.c))),(1,.im (.clo g caps)),(7,.im (.int l.length)),(8,.im (.int i))],[],[]⟩)
  (fun i=>i<=l.length/\(l.take i).any p=false) (fun i=>l.length-i) 0 ?_ ⟨zG _,rfl⟩ ?_
 ·simp only[Int.natCast_zero,zh,go_sem]
 ·intro i ⟨hi,ha⟩;by_cases hp:(i:Int)<l.length
  ·have hd:decide ((i:Int)<l.length)=true:=zk hp;obtain⟨x,hx⟩:=jbq hp;have h1:=ja9 (n:=(i:Int)+1) (by omega);have hcx:=hc x (zl hx);simp only[Pap.c]at hcx;simp only[hd,zq,hx,go_sem];refine jbp hcx hg ?_;simp only[go_sem];refine jcm (fun he=> ?_) (fun he=> ?_)
   ·simp only[he,go_sem];exact⟨i,rfl,by rw[jjv hx he];simp⟩
   ·simp only[he,go_sem];refine jad (i+1) ?_ (by omega) ⟨by omega,by rw[jci hx,ha,he];rfl⟩;simp only[h1,Int.natCast_add,go_sem]
  ·have hd:decide ((i:Int)<l.length)=false:=za hp;rw[zD (by omega)]at ha;simp only[hd,go_sem];exact⟨-1,rfl,by rw[ha];rfl⟩
theorem pb_cpap(l:List Pap)(hl:l.length<=100000)(p:Pap->Bool)(g:Nat)(caps:List IV)(hg:3<=g/\g<G.fns)(hc:∀x∈l,Ctr G.P g (.agg x.c::caps) (· = .bool (p x))):
  Ctr G.P 35 [.sl (l.map Pap.c),.clo g caps] (· = .bool (l.any p)):=by
 have h:=pb_ipap l hl p g caps hg hc;refine ja4 [.tmp 4] Tryz.func35 ?_;simp only[go_sem];refine jdf h ?_;rintro r ⟨k,rfl,hk⟩;rw[<-hk];simp only[go_sem]
theorem pb_right1(a b:Bat)(ha:a.mv.length<=100000)(hb:b.mv.length<=100000):Ctr G.P 33 [.agg a.c,.ip b.c 0] (· = .bool (overF a b)):=by
 have h:=jm9 a b ha hb;simp only[Bat.c,ints]at h;refine ja4 [.tmp 3] Tryz.func33 ?_;simp only[go_sem];refine ja1 h ?_;simp only[go_sem]
theorem pb_right2(x:Pap)(p:Led)(hl:p.bs.length<=100000):Ctr G.P 36 [.agg x.c,.ip p.c 0] (· = .bool (!papOk p.bs.length x)):=by
 have k1:=pb_in x.bat 0 ((p.bs.length:Int)-1);have k2:=pb_in x.grams 1 1099511627776;have k3:=pb_in x.own 0 999;have w1:=ja9 (n:=(p.bs.length:Int)-1) (by omega);unfold papOk;rcases h1:btw x.bat 0 ((p.bs.length:Int)-1)with _ | _
 ·rw[h1]at k1;refine ja4 [.tmp 3] Tryz.func36 ?_;simp only[zh,w1,go_sem];refine ja1 k1 ?_;simp only[go_sem]
 rw[h1]at k1;rcases h2:btw x.grams 1 1099511627776 with _ | _
 ·rw[h2]at k2;refine ja4 [.tmp 3] Tryz.func36 ?_;simp only[zh,w1,go_sem];refine ja1 k1 ?_;simp only[go_sem];refine ja1 k2 ?_;simp only[go_sem]
 rw[h2]at k2;rcases h3:btw x.own 0 999 with _ | _
 ·rw[h3]at k3;refine ja4 [.tmp 3] Tryz.func36 ?_;simp only[zh,w1,go_sem];refine ja1 k1 ?_;simp only[go_sem];refine ja1 k2 ?_;simp only[go_sem];refine ja1 k3 ?_;simp only[go_sem]
 rw[h3]at k3;rcases h4:x.ret with _ | _<;>rcases h5:x.gone with _ | _
 all_goals
  refine ja4 [.tmp 3] Tryz.func36 ?_;simp only[zh,w1,go_sem];refine ja1 k1 ?_;simp only[go_sem];refine ja1 k2 ?_;simp only[go_sem];refine ja1 k3 ?_;simp only[h4,h5,go_sem]
end
section
open Go.Abs
attribute [local go_sem] ints ic Bat.c Pap.c Led.c
def jgw(p:Led):Prop:=∀b∈p.bs,b.mv.length<=100000
theorem jfe(p:Led)(hmv:jgw p):Ctr G.P 10 [.agg p.c] (· = .bool (jbv p)):=by
 rcases d1:decide (40<(p.bs.length:Int))with _ | _
 case true=>
  have hr:jbv p=false:=by unfold jbv;rw[za (by have:=zJ d1;omega),qa]
  rw[hr];refine ja4 [.tmp 2] Tryz.func10 ?_;simp only[zh,d1,go_sem]
 rcases d2:decide (300<(p.ps.length:Int))with _ | _
 case true=>
  have hr:jbv p=false:=by unfold jbv;rw[za (p:=p.ps.length<=300) (by have:=zJ d2;omega),qa,yP]
  rw[hr];refine ja4 [.tmp 2] Tryz.func10 ?_;simp only[zh,d1,d2,go_sem]
 have b1:=zK d1;have b2:=zK d2;have hr:jbv p=(jju [] p.bs&&p.ps.all (papOk p.bs.length)):=by
  unfold jbv;rw[zk (by omega),zk (p:=p.ps.length<=300) (by omega),qx,qx]
 have hall:(p.bs.map Bat.c).all (fun c=>c.length==2)=true:=List.all_eq_true.2 fun c hc=>by
  obtain⟨z,_,rfl⟩:=qd.1 hc;rfl
 have k4:=pb_cpap p.ps (by omega) (fun x=> !papOk p.bs.length x) 36 [.ip p.c 0] (by decide) (fun x _=>pb_right2 x p (by omega));have h4:(!(p.ps.any fun x=> !papOk p.bs.length x))=p.ps.all (papOk p.bs.length):=by rw[List.all_eq_not_any_not]
 rw[hr,<-h4];clear hr h4;generalize (p.ps.any fun x=> !papOk p.bs.length x)=pp at*;simp only[Led.c]at k4;refine ja4 [.tmp 2] Tryz.func10 ?_;simp only[zh,d1,d2,go_sem];refine jao [1,16,17,18] [1] (fun i:Nat=>⟨[(1,.loc 1 2 0 0),(16,.im (.sl (p.bs.map Bat.c))),(17,.im (.int p.bs.length)),(18,.im (.int i))],[(1,2,[p.c])],[]⟩)
  (fun i=>i<=p.bs.length/\jju [] p.bs=jju (p.bs.take i) (p.bs.drop i)) (fun i=>p.bs.length-i) 0 ?_ ⟨zG _,rfl⟩ ?_
 ·simp only[Int.natCast_zero,zh,go_sem]
 intro i ⟨hi,ha⟩;by_cases hp:(i:Int)<p.bs.length
 ·have hd:decide ((i:Int)<p.bs.length)=true:=zk hp;obtain⟨x,hx⟩:=jbq hp;have h1:=ja9 (n:=(i:Int)+1) (by omega);have hxm:=hmv x (zl hx);have k1:=pb_in x.mat 0 5;have k2:=jow x.mv 200 hxm;have k3:=pb_cbat (p.bs.take i) (by rw[qe];omega) (fun a=>overF a x) 33 [.ip x.c 0] (by decide) (fun a ha=>pb_right1 a x (hmv a (qP ha)) hxm);have htk:(p.bs.map Bat.c).take i=(p.bs.take i).map Bat.c:=List.map_take.symm;have hi0:(0:Int)<=(i:Int):=by omega
  have hin:(i:Int)<=(p.bs.length:Int):=by omega
  rw[jh7 hx,jju,batOk,<-take_succ hx]at ha;simp only[Bat.c,ints]at k2 k3 hall htk;rcases e1:btw x.mat 0 5 with _ | _
  ·rw[e1,qa,qa]at ha;rw[e1]at k1;simp only[hd,zq,hx,go_sem];refine ja1 k1 ?_;simp only[ha,qa,go_sem]
  rw[e1,qx]at ha;rw[e1]at k1;rcases e2:riseF x.mv 200 with _ | _
  ·rw[e2,qa,qa]at ha;rw[e2]at k2;simp only[hd,zq,hx,go_sem];refine ja1 k1 ?_;simp only[go_sem];refine ja1 k2 ?_;simp only[ha,qa,go_sem]
  rw[e2,qx]at ha;rw[e2]at k2;rcases e3:(p.bs.take i).any (fun a=>overF a x)with _ | _
  ·rw[e3,Bool.not_false,qx]at ha;rw[e3]at k3;simp only[hd,zq,hx,go_sem];refine ja1 k1 ?_;simp only[go_sem];refine ja1 k2 ?_;simp only[hi0,hin,hall,htk,Nat.sub_zero,zh,go_sem];refine ja1 k3 ?_;simp only[go_sem];refine jad (i+1) ?_ (by omega) ⟨by omega,ha⟩;simp only[h1,Int.natCast_add,go_sem]
  ·rw[e3,js,qa]at ha;rw[e3]at k3;simp only[hd,zq,hx,go_sem];refine ja1 k1 ?_;simp only[go_sem];refine ja1 k2 ?_;simp only[hi0,hin,hall,htk,Nat.sub_zero,zh,go_sem];refine ja1 k3 ?_;simp only[ha,qa,go_sem]
 ·have hd:decide ((i:Int)<p.bs.length)=false:=za hp;rw[zY (by omega),jju]at ha;rw[ha];simp only[hd,go_sem];refine ja1 k4 ?_;simp only[qx,go_sem]
end
section
open Go.Abs
attribute [local go_sem] ints ic Bat.c Pap.c Led.c
theorem jk1(p:Led)(k:Int)(hmv:jgw p):Ctr G.P 29 [.agg p.c,.int k] (· = .int (totF p k)):=by
 have kR:=jfe p hmv;rcases hr:jbv p with _ | _
 ·have ht:totF p k=0:=by unfold totF;rw[hr,zp (by decide)]
  rw[ht];rw[hr]at kR;refine ja4 [.tmp 4] Tryz.func29 ?_;simp only[go_sem];refine ja1 kR ?_;simp only[go_sem]
 ·have hin:=jqu hr;have hlen:=(jcd hr).2.1;rw[tot_eq hr];rw[hr]at kR;refine ja4 [.tmp 4] Tryz.func29 ?_;simp only[go_sem];refine ja1 kR ?_;simp only[go_sem];refine jao [1,5,12,13,14] [] (fun g:Nat×Int=>⟨[(1,.im (.int k)),(5,.im (.int g.2)),(12,.im (.sl (p.ps.map Pap.c))),(13,.im (.int p.ps.length)),(14,.im (.int g.1))],[],[]⟩)
   (fun g=>g.1<=p.ps.length/\sumG (tk k) p.ps=g.2+sumG (tk k) (p.ps.drop g.1)/\0<=g.2/\g.2<=1099511627776*g.1) (fun g=>p.ps.length-g.1) (0,0) ?_ ⟨zG _,by simp,by simp,by simp⟩ ?_
  ·simp only[zh,Int.natCast_zero,go_sem]
  intro⟨i,acc⟩ ⟨hi,ha,hb,hc⟩;dsimp only at hi ha hb hc;by_cases hp:(i:Int)<p.ps.length
  ·have hd:decide ((i:Int)<p.ps.length)=true:=zk hp;obtain⟨x,hx⟩:=jbq hp;have h1:=ja9 (n:=(i:Int)+1) (by omega);obtain⟨_,_,x1,x2⟩:=hin x (zl hx);have h2:=ja9 (n:=acc+x.grams) (by omega);rw[jh7 hx,sumG]at ha;rcases e1:decide (x.bat=k)with _ | _
   ·rw[show tk k x=false by simp[tk,e1],zp (by decide),yY]at ha;simp only[hd,e1,zq,hx,go_sem];refine jad (i+1,acc) ?_ ?_ ⟨?_,ha,hb,?_⟩
    ·simp only[h1,Int.natCast_add,go_sem]
    ·show p.ps.length-(i+1)<p.ps.length-i;omega
    ·show i+1<=p.ps.length;omega
    ·show acc<=1099511627776*((i+1:Nat):Int);omega
   ·rcases e2:x.gone with _ | _
    ·rw[show tk k x=true by simp[tk,e1,e2],zn rfl]at ha;simp only[hd,e1,e2,zq,hx,go_sem];refine jad (i+1,acc+x.grams) ?_ ?_ ⟨?_,by rw[ha];simp only[Int.add_assoc],?_,?_⟩
     ·simp only[h1,h2,Int.natCast_add,go_sem]
     ·show p.ps.length-(i+1)<p.ps.length-i;omega
     ·show i+1<=p.ps.length;omega
     ·show 0<=acc+x.grams;omega
     ·show acc+x.grams<=1099511627776*((i+1:Nat):Int);omega
    ·rw[show tk k x=false by simp[tk,e2],zp (by decide),yY]at ha;simp only[hd,e1,e2,zq,hx,go_sem];refine jad (i+1,acc) ?_ ?_ ⟨?_,ha,hb,?_⟩
     ·simp only[h1,Int.natCast_add,go_sem]
     ·show p.ps.length-(i+1)<p.ps.length-i;omega
     ·show i+1<=p.ps.length;omega
     ·show acc<=1099511627776*((i+1:Nat):Int);omega
  ·have hd:decide ((i:Int)<p.ps.length)=false:=za hp;rw[zY (by omega),sumG,yw]at ha;simp only[hd,ha,go_sem]
end
section
open Go.Abs
attribute [local go_sem] ints ic Bat.c Pap.c Led.c
def bl(b:Bool):List IV:=[.bool b]
theorem jqz(l m:List Bool)(hl:l.length<=100000):Ctr G.P 28 [.sl (l.map bl),.sl (m.map bl)] (· = .bool (decide (l=m))):=by
 refine ja4 [.tmp 4] Tryz.func28 ?_;rcases d0:decide ((l.length:Int)=(m.length:Int))with _ | _
 ·have hne:decide (l=m)=false:=za fun e=>by subst e;simp at d0
  rw[hne];simp only[zh,d0,go_sem]
 have hlm:l.length=m.length:=by have:=zJ d0;omega
 simp only[zh,d0,go_sem];refine jao [0,1,5] [] (fun i:Nat=>⟨[(0,.im (.sl (l.map bl))),(1,.im (.sl (m.map bl))),(5,.im (.int i))],[],[]⟩)
  (fun i=>i<=l.length/\l.take i=m.take i) (fun i=>l.length-i) 0 ?_ ⟨zG _,rfl⟩ ?_
 ·simp only[Int.natCast_zero,go_sem]
 intro i ⟨hi,ha⟩;by_cases hp:(i:Int)<l.length
 ·have hd:decide ((i:Int)<l.length)=true:=zk hp;obtain⟨x,hx⟩:=jbq hp;obtain⟨y,hy⟩:=jbq (l:=m) (i:=i) (by omega);have h1:=ja9 (n:=(i:Int)+1) (by omega);by_cases e:x=y
  ·subst e;simp only[hd,zh,go_sem];refine jai 9 ?_;cases x
   ·simp only[zq,hx,hy,bl,go_sem];refine jad (i+1) ?_ (by omega) ⟨by omega,by rw[take_succ hx,take_succ hy,ha]⟩;simp only[h1,Int.natCast_add,go_sem]
   ·simp only[zq,hx,hy,bl,go_sem];refine jad (i+1) ?_ (by omega) ⟨by omega,by rw[take_succ hx,take_succ hy,ha]⟩;simp only[h1,Int.natCast_add,go_sem]
  ·have hne:decide (l=m)=false:=za fun h=>by subst h;rw[hx]at hy;cases hy;exact e rfl
   rw[hne];simp only[hd,zh,go_sem];refine jai 9 ?_;cases x<;>cases y
   ·exact absurd rfl e
   ·simp only[zq,hx,hy,bl,go_sem]
   ·simp only[zq,hx,hy,bl,go_sem]
   ·exact absurd rfl e
 ·have hd:decide ((i:Int)<l.length)=false:=za hp;rw[zD (by omega),zD (by omega)]at ha;rw[zk ha];simp only[hd,zh,go_sem]
end
section
open Go.Abs
attribute [local go_sem] ints ic Bat.c Pap.c Led.c
theorem pb_iint(l:List Int)(hl:l.length<=100000)(p:Int->Bool)(g:Nat)(caps:List IV)(hg:3<=g/\g<G.fns)(hc:∀n∈l,Ctr G.P g (.int n::caps) (· = .bool (p n))):
  Ctr G.P 100 [ints l,.clo g caps] (fun r=>∃k:Int,r= .int k/\decide (0<=k)=l.any p):=by
 refine ja4 [.tmp 4] Tryz.func100 ?_;unfold ints;simp only[go_sem];refine jao [0,1,7,8] [] (fun i:Nat=>⟨[(0,.im (.sl (l.map ic))),(1,.im (.clo g caps)),(7,.im (.int l.length)),(8,.im (.int i))],[],[]⟩)
  (fun i=>i<=l.length/\(l.take i).any p=false) (fun i=>l.length-i) 0 ?_ ⟨zG _,rfl⟩ ?_
 ·simp only[Int.natCast_zero,zh,go_sem]
 ·intro i ⟨hi,ha⟩;by_cases hp:(i:Int)<l.length
  ·have hd:decide ((i:Int)<l.length)=true:=zk hp;obtain⟨x,hx⟩:=jbq hp;have h1:=ja9 (n:=(i:Int)+1) (by omega);simp only[hd,zq,hx,ic,go_sem];refine jbp (hc x (zl hx)) hg ?_;simp only[go_sem];refine jcm (fun he=> ?_) (fun he=> ?_)
   ·simp only[he,go_sem];exact⟨i,rfl,by rw[jjv hx he];simp⟩
   ·simp only[he,go_sem];refine jad (i+1) ?_ (by omega) ⟨by omega,by rw[jci hx,ha,he];rfl⟩;simp only[h1,Int.natCast_add,go_sem]
  ·have hd:decide ((i:Int)<l.length)=false:=za hp;rw[zD (by omega)]at ha;simp only[hd,go_sem];exact⟨-1,rfl,by rw[ha];rfl⟩
theorem jpw(l:List Int)(hl:l.length<=100000)(p:Int->Bool)(g:Nat)(caps:List IV)(hg:3<=g/\g<G.fns)(hc:∀n∈l,Ctr G.P g (.int n::caps) (· = .bool (p n))):
  Ctr G.P 70 [ints l,.clo g caps] (· = .bool (l.any p)):=by
 have h:=pb_iint l hl p g caps hg hc;refine ja4 [.tmp 4] Tryz.func70 ?_;simp only[go_sem];refine jdf h ?_;rintro r ⟨k,rfl,hk⟩;rw[<-hk];simp only[go_sem]
theorem pb_step2(p:Led)(i:Int)(hl:p.ps.length<=100000):Ctr G.P 76 [.int i,.ip p.c 0] (· = .bool (!btw i 0 ((p.ps.length:Int)-1))):=by
 have k1:=pb_in i 0 ((p.ps.length:Int)-1);have w1:=ja9 (n:=(p.ps.length:Int)-1) (by omega);refine ja4 [.tmp 3] Tryz.func76 ?_;simp only[zh,w1,go_sem];refine ja1 k1 ?_;simp only[go_sem]
theorem pb_step3(x:Pap)(b:Int):Ctr G.P 77 [.agg x.c,.ip [.int b] 0] (· = .bool (!decide (x.own=b))):=by
 refine ja4 [.tmp 3] Tryz.func77 ?_;simp only[go_sem]
theorem pb_step4(x:Pap):Ctr G.P 78 [.agg x.c] (· = .bool (!x.live)):=by
 have k1:=pb_live x;simp only[Pap.c]at k1;refine ja4 [.tmp 2] Tryz.func78 ?_;simp only[go_sem];refine ja1 k1 ?_;simp only[go_sem]
def atF(p:Led)(f:Pap->Bool)(i:Int):Bool:=match p.ps[i.toNat]? with
 | some x=>f x
 | none=>false
theorem pb_step11(p:Led)(f:Pap->Bool)(g:Nat)(caps:List IV)(hg:3<=g/\g<G.fns)(hc:∀x∈p.ps,Ctr G.P g (.agg x.c::caps) (· = .bool (f x)))(i:Int)(hi:btw i 0 ((p.ps.length:Int)-1)=true):
  Ctr G.P 75 [.int i,.ip [.clo g caps] 0,.ip p.c 0] (· = .bool (atF p f i)):=by
 have hb:=btw_iff.1 hi;obtain⟨n,rfl⟩:=jj hb.1;have hn:n<p.ps.length:=by omega
 obtain⟨x,hx⟩:∃x,p.ps[n]? =some x:=⟨_,ze hn⟩;have hcx:=hc x (zl hx);unfold atF;rw[Int.toNat_natCast,hx];simp only[Pap.c]at hcx;refine ja4 [.tmp 4] Tryz.func75 ?_;simp only[go_sem];refine jai 8 ?_;simp only[zq,hx,hn,zh,go_sem];refine ja6 hcx hg ?_;simp only[go_sem]
theorem jqy(p:Led)(is:List Int)(hl:is.length<=100000)(f:Pap->Bool)(g:Nat)(caps:List IV)(hg:3<=g/\g<G.fns)(hc:∀x∈p.ps,Ctr G.P g (.agg x.c::caps) (· = .bool (f x)))(hi:∀i∈is,btw i 0 ((p.ps.length:Int)-1)=true):
  Ctr G.P 74 [.clo g caps,.ip [ints is] 0,.ip p.c 0] (· = .bool (someF p f is)):=by
 have h:=jpw is hl (atF p f) 75 [.ip [.clo g caps] 0,.ip p.c 0] (by decide) (fun i hm=>pb_step11 p f g caps hg hc i (hi i hm));have e:is.any (atF p f)=someF p f is:=rfl;rw[e]at h;simp only[ints,Led.c]at h;refine ja4 [.tmp 4] Tryz.func74 ?_;simp only[go_sem];refine ja1 h ?_;simp only[go_sem]
end
end Go.Proofs.YtgncgpfjldefpaaGreat
namespace Go.Abs
section
def val:List Int->Int
 | []=>0
 | d::l=>d+1048576*val l
def OkD(l:List Int):Prop:=∀d∈l,0<=d/\d<1048576
def dgt(l:List Int)(i:Nat):Int:=(l[i]?).getD 0
def dig(n:Nat):List Int:=if h:n=0 then []else((n % 1048576:Nat):Int)::dig (n/1048576)
 termination_by n
 decreasing_by omega
theorem OkD.nil:OkD []:=fun _ h=>by cases h
theorem OkD.cons{d:Int}{l:List Int}(h:0<=d/\d<1048576)(hl:OkD l):OkD (d::l):=fun x hx=>by
 rcases zT.1 hx with rfl | hx
 ·exact h
 ·exact hl x hx
theorem OkD.tail{d:Int}{l:List Int}(h:OkD (d::l)):OkD l:=fun x hx=>h x (qw _ hx)
theorem OkD.head{d:Int}{l:List Int}(h:OkD (d::l)):0<=d/\d<1048576:=h d (qj ..)
theorem OkD.take{l:List Int}(h:OkD l)(n:Nat):OkD (l.take n):=fun x hx=>h x (qP hx)
theorem OkD.drop{l:List Int}(h:OkD l)(n:Nat):OkD (l.drop n):=fun x hx=>h x (yk hx)
theorem OkD.append{a b:List Int}(ha:OkD a)(hb:OkD b):OkD (a++b):=fun x hx=>(qu.1 hx).elim (ha x) (hb x)
theorem OkD.dgt{l:List Int}(h:OkD l)(i:Nat):0<=dgt l i/\dgt l i<1048576:=by
 unfold Go.Abs.dgt;cases hi:l[i]? with
 | none=>simp
 | some d=>exact h d (zl hi)
theorem jb2:∀{l:List Int},OkD l->0<=val l
 | [],_=>yp _
 | d::l,h=>by
  have:=jb2 h.tail;have:=h.head;simp only[val];omega
theorem jek:∀{l:List Int},OkD l->val l<1048576^l.length
 | [],_=>by simp[val]
 | d::l,h=>by
  have h1:=jek h.tail;have h2:=h.head;simp only[val,List.length_cons,Int.pow_succ];omega
theorem jc4:dig 0=[]:=by rw[dig];simp
theorem jgm{n:Nat}(h:n≠0):dig n=((n % 1048576:Nat):Int)::dig (n/1048576):=by
 conv=>lhs;rw[dig]
 rw[dif_neg h]
theorem jc6(n:Nat):OkD (dig n):=by
 induction n using Nat.strongRecOn with
 | _ n ih=>
  by_cases h:n=0
  ·subst h;rw[jc4];exact OkD.nil
  ·rw[jgm h];exact OkD.cons (by omega) (ih _ (by omega))
theorem jb7(n:Nat):val (dig n)=n:=by
 induction n using Nat.strongRecOn with
 | _ n ih=>
  by_cases h:n=0
  ·subst h;rw[jc4];rfl
  ·rw[jgm h,val,ih _ (by omega)];omega
theorem dig_nil{n:Nat}:dig n=[]↔n=0:=by
 constructor
 ·intro h;have:=jb7 n;rw[h]at this;simp only[val]at this;omega
 ·intro h;subst h;exact jc4
theorem eq_dig:∀{l:List Int},OkD l->l.getLast? ≠some 0->l=dig (val l).toNat
 | [],_,_=>by simp[val,jc4]
 | d::l,h,hl=>by
  have hd:=h.head;have hv:=jb2 h.tail;cases l with
  | nil=>
   have:d≠0:=fun e=>hl (by simp[e]);simp only[val,yj,yw];rw[jgm (by omega),show d.toNat/1048576=0 by omega,jc4];congr 1;omega
  | cons e l=>
   have hl':(e::l).getLast? ≠some 0:=by rw[List.getLast?_cons_cons]at hl;exact hl
   have ih:=eq_dig h.tail hl';have hne:(val (e::l)).toNat≠0:=fun h0=>by rw[h0,jc4]at ih;cases ih
   generalize hw:e::l=w at*;have hval:val (d::w)=d+1048576*val w:=rfl;rw[jgm (by omega),show(val (d::w)).toNat/1048576=(val w).toNat by omega,<-ih];congr 1;omega
theorem jnh(n:Nat):(dig n).getLast? ≠some 0:=by
 induction n using Nat.strongRecOn with
 | _ n ih=>
  by_cases h:n=0
  ·subst h;rw[jc4];simp
  ·rw[jgm h];by_cases h2:n/1048576=0
   ·rw[h2,jc4];simp;omega
   ·have:=ih (n/1048576) (by omega);cases hd:dig (n/1048576)with
    | nil=>rw[dig_nil]at hd;exact absurd hd h2
    | cons e l=>rw[List.getLast?_cons_cons,<-hd];exact this
theorem jf0:∀(a b:List Int),val (a++b)=val a+1048576^a.length*val b
 | [],b=>by simp[val]
 | d::a,b=>by
  simp only[List.cons_append,val,jf0 a b,List.length_cons,Int.pow_succ,qE,qJ];rw[j2 (1048576:Int)];omega
theorem jcq(l:List Int)(i:Nat):val (l.take (i+1))=val (l.take i)+1048576^i*dgt l i:=by
 rcases zX i l.length with h | h
 ·rw[List.take_succ_eq_append_getElem h,jf0];have:(l.take i).length=i:=by rw[qe];omega
  have hd:dgt l i=l[i]:=by unfold dgt;rw[ze h];rfl
  rw[this,hd];have hs:val [l[i]]=l[i]:=by
   show l[i]+1048576*0=l[i];omega
  rw[hs]
 ·rw[zD (by omega),zD h,show dgt l i=0 by unfold dgt;rw[qK h];rfl,yj,yw]
theorem jdd(l:List Int)(i:Nat):val l=val (l.take i)+1048576^i*val (l.drop i):=by
 rcases zX i l.length with h | h
 ·conv=>lhs;rw[<-ja i l]
  rw[jf0];have:(l.take i).length=i:=by rw[qe];omega
  rw[this]
 ·rw[zD h,zY h];simp[val]
theorem jd2(l:List Int)(i:Nat):val (l.drop i)=dgt l i+1048576*val (l.drop (i+1)):=by
 rcases zX i l.length with h | h
 ·rw[qS h,val];simp[dgt,h]
 ·rw[zY h,zY (by omega)];simp[val,dgt,qK h]
theorem jfl(a b:List Int):∀(n k:Nat),a.length+b.length<=k+n->(∀j,k<=j->dgt a j=dgt b j)->val (a.drop k)=val (b.drop k)
 | 0,k,h,_=>by rw[zY (by omega),zY (by omega)]
 | n+1,k,h,hj=>by
  rw[jd2 a,jd2 b,hj k (zu _),jfl a b n (k+1) (by omega) fun j h=>hj j (by omega)]
theorem jdx(i:Nat):(0:Int)<1048576^i:=Int.pow_pos (by omega)
theorem jdr{l:List Int}(h:OkD l)(i:Nat):val (l.take i)<1048576^i:=by
 have h1:=jek (h.take i);have h2:(1048576:Int)^(l.take i).length<=1048576^i:=by
  have hl:(l.take i).length<=i:=by rw[qe];omega
  have h3:(1048576:Nat)^(l.take i).length<=1048576^i:=q7 (by omega) hl;have h4:=j9.2 h3;rw[Int.natCast_pow,Int.natCast_pow]at h4;exact h4
 omega
theorem lt_at{a b:List Int}(ha:OkD a)(hb:OkD b)(i:Nat)(h:∀j,i<j->dgt a j=dgt b j)(hlt:dgt a i<dgt b i):val a<val b:=by
 have e:val (a.drop (i+1))=val (b.drop (i+1)):=jfl a b (a.length+b.length) (i+1) (by omega) fun j hj=>h j (by omega);have h1:=jdr ha i;have h2:=jb2 (hb.take i);have hp:=jdx i;rw[jdd a i,jdd b i,jd2 a i,jd2 b i,e];generalize val (b.drop (i+1))=v;generalize (1048576:Int)^i=p at*;have h3:p*(dgt a i+1048576*v)+p<=p*(dgt b i+1048576*v):=by
  have:p*(dgt a i+1048576*v)+p=p*(dgt a i+1+1048576*v):=by rw[qE,qE,qE];omega
  rw[this];exact qg (by omega) (by omega)
 omega
theorem jqs{a b:List Int}(h:∀j,dgt a j=dgt b j):val a=val b:=by
 have:=jfl a b (a.length+b.length) 0 (by omega) fun j _=>h j
 simpa using this
theorem dgt_take{l:List Int}{n j:Nat}(h:∀i,n<=i->dgt l i=0):dgt (l.take n) j=dgt l j:=by
 unfold dgt at*;rw[qf];split
 ·rfl
 ·rename_i hj;exact(h j (by omega)).symm
theorem jqm{l:List Int}(hl:OkD l){n:Nat}(hn:n<=l.length)(hz:∀i,n<=i->dgt l i=0)(hlast:n=0\/dgt l (n-1)≠0):l.take n=dig (val l).toNat:=by
 have hv:val (l.take n)=val l:=jqs fun j=>dgt_take hz;rw[<-hv];refine eq_dig (hl.take n) fun h=> ?_;rcases hlast with h0 | h0
 ·subst h0;simp at h
 ·have hlen:(l.take n).length=n:=by rw[qe];omega
  rw[yQ,hlen]at h;have hn0:0<n:=by
   rcases yE n with e | e
   ·subst e;simp at h
   ·exact e
  rw[qf,zn (by omega)]at h;exact h0 (by simp[dgt,h])
end
section
theorem jn0(d:Int):val [d]=d:=by
 show d+1048576*0=d;omega
theorem jql(l:List Int)(d:Int):val (l++[d])=val l+1048576^l.length*d:=by rw[jf0,jn0]
theorem jdh(i:Nat):(1048576:Int)^(i+1)=1048576^i*1048576:=Int.pow_succ ..
theorem jca{l:List Int}{i:Nat}(h:l.length<=i):val (l.take i)=val l:=by rw[zD h]
theorem jf9{l:List Int}(hl:OkD l){i:Nat}(h:val l<1048576^i):val (l.drop i)=0:=by
 have h1:=jdd l i;have h2:=jb2 (hl.take i);have h3:=jb2 (hl.drop i);have hp:=jdx i;rcases yn 0 (val (l.drop i))with h4 | h4
 ·have:1048576^i*1<=1048576^i*val (l.drop i):=qg (by omega) (by omega);omega
 ·omega
theorem jix{l:List Int}(hl:OkD l){i:Nat}(h:val l<1048576^i):val (l.take i)=val l:=by
 have h1:=jdd l i;rw[jf9 hl h,yj]at h1;omega
theorem jc7{n k:Nat}(h:(n:Int)<1048576^k):(dig n).length<=k:=by
 induction k generalizing n with
 | zero=>
  have:n=0:=by simp at h;omega
  subst this;rw[jc4];exact zu _
 | succ k ih=>
  by_cases hn:n=0
  ·subst hn;rw[jc4];exact zG _
  ·rw[jgm hn,List.length_cons];rw[jdh]at h;have:=ih (n:=n/1048576) (by omega);omega
end
end Go.Abs
namespace Go.Proofs.YtgncgpfjldefpaaGreat
section
open Go.Abs
attribute [local go_sem] ints ic
theorem jp7(l:List Int):∀c∈l.map ic,c.length=1:=fun c hc=>by
 obtain⟨z,_,rfl⟩:=qd.1 hc;rfl
theorem jrh(l:List Int):((l.map ic).all fun c=>c.length==1)=true:=by
 rw[List.all_eq_true];intro c hc;rw[yL];exact jp7 l c hc
theorem jba{l:List Int}{i:Nat}(h:(i:Int)<l.length):l[i]? =some (dgt l i):=by
 have h:i<l.length:=by omega
 unfold dgt;rw[ze h];rfl
theorem dgt_at{l:List Int}{i:Nat}{d:Int}(h:l[i]? =some d):dgt l i=d:=by simp[dgt,h]
theorem jex{l:List Int}{i:Nat}(h:l.length<=i):dgt l i=0:=by simp[dgt,qK h]
end
end Go.Proofs.YtgncgpfjldefpaaGreat
namespace Go.Abs
section
theorem jg9:∀(l:List Int) (j:Nat) (v:Int),j<l.length->val (l.set j v)=val l+1048576^j*(v-dgt l j)
 | [],j,v,h=>by simp at h
 | d::l,0,v,_=>by
  have:dgt (d::l) 0=d:=rfl;rw[List.set_cons_zero,this,Int.pow_zero,yH];show v+1048576*val l=d+1048576*val l+(v-d);omega
 | d::l,j+1,v,h=>by
  have ih:=jg9 l j v (by simpa using h);have hd:dgt (d::l) (j+1)=dgt l j:=by simp[dgt]
  rw[List.set_cons_succ,hd,jdh];show d+1048576*val (l.set j v)=d+1048576*val l+_;rw[ih,qE,yf (1048576^j) 1048576,qJ];omega
theorem OkD.set{l:List Int}(h:OkD l){j:Nat}{v:Int}(hv:0<=v/\v<1048576):OkD (l.set j v):=fun x hx=>by
 rcases qR hx with h1 | h1
 ·exact h x h1
 ·rw[h1];exact hv
theorem jkw{x y:Int}(hx:0<=x/\x<1048576)(hy:0<=y/\y<1048576):0<=x*y/\x*y<=1048575*1048575:=
 ⟨qN hx.1 hy.1,jX (by omega) (by omega) hy.1 (by omega)⟩
theorem jm0{out b:List Int}{j i k:Nat}{c n x V:Int}(hj:j=i+k)(hjl:j<out.length)(h:val out+1048576^j*c=V+1048576^i*(x*val (b.take k)))(hn:n=dgt out j+x*dgt b k+c):
  val (out.set j (n % 1048576))+1048576^(j+1)*(n/1048576)=V+1048576^i*(x*val (b.take (k+1))):=by
 rw[jg9 out j _ hjl,jcq,jdh,qE x,qE];have e1:1048576^j*(n % 1048576-dgt out j)+1048576^j*1048576*(n/1048576)=1048576^j*(n-dgt out j):=by
  rw[qJ,<-qE];congr 1;have:=qL n 1048576;omega
 have e2:1048576^j*(n-dgt out j)=1048576^j*c+1048576^j*(x*dgt b k):=by
  rw[<-qE];congr 1;omega
 have e3:(1048576:Int)^i*(x*(1048576^k*dgt b k))=1048576^j*(x*dgt b k):=by
  rw[hj,Int.pow_add,j2 x,qJ]
 rw[e3];omega
theorem jdu(n:Nat):val (List.replicate n 0)=0:=by
 induction n with
 | zero=>rfl
 | succ n ih=>rw[List.replicate_succ];show 0+1048576*val (List.replicate n 0)=0;rw[ih];rfl
theorem OkD.replicate(n:Nat):OkD (List.replicate n 0):=fun x hx=>by rw[j3 hx];omega
end
end Go.Abs
namespace Go.Proofs.YtgncgpfjldefpaaGreat
section
open Go.Abs
attribute [local go_sem] ints ic
theorem jf5(l:List Int)(hl:OkD l)(hlen:l.length<=1000000000000):Ctr G.P 141 [ints l] (· =ints (dig (val l).toNat)):=by
 refine ja4 [.tmp 2] Tryz.func141 ?_;simp only[go_sem];refine jao [0,3] [] (fun n:Nat=>⟨[(0,.im (.sl (l.map ic))),(3,.im (.int n))],[],[]⟩) (fun n=>n<=l.length/\∀i,n<=i->dgt l i=0) (fun n=>n) l.length ?_ ⟨zu _,fun i hi=>jex hi⟩ ?_
 ·simp only[go_sem]
 ·intro n ⟨hn,hz⟩;have fin:n=0\/dgt l (n-1)≠0->(l.map ic).take n=(dig (val l).toNat).map ic:=fun h=>by
   rw[<-List.map_take,jqm hl hn hz h]
  have hnn:(n:Int)<=l.length:=by omega
  rcases n with _ | m
  ·have hd:decide ((0:Int)<((0:Nat):Int))=false:=by decide
   have hf:=fin (.inl rfl);rw[List.take_zero]at hf;have hg:dig (val l).toNat=[]:=jS.1 hf.symm;rw[hg];simp only[hd,Int.natCast_zero,vc,jrh,go_sem]
  ·have hd:decide ((0:Int)<((m+1:Nat):Int))=true:=zk (by omega);have h1:=ja9 (n:=(m:Int)) (by omega);have h2:((m+1:Nat):Int)-1=m:=by omega
   have h3:((m+1:Nat):Int).toNat=m+1:=by omega
   have h4:(0:Int)<=((m+1:Nat):Int):=by omega
   obtain⟨d,hx⟩:∃d,l[m]? =some d:=⟨_,ze (by omega)⟩;have hdm:=dgt_at hx;simp only[hd,h1,h2,zq,hx,go_sem];refine jde (fun hb hb'=> ?_) (fun hb hb'=> ?_)
   ·simp only[hd,h1,h2,hb,go_sem];refine jad m ?_ (by omega) ⟨by omega,fun i hi=> ?_⟩
    ·simp only[h1,h2,go_sem]
    ·rcases zX m i with h | h
     ·exact hz i h
     ·rw[show i=m by omega,hdm];exact hb'
   ·have hf:=fin (.inr (by rw[Nat.add_sub_cancel,hdm];exact hb'));simp only[jrh,hnn,h3,h4,hb,hf,Nat.sub_zero,go_sem]
theorem t_ptrimO(l:List Int)(hl:OkD l)(hlen:l.length<=1000000000000):CtrM G.P 141 [.gsl 900 3 1 l.length] [(900,1,l.map ic)] (fun r Es new=>r= .gsl 900 3 1 (dig (val l).toNat).length/\Es=[l.map ic]/\new=none):=by
 refine jnr good _ _ [.tmp 2] Tryz.func141 rfl rfl (by decide+kernel) rfl rfl (by simp) ?_;simp only[go_sem];refine jao [0,3] [900] (fun n:Nat=>⟨[(0,.gsl 900 3 1 l.length),(3,.im (.int n))],[(900,1,l.map ic)],[]⟩) (fun n=>n<=l.length/\∀i,n<=i->dgt l i=0) (fun n=>n) l.length ?_ ⟨zu _,fun i hi=>jex hi⟩ ?_
 ·simp only[go_sem]
 ·intro n ⟨hn,hz⟩;have fin:n=0\/dgt l (n-1)≠0->(dig (val l).toNat).length=n:=fun h=>by
   rw[<-jqm hl hn hz h,qe];omega
  have hnn:(n:Int)<=l.length:=by omega
  rcases n with _ | m
  ·have hd:decide ((0:Int)<((0:Nat):Int))=false:=by decide
   have hf:=fin (.inl rfl);rw[hf];simp only[hd,Int.natCast_zero,vc,jrh,yp,Int.toNat_zero,j0,go_sem]
  ·have hd:decide ((0:Int)<((m+1:Nat):Int))=true:=zk (by omega);have h1:=ja9 (n:=(m:Int)) (by omega);have h2:((m+1:Nat):Int)-1=m:=by omega
   have h3:((m+1:Nat):Int).toNat=m+1:=by omega
   have h4:(0:Int)<=((m+1:Nat):Int):=by omega
   have h5:(m:Int)<l.length:=by omega
   obtain⟨d,hx⟩:∃d,l[m]? =some d:=⟨_,ze (by omega)⟩;have hdm:=dgt_at hx;simp only[hd,h1,h2,h5,zq,hx,go_sem];refine jde (fun hb hb'=> ?_) (fun hb hb'=> ?_)
   ·simp only[hd,h1,h2,hb,go_sem];refine jad m ?_ (by omega) ⟨by omega,fun i hi=> ?_⟩
    ·simp only[h1,h2,go_sem]
    ·rcases zX m i with h | h
     ·exact hz i h
     ·rw[show i=m by omega,hdm];exact hb'
   ·have hf:=fin (.inr (by rw[Nat.add_sub_cancel,hdm];exact hb'));rw[hf];simp only[jrh,hnn,h3,h4,hb,Nat.sub_zero,j0,go_sem]
theorem jhu(l:List Int)(hlen:l.length<=1000000000000):Ctr G.P 69 [ints l] (· =ints l):=by
 refine ja4 [.tmp 2] Tryz.func69 ?_;simp only[go_sem];refine jo2 (fun h=> ?_) ?_
 ·have:l=[]:=jS.1 h;subst this;simp only[zE,go_sem]
 ·simp only[go_sem];exact⟨by simp,jp7 l,by omega⟩
theorem t_cloneO(l:List Int)(hne:l≠[])(hlen:l.length<=1000000000000):CtrM G.P 69 [.im (ints l)] [] (fun r Es new=>r= .gsl 901 3 1 l.length/\Es=[]/\new=some (1,l.map ic)):=by
 have hne':l.map ic≠[]:=fun h=>hne (jS.1 h);refine jnr goodO _ _ [.tmp 2] Tryz.func69 rfl rfl (by decide+kernel) rfl rfl (by simp) ?_;simp only[go_sem];refine jo2 (fun h=>absurd h hne') ?_;simp only[hne',go_sem];exact⟨jp7 l,by omega⟩
end
end Go.Proofs.YtgncgpfjldefpaaGreat
namespace Go.Abs
section
section
variable{L R:Rows}{k d s b:Nat}{es:List (List IV)}
theorem look_filterQ(q:Nat->Bool)(l:Rows)(k:Nat):look (l.filter fun p=>q p.1) k=if q k=true then look l k else none:=jc1 l q k
theorem jb1(h:blks L)(hd:d<100000):look L d=none:=by
 cases hl:look L d with
 | none=>rfl
 | some x=>obtain⟨b,e⟩:=h d x hl;unfold hp at e;omega
theorem filter_of_none(h:look L d=none):L.filter (fun p=>p.1 !=d)=L:=by
 induction L with
 | nil=>rfl
 | cons p L ih=>
  obtain⟨j,v⟩:=p;by_cases e:d=j
  ·subst e;rw[ja2]at h;cases h
  ·rw[ja0 _ _ e]at h;rw[jl,ih h,zn (by simp only[qq,ne_eq];exact fun x=>e x.symm)]
theorem jcn(h:look L d=none):L.map (fun p=>if p.1=d then(p.1,s,es)else p)=L:=by
 induction L with
 | nil=>rfl
 | cons p L ih=>
  obtain⟨j,v⟩:=p;by_cases e:d=j
  ·subst e;rw[ja2]at h;cases h
  ·rw[ja0 _ _ e]at h;rw[zr,ih h,zp (fun x=>e x.symm)]
theorem jed(h:blks L)(hd:d<100000):L.filter (fun p=>p.1 !=d)=L:=filter_of_none (jb1 h hd)
theorem jnw(h:blks L)(hd:d<100000):L.map (fun p=>if p.1=d then(p.1,s,es)else p)=L:=jcn (jb1 h hd)
theorem jab{x:Nat×List (List IV)}(h:look L k=some x):look (L.map (fun p=>if p.1=k then(p.1,s,es)else p)) k=some (s,es):=
 jc5 (by rw[h];rfl)
theorem jag{j:Nat}(h:j≠k):look (L.map (fun p=>if p.1=k then(p.1,s,es)else p)) j=look L j:=jck h
theorem jb5(h:blks L):blks (L.map (fun p=>if p.1=k then(p.1,s,es)else p)):=fun j x hj=>by
 have:(look L j).isSome:=by
  have e:=jby (l:=L) (d:=k) (s:=s) (k:=j) (es:=es);unfold setRow at e;rw[<-e,hj];rfl
 obtain⟨y,hy⟩:=zm.1 this;exact h j y hy
theorem jaq(h:blks L):blks ((hp b,s,es)::L):=fun j x hj=>by
 by_cases e:j=hp b
 ·exact⟨b,e⟩
 ·rw[ja0 _ _ e]at hj;exact h j x hj
theorem jb0:blks []:=fun _ _ h=>by cases h
theorem jbc(h:blks L):blks (del L d):=fun j x hj=>by
 by_cases e:j=d
 ·subst e;rw[jaa]at hj;cases hj
 ·rw[ja8 _ e]at hj;exact h j x hj
def hiR(R:Rows):Rows:=R.filter fun p=>Nat.ble 100000 p.1
theorem jng:look (hiR R) k=if 100000<=k then look R k else none:=by
 unfold hiR;rw[look_filterQ];by_cases h:100000<=k
 ·rw[zn (Nat.ble_eq▸h),zn h]
 ·rw[zp (fun e=>h (ya e)),zp h]
theorem jaf:look (hiR R) (hp b)=look R (hp b):=by rw[jng,zn (by unfold hp;omega)]
theorem jdc:blks (hiR R):=fun k x h=>by
 rw[jng]at h;split at h
 ·rename_i hk;exact⟨_,hp_of hk⟩
 ·cases h
theorem hiR_ret:∀k x,look (hiR R) k=some x->100000<=k/\look R k=some x:=fun k x h=>by
 rw[jng]at h;split at h
 ·exact⟨‹_›,h⟩
 ·cases h
theorem ja3{x:Nat×List (List IV)}(hd:d<100000)(hL:blks L)(h:SubR L R):SubR L ((d,x)::R):=fun k y hk=>by
 rw[ja0 _ _ (fun e=>by subst e;rw[jb1 hL hd]at hk;cases hk)];exact h k y hk
theorem ja7:SubR [] R:=fun _ _ h=>by cases h
theorem jax{R':Rows}(p:Nat×Nat×List (List IV))(hs:SubR R' R):SubR (p::R') (p::R):=fun k x hk=>by
 obtain⟨j,v⟩:=p;by_cases e:k=j
 ·subst e;rw[ja2]at hk⊢;exact hk
 ·rw[ja0 _ _ e]at hk⊢;exact hs k x hk
theorem jas{R':Rows}{p:Nat×Nat×List (List IV)}(h:look R' p.1=none)(hs:SubR R' R):SubR R' (p::R):=fun k x hk=>by
 obtain⟨j,v⟩:=p;rw[ja0 _ _ (fun e=>by subst e;rw[h]at hk;cases hk)];exact hs k x hk
theorem Behind_pre{L L':Rows}:∀(pre:Rows),(∀p∈pre,look L p.1=none)->jev (pre++L) L L' (pre++L')
 | [],_=>fun _ _ h=> .inl h
 | (j,v)::pre,hp=>fun k x h=>by
  by_cases e:k=j
  ·subst e;rw[List.cons_append,ja2]at h⊢;exact .inr ⟨hp _ (qj ..),h⟩
  ·rw[List.cons_append,ja0 _ _ e]at h⊢;exact Behind_pre pre (fun p h=>hp p (qw _ h)) k x h
theorem jbu{L':Rows}:jev R L L' L':=fun _ _ h=> .inl h
end
section
variable{R:Rows}
theorem jb6{G:Ctx}{rs:List ResultVar}{st:St}{φ:AV->Rows->Prop}(h:jms G rs (fun r=>φ r (hiR st.rows)) st): @RetH G rs st ⟨φ⟩:=jgs (hiR st.rows) hiR_ret h
theorem jb8{G:Ctx}{rs:List ResultVar}{st:St}{φ:AV->Rows->Prop}(L':Rows)(hb:blks L')(hs:SubR L' st.rows)(h:jms G rs (fun r=>φ r L') st): @RetH G rs st ⟨φ⟩:=
 jgs L' (fun k x hk=>⟨by obtain⟨b,rfl⟩:=hb k x hk;unfold hp;omega,hs k x hk⟩) h
end
def tab{α:Type}(n:Nat)(f:Nat->α):List α:=(List.range n).map f
section
variable{α β:Type}{n:Nat}{f g:Nat->α}
theorem jac:(tab n f).length=n:=by simp[tab]
theorem jga{i:Nat}(h:i<n):(tab n f)[i]? =some (f i):=by simp[tab,h]
theorem tab_get_none{i:Nat}(h:¬i<n):(tab n f)[i]? =none:=by simp[tab];omega
theorem jaw(h:∀k,k<n->f k=g k):tab n f=tab n g:=jo fun k hk=>h k (qh.1 hk)
theorem tab_ext{l:List α}(hl:l.length=n)(h:∀k,k<n->l[k]? =some (f k)):l=tab n f:=by
 apply vn;intro i;by_cases hi:i<n
 ·rw[h i hi,jga hi]
 ·rw[tab_get_none hi,qK (by omega)]
theorem jn3{i:Nat}{x:α}:(tab n f).set i x=tab n fun k=>if k=i then x else f k:=by
 refine tab_ext (by rw[zZ,jac]) fun k hk=> ?_;by_cases e:k=i
 ·subst e;rw[zn rfl,List.getElem?_set_self (by rw[jac];exact hk)]
 ·rw[zp e,yG (fun h=>e h.symm),jga hk]
theorem ji7:tab (n+1) f=tab n f++[f n]:=by simp[tab,List.range_succ]
theorem tab_zero:tab 0 f=[]:=rfl
theorem tab_replicate{x:α}:List.replicate n x=tab n fun _=>x:=tab_ext (by simp) fun k hk=>by simp[hk]
theorem tab_mem{x:α}(h:x∈tab n f):∃i,i<n/\f i=x:=by
 obtain⟨i,hi,rfl⟩:=qd.1 h;exact⟨i,qh.1 hi,rfl⟩
theorem mem_tab{i:Nat}(h:i<n):f i∈tab n f:=qd.2 ⟨i,qh.2 h,rfl⟩
theorem jc9:(tab n f).take n=tab n f:=zD (by rw[jac];exact zu _)
theorem tab_nodup{A:Nat->Nat}(h:(tab n A).Nodup){i j:Nat}(hi:i<n)(hj:j<n)(e:A i=A j):i=j:=by
 have h1:=jga (f:=A) hi;have h2:=jga (f:=A) hj;rw[<-e]at h2;rw[zt]at h1 h2;obtain⟨a1,a2⟩:=h1;obtain⟨b1,b2⟩:=h2;exact(List.getElem_inj h).1 (a2.trans b2.symm)
end
theorem bF{L:Rows}(hb:blks L)(d:Nat)(h:d<100000):L.filter (fun p=>p.1 !=d)=L:=jed hb h
theorem bN{L:Rows}(hb:blks L)(d:Nat)(h:d<100000):look L d=none:=jb1 hb h
theorem bK{L:Rows}(hb:blks L)(d s:Nat)(es:List (List IV))(h:d<100000):L.map (fun p=>if p.1=d then(p.1,s,es)else p)=L:=jnw hb h
end
section
theorem CtrH.loc{P:Program}{f:FuncId}{b s i j:Nat}{args:List AV}{L:Rows}{φ:AV->Rows->Prop}(h:CtrH P f (.im (.pr b s i j)::args) L φ):CtrH P f (.loc (hp b) s i j::args) L φ:=
 fun w M vs h1 h2 h3 h4=>h w M vs h1 h2 (by simpa using h3) fun k av v hk hv=>by
  cases k with
  | zero=>
   simp at hk;subst hk;obtain⟨b',e1,e2⟩:=h4 0 (.loc (hp b) s i j) v rfl hv;rw[pβ_hp]at e1;cases e1;rw[e2];exact Rep.pr b s i j
  | succ k=>exact h4 (k+1) av v (by simpa using hk) hv
theorem St.le_lend(s:St)(d:Nat):St.Le s (s.lend d):=fun _ _ _ β _ _ h=>⟨β,h.lend d⟩
theorem jjh{G:Ctx}{c:Code}{Q:Exit->St->Prop}{st:St}(d:Nat)(h: @LoopP G ⟨c⟩ ⟨Q⟩ (st.lend d)): @LoopP G ⟨c⟩ ⟨Q⟩ st:=by
 obtain⟨I,n,⟨s0,h1,h2⟩,h3⟩:=h;exact⟨I,n,⟨s0,(St.le_lend st d).trans h1,h2⟩,h3⟩
end
section
open Go.RowKit (Below)
def isSp(o:Oper):Bool:=
 match o.op with
 | .call c=>match c.callee with
  | .value _=>true
  | .builtin b=>match b with
   | .append=>true
   | _=>false
  | _=>false
 | _=>false
def spY(G:Ctx)(st:St)(o:Oper)(T:AV->Rows->Prop):Prop:=if isSp o=true then sp G st o T else aq G st o fun av=>T av st.rows
def spListY(G:Ctx)(Rs:Rows)(K:St->Prop):List Oper->St->Prop
 | [],st=>K st
 | o::r,st=>o.guard=none/\spY G st o fun av R'=>(∀k x,look Rs k=some x->look R' k=some x)/\spListY G Rs K r ((⟨st.fr,R',st.toks⟩:St).put o.dst av)
section
variable{G:Ctx}{N:Nat}{w0:Base}{w w':World}{M0:Nat->Nat->Prop}{β:Nat->Option Nat}{st st':St}{a:Act}{ops:List Oper}
end
section
variable{G:Ctx}
def spListYN(G:Ctx)(ops:List Oper)(K:St->Prop)(Rs:Rows)(d:Nat)(z:List IV)(sps l:List Oper)(st:St):Prop:=
 spListY G Rs (fun s'=>NewH (fun s''=>alist G ops K l s'') s' z.length [z] d (fun b=> .loc (hp b) z.length 0 0)) sps st
theorem spListYN_nil(ops:List Oper)(K:St->Prop)(Rs:Rows)(d:Nat)(z:List IV)(l:List Oper)(st:St):spListYN G ops K Rs d z [] l st=NewP z.length [z] d (K:=⟨fun s=>alist G ops K l s⟩) (A:=⟨(st,fun b=> .loc (hp b) z.length 0 0)⟩):=rfl
end
attribute [go_sem ↓] spListYN_nil
end
section
open Go.RowKit (Below)
def jgz(G:Ctx)(t:TypeId)(p x:AV)(R:Rows)(T:AV->Rows->Prop):Prop:=
 match x,p.dp with
 | .im y,.loc d s i j=>match look R d with
  | some (s',es)=>match es[i]? with
   | some c=>s'=s/\(G.ti t).size≠0/\(cellsOf y).length=(G.ti t).size/\(cellsOf y).all IV.one=true/\j+(G.ti t).size<=c.length/\
     T jd0 (setRow R d s (es.set i (jbx c j (cellsOf y))))
   | none=>False
  | none=>False
 | _,_=>False
def spZ(G:Ctx)(st:St)(o:Oper)(T:AV->Rows->Prop):Prop:=
 match o.op with
 | .store t p x=>jgz G t (evO st p) (evO st x) st.rows T
 | _=>if isSp o=true then sp G st o T else aq G st o fun av=>T av st.rows
def spZ1(G:Ctx)(st:St)(o:Oper)(T:AV->Rows->Prop):Prop:=
 match o.op with
 | .store t p x=>jgz G t (evO st p) (evO st x) st.rows T
 | _=>if isSp o=true then sp G st o T else ∃av,qVal G st o av/\T av st.rows
def jjj(ops:Array Oper):Nat->Nat->Nat->Bool
 | 0,j,i=>Region.waitsFor .any ops j i
 | f+1,j,i=>Region.waitsFor .any ops j i || (List.range j).any fun l=>Region.waitsFor .any ops j l&&jjj ops f l i
theorem waitsT_listed{ops:Array Oper}{n:Nat}{listed:Array Bool}(inv:HeadInv .any ops n listed)(hw:∀j i,Region.waitsFor .any ops j i=true->listed.getD j false=true->listed.getD i false=true):
  ∀(f j i:Nat),jjj ops f j i=true->listed.getD j false=true->listed.getD i false=true:=by
 intro f
 induction f with
 | zero=>exact fun j i h hl=>hw j i h hl
 | succ f ih=>
  intro j i h hl;rw[jjj,qG]at h;rcases h with h | h
  ·exact hw j i h hl
  ·obtain⟨l,_,h2⟩:=jy.1 h;rw[zB]at h2;exact ih l i h2.2 (hw j l h2.1 hl)
theorem spZ_1{G:Ctx}{st:St}{o:Oper}{T:AV->Rows->Prop}(h:spZ G st o T):spZ1 G st o T:=by
 unfold spZ at h;unfold spZ1;split at h
 ·exact h
 ·by_cases hs:isSp o=true
  ·rw[zn hs]at h⊢;exact h
  ·rw[zp hs]at h⊢;obtain⟨av,h1,h2⟩:=ji2 h;exact⟨av,h1,h2⟩
def isStZ(o:Oper):Bool:=
 match o.op with
 | .store _ _ _=>true
 | _=>false
def stZ(ops:Array Oper)(m:List Bool):Bool:=(List.range m.length).all fun i=>(List.range m.length).all fun j=> !(m.getD i false) || m.getD j false || (match ops[i]?,ops[j]? with
 | some oi,some oj=> !isStZ oi || !jfx oj || Region.waitsFor .any ops i j
 | _,_=>true)
section
variable{G:Ctx}{N:Nat}{w0:Base}{w w':World}{M0:Nat->Nat->Prop}{β:Nat->Option Nat}{st st':St}{a:Act}{ops:List Oper}
theorem spZ_congr{o:Oper}{T:AV->Rows->Prop}(h:∀t∈o.looksAt ops.toArray,st.get t=st'.get t)(hr:st.rows=st'.rows)(ht:st.toks=st'.toks)(hs:spZ1 G st o T):spZ1 G st' o T:=by
 have hx:∀x∈o.op.operands,evO st x=evO st' x:=fun x hx=>jh3 fun t ht=>h t (jdn hx ht);unfold spZ1 at hs⊢;split at hs
 ·rename_i t p x ho;rw[ho]at hx;rw[<-hx p (by simp[Op.operands]),<-hx x (by simp[Op.operands]),<-hr];exact hs
 ·by_cases hp:isSp o=true
  ·rw[zn hp]at hs⊢;exact sp_congr h hr hs
  ·rw[zp hp]at hs⊢;obtain⟨av,h1,h2⟩:=hs;exact⟨av,jj1 h hr ht h1,hr▸h2⟩
theorem spZ_sound(hG:G.Good)(h:Sim N w0 M0 β st a w){o:Oper}{T:AV->Rows->Prop}(hd:∀d,o.dst=some d->d<N)(hA:spZ1 G st o T){K':Act->World->Prop}{Q':Exit->Act->World->Prop}
  (hK:∀av R' β' a' w',T av R'->Sim N w0 M0 β' ((⟨st.fr,R',st.toks⟩:St).put o.dst av) a' w'->K' a' w'):o.wp G.P a w K' Q':=by
 unfold spZ1 at hA;split at hA
 ·rename_i t p x ho;have haop:aop G o (fun st'=>∃av R',st'=(⟨st.fr,R',st.toks⟩:St).put o.dst av/\T av R') st:=by
   unfold aop;rw[ho];dsimp only;unfold jgz at hA;split at hA
   ·rename_i y d s i j hx hp;have hl:st.lendO x=st:=by
     unfold St.lendO;rw[hx]
    rw[hl];unfold jmr;rw[hx,hp];dsimp only[ivE,ivOf];split at hA
    ·rename_i s' es hlk;rw[hlk];dsimp only;split at hA
     ·rename_i c hc;rw[hc];obtain⟨h1,h2,h3,h4,h5,h6⟩:=hA;exact⟨h1,h2,h3,h4,h5,_,_,rfl,h6⟩
     ·exact hA.elim
    ·exact hA.elim
   ·exact hA.elim
  refine je2 hG h hd haop ?_;rintro st' β' a' w' ⟨av,R',rfl,hT⟩ hs;exact hK av R' β' a' w' hT hs
 ·by_cases hp:isSp o=true
  ·rw[zn hp]at hA;exact sp_sound hG h hd hA hK
  ·rw[zp hp]at hA;obtain⟨av,h1,h2⟩:=hA;refine je9 hG h h1 fun v w2 hb hv=>hK av st.rows β _ w2 h2 ?_;exact(h.ext hb).put (dst:=o.dst) hd hv
end
section
variable{G:Ctx}
def jnz(G:Ctx)(t:TypeId)(p x:AV)(R:Rows)[T:Hold (Rows->Prop)]:Prop:=jgz G t p x R fun _ R'=>T.val R'
theorem jfb{t:TypeId}{p x:AV}{R:Rows}{T T':AV->Rows->Prop}(h:jgz G t p x R T)(hT:∀av R',T av R'->T' av R'):jgz G t p x R T':=by
 unfold jgz at h⊢;split at h
 ·split at h
  ·split at h
   ·obtain⟨h1,h2,h3,h4,h5,h6⟩:=h;exact⟨h1,h2,h3,h4,h5,hT _ _ h6⟩
   ·exact h.elim
  ·exact h.elim
 ·exact h.elim
theorem SpStore_loc(t:TypeId)(d s i j:Nat)(y:IV)(R:Rows)(T:Rows->Prop): @jnz G t (.loc d s i j) (.im y) R ⟨T⟩=Opt (look R d) (K:=⟨fun p=>Opt p.2[i]? (K:=⟨fun c=>p.1=s/\(G.ti t).size≠0/\(cellsOf y).length=(G.ti t).size/\(cellsOf y).all IV.one=true/\j+(G.ti t).size<=c.length/\
  T (setRow R d s (p.2.set i (jbx c j (cellsOf y))))⟩)⟩):=by
 unfold jnz jgz Opt AV.dp;dsimp only;cases h:look R d with
 | none=>rfl
 | some p=>
  obtain⟨s',es⟩:=p;dsimp only;cases es[i]? <;>rfl
end
attribute [go_sem ↓] SpStore_loc
