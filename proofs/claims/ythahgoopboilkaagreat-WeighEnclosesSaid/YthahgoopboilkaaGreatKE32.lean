/- A part of the proof. No further condition. -/
import Derived.Test.YthahgoopboilkaaGreatKE31
import Derived.Shelf.SlSortCmp.WholeK
import Derived.Shelf.SlSortCmp.NoneTotal
import Derived.Shelf.SlicesG.Cmp
import Derived.Shelf.Small.Bits
set_option linter.all false
set_option maxRecDepth 10000000
set_option maxHeartbeats 16000000
namespace Go.Proofs.YthahgoopboilkaaGreat
section
open Go.Abs
open Go.LP (Rw RT tsum Sol S cf cfU)
attribute [local go_sem] ints ic big frac fc zc rwC tmC Raw.c
section
variable{N:Nat}{ws:List Rw}{X:List Raw}
theorem d_pt1(x:Raw)(h1:x.l.length<=50000000000)(h2:x.m.length<=50000000000):Ctr G.P 213 [.agg x.c] (· = .bool (!rwR x)):=by
 have kf:=jf5 x.s x.t x.l x.m h1 h2;rw[show fracF x.s x.l x.t x.m=rwR x from rfl]at kf;simp only[ints]at kf;refine ja5 [.tmp 2] Tryz.func213 ?_;simp only[go_sem];refine ja1 kf ?_;simp only[go_sem]
theorem d_ixf(hX:X.length<=100000)(hk:RawL 50000000000 X):Ctr G.P 222 [.sl (X.map Raw.c),.clo 213 []] (fun r=>∃k:Int,r= .int k/\decide (0<=k)= !(X.all rwR)):=by
 refine ja5 [.tmp 4] Tryz.func222 ?_;simp only[zw,go_sem];refine jal [0,1,7,8] [] (fun i:Nat=>⟨[(0,.im (.sl (X.map Raw.c))),(1,.im (.clo 213 [])),(7,.im (.int X.length)),(8,.im (.int i))],[],[]⟩)
  (fun i=>i<=X.length/\(X.take i).all rwR=true) (fun i=>X.length-i) 0 ?_ ⟨zE _,rfl⟩ ?_
 ·simp only[Int.natCast_zero,go_sem]
 intro i ⟨hi,ha⟩;by_cases hp:(i:Int)<X.length
 ·have hd:decide ((i:Int)<X.length)=true:=za hp;obtain⟨x,hx⟩:=jby hp;have h1:=ja9 (n:=(i:Int)+1) (by omega);have hi0:(0:Int)<=i:=by omega
  have hg:=jrd hx;have hxm:=hk x (zk hx);have c:=d_pt1 x hxm.1 hxm.2;simp only[Raw.c]at c;rcases hr:rwR x with _ | _
  ·have hall:X.all rwR=false:=qQ.2 fun h=>by
    rw[List.all_eq_true]at h;rw[h x (zk hx)]at hr;cases hr
   rw[hr]at c;rw[hall];simp only[hd,hp,hi0,hg,Int.toNat_natCast,zw,go_sem];refine ja1 c ?_;simp only[go_sem];exact⟨i,rfl,za hi0⟩
  ·rw[hr]at c;simp only[hd,hp,hi0,hg,Int.toNat_natCast,zw,go_sem];refine ja1 c ?_;simp only[go_sem];refine jab (i+1) ?_ (by omega) ⟨by omega,by rw[take_succ hx,js,ha];simp[hr]⟩;simp only[h1,Int.natCast_add,go_sem]
 ·have hd:decide ((i:Int)<X.length)=false:=zq hp;rw[zt (by omega)]at ha;rw[ha];simp only[hd,go_sem];exact⟨-1,rfl,rfl⟩
theorem jqn(hX:X.length<=100000)(hk:RawL 50000000000 X):Ctr G.P 187 [.sl (X.map Raw.c)] (· = .bool (X.all rwR)):=by
 have k1:=d_ixf hX hk;have k2:Ctr G.P 212 [.sl (X.map Raw.c),.clo 213 []] (· = .bool (!(X.all rwR))):=by
  refine ja5 [.tmp 4] Tryz.func212 ?_;simp only[go_sem];refine jm3 k1 ?_;rintro _ ⟨k,rfl,hk⟩;simp only[hk,go_sem]
 clear k1;generalize X.map Raw.c=XC at*;refine ja5 [.tmp 2] Tryz.func187 ?_;simp only[go_sem];refine ja1 k2 ?_;simp only[Bool.not_not,go_sem]
theorem jss{n:Nat}:∀{ts:List (Nat×Rat)} {lo:Nat},RT ts lo N->(∀t∈ts,t.1<n)->RT ts lo n
 | [],_,_,_=>trivial
 | t::ts,lo,h,hn=>⟨h.1,hn t zN,h.2.2.1,jss h.2.2.2 fun u hu=>hn u (zQ _ hu)⟩
theorem d_rt(ts:List (Nat×Rat))(h:RT ts 0 N)(hl:ts.length<=100000)(n:Nat)(hn:n<=100000)(hf:∀t∈ts,FL 100000000 t.2)(hno:¬∀t∈ts,t.1<n):
  Ctr G.P 127 [.sl (ts.map tmC),.int n] (· = .bool false):=by
 have hN0:decide ((n:Int)<0)=false:=zq (by omega);refine ja5 [.tmp 4] Tryz.func127 ?_;simp only[hN0,go_sem];refine jal [1,5,10,11,12] [] (fun i:Nat=>⟨[(1,.im (.int n)),(5,.im (.int (lastF ts i))),(10,.im (.sl (ts.map tmC))),(11,.im (.int ts.length)),(12,.im (.int i))],[],[]⟩)
  (fun i=>i<=ts.length/\∀t∈ts.take i,t.1<n) (fun i=>ts.length-i) 0 ?_ ⟨zE _,fun t ht=>by cases ht⟩ ?_
 ·simp only[lastF,Int.natCast_zero,zw,go_sem]
 intro i ⟨hi,ha⟩;by_cases hp:(i:Int)<ts.length
 ·have hd:decide ((i:Int)<ts.length)=true:=za hp;obtain⟨t,ht⟩:=jby hp;have h1:=ja9 (n:=(i:Int)+1) (by omega);obtain⟨g1,g2,g3⟩:=jm1 h ht;have d1:decide ((t.1:Int)<=lastF ts i)=false:=zq (by omega);have hs:=jgl ((hf t (zk ht)).mono (by omega:100000000<=19000000000));have hq:decide (t.2.num.sign=0)=false:=zq (fun e=>g3 (sign_zero.1 e));have hg:=tget ht;simp only[frac,ints,fc]at hs hg;rcases d2:decide ((n:Int)<=t.1)with _ | _
  ·simp only[hd,hg,d1,d2,zw,go_sem];refine ja1 hs ?_;simp only[hd,hg,d1,d2,hq,zw,go_sem];refine jab (i+1) ?_ (by omega) ⟨by omega,fun u hu=> ?_⟩
   ·rw[jj8 ht];simp only[h1,Int.natCast_add,zw,go_sem]
   ·rw[take_succ ht]at hu;rcases qu.1 hu with hu | hu
    ·exact ha u hu
    ·rw[zF.1 hu];have:=zJ d2;omega
  ·simp only[hd,hg,d1,d2,zw,go_sem]
 ·exact absurd (by rw[zt (by omega)]at ha;exact ha) hno
theorem d_Value0(ts:List (Nat×Rat))(h:RT ts 0 N)(hl:ts.length<=40)(hf:∀t∈ts,FL 100000000 t.2)(hX:X.length<=100000){k:Nat}(hk4:4<=k)(hk8:k<=100000000)(hk:RawL k X):
  Ctr G.P 133 [.sl (ts.map tmC),.sl (X.map Raw.c)] (fun r=>∃(a c:Int) (b d:List (List IV)) (o:Bool),r= .tup [.agg [.int a,.sl b,.int c,.sl d],.bool o]):=by
 have hk':RawL 50000000000 X:=fun x hx=>by have:=hk x hx;omega
 have kp:=jqn hX hk';by_cases ht:∀t∈ts,t.1<X.length
 case neg=>
  have kr:=d_rt ts h (by omega) X.length hX hf ht;clear kp ht h hf;generalize ts.map tmC=TC at*;generalize hXC:X.map Raw.c=XC at*;have hl:XC.length=X.length:=by rw[<-hXC,zw]
  refine ja5 [.cell 4 35,.tmp 5] Tryz.func133 ?_;simp only[hl,go_sem];refine ja1 kr ?_;simp only[go_sem];exact⟨_,_,_,_,_,rfl⟩
 have hRT:=jss h ht;rcases hr:X.all rwR with _ | _
 ·have kr:=x_rt ts X.length hRT (by omega) hX hf;rw[hr]at kp;clear ht h hf hRT hr;generalize ts.map tmC=TC at*;generalize hXC:X.map Raw.c=XC at*;have hl:XC.length=X.length:=by rw[<-hXC,zw]
  refine ja5 [.cell 4 35,.tmp 5] Tryz.func133 ?_;simp only[hl,go_sem];refine ja1 kr ?_;simp only[go_sem];refine ja1 kp ?_;simp only[go_sem];exact⟨_,_,_,_,_,rfl⟩
 ·obtain⟨x,hx,hF⟩:=jkt hk4 hr hk;have kv:=jix ts X.length x hRT hl hX hf fun j _=>(hF j).mono hk8;unfold xl at kv;rw[show(tab X.length fun k=>qc (x k))=X.map Raw.c from hx.symm]at kv;exact kv.mono fun r hr=>⟨_,_,_,_,_,hr⟩
theorem d_holds0(hs:SysOk N ws)(hX:X.length<=100000)(hk:RawL 50000000000 X)(hno:¬(X.length=N/\X.all rwR=true)):Ctr G.P 137 [.agg [.int N,.sl (ws.map rwC)],.sl (X.map Raw.c)] (· = .bool false):=by
 have kr:=hs.right;have kp:=jqn hX hk;generalize ws.map rwC=R at*;by_cases hl:X.length=N
 ·have hr:X.all rwR=false:=qQ.2 fun h=>hno ⟨hl,h⟩;rw[hr]at kp;have hd:decide ((X.length:Int)=N)=true:=za (by omega);refine ja5 [.tmp 4] Tryz.func137 ?_;simp only[go_sem];refine ja1 kr ?_;simp only[hd,zw,go_sem];refine ja1 kp ?_;simp only[go_sem]
 ·have hd:decide ((X.length:Int)=N)=false:=zq (by omega);clear kp;refine ja5 [.tmp 4] Tryz.func137 ?_;simp only[go_sem];refine ja1 kr ?_;simp only[hd,zw,go_sem]
theorem jo0(hs:SysOk N ws)(hk:RawL 50000000000 X)(hl:X.length=N)(hR:X.all rwR=true){x:Nat->Rat}(hx:X.map Raw.c=tab N fun j=>qc (x j))(hf:∀j,FL 100000000 (x j)){b:Bool}(hb:b=true↔Sol N ws x):
  Ctr G.P 137 [.agg [.int N,.sl (ws.map rwC)],.sl (X.map Raw.c)] (· = .bool b):=by
 have hN:=hs.n;have hlen:=hs.len;have kr:=hs.right;have kp:=jqn (X:=X) (by omega) hk;rw[hR]at kp;rw[hx]at kp⊢;have hd0:decide ((N:Int)=N)=true:=za rfl;refine ja5 [.tmp 4] Tryz.func137 ?_;simp only[go_sem];refine ja1 kr ?_;simp only[hd0,ja6,go_sem];refine ja1 kp ?_;simp only[ja6,go_sem];refine jal [1,2,25,26,27] [2] (fun i:Nat=>⟨[(1,.im (.sl (tab N fun j=>qc (x j)))),(2,.loc 2 2 0 0),(25,.im (.sl (tab N fun j=>qc (x j)))),(26,.im (.int N)),(27,.im (.int i))],[(2,2,[[.int N,.sl (ws.map rwC)]])],[]⟩)
  (fun i=>i<=N/\∀k,k<i->0<=x k) (fun i=>N-i) 0 ?_ ⟨zE _,fun k h=>by omega⟩ ?_
 ·simp only[Int.natCast_zero,go_sem]
 intro i ⟨hi,ha⟩;by_cases hp:(i:Int)<N
 ·have hd:decide ((i:Int)<N)=true:=za hp;have h1:=ja9 (n:=(i:Int)+1) (by omega);have hi0:(0:Int)<=i:=by omega
  have hg:=qget (f:=x) (show i<N by omega);have ks:=jgl ((hf i).mono (by omega:100000000<=19000000000));simp only[frac,ints,fc]at ks hg;rcases ds:decide ((x i).num.sign<0)with _ | _
  ·simp only[hd,hp,hi0,hg,Int.toNat_natCast,ja6,go_sem];refine ja1 ks ?_;simp only[ds,go_sem];refine jab (i+1) ?_ (by omega) ⟨by omega,fun k hk=> ?_⟩
   ·simp only[h1,Int.natCast_add,go_sem]
   ·by_cases e:k=i
    ·subst e;exact yH.1 fun h=>zJ ds (sign_neg.2 h)
    ·exact ha k (by omega)
  ·have hbf:b=false:=qQ.2 fun h=>by
    have:=(hb.1 h).pos i (by omega);have:=sign_neg.1 (zI ds);grind
   rw[hbf];simp only[hd,hp,hi0,hg,Int.toNat_natCast,ja6,go_sem];refine ja1 ks ?_;simp only[ds,go_sem]
 have hd:decide ((i:Int)<N)=false:=zq hp;have hpos:∀k,k<N->0<=x k:=fun k hk=>ha k (by omega);simp only[hd,zw,go_sem];clear ha hi hp hd kr kp;refine jal [1,36,37,38] [] (fun i:Nat=>⟨[(1,.im (.sl (tab N fun j=>qc (x j)))),(36,.im (.sl (ws.map rwC))),(37,.im (.int ws.length)),(38,.im (.int i))],[],[]⟩)
  (fun i=>i<=ws.length/\∀w∈ws.take i,w.sat x) (fun i=>ws.length-i) 0 ?_ ⟨zE _,fun w h=>by cases h⟩ ?_
 ·simp only[Int.natCast_zero,go_sem]
 intro i ⟨hi,ha⟩;by_cases hp:(i:Int)<ws.length
 ·have hd:decide ((i:Int)<ws.length)=true:=za hp;obtain⟨w,hw⟩:=jby hp;have hwm:=zk hw;have h1:=ja9 (n:=(i:Int)+1) (by omega);have hi0:(0:Int)<=i:=by omega
  have hgw:=rget hw;obtain⟨w1,w2,w3⟩:=hs.row w hwm;have hrt:=(hs.ok w hwm).ts;obtain⟨wk0,wk3⟩:=(hs.ok w hwm).kind;have kv:=x_value w.ts N x hrt (by omega) (by omega) w3 fun k _=>hf k;have hv:FL 4000000000 (tsum w.ts x):=jjk (by omega) w3 hf;have kc:=f_cmp (hv.mono (by omega:4000000000<=19000000000)) (w2.mono (by omega:100000000<=19000000000));have next:w.sat x->∀v∈ws.take (i+1),v.sat x:=fun h v hv=>by
   rw[take_succ hw]at hv;rcases qu.1 hv with hv | hv
   ·exact ha v hv
   ·rw[zF.1 hv];exact h
  have c1:cmpR (tsum w.ts x) w.val<0↔tsum w.ts x<w.val:=cmpR_neg;have c2:0<cmpR (tsum w.ts x) w.val↔w.val<tsum w.ts x:=cmpR_pos;unfold xl at kv;simp only[frac,ints]at kv kc;generalize cmpR (tsum w.ts x) w.val=cm at*;have hbf:¬w.sat x->b=false:=fun h=>qQ.2 fun hb1=>h ((hb.1 hb1).row w hwm);have e1:decide (cm<0)=true↔tsum w.ts x<w.val:=qx.trans c1;have e2:decide (0<cm)=true↔w.val<tsum w.ts x:=qx.trans c2;have e3:decide (w.kind=0)=true↔w.kind=0:=qx;have e4:decide (w.kind=1)=true↔w.kind=1:=qx;simp only[hd,hp,hi0,hgw,Int.toNat_natCast,zw,go_sem];refine jac 8 ?_;simp only[hd,hp,hi0,hgw,Int.toNat_natCast,zw,go_sem];refine ja4 kv (by decide) ?_;simp only[go_sem];refine ja4 kc (by decide) ?_;rcases dl:decide (cm<0)with _ | _<;>rcases dg:decide (0<cm)with _ | _<;>rcases dk0:decide (w.kind=0)with _ | _<;>rcases dk1:decide (w.kind=1)with _ | _
  all_goals
   rw[dl]at e1;rw[dg]at e2;rw[dk0]at e3;rw[dk1]at e4
   first
   | (have hno:¬w.sat x:=by unfold Rw.sat;grind
      rw[hbf hno];simp only[dl,dg,dk0,dk1,go_sem]
      done)
   | (have hyes:w.sat x:=by unfold Rw.sat;grind
      simp only[dl,dg,dk0,dk1,go_sem];refine jab (i+1) ?_ (by omega) ⟨by omega,next hyes⟩;simp only[h1,Int.natCast_add,go_sem])
   | (exfalso;grind)
 ·have hd:decide ((i:Int)<ws.length)=false:=zq hp;rw[zt (by omega)]at ha;have hbt:b=true:=hb.2 ⟨hpos,ha⟩;rw[hbt];simp only[hd,go_sem]
end
end
section
open Go.Abs
open Go.LP (Rw RT tsum Sol S cf cfU)
attribute [local go_sem] ints ic big frac fc zc rwC tmC Raw.c
structure RayOk(N:Nat)(ws:List Rw)(goal:List (Nat×Rat))(d:Nat->Rat):Prop where
 pos:∀k,k<N->0<=d k
 row:∀w∈ws,(w.kind≠1->0<=tsum w.ts d)/\(w.kind≠0->tsum w.ts d<=0)
 goal:tsum goal d<0
section
variable{N:Nat}{ws:List Rw}{goal:List (Nat×Rat)}{X:List Raw}
theorem d_ray0(hs:SysOk N ws)(hg:GoalOk N goal)(hX:X.length<=100000)(hk:RawL 19000000000 X)(hno:¬(X.length=N/\X.all rwR=true)):
  Ctr G.P 140 [.agg [.int N,.sl (ws.map rwC)],.sl (goal.map tmC),.sl (X.map Raw.c)] (· = .bool false):=by
 have kr:=hs.right;have kg:=hg.right hs;have hN:=hs.n;clear hs hg;generalize ws.map rwC=R at*;generalize goal.map tmC=GC at*;by_cases hl:X.length=N
 case neg=>
  have hd:decide ((X.length:Int)=N)=false:=zq (by omega);refine ja5 [.tmp 6] Tryz.func140 ?_;simp only[go_sem];refine ja1 kr ?_;simp only[go_sem];refine ja1 kg ?_;simp only[hd,zw,go_sem]
 have hno':X.all rwR≠true:=fun h=>hno ⟨hl,h⟩;clear hno;have hd:decide ((X.length:Int)=N)=true:=za (by omega);refine ja5 [.tmp 6] Tryz.func140 ?_;simp only[go_sem];refine ja1 kr ?_;simp only[go_sem];refine ja1 kg ?_;simp only[hd,zw,go_sem];refine jal [33,34,35] [] (fun i:Nat=>⟨[(33,.im (.sl (X.map Raw.c))),(34,.im (.int X.length)),(35,.im (.int i))],[],[]⟩)
  (fun i=>i<=X.length/\(X.take i).all rwR=true) (fun i=>X.length-i) 0 ?_ ⟨zE _,rfl⟩ ?_
 ·simp only[Int.natCast_zero,go_sem]
 intro i ⟨hi,ha⟩;by_cases hp:(i:Int)<X.length
 case neg=>
  rw[zt (by omega)]at ha;exact absurd ha hno'
 have hd:decide ((i:Int)<X.length)=true:=za hp;obtain⟨x,hx⟩:=jby hp;have h1:=ja9 (n:=(i:Int)+1) (by omega);have hi0:(0:Int)<=i:=by omega
 have hg:=jrd hx;have hxm:=hk x (zk hx);have kf:=jf5 x.s x.t x.l x.m (by omega) (by omega);rw[show fracF x.s x.l x.t x.m=rwR x from rfl]at kf;simp only[ints]at kf;rcases hr:rwR x with _ | _
 ·rw[hr]at kf;simp only[hd,hp,hi0,hg,Int.toNat_natCast,zw,go_sem];refine ja1 kf ?_;simp only[go_sem]
 ·rw[hr]at kf;obtain⟨r,e1,e2,e3⟩:=rw_of hr;have ks:Ctr G.P 82 [.agg x.c] (· = .int r.num.sign):=by
   rw[e1];exact jgl (a:=r) ⟨by rw[<-e2];exact hxm.1,by rw[<-e3];exact hxm.2⟩
  simp only[Raw.c]at ks;rcases ds:decide (r.num.sign<0)with _ | _
  ·simp only[hd,hp,hi0,hg,Int.toNat_natCast,zw,go_sem];refine ja1 kf ?_;simp only[hd,hp,hi0,hg,Int.toNat_natCast,zw,go_sem];refine ja1 ks ?_;simp only[ds,go_sem];refine jab (i+1) ?_ (by omega) ⟨by omega,by rw[take_succ hx,js,ha];simp[hr]⟩;simp only[h1,Int.natCast_add,go_sem]
  ·simp only[hd,hp,hi0,hg,Int.toNat_natCast,zw,go_sem];refine ja1 kf ?_;simp only[hd,hp,hi0,hg,Int.toNat_natCast,zw,go_sem];refine ja1 ks ?_;simp only[ds,go_sem]
theorem d_ray1(hs:SysOk N ws)(hg:GoalOk N goal)(hl:X.length=N){x:Nat->Rat}(hx:X.map Raw.c=tab N fun j=>qc (x j))(hf:∀j,FL 100000000 (x j)){b:Bool}(hb:b=true↔RayOk N ws goal x):
  Ctr G.P 140 [.agg [.int N,.sl (ws.map rwC)],.sl (goal.map tmC),.sl (X.map Raw.c)] (· = .bool b):=by
 have kr:=hs.right;have kg:=hg.right hs;have hN:=hs.n;have hlen:=hs.len;have hgl:=hg.len;have kvg:=jix goal N x hg.rt (by omega) (by omega) hg.fl fun k _=>hf k;have hvg:FL 4000000000 (tsum goal x):=jjk (by omega) hg.fl hf;have ksg:=jgl (hvg.mono (by omega:4000000000<=19000000000));unfold xl at kvg;simp only[frac,ints]at kvg ksg;rw[hx];have hd0:decide ((N:Int)=N)=true:=za rfl;generalize hGC:goal.map tmC=GC at*;clear hGC;refine ja5 [.tmp 6] Tryz.func140 ?_;simp only[go_sem];refine ja1 kr ?_;simp only[go_sem];refine ja1 kg ?_;simp only[hd0,ja6,go_sem];refine jal [1,2,3,33,34,35] [3] (fun i:Nat=>⟨[(1,.im (.sl GC)),(2,.im (.sl (tab N fun j=>qc (x j)))),(3,.loc 3 2 0 0),(33,.im (.sl (tab N fun j=>qc (x j)))),(34,.im (.int N)),(35,.im (.int i))],[(3,2,[[.int N,.sl (ws.map rwC)]])],[]⟩)
  (fun i=>i<=N/\∀k,k<i->0<=x k) (fun i=>N-i) 0 ?_ ⟨zE _,fun k h=>by omega⟩ ?_
 ·simp only[Int.natCast_zero,go_sem]
 intro i ⟨hi,ha⟩;by_cases hp:(i:Int)<N
 ·have hd:decide ((i:Int)<N)=true:=za hp;have h1:=ja9 (n:=(i:Int)+1) (by omega);have hi0:(0:Int)<=i:=by omega
  have hgq:=qget (f:=x) (show i<N by omega);have ks:=jgl ((hf i).mono (by omega:100000000<=19000000000));have kf:=jqm ((hf i).mono (by omega:100000000<=19000000000));simp only[frac,ints,fc]at ks hgq kf;rcases ds:decide ((x i).num.sign<0)with _ | _
  ·simp only[hd,hp,hi0,hgq,Int.toNat_natCast,ja6,go_sem];refine ja1 kf ?_;simp only[hd,hp,hi0,hgq,Int.toNat_natCast,ja6,go_sem];refine ja1 ks ?_;simp only[ds,go_sem];refine jab (i+1) ?_ (by omega) ⟨by omega,fun k hk=> ?_⟩
   ·simp only[h1,Int.natCast_add,go_sem]
   ·by_cases e:k=i
    ·subst e;exact yH.1 fun h=>zJ ds (sign_neg.2 h)
    ·exact ha k (by omega)
  ·have hbf:b=false:=qQ.2 fun h=>by
    have:=(hb.1 h).pos i (by omega);have:=sign_neg.1 (zI ds);grind
   rw[hbf];simp only[hd,hp,hi0,hgq,Int.toNat_natCast,ja6,go_sem];refine ja1 kf ?_;simp only[hd,hp,hi0,hgq,Int.toNat_natCast,ja6,go_sem];refine ja1 ks ?_;simp only[ds,go_sem]
 have hd:decide ((i:Int)<N)=false:=zq hp;have hpos:∀k,k<N->0<=x k:=fun k hk=>ha k (by omega);simp only[hd,zw,go_sem];clear ha hi hp hd kr kg;refine jal [1,2,49,50,51] [] (fun i:Nat=>⟨[(1,.im (.sl GC)),(2,.im (.sl (tab N fun j=>qc (x j)))),(49,.im (.sl (ws.map rwC))),(50,.im (.int ws.length)),(51,.im (.int i))],[],[]⟩)
  (fun i=>i<=ws.length/\∀w∈ws.take i,(w.kind≠1->0<=tsum w.ts x)/\(w.kind≠0->tsum w.ts x<=0)) (fun i=>ws.length-i) 0 ?_ ⟨zE _,fun w h=>by cases h⟩ ?_
 ·simp only[Int.natCast_zero,go_sem]
 intro i ⟨hi,ha⟩;by_cases hp:(i:Int)<ws.length
 ·have hd:decide ((i:Int)<ws.length)=true:=za hp;obtain⟨w,hw⟩:=jby hp;have hwm:=zk hw;have h1:=ja9 (n:=(i:Int)+1) (by omega);have hi0:(0:Int)<=i:=by omega
  have hgw:=rget hw;obtain⟨w1,w2,w3⟩:=hs.row w hwm;have hrt:=(hs.ok w hwm).ts;have kv:=jix w.ts N x hrt (by omega) (by omega) w3 fun k _=>hf k;have hv:FL 4000000000 (tsum w.ts x):=jjk (by omega) w3 hf;have ks:=jgl (hv.mono (by omega:4000000000<=19000000000));obtain⟨c1,c2⟩:=sgn_iff (r:=tsum w.ts x);unfold xl at kv;simp only[frac,ints]at kv ks;have hbf:¬((w.kind≠1->0<=tsum w.ts x)/\(w.kind≠0->tsum w.ts x<=0))->b=false:=fun h=>qQ.2 fun hb1=>h ((hb.1 hb1).row w hwm);have next:((w.kind≠1->0<=tsum w.ts x)/\(w.kind≠0->tsum w.ts x<=0))->∀v∈ws.take (i+1),(v.kind≠1->0<=tsum v.ts x)/\(v.kind≠0->tsum v.ts x<=0):=fun h v hv=>by
   rw[take_succ hw]at hv;rcases qu.1 hv with hv | hv
   ·exact ha v hv
   ·rw[zF.1 hv];exact h
  generalize (tsum w.ts x).num.sign=sg at*;have e1:decide (sg<0)=true↔tsum w.ts x<0:=qx.trans c1;have e2:decide (0<sg)=true↔0<tsum w.ts x:=qx.trans c2;have e3:decide (w.kind=0)=true↔w.kind=0:=qx;have e4:decide (w.kind=1)=true↔w.kind=1:=qx;simp only[hd,hp,hi0,hgw,Int.toNat_natCast,zw,go_sem];refine ja1 kv ?_;simp only[go_sem];refine ja1 ks ?_;rcases dl:decide (sg<0)with _ | _<;>rcases dg:decide (0<sg)with _ | _<;>rcases dk0:decide (w.kind=0)with _ | _<;>rcases dk1:decide (w.kind=1)with _ | _
  all_goals
   rw[dl]at e1;rw[dg]at e2;rw[dk0]at e3;rw[dk1]at e4
   first
   | (have hno:¬((w.kind≠1->0<=tsum w.ts x)/\(w.kind≠0->tsum w.ts x<=0)):=by grind
      rw[hbf hno];simp only[dl,dg,dk0,dk1,go_sem]
      done)
   | (have hyes:(w.kind≠1->0<=tsum w.ts x)/\(w.kind≠0->tsum w.ts x<=0):=by grind
      simp only[dl,dg,dk0,dk1,go_sem];refine jab (i+1) ?_ (by omega) ⟨by omega,next hyes⟩;simp only[h1,Int.natCast_add,go_sem])
   | (exfalso;grind)
 ·have hd:decide ((i:Int)<ws.length)=false:=zq hp;rw[zt (by omega)]at ha;have hbt:b=decide ((tsum goal x).num.sign<0):=by
   rw[je,hb,qx,sign_neg];exact⟨fun h=>h.goal,fun h=>⟨hpos,ha,h⟩⟩
  simp only[hd,go_sem];refine ja1 kvg ?_;simp only[go_sem];refine ja1 ksg ?_;simp only[hbt,go_sem]
end
end
section
open Go.Shelf Go.RowKit Go.Lib Go.Sort
def sortTerms_ren:Go.Shelf.Ren:=⟨fun | 6=>86 | 15=>121 | 14=>120 | 28=>173 | 29=>174 | 20=>165 | 21=>166 | 22=>167 | 23=>168 | 24=>169 | 25=>170 | 26=>171 | 27=>172 | 46=>203 | 47=>204 | 48=>205 | 49=>206 | 50=>207 | 57=>221 | n=>n,fun | 22=>82 | 24=>155 | 25=>158 | 3=>3 | 39=>186 | 0=>0 | 53=>235 | 55=>181 | 4=>4 | 46=>229 | 45=>228 | 50=>127 | 5=>5 | 9=>9 | 66=>265 | 70=>269 | 76=>281 | 77=>75 | n=>n,fun | n=>n⟩
theorem jp3:Go.Proofs.SlLaysF0.n6 Tryz.prog sortTerms_ren:={
 mixed:=by kernel_rfl
 f6:=⟨Tryz.f86.name,by decide,Tryz.func86.trans (qd some (by kernel_rfl))⟩
 f14:=⟨Tryz.f120.name,by decide,Tryz.func120.trans (qd some (by kernel_rfl))⟩
 f15:=Tryz.func121.trans (qd some (by kernel_rfl))
 f20:=⟨Tryz.f165.name,by decide,Tryz.func165.trans (qd some (by kernel_rfl))⟩
 f21:=⟨Tryz.f166.name,by decide,Tryz.func166.trans (qd some (by kernel_rfl))⟩
 f22:=⟨Tryz.f167.name,by decide,Tryz.func167.trans (qd some (by kernel_rfl))⟩
 f23:=⟨Tryz.f168.name,by decide,Tryz.func168.trans (qd some (by kernel_rfl))⟩
 f24:=⟨Tryz.f169.name,by decide,Tryz.func169.trans (qd some (by kernel_rfl))⟩
 f25:=⟨Tryz.f170.name,by decide,Tryz.func170.trans (qd some (by kernel_rfl))⟩
 f26:=⟨Tryz.f171.name,by decide,Tryz.func171.trans (qd some (by kernel_rfl))⟩
 f27:=⟨Tryz.f172.name,by decide,Tryz.func172.trans (qd some (by kernel_rfl))⟩
 f28:=Tryz.func173.trans (qd some (by kernel_rfl))
 f29:=Tryz.func174.trans (qd some (by kernel_rfl))
 f46:=⟨Tryz.f203.name,by decide,Tryz.func203.trans (qd some (by kernel_rfl))⟩
 f47:=Tryz.func204.trans (qd some (by kernel_rfl))
 f48:=Tryz.func205.trans (qd some (by kernel_rfl))
 f49:=⟨Tryz.f206.name,by decide,Tryz.func206.trans (qd some (by kernel_rfl))⟩
 f50:=⟨Tryz.f207.name,by decide,Tryz.func207.trans (qd some (by kernel_rfl))⟩
 f57:=⟨Tryz.f221.name,by decide,Tryz.func221.trans (qd some (by kernel_rfl))⟩
 t0:=Tryz.underlying0
 a0:=Tryz.isAgg0
 z0:=Tryz.sizeOf0
 v0:=Tryz.zeroValue0
 t3:=Tryz.underlying3
 a3:=Tryz.isAgg3
 z3:=Tryz.sizeOf3
 v3:=Tryz.zeroValue3
 t4:=Tryz.underlying4
 a4:=Tryz.isAgg4
 z4:=Tryz.sizeOf4
 v4:=Tryz.zeroValue4
 t5:=Tryz.underlying5
 a5:=Tryz.isAgg5
 z5:=Tryz.sizeOf5
 v5:=Tryz.zeroValue5
 t9:=Tryz.underlying9
 a9:=Tryz.isAgg9
 z9:=Tryz.sizeOf9
 v9:=Tryz.zeroValue9
 t22:=Tryz.underlying82
 a22:=Tryz.isAgg82
 z22:=Tryz.sizeOf82
 v22:=Tryz.zeroValue82
 t25:=Tryz.underlying158
 a25:=Tryz.isAgg158
 z25:=Tryz.sizeOf158
 v25:=Tryz.zeroValue158
 t39:=Tryz.underlying186
 a39:=Tryz.isAgg186
 z39:=Tryz.sizeOf186
 v39:=Tryz.zeroValue186
 t45:=Tryz.underlying228
 a45:=Tryz.isAgg228
 z45:=Tryz.sizeOf228
 v45:=Tryz.zeroValue228
 t46:=Tryz.underlying229
 a46:=Tryz.isAgg229
 z46:=Tryz.sizeOf229
 v46:=Tryz.zeroValue229
 t50:=Tryz.underlying127
 a50:=Tryz.isAgg127
 z50:=Tryz.sizeOf127
 v50:=Tryz.zeroValue127
 t53:=Tryz.underlying235
 a53:=Tryz.isAgg235
 z53:=Tryz.sizeOf235
 v53:=Tryz.zeroValue235
 t55:=Tryz.underlying181
 a55:=Tryz.isAgg181
 z55:=Tryz.sizeOf181
 v55:=Tryz.zeroValue181
 t66:=Tryz.underlying265
 a66:=Tryz.isAgg265
 z66:=Tryz.sizeOf265
 v66:=Tryz.zeroValue265
 t70:=Tryz.underlying269
 a70:=Tryz.isAgg269
 z70:=Tryz.sizeOf269
 v70:=Tryz.zeroValue269
 t76:=Tryz.underlying281
 a76:=Tryz.isAgg281
 z76:=Tryz.sizeOf281
 v76:=Tryz.zeroValue281
 t77:=Tryz.underlying75
 a77:=Tryz.isAgg75
 z77:=Tryz.sizeOf75
 v77:=Tryz.zeroValue75}
def cmpInts_ren:Go.Shelf.Ren:=⟨fun | 5=>88 | 7=>122 | n=>n,fun | 22=>3 | 3=>3 | 4=>4 | n=>n,fun | n=>n⟩
theorem cmpInts:Go.Proofs.SlLaysC2.n5 Tryz.prog cmpInts_ren:={
 mixed:=by kernel_rfl
 f5:=⟨Tryz.f88.name,by decide,Tryz.func88.trans (qd some (by kernel_rfl))⟩
 f7:=⟨Tryz.f122.name,by decide,Tryz.func122.trans (qd some (by kernel_rfl))⟩
 t3:=Tryz.underlying3
 a3:=Tryz.isAgg3
 z3:=Tryz.sizeOf3
 v3:=Tryz.zeroValue3
 t4:=Tryz.underlying4
 a4:=Tryz.isAgg4
 z4:=Tryz.sizeOf4
 v4:=Tryz.zeroValue4
 t22:=Tryz.underlying3
 a22:=Tryz.isAgg3
 z22:=Tryz.sizeOf3
 v22:=Tryz.zeroValue3}
structure TermV where
 z:Int
 r:List Value
 len:r.length=4
 one:∀v∈r,v.oneCell'=true
instance:Inhabited TermV:=⟨⟨0,[.int .i64 0,.int .i64 0,.int .i64 0,.int .i64 0],rfl,fun v hv=>by simp at hv;subst hv;rfl⟩⟩
def TermV.enc(x:TermV):List Value:= .int .i64 x.z::x.r
def TermV.cmp(x y:TermV):Int:=Lib.compareInt x.z y.z
theorem TermV.lt(x y:TermV):ltOf TermV.cmp x y=decide (x.z<y.z):=by
 unfold ltOf TermV.cmp Lib.compareInt;by_cases h1:x.z<y.z
 ·simp[h1]
 ·by_cases h2:y.z<x.z<;>simp[h1,h2]
theorem TermV.swo:SWO (ltOf TermV.cmp) where
 irrefl x:=by rw[TermV.lt];simp
 trans x y z h1 h2:=by rw[TermV.lt]at*;simp at*;omega
 ntrans x y z h1 h2:=by rw[TermV.lt]at*;simp at*;omega
theorem sort_closure(x y:TermV)(W:World):Calls Tryz.prog 87 #[.agg x.enc.toArray,.agg y.enc.toArray] W fun e w'=>e= .returned (.int .i64 (TermV.cmp x y))/\∃q os',w'=grow (W.drewN q) os':=by
 have hcon:=fun W'=>AnyG.cmp_Compare_int cmpInts x.z y.z W';change ∀W',Calls Tryz.prog 88 _ _ _ at hcon;obtain⟨a,r,hr,_⟩:=x;obtain⟨b,s,hs,_⟩:=y
 match r,hr,s,hs with
 | [r1,r2,r3,r4],_,[s1,s2,s3,s4],_=>
  unfold TermV.cmp TermV.enc;dsimp only at hcon⊢;generalize Lib.compareInt a b=c at hcon⊢
  go_enter Tryz.func87,Tryz.ntmps87
  go_wp2_with (go_at_call 88;refine(hcon _).mono ?_;rintro e w' ⟨rfl,rfl⟩)
  go_ret
  exact⟨rfl,0,_,by rw[alloc_eq_grow,alloc_eq_grow,grow_grow];rfl⟩
theorem sort_calls(blk off cap:Nat)(d:Array TermV)(w:World)(hH:HoldsK TermV.enc 5 w blk off d)(hblk:blk<w.heap.size)(hsz:d.size<4611686018427387904):
  Calls Tryz.prog 86 #[.slice (some ⟨blk,off,none⟩) d.size cap,.func (.func 87) #[] #[]] w fun e w'=>e= .returned (.tuple #[])/\∃d' n os,PermIn 0 d.size d d'/\SortedIn (ltOf TermV.cmp) 0 d.size d'/\w'=sortWorldK TermV.enc 5 w blk off n d' os:=by
 have eg:∀args w,(callFunc 87 args).run Tryz.prog w= .ok (.enter 87 args) w:=enters_of Tryz.func87 (by kernel_rfl) rfl;exact AnyQ.slices_SortFunc jp3 5 Tryz.isAgg155 Tryz.sizeOf155 TermV.enc (fun x=>by simp[TermV.enc,x.len]) (fun x v hv=>by
  unfold TermV.enc at hv;rcases zS.1 hv with rfl | hv
  ·rfl
  ·exact x.one v hv) TermV.cmp TermV.swo 87 #[] blk off cap d w eg (fun _ _ _ _ x y=>sort_closure x y _) hH hblk hsz
end
section
open Go.Abs Go.Sort
section
variable{α:Type}[Inhabited α]{enc:α->List Value}{k:Nat}{w:World}{b n:Nat}{d:Array α}{os:Array Obj}
theorem sw_heap{cur:Array Value}{T:TypeId}{z:Nat×Nat}(h:w.heap[b]? =some (.cells cur T z)):(sortWorldK enc k w b 0 n d os).heap[b]? =some (.cells (putCells id 0 (flatK enc k d) cur) T z):=by
 have hb:b<w.heap.size:=(zG.1 h).1;unfold sortWorldK grow putRowK putRow mapBlock Go.Sort.ahead;dsimp only;rw[yi (by rw[vJ];exact hb),jF,zm rfl,h];rfl
theorem ji2{b':Nat}(h:b'≠b)(hb:b'<w.heap.size):(sortWorldK enc k w b 0 n d os).heap[b']? =w.heap[b']? :=by
 unfold sortWorldK grow putRowK putRow mapBlock Go.Sort.ahead;dsimp only;rw[yi (by rw[vJ];exact hb),jF,zn (zD h)]
theorem sw_size:w.heap.size<=(sortWorldK enc k w b 0 n d os).heap.size:=by
 unfold sortWorldK grow putRowK putRow mapBlock Go.Sort.ahead;dsimp only;rw[jj,vJ];omega
theorem sw_cell{cur:Array Value}(hk:∀x,(enc x).length=k){i j:Nat}{x:α}{u:Value}(hi:d[i]? =some x)(hj:(enc x)[j]? =some u)(hc:i*k+j<cur.size):(putCells id 0 (flatK enc k d) cur)[i*k+j]? =some u:=by
 have hjk:j<k:=by rw[<-hk x];exact(zu.1 hj).1
 have hid:i<d.size:=(zG.1 hi).1;have hlt:i*k+j<d.size*k:=by
  have:=qy k (show i+1<=d.size from hid);rw[qD,vO]at this;omega
 have e1:(i*k+j)/k=i:=by rw[yl,Nat.mul_add_div (by omega),jH hjk,Nat.add_zero]
 have e2:(i*k+j) % k=j:=by rw[yl,vQ,jm hjk]
 unfold putCells;rw[Array.getElem?_mapIdx,yO hc,Option.map_some,zm ⟨zE _,by rw[size_flatK];omega⟩,Nat.sub_zero,get_flatK _ _ _ _ hlt,e1,e2];rw[jU d i hid,(zG.1 hi).2];rw[id,List.getElem!_eq_getElem?_getD,hj];rfl
end
inductive F2{α β:Type}(R:α->β->Prop):List α->List β->Prop
 | nil:F2 R [] []
 | cons {x y l m}:R x y->F2 R l m->F2 R (x::l) (y::m)
theorem F2.of{α β:Type}{R:α->β->Prop}:∀{l:List α} {m:List β},l.length=m.length->(∀(i:Nat) (x:α) (y:β),l[i]? =some x->m[i]? =some y->R x y)->F2 R l m
 | [],[],_,_=> .nil
 | x::l,y::m,h,hr=> .cons (hr 0 x y rfl rfl) (F2.of (by simpa using h) fun i a c h1 h2=>hr (i+1) a c (by simpa using h1) (by simpa using h2))
theorem F2.get{α β:Type}{R:α->β->Prop}{l:List α}{m:List β}(h:F2 R l m):∀{i:Nat} {x:α} {y:β},l[i]? =some x->m[i]? =some y->R x y:=by
 induction h with
 | nil=>intro i x y h1;simp at h1
 | cons h1 _ ih=>
  intro i x y g1 g2;cases i with
  | zero=>simp at g1 g2;subst g1 g2;exact h1
  | succ i=>exact ih (by simpa using g1) (by simpa using g2)
theorem perm_rel{α β:Type}{R:α->β->Prop}{l l':List α}(hp:l.Perm l'):∀{m:List β},F2 R l m->∃m',m'.Perm m/\F2 R l' m':=by
 induction hp with
 | nil=>intro m h;exact⟨m,jX _,h⟩
 | cons x _ ih=>
  intro m h;cases h with
  | cons h1 h2=>
   obtain⟨m',g1,g2⟩:=ih h2;exact⟨_,g1.cons _,.cons h1 g2⟩
 | swap x y l=>
  intro m h;cases h with
  | cons h1 h2=>
   cases h2 with
   | cons h3 h4=>exact⟨_,List.Perm.swap _ _ _,.cons h3 (.cons h1 h4)⟩
 | trans _ _ ih1 ih2=>
  intro m h;obtain⟨m1,g1,g2⟩:=ih1 h;obtain⟨m2,g3,g4⟩:=ih2 g2;exact⟨m2,g3.trans g1,g4⟩
def keyC:List IV->Int
 | .sc (.int .i64 z)::_=>z
 | _=>0
theorem frozen0{w:World}{b o:Nat}{cur:Array Value}{T:TypeId}(h:w.heap[b]? =some (.cells cur T (0,0))):w.frozen? ⟨b,o,none⟩=false:=by
 simp[World.frozen?,h]
theorem cell0{w:World}{b o:Nat}{cur:Array Value}{T:TypeId}{u:Value}(h:w.heap[b]? =some (.cells cur T (0,0)))(hc:cur[o]? =some u):w.cell? ⟨b,o,none⟩=some u:=by
 simp[World.cell?,h,hc]
open Classical in
theorem w_sort{b:Nat}{es:List (List IV)}{L:Abs.Rows}(hL:Abs.look L (hp b)=some (5,es))(hlen:es.length<4611686018427387904)(hes:∀c∈es,∃z r,c= .int z::r):
  CtrH G.P 86 [.im (.ref b 155 5 es.length),.im (.clo 87 [])] L (fun r L'=>r= .im (.tup [])/\∃es':List (List IV),es'.Perm es/\(∀(i j:Nat) x y,i<j->es'[i]? =some x->es'[j]? =some y->keyC x<=keyC y)/\L'=setRow L (hp b) 5 es'):=by
 intro w M vs hM hrows hvl hargs;obtain⟨b',hb',hnM,cur,T,hcur,hclen,hcells⟩:=hrows _ _ _ hL;have hbb:=hp_inj.1 hb';subst hbb
 match vs,hvl with
 | [v0,v1],_=>
 have a0:Rep w (MoH M L) (.ref b 155 5 es.length) v0:=hargs 0 _ _ rfl rfl;have a1:Rep w (MoH M L) (.clo 87 []) v1:=hargs 1 _ _ rfl rfl;obtain⟨cp,rfl,hcp⟩:=a1.clo_inv;have hcp0:cp= #[]:=by
  have:=hcp.1;simp at this;exact vM this.symm
 subst hcp0;have a0':∃cap,v0= .slice (some ⟨b,0,none⟩) es.length cap/\es.length<=cap/\cur.size=cap*5:=by
  cases a0 with
  | ref _ _ _ _ cap cur2 g1 g2 g3 g4=>
   rw[hcur]at g1;cases g1;exact⟨cap,rfl,g2,g4⟩
 obtain⟨cap,rfl,hcap,hsz⟩:=a0';have hx:∀i,∃x:TermV,i<es.length->(∀j,j<5->cur[i*5+j]? =x.enc[j]?)/\(∀c,es[i]? =some c->x.z=keyC c):=by
  intro i;by_cases hi:i<es.length
  ·obtain⟨c,hc⟩:∃c,es[i]? =some c:=⟨_,zh hi⟩;obtain⟨z,r,rfl⟩:=hes c (zk hc);have hl5:=hclen _ (zk hc);have hr4:r.length=4:=by simpa using hl5
   match r,hr4 with
   | [r1,r2,r3,r4],_=>
    obtain⟨_,u0,c0,q0⟩:=hcells i _ 0 _ hc rfl;obtain⟨o1,u1,c1,q1⟩:=hcells i _ 1 _ hc rfl;obtain⟨o2,u2,c2,q2⟩:=hcells i _ 2 _ hc rfl;obtain⟨o3,u3,c3,q3⟩:=hcells i _ 3 _ hc rfl;obtain⟨o4,u4,c4,q4⟩:=hcells i _ 4 _ hc rfl;have e0:u0= .int .i64 z:=by cases q0;rfl
    subst e0;refine⟨⟨z,[u1,u2,u3,u4],rfl,fun v hv=> ?_⟩,fun _=>⟨fun j hj=> ?_,fun c' hc'=> ?_⟩⟩
    ·simp at hv;rcases hv with rfl | rfl | rfl | rfl
     ·exact q1.oneCell o1
     ·exact q2.oneCell o2
     ·exact q3.oneCell o3
     ·exact q4.oneCell o4
    ·match j,hj with
     | 0,_=>exact c0
     | 1,_=>exact c1
     | 2,_=>exact c2
     | 3,_=>exact c3
     | 4,_=>exact c4
    ·rw[hc]at hc';cases hc';rfl
  ·exact⟨default,fun h=>absurd h hi⟩
 obtain⟨f,hf⟩:=Classical.axiomOfChoice hx;obtain⟨d,hd⟩:∃d:Array TermV,d=((List.range es.length).map f).toArray:=⟨_,rfl⟩;have hds:d.size=es.length:=by rw[hd];simp
 have hdg:∀i,i<es.length->d[i]? =some (f i):=fun i hi=>by rw[hd];simp[hi]
 have hlen5:∀x:TermV,x.enc.length=5:=fun x=>by simp[TermV.enc,x.len]
 have hH:HoldsK TermV.enc 5 w b 0 d:=by
  unfold HoldsK Holds;intro t ht;rw[size_flatK,hds]at ht;have hi:t/5<es.length:=by omega
  have hj:t % 5<5:=by omega
  obtain⟨g1,_⟩:=hf (t/5) hi;have g2:=g1 (t % 5) hj;have ht5:t/5*5+t % 5=t:=by omega
  rw[ht5,zh (by rw[hlen5];exact hj)]at g2;refine⟨?_,frozen0 hcur⟩;rw[qH,cell0 hcur g2,get_flatK _ _ _ _ (by rw[hds];exact ht),jU d _ (by omega),(zG.1 (hdg _ hi)).2,jU _ _ (by rw[hlen5];exact hj)];rfl
 have hblk:b<w.heap.size:=(zG.1 hcur).1;have hcall:=sort_calls b 0 cap d w hH hblk (by omega);rw[hds]at hcall;refine hcall.mono ?_;rintro e w' ⟨rfl,d',n,os,hperm,hsorted,rfl⟩;have hR:F2 (fun(x:TermV) (c:List IV)=>x.z=keyC c/\c.length=5/\∀(j:Nat) y u,c[j]? =some y->x.enc[j]? =some u->y.one=true/\Rep w (MoH M L) y u) d.toList es:=by
  refine F2.of (by rw[Array.length_toList,hds]) fun i x c h1 h2=> ?_;have hi:=(zu.1 h2).1;have hxi:x=f i:=by
   have:=hdg i hi;rw[ql]at h1;rw[this]at h1;exact(jP h1).symm
  subst hxi;obtain⟨g1,g2⟩:=hf i hi;have hl5:=hclen c (zk h2);refine⟨g2 c h2,hl5,fun j y u hy hu=> ?_⟩;obtain⟨o,u',c',q⟩:=hcells i c j y h2 hy;have hj:j<5:=by rw[<-hl5];exact(zu.1 hy).1
  rw[g1 j hj,hu]at c';cases c';exact⟨o,q⟩
 obtain⟨hp1,_,hp2⟩:=hperm;have hd's:d'.size=es.length:=by rw[hp1,hds]
 have hpl:d.toList.Perm d'.toList:=by
  have e1:(d'.extract 0 es.length)=d':=by rw[<-hd's];simp
  have e2:(d.extract 0 es.length)=d:=by rw[<-hds];simp
  rw[e1,e2]at hp2;exact hp2.symm
 obtain⟨es',hpe,hR'⟩:=perm_rel hpl hR;have hle:es'.length=es.length:=hpe.length_eq;have hMo:MoH M (setRow L (hp b) 5 es')=MoH M L:=by
  funext b1 o;unfold MoH;rw[jbq]
 have hshp:Shp w (sortWorldK TermV.enc 5 w b 0 n d' os):=fun b1 c1 T1 h1=>by
  by_cases e:b1=b
  ·subst e;refine⟨_,sw_heap h1,?_⟩;unfold putCells;rw[Array.size_mapIdx]
  ·exact⟨c1,by rw[ji2 e (zG.1 h1).1];exact h1,rfl⟩
 have hbM:∀o,MoH M L b o:=fun o=> .inr (by rw[hL];rfl);have hkept:Go.Abs.Kept w (MoH M L) (sortWorldK TermV.enc 5 w b 0 n d' os) (MoH M L):=by
  refine⟨fun b1 o u hc hm=>⟨?_,hm⟩,fun b1 me c hc hm=>⟨?_,hm⟩,hshp⟩
  ·have e:b1≠b:=fun e=>by subst e;exact hm (hbM o)
   rw[World.cell?_of_block (w:=w) (a:=⟨b1,o,none⟩) (ji2 e (World.block_lt_of_cell? (a:=⟨b1,o,none⟩) w hc))];exact hc
  ·have e:b1≠b:=fun e=>by subst e;exact hm (hbM 0)
   rw[ji2 e (zG.1 hc).1];exact hc
 refine⟨.im (.tup []),.tuple #[],_,⟨rfl,es',hpe,fun i j x y hij h1 h2=> ?_,rfl⟩,rfl,rfl,⟨rfl,rfl,rfl,sw_size,fun k hk=> ?_,hshp⟩,fun k s es2 hk=> ?_,Rep.tup _ _ rfl fun k x v h=>(by simp at h)⟩
 ·have hi:=(zu.1 h1).1;have hj:=(zu.1 h2).1;have hdi:d'.toList[i]? =some d'[i]! :=by
   rw[ql,yO (by omega),jU d' i (by omega)]
  have hdj:d'.toList[j]? =some d'[j]! :=by
   rw[ql,yO (by omega),jU d' j (by omega)]
  have r1:=(hR'.get hdi h1).1;have r2:=(hR'.get hdj h2).1;have:=hsorted i j (zE _) hij (by omega);rw[TermV.lt]at this;have:=zJ this;rw[<-r1,<-r2];omega
 ·obtain⟨k1,k2⟩:=hk;exact ji2 (fun e=>by subst e;rw[hL]at k2;cases k2) k1
 ·by_cases e:k=hp b
  ·subst e;rw[jbz (by rw[hL];rfl)]at hk;cases hk;refine⟨b,rfl,.inl (by rw[hL];rfl),_,T,sw_heap hcur,fun c hc=> ?_,fun i c j y hi hj=> ?_⟩
   ·exact hclen c (hpe.mem_iff.1 hc)
   ·have hil:=(zu.1 hi).1;have hdi:d'.toList[i]? =some d'[i]! :=by
     rw[ql,yO (by omega),jU d' i (by omega)]
    obtain⟨_,r2,r3⟩:=hR'.get hdi hi;have hj5:j<5:=by rw[<-r2];exact(zu.1 hj).1
    have hu:(d'[i]!).enc[j]? =some ((d'[i]!).enc[j]'(by rw[hlen5];exact hj5)):=zh _;obtain⟨o,q⟩:=r3 j y _ hj hu;refine⟨o,_,sw_cell hlen5 (by rw[<-ql];exact hdi) hu (by omega),?_⟩;rw[hMo];exact q.kept hkept
  ·rw[jc9 e]at hk;obtain⟨b1,rfl,h2,c1,T1,g1,g2,g3⟩:=hrows k s es2 hk;have e1:b1≠b:=fun h=>e (by rw[h]);refine⟨b1,rfl,.inl (by rw[hk];rfl),c1,T1,by rw[ji2 e1 (zG.1 g1).1];exact g1,g2,fun i c j y hi hj=> ?_⟩;obtain⟨o,u,q1,q2⟩:=g3 i c j y hi hj;exact⟨o,u,q1,by rw[hMo];exact q2.kept hkept⟩
theorem w_sort0:Ctr G.P 86 [.sl [],.clo 87 []] (· = .tup []):=by
 intro w M vs hM hr
 match vs,hr.1 with
 | [v0,v1],_=>
  have a0:Rep w M (.sl []) v0:=hr.2 0 _ _ rfl rfl;obtain⟨p,c,rfl⟩:∃p c,v0= .slice p 0 c:=by
   rcases a0.sl_inv with ⟨_,a,c,rfl⟩ | ⟨s',b,o,c,u,hne,_⟩
   ·exact⟨_,_,rfl⟩
   ·exact absurd rfl hne
  refine Calls.mono (AnyF.slices_SortFunc_none jp3 p c v1 w) ?_;rintro e w' ⟨rfl,rfl⟩;exact⟨.tup [],_,rfl,rfl,Rep.tup _ _ rfl fun k x v h=>(by simp at h),Go.RowKit.Below.refl _ _⟩
end
section
open Go.Abs
open Go.LP (Rw RT tsum)
attribute [local go_sem] ints ic big frac fc rwC tmC Evid.c Place.c Move.c Cert.c Recall.c Purity.c
theorem Behind_pre1{pre L':Abs.Rows}:jfk pre [] L' (pre++L'):=fun k x hk=>by
 induction pre with
 | nil=>exact .inl hk
 | cons p pre ih=>
  obtain⟨j,v⟩:=p;by_cases e:k=j
  ·subst e;rw[List.cons_append,ja2]at hk;exact .inr ⟨rfl,by rw[ja2];exact hk⟩
  ·rw[List.cons_append,ja0 _ _ e]at hk;rcases ih hk with h | ⟨h1,h2⟩
   ·exact .inl h
   ·exact .inr ⟨h1,by rw[ja0 _ _ e];exact h2⟩
theorem jap{Q L L2:Abs.Rows}:∀(pre:Abs.Rows),(∀p∈pre,Abs.look L p.1=none)->jfk (pre++Q) L L2 (pre++L2)
 | [],_=>fun _ _ h=> .inl h
 | (j,v)::pre,hp=>fun k x h=>by
  by_cases e:k=j
  ·subst e;rw[List.cons_append,ja2]at h⊢;exact .inr ⟨hp _ (zN ..),h⟩
  ·rw[List.cons_append,ja0 _ _ e]at h⊢;exact jap pre (fun p h=>hp p (zQ _ h)) k x h
theorem jjg{L R:Abs.Rows}(hb:blks L)(hs:SubR L R):SubR L (hiR R):=fun k x hk=>by
 obtain⟨b,rfl⟩:=hb k x hk;rw[jau];exact hs _ _ hk
theorem jbe{L:Abs.Rows}(hL:blks L):∀{pre:Abs.Rows},(pre.all fun p=>decide (p.1<100000))=true->∀p∈pre,Abs.look L p.1=none:=fun h p hp=>jay hL (zI (List.all_eq_true.1 h p hp))
theorem jgg{L R:Abs.Rows}{b:Nat}(hs:SubR L R)(h:Abs.look L (hp b)=none):SubR L (Abs.del R (hp b)):=fun k x hk=>by
 rw[ja7 _ (fun e=>by subst e;rw[h]at hk;cases hk)];exact hs k x hk
theorem jov{M mv:Nat}:∀k,(sumT M mv 1 (-1) 0 k).length=k
 | 0=>rfl
 | k+1=>by
  have h:coF 1 (-1) 0 k=1:=by unfold coF;split<;>rfl
  rw[jnf (by rw[h];decide),zH,jov k];rfl
theorem jqf{A n:Nat}(h:n=0):rA A n= .im (.sl []):=zm h
theorem jpb{A n:Nat}(h:n≠0):rA A n= .im (.ref A 155 5 n):=zn h
section
variable{L:Abs.Rows}{nm:MN}{e:Evid}{ws:List Rw}{os:List (List IV)}{M:Nat}
theorem jsc(h:HasM L nm e ws os)(hM:e.mats=(M:Int))(mv:Nat)(x:Move)(hx:e.moves[mv]? =some x)(hm:mv<=1000)(hM6:M<=6)(hM1:1<=M)(hl:ws.length<=9000)(l1:e.certs.length<=100000)(l2:e.recalls.length<=100000)(l3:e.moves.length<=100000):
  CtrH G.P 124 [.loc (hp nm.d) 10 0 0,.im (.int mv)] L (fun r L'=>r= .im (.tup [])/\∃(nm':MN) (os':List (List IV)),nm'.d=nm.d/\HasM L' nm' e (ws++je3 e M mv x) os'):=by
 have hb:=h.blk;have F1:=bF hb;have K1:=bK hb;have G1:=bN hb;have c0:=h.hd;simp only[Evid.c]at c0;have hlt:(mv:Int)<e.moves.length:=by have:=(zu.1 hx).1;omega
 have h0:(0:Int)<=mv:=by omega
 have hiv:=h_ivl e.certs e.recalls x.scale x.reading x.day l1 l2;unfold je3;rcases hsc:decide (x.scale= -1)with _ | _
 ·rw[zn (zJ hsc)];rcases hr:ivlF e.certs e.recalls x.scale x.reading x.day with _ | ⟨lo,hi⟩
  ·rw[hr]at hiv;simp only[ivlIV,zf]at hiv;refine jav [] [50,58] [] Tryz.func124 ?_;simp only[c0,hlt,h0,hx,ze,zw,Int.toNat_natCast,F1,K1,G1,go_sem];simp only[hsc,F1,K1,G1,go_sem];refine jaf ?_;simp only[c0,F1,K1,G1,go_sem];refine ja4 hiv (by decide) ?_;simp only[c0,F1,K1,G1,go_sem];refine jbg ?_;simp only[go_sem];exact⟨nm,os,rfl,h.sub jee (jjg hb (ja3 (by decide) hb (ja3 (by decide) hb (ja3 (by decide) hb (SubR.refl _)))))⟩
  ·rw[hr]at hiv;simp only[ivlIV,frac,ints]at hiv;have ks1:=e_sum h hM mv 1 (-1) 0 hm hM6 (by omega) (by omega);have ka1:=e_add h ⟨sumT M mv 1 (-1) 0 M,0,lo⟩ 1 mv (-1) (-1) (by omega) (OgOk.low hM hx (zJ hsc) hr);simp only[frac,ints]at ka1;have hdd:=h.hd;have hn0:(sumT M mv 1 (-1) 0 M).length≠0:=by rw[jov];omega
   ·have htk:List.take (sumT M mv 1 (-1) 0 M).length ((sumT M mv 1 (-1) 0 M).map tmC)=(sumT M mv 1 (-1) 0 M).map tmC:=zt (by rw[zw];exact zB _);refine jav [] [50,58] [] Tryz.func124 ?_;simp only[c0,hlt,h0,hx,ze,zw,Int.toNat_natCast,F1,K1,G1,go_sem];simp only[hsc,F1,K1,G1,go_sem];refine jaf ?_;simp only[c0,F1,K1,G1,go_sem];refine ja4 hiv (by decide) ?_;simp only[c0,F1,K1,G1,go_sem];refine jcf [false,false,false,true,false,false] [(8,4,[[.int 1,.int mv,.int (-1),.int (-1)]]),(5,4,[fc lo])] (by decide+kernel) (jb5 rfl (jax rfl)) ?_;simp only[F1,K1,G1,go_sem];refine jct ks1 (by decide) (by simp only[zl,zC,qr,jaw];rfl) hb (ja3 (by decide) hb (ja3 (by decide) hb (ja3 (by decide) hb (ja3 (by decide) hb (SubR.refl _))))) ?_;rintro _ L1 ⟨A1,rfl,b1,s1,n1⟩ _;refine⟨(8,4,[[.int 1,.int mv,.int (-1),.int (-1)]])::(5,4,[fc lo])::(6,4,[fc hi])::(4,6,[x.c])::L1,jap [_,_,_,_] (jbe hb (by simp)),?_⟩;obtain⟨lA1,lLA1⟩:=n1 hn0;have hrA1:=jpb (A:=A1) hn0;have ndA1:¬nm.d=A1:=fun e=>by have h1:=hdd;rw[e,lLA1]at h1;cases h1
    refine And.intro (jb5 rfl (jax rfl)) ?_;obtain⟨Q1,Q1e⟩:∃Q1,Abs.del L1 (hp A1)=Q1:=⟨_,rfl⟩;have Q1f:List.filter (fun p=>p.1 !=hp A1) L1=Q1:=Q1e;have bQ1:blks Q1:=Q1e▸jbx b1;have sQ1:=Q1e▸jgg s1 lLA1;have F1a:=bF b1;have F1b:=bF bQ1;have G1b:=bN bQ1;have K1b:=bK bQ1;have bn1:(8 !=hp A1)=true/\(6 !=hp A1)=true/\(5 !=hp A1)=true/\(4 !=hp A1)=true:=by
     simp only[qk,ne_eq];exact⟨hp_ne (by decide),hp_ne (by decide),hp_ne (by decide),hp_ne (by decide)⟩
    simp only[hrA1,lA1,ndA1,Q1f,htk,zB,bn1,F1a,F1b,G1b,K1b,go_sem];refine jaj ka1 (by decide) (by simp only[zl,zC,jaw];rfl) hb (ja3 (by decide) hb (ja3 (by decide) hb (ja3 (by decide) hb (ja3 (by decide) hb sQ1)))) ?_;rintro _ L2 ⟨rfl,nm2,hn2,hM2⟩ _;refine⟨(8,4,[[.int 1,.int mv,.int (-1),.int (-1)]])::(5,4,[fc lo])::(6,4,[fc hi])::(4,6,[x.c])::L2,jap [_,_,_,_] (jbe hb (by simp)),?_⟩;have bL2:=hM2.blk;have F1c:=bF bL2;have G1c:=bN bL2;have K1c:=bK bL2;have ks2:=e_sum hM2 hM mv 1 (-1) 0 hm hM6 (by omega) (by omega);have ka2:=e_add hM2 ⟨sumT M mv 1 (-1) 0 M,1,hi⟩ 2 mv (-1) (-1) (by rw[zH,List.length_singleton];omega) (OgOk.high hM hx (zJ hsc) hr);simp only[frac,ints]at ka2;rw[hn2]at ks2 ka2;have hed:=hM2.hd;rw[hn2]at hed;simp only[F1c,G1c,K1c,go_sem];refine jcf [false,false,false,true,false,false] [(8,4,[[.int 2,.int mv,.int (-1),.int (-1)]]),(6,4,[fc hi])] (by decide+kernel) (jb5 rfl (jax rfl)) ?_;simp only[F1c,G1c,K1c,go_sem];refine jct ks2 (by decide) (by simp only[zl,zC,qr,jaw];rfl) bL2 (ja3 (by decide) bL2 (ja3 (by decide) bL2 (ja3 (by decide) bL2 (ja3 (by decide) bL2 (SubR.refl _))))) ?_;rintro _ L3 ⟨A2,rfl,b2,s2,n2⟩ _
    refine⟨(8,4,[[.int 2,.int mv,.int (-1),.int (-1)]])::(5,4,[fc lo])::(6,4,[fc hi])::(4,6,[x.c])::L3,jap [_,_,_,_] (jbe bL2 (by simp)),?_⟩;obtain⟨lA2,lLA2⟩:=n2 hn0;have hrA2:=jpb (A:=A2) hn0;have ndA2:¬nm.d=A2:=fun e=>by have h1:=hed;rw[e,lLA2]at h1;cases h1
    refine And.intro (jb5 rfl (jax rfl)) ?_;obtain⟨Q3,Q3e⟩:∃Q3,Abs.del L3 (hp A2)=Q3:=⟨_,rfl⟩;have Q3f:List.filter (fun p=>p.1 !=hp A2) L3=Q3:=Q3e;have bQ3:blks Q3:=Q3e▸jbx b2;have sQ3:=Q3e▸jgg s2 lLA2;have F2a:=bF b2;have F2b:=bF bQ3;have G2b:=bN bQ3;have K2b:=bK bQ3;have bn2:(8 !=hp A2)=true/\(6 !=hp A2)=true/\(5 !=hp A2)=true/\(4 !=hp A2)=true:=by
     simp only[qk,ne_eq];exact⟨hp_ne (by decide),hp_ne (by decide),hp_ne (by decide),hp_ne (by decide)⟩
    simp only[hrA2,lA2,ndA2,Q3f,htk,zB,bn2,F2a,F2b,G2b,K2b,go_sem];refine jaj ka2 (by decide) (by simp only[zl,zC,jaw];rfl) bL2 (ja3 (by decide) bL2 (ja3 (by decide) bL2 (ja3 (by decide) bL2 (ja3 (by decide) bL2 sQ3)))) ?_;rintro _ L4 ⟨rfl,nm4,hn4,hM4⟩ _;refine⟨(8,4,[[.int 2,.int mv,.int (-1),.int (-1)]])::(5,4,[fc lo])::(6,4,[fc hi])::(4,6,[x.c])::L4,jap [_,_,_,_] (jbe bL2 (by simp)),?_⟩;have bL4:=hM4.blk;have F2c:=bF bL4;have G2c:=bN bL4;have K2c:=bK bL4;simp only[F2c,G2c,K2c,go_sem];refine jbg ?_;simp only[go_sem];rw[qv]at hM4;exact⟨nm4,_,hn4,hM4.sub jee (jjg bL4 (ja3 (by decide) bL4 (ja3 (by decide) bL4 (ja3 (by decide) bL4 (ja3 (by decide) bL4 (SubR.refl L4))))))⟩
 ·rw[zm (zI hsc),qr];refine jav [] [50,58] [] Tryz.func124 ?_;simp only[c0,hlt,h0,hx,hsc,ze,zw,Int.toNat_natCast,F1,K1,G1,go_sem];refine jbg ?_;simp only[go_sem];exact⟨nm,os,rfl,h.sub jee (jjg hb (ja3 (by decide) hb (SubR.refl _)))⟩
