/- A part of the proof. No further condition. -/
import Derived.Test.YthahgoopboilkaaGreatKE38
set_option linter.all false
set_option maxRecDepth 10000000
set_option maxHeartbeats 16000000
namespace Go.Proofs.YthahgoopboilkaaGreat
section
open Go.Abs
open Go.LP (Dic Rw RT Ov OvRw tsum Sol IsMin NoMin Bds)
section
variable{cs cs':List Cert}{rs rs':List Recall}{sc rd day:Int}
def bestS(sc day:Int)(b:Option Cert)(c:Cert):Option Cert:=if(decide (c.scale=sc)&&jdz c day&&b.elim true fun b=>decide (b.fr<=c.fr))=true then some c else b
def bestF(l:List Cert)(sc day:Int):Option Cert:=l.foldl (bestS sc day) none
end
section
variable{e:Evid}
end
end
section
open Go.Abs
open Go.LP (Dic Rw RT Ov OvRw tsum Sol IsMin NoMin Bds)
structure Stp where
 kind:Int
 m:Move
 c:Cert
 r:Recall
 p:Purity
section
variable{e:Evid}{x y:Stp}
structure Alike(e e':Evid):Prop where
 mats:e'.mats=e.mats
 moves:e'.moves=e.moves
 places:e'.places=e.places
 best:∀sc day,bestF e'.certs sc day=bestF e.certs sc day
 recs:∀f:Recall->Bool,e'.recalls.any f=e.recalls.any f
 purs:∀p,p∈e'.purs↔p∈e.purs
structure Few3(e:Evid)(k:Nat):Prop where
 certs:e.certs.length<=10+k
 recalls:e.recalls.length<=4+k
 purs:e.purs.length<=6+k
end
end
section
open Go.Abs
attribute [local go_sem] ints ic big frac fc zc
theorem jqe(a b:Rat):(decide (a.num=b.num)&&decide ((a.den:Int)=(b.den:Int)))=decide (a=b):=by
 by_cases h:a=b
 ·subst h;simp
 ·rw[zq h];by_cases h1:a.num=b.num
  ·have h2:¬(a.den:Int)=(b.den:Int):=fun e=>h (Rat.ext h1 (by omega));rw[zq h2,yq]
  ·rw[zq h1,qp]
theorem u_same{a b:Rat}(ha:FL 19000000000 a):Ctr G.P 31 [frac a,frac b] (· = .bool (decide (a=b))):=by
 have h:=u_frac a.num.sign (a.den:Int).sign (dig a.num.natAbs) (dig (a.den:Int).natAbs) b.num.sign (b.den:Int).sign (dig b.num.natAbs) (dig (b.den:Int).natAbs)
  (by have:=ha.1;omega) (by have:=ha.2;rw[Int.natAbs_natCast];omega)
 rw[jjc,jjc,jqe]at h;exact h
end
section
open Go.Abs
open Go.LP (Rw RT tsum Sol IsMin NoMin S cf cfU)
attribute [local go_sem] ints ic big frac fc zc rwC tmC Raw.c
theorem jg5:∀(ts:List (Nat×Rat)) (x d:Nat->Rat) (t:Rat),tsum ts (fun k=>x k+t*d k)=tsum ts x+t*tsum ts d
 | [],_,_,_=>by simp only[tsum];grind
 | u::ts,x,d,t=>by simp only[tsum];rw[jg5 ts x d t];grind
section
variable{N:Nat}{ws:List Rw}{goal:List (Nat×Rat)}{X Y Z:List Raw}
theorem RayOk.sol{x d:Nat->Rat}(h:RayOk N ws goal d)(hx:Sol N ws x){t:Rat}(ht:0<=t):Sol N ws fun k=>x k+t*d k where
 pos k hk:=by
  have h1:=hx.pos k hk;have h2:=qG ht (h.pos k hk);grind
 row w hw:=by
  obtain⟨a1,a2⟩:=hx.row w hw;obtain⟨b1,b2⟩:=h.row w hw;refine⟨fun e=> ?_,fun e=> ?_⟩
  ·rw[jg5];have h2:=qG ht (b1 e);have:=a1 e;grind
  ·rw[jg5];have h2:=qG ht (show 0<= -tsum w.ts d by have:=b2 e;grind);have:=a2 e;grind
theorem RayOk.noMin{x d:Nat->Rat}(h:RayOk N ws goal d)(hx:Sol N ws x):NoMin N ws goal:=by
 refine⟨⟨x,hx⟩,fun c=> ?_⟩;have hg:=h.goal;generalize hp:tsum goal d=p at hg;by_cases hc:tsum goal x<c
 ·exact⟨x,hx,hc⟩
 have hq:0< -p:=by grind
 have h0:0<=tsum goal x-c+1:=by grind
 have hi:0<=(-p)⁻¹:=Rat.le_of_lt (Rat.inv_pos.2 hq);have ht:0<=(tsum goal x-c+1)*(-p)⁻¹:=qG h0 hi;refine⟨_,h.sol hx ht,?_⟩;rw[jg5,hp];have e:(-p)⁻¹*(-p)=1:=Rat.inv_mul_cancel _ (by grind);have:(tsum goal x-c+1)*(-p)⁻¹*p= -(tsum goal x-c+1):=by
  have:(tsum goal x-c+1)*((-p)⁻¹*(-p))=(tsum goal x-c+1):=by rw[e];grind
  grind
 rw[this];grind
def ChkS(N:Nat)(ws:List Rw)(goal:List (Nat×Rat))(k:Int)(v:Raw):Prop:=
 (k=0/\∃val,IsMin N ws goal val/\v.c=fc val)\/(k=2/\NoMin N ws goal/\v.c=zc)
theorem d_holdsE(hs:SysOk N ws)(hX:X.length<=100000){k:Nat}(hk4:4<=k)(hk8:k<=100000000)(hk:RawL k X):
  ∃h,Ctr G.P 137 [.agg [.int N,.sl (ws.map rwC)],.sl (X.map Raw.c)] (· = .bool h)/\(h=true->X.length=N/\∃x,X.map Raw.c=tab N (fun j=>qc (x j))/\(∀j,FL k (x j))/\Sol N ws x):=by
 classical
 have hk':RawL 50000000000 X:=fun x hx=>by have:=hk x hx;omega
 by_cases hp:X.length=N/\X.all rwR=true
 ·obtain⟨x,e1,e2⟩:=jkt hk4 hp.2 hk;rw[hp.1]at e1;refine⟨decide (Sol N ws x),jo0 hs hk' hp.1 hp.2 e1 (fun j=>(e2 j).mono hk8) qx,fun h=>⟨hp.1,x,e1,e2,zI h⟩⟩
 ·exact⟨false,d_holds0 hs hX hk' hp,fun h=>by cases h⟩
theorem d_rayE(hs:SysOk N ws)(hg:GoalOk N goal)(hX:X.length<=100000){k:Nat}(hk4:4<=k)(hk8:k<=100000000)(hk:RawL k X):
  ∃h,Ctr G.P 140 [.agg [.int N,.sl (ws.map rwC)],.sl (goal.map tmC),.sl (X.map Raw.c)] (· = .bool h)/\(h=true->∃x,RayOk N ws goal x):=by
 classical
 by_cases hp:X.length=N/\X.all rwR=true
 ·obtain⟨x,e1,e2⟩:=jkt hk4 hp.2 hk;rw[hp.1]at e1;exact⟨decide (RayOk N ws goal x),d_ray1 hs hg hp.1 e1 (fun j=>(e2 j).mono hk8) qx,fun h=>⟨x,zI h⟩⟩
 ·exact⟨false,d_ray0 hs hg hX (fun x hx=>by have:=hk x hx;omega) hp,fun h=>by cases h⟩
theorem d_lowerE(hs:SysOk N ws)(hg:GoalOk N goal)(hY:Y.length<=100000){k:Nat}(hk4:4<=k)(hk8:k<=10000000)(hk:RawL k Y):
  ∃(p q:Int) (b d:List Int) (ok:Bool),Ctr G.P 136 [.agg [.int N,.sl (ws.map rwC)],.sl (goal.map tmC),.sl (Y.map Raw.c)] (· = .tup [.agg [.int p,.sl (b.map ic),.int q,.sl (d.map ic)],.bool ok])/\b.length<=1000000000000/\d.length<=1000000000000/\
   (ok=true->∃y val,Lowr N ws goal y val/\p=val.num.sign/\b=dig val.num.natAbs/\q=(val.den:Int).sign/\d=dig (val.den:Int).natAbs):=by
 have hk':RawL 50000000000 Y:=fun x hx=>by have:=hk x hx;omega
 by_cases hp:Y.length=ws.length/\Y.all rwR=true
 ·obtain⟨y,e1,e2⟩:=jkt hk4 hp.2 hk;rw[hp.1]at e1;have kL:=jsf hs hg hk' hp.1 hp.2 e1 hk8 e2;rcases hb:lowB N ws goal y with _ | _
  ·rw[hb,zn (by decide)]at kL;exact⟨0,0,[],[],false,kL,zE _,zE _,fun h=>by cases h⟩
  ·rw[hb,zm rfl]at kL;have hf:=FL_mvU hs e2 ws.length;have hl:=hs.len;have hm:ws.length*(k+7)<=900*(10000000+7):=qL hl (by omega);refine⟨_,_,_,_,true,kL,?_,?_,fun _=>⟨y,_,lowB_iff.1 hb,rfl,rfl,rfl,rfl⟩⟩
   ·have:=hf.1;omega
   ·have:=hf.2;rw[Int.natAbs_natCast];omega
 ·exact⟨0,0,[],[],false,jsg (d_signed0 hs hY hk' hp),zE _,zE _,fun h=>by cases h⟩
theorem jlq(hs:SysOk N ws)(hg:GoalOk N goal){k:Int}(hk1:k≠1){v:Raw}(lX:X.length<=100000)(lY:Y.length<=100000)(lZ:Z.length<=100000)(kX:RawL 10000000 X)(kY:RawL 10000000 Y)(kZ:RawL 10000000 Z):
  ∃B,Ctr G.P 92 [.agg [.int N,.sl (ws.map rwC)],.sl (goal.map tmC),.agg (optC k v X Y Z)] (· = .bool B)/\(B=true->ChkS N ws goal k v):=by
 have kR:=hs.right;have kG:=hg.right hs;have hgl:=hg.len;have hN:=hs.n;obtain⟨h,kH,hH⟩:=d_holdsE (X:=X) hs lX (by omega) (by omega) kX;by_cases h0:k=0
 ·subst h0;obtain⟨p,q,b,d,ok,kL,hb,hd,hL⟩:=d_lowerE hs hg lY (by omega) (by omega) kY;rcases hoh:ok&&h with _ | _
  ·exact⟨false,d_checkF0 kR kG kL (d_Value0 goal hg.rt (by omega) hg.fl lX (by omega:4<=10000000) (by omega) kX) kH hoh,fun h=>by cases h⟩
  ·rw[zr]at hoh;obtain⟨rfl,rfl⟩:=hoh;obtain⟨hXl,x,e1,e2,e3⟩:=hH rfl;obtain⟨y,val,hl,rfl,rfl,rfl,rfl⟩:=hL rfl;have kV:=jix goal N x hg.rt (by omega) (by omega) hg.fl fun j _=>(e2 j).mono (by omega);have hv:FL 4000000000 (tsum goal x):=jjk (by omega) hg.fl fun j=>(e2 j).mono (by omega);unfold xl at kV;rw[<-e1]at kV;have k1:=u_frac (tsum goal x).num.sign ((tsum goal x).den:Int).sign (dig (tsum goal x).num.natAbs) (dig ((tsum goal x).den:Int).natAbs) v.s v.t v.l v.m (by have:=hv.1;omega) (by have:=hv.2;rw[Int.natAbs_natCast];omega);have k2:=u_frac val.num.sign (val.den:Int).sign (dig val.num.natAbs) (dig (val.den:Int).natAbs) v.s v.t v.l v.m (by omega) (by omega);refine⟨_,jpx kR kG kL kV kH k1 k2,fun hB=> .inl ⟨rfl,?_⟩⟩;simp only[zr,zK]at hB;obtain⟨⟨⟨⟨a1,a2⟩,a3,a4⟩,⟨b1,b2⟩,b3,b4⟩,_⟩:=hB;have hvc2:v.c=fc val:=by
    unfold Raw.c;rw[<-b1,<-b2,<-b3,<-b4];rfl
   have hval:tsum goal x=val:=by
    have q1:= @jjc (tsum goal x).num val.num;rw[za (a1.trans b1.symm),za (a2.trans b2.symm)]at q1;have q2:= @jjc ((tsum goal x).den:Int) (val.den:Int);rw[za (a3.trans b3.symm),za (a4.trans b4.symm)]at q2;have q3:=jqe (tsum goal x) val;rw[<-q1,<-q2]at q3;exact zI q3.symm
   exact⟨val,⟨⟨x,e3,hval⟩,fun z hz=>hl.le hs.ok hg.rt hz⟩,hvc2⟩
 ·by_cases h2:k=2
  ·subst h2;obtain⟨r,kY',hr⟩:=d_rayE (X:=Z) hs hg lZ (by omega:4<=10000000) (by omega) kZ;refine⟨_,jsh kR kG kH kY',fun hB=> .inr ⟨rfl,?_⟩⟩;simp only[zr,rawZ,zK]at hB;obtain⟨⟨⟨h1,h2⟩,_⟩,⟨a1,a2⟩,a3,a4⟩:=hB;obtain⟨_,x,_,_,e3⟩:=hH h1;obtain⟨d,hd⟩:=hr h2;refine⟨hd.noMin e3,?_⟩;unfold Raw.c;rw[a1,a2,a3,a4];rfl
  ·exact⟨false,d_checkX kR kG h0 hk1 h2,fun h=>by cases h⟩
end
end
section
open Go.Abs
open Go.LP (Dic Rw RT tsum Sol IsMin NoMin S cf cfU Own Free Final first jb7 ext Eqv SameV)
attribute [local go_sem] ints ic big frac fc zc rwC tmC Raw.c xl
theorem grow{a b p:Rat}(h:∀t:Rat,0<=t->a<=b+t*p):0<=p:=by
 by_cases hp:0<=p
 ·exact hp
 exfalso;have hq:0< -p:=by grind
 have h0:=h 0 (by decide);have h1:0<=b-a+1:=by grind
 have hi:0<=(-p)⁻¹:=Rat.le_of_lt (Rat.inv_pos.2 hq);have h2:=h _ (qG h1 hi);have e:(-p)⁻¹*(-p)=1:=Rat.inv_mul_cancel _ (by grind);have e2:(b-a+1)*((-p)⁻¹*(-p))=b-a+1:=by rw[e];grind
 have e3:(b-a+1)*(-p)⁻¹*p= -(b-a+1):=by grind
 rw[e3]at h2;grind
section
variable{N:Nat}{ws:List Rw}{goal:List (Nat×Rat)}{E:Dic}
theorem dir_key(hw:∀w∈ws,w.Ok N)(hg:RT goal 0 N)(hE:E.Ok)(hq:Eqv (first N ws goal) E){s:Nat}(hs:s<E.n)(h2:∀i,i<E.m->E.a i s<=0){x:Nat->Rat}(hx:Sol N ws x):
  ∀t:Rat,0<=t->Sol N ws (fun k=>ext (first N ws goal) N x k+t*E.dir s k)/\tsum goal (fun k=>ext (first N ws goal) N x k+t*E.dir s k)=tsum goal x-t*E.g s:=by
 have h:=LP.mk_first (goal:=goal) hw;have hy:=h.ext_sat x;have hn:=h.ext_nonneg hx.row hx.pos;have hd:∀k,0<=E.dir s k:=fun k=>LP.dir_nonneg hE (K:=k+1) hs (fun i hi _=>h2 i hi) (qE _);obtain⟨c0,hc⟩:=hq.lin;intro t ht;have e0:E.Sat (fun k=>ext (first N ws goal) N x k+t*E.dir s k):=LP.dir_sat hE hs ((hq.sat _).1 hy) t;have e1:=(hq.sat _).2 e0;refine⟨⟨fun k hk=> ?_,?_⟩,?_⟩
 ·have a1:=hn k (by omega);have a2:=qG ht (hd k);show 0<=ext (first N ws goal) N x k+t*E.dir s k;grind
 ·refine(h.sat _).2 fun i hi=> ?_;have b1:=e1 i hi;unfold LP.Dic.row at b1;rw[h.own i hi,h.n]at b1;rw[LP.S_congr (f:=fun j=>(first N ws goal).a i j*(fun k=>ext (first N ws goal) N x k+t*E.dir s k) ((first N ws goal).free j)) (g:=fun j=>(first N ws goal).a i j*(fun k=>ext (first N ws goal) N x k+t*E.dir s k) j) fun j hj=>by rw[h.free]]at b1;have a1:=hn (N+i) (by omega);have a2:=qG ht (hd (N+i));dsimp only at b1⊢;grind
 ·have c1:=hc _ e1;have c2:=hc _ hy;rw[LP.first_lin hw hg]at c1 c2;rw[LP.lin_add,LP.dir_lin hE hs]at c1;have e3:tsum goal (ext (first N ws goal) N x)=tsum goal x:=LP.tsum_congr fun t ht=>LP.ext_low (hg.mem t ht).2.1;rw[e3]at c2;grind
theorem ray_free(hw:∀w∈ws,w.Ok N)(hg:RT goal 0 N)(hE:E.Ok)(hq:Eqv (first N ws goal) E){s:Nat}(hs:s<E.n)(h1:0<E.g s)(h2:∀i,i<E.m->E.a i s<=0){x:Nat->Rat}(hx:Sol N ws x):RayOk N ws goal (E.dir s) where
 pos k _:=LP.dir_nonneg hE (K:=k+1) hs (fun i hi _=>h2 i hi) (qE _)
 row w hwm:=by
  have key:=dir_key hw hg hE hq hs h2 hx;refine⟨fun e=>grow (a:=w.val) (b:=tsum w.ts (ext (first N ws goal) N x)) fun t ht=> ?_,fun e=> ?_⟩
  ·have:=((key t ht).1.row w hwm).1 e
   rwa [jg5]at this
  ·have:0<= -tsum w.ts (E.dir s):=grow (a:= -w.val) (b:= -tsum w.ts (ext (first N ws goal) N x)) fun t ht=>by
    have:=((key t ht).1.row w hwm).2 e;rw[jg5]at this;grind
   grind
 goal:=by
  have key:=dir_key hw hg hE hq hs h2 hx 1 (by decide);have e:=key.2;have e3:tsum goal (ext (first N ws goal) N x)=tsum goal x:=LP.tsum_congr fun t ht=>LP.ext_low (hg.mem t ht).2.1;rw[jg5,e3]at e;grind
theorem EndsAt.smF(hE:EndsAt N ws goal E)(hs:SysOk N ws)(hg:GoalOk N goal):(∀j,j<E.n->FL (capN N) (E.g j))/\∀i j,i<E.m->j<E.n->FL (capN N) (E.a i j):=by
 have hm:=LP.mk_first (goal:=goal) hs.ok;obtain⟨q',hsm⟩:=LP.small_all hm.ok hE.ok hE.eqv hE.same (LP.small_first (by decide:0<1000) (by decide:1000<=2^100) hs.ov hg.ov);rw[hm.n]at hsm;exact⟨fun j hj=>FL_ov (hsm.g j hj) hsm.q0 hsm.qB (zB _),fun i j hi hj=>FL_ov (hsm.a i j hi hj) hsm.q0 hsm.qB (zB _)⟩
theorem capN_4:4<=capN N:=by
 have h1:1<=2^N:=Nat.one_le_two_pow;unfold capN;omega
theorem EndsAt.dirF(hE:EndsAt N ws goal E)(hs:SysOk N ws)(hg:GoalOk N goal){s:Nat}(hsn:s<E.n)(k:Nat):FL (capN N) (E.dir s k):=by
 obtain⟨_,h2⟩:=hE.smF hs hg;unfold LP.Dic.dir;split
 ·rename_i i hi;exact jhj (h2 i s (LP.find_some hi).1 hsn)
 ·split
  ·exact(jb3 (n:=1) (by omega)).mono capN_4
  ·exact(jb3 (n:=0) (by omega)).mono capN_4
theorem FL_chU2{t:Bool}{y:Nat->Rat}{r:Nat}{p:Rat}{k c m:Nat}(hy:FL c (y k))(hp:FL m p):FL (c+m+1) (chU t y r p k):=by
 unfold chU;split
 ·cases t
  ·exact jfc hy (jhj hp)
  ·exact jfc hy hp
 ·exact hy.mono (by omega)
theorem FL_prU2{D:Dic}{N:Nat}{src:Nat->Int×Bool}{y0 pr:Nat->Rat}{c m:Nat}(h0:∀k,FL c (y0 k))(hp:∀j,j<D.n->FL m (pr j)):∀j,j<=D.n->∀k,FL (c+j*(m+1)) (prU D N src y0 pr j k)
 | 0,_,k=>(h0 k).mono (by omega)
 | j+1,hj,k=>by
  have ih:=FL_prU2 (D:=D) (N:=N) (src:=src) h0 hp j (by omega);have e:(j+1)*(m+1)=j*(m+1)+(m+1):=yB j (m+1);rw[prU];split
  ·exact(ih k).mono (by omega)
  ·exact(FL_chU2 (ih k) (hp j (by omega))).mono (by omega)
def rq(r:Rat):Raw:=⟨r.num.sign,dig r.num.natAbs,(r.den:Int).sign,dig (r.den:Int).natAbs⟩
theorem raws(n:Nat)(x:Nat->Rat){k:Nat}(hf:∀j,FL k (x j)):∃X:List Raw,X.length=n/\X.map Raw.c=tab n (fun j=>qc (x j))/\X.all rwR=true/\RawL k X:=by
 refine⟨(List.range n).map fun j=>rq (x j),by simp,?_,?_,?_⟩
 ·rw[ya];rfl
 ·rw[List.all_eq_true];intro r hr;obtain⟨j,_,rfl⟩:=qq.1 hr;exact jj2 (x j)
 ·intro r hr;obtain⟨j,_,rfl⟩:=qq.1 hr;exact⟨(hf j).1,by show(dig (((x j).den:Int)).natAbs).length<=k;rw[Int.natAbs_natCast];exact(hf j).2⟩
theorem d_check_found(hs:SysOk N ws)(hg:GoalOk N goal){x y:Nat->Rat}{k m:Nat}(hk:k<=100000000)(hm:m<=10000000)(fx:∀j,FL k (x j))(fy:∀j,FL m (y j))(hx:Sol N ws x)(hl:Lowr N ws goal y (tsum goal x)):
  Ctr G.P 92 [.agg [.int N,.sl (ws.map rwC)],.sl (goal.map tmC),.agg ([.int 0]++fc (tsum goal x)++[xl N x,xl ws.length y,.sl []])] (· = .bool true):=by
 have hgl:=hg.len;have hN:=hs.n;obtain⟨X,x1,x2,x3,x4⟩:=raws N x fx;obtain⟨Y,y1,y2,y3,y4⟩:=raws ws.length y fy;have hkL:RawL 50000000000 X:=fun z hz=>by have:=x4 z hz;omega
 have hkY:RawL 50000000000 Y:=fun z hz=>by have:=y4 z hz;omega
 have hv:FL 4000000000 (tsum goal x):=jjk (by omega) hg.fl fun j=>(fx j).mono hk;have kH:=jo0 hs hkL x1 x3 x2 (fun j=>(fx j).mono hk) (b:=true) ⟨fun _=>hx,fun _=>rfl⟩;have kL:=jsf hs hg hkY y1 y3 y2 hm fy;have hval:mvU ws y ws.length=tsum goal x:=hl.val;rw[zm (lowB_iff.2 (by rw[hval];exact hl)),hval]at kL;have kV:=jix goal N x hg.rt (by omega) (by omega) hg.fl fun j _=>(fx j).mono hk;have kS:Ctr G.P 31 [.agg (fc (tsum goal x)),.agg (rq (tsum goal x)).c] (· = .bool true):=by
  have:=u_same (a:=tsum goal x) (b:=tsum goal x) (hv.mono (by omega));rw[za rfl]at this;exact this
 unfold xl at kV⊢;rw[<-x2]at kV⊢;rw[<-y2];exact jpx (v:=rq (tsum goal x)) (Z:=[]) hs.right (hg.right hs) kL kV kH kS kS
theorem d_check_free(hs:SysOk N ws)(hg:GoalOk N goal){x d:Nat->Rat}{k:Nat}(hk:k<=100000000)(fx:∀j,FL k (x j))(fd:∀j,FL k (d j))(hx:Sol N ws x)(hd:RayOk N ws goal d):
  Ctr G.P 92 [.agg [.int N,.sl (ws.map rwC)],.sl (goal.map tmC),.agg ([.int 2]++zc++[xl N x,.sl [],xl N d])] (· = .bool true):=by
 obtain⟨X,x1,x2,x3,x4⟩:=raws N x fx;obtain⟨Z,z1,z2,z3,z4⟩:=raws N d fd;have hkL:RawL 50000000000 X:=fun z hz=>by have:=x4 z hz;omega
 have kH:=jo0 hs hkL x1 x3 x2 (fun j=>(fx j).mono hk) (b:=true) ⟨fun _=>hx,fun _=>rfl⟩;have kR:=d_ray1 hs hg z1 z2 (fun j=>(fd j).mono hk) (b:=true) ⟨fun _=>hd,fun _=>rfl⟩;unfold xl;rw[<-x2,<-z2];exact jsh (v:=⟨0,[],0,[]⟩) (Y:=[]) hs.right (hg.right hs) kH kR
theorem LeastR.chk(hs:SysOk N ws)(hg:GoalOk N goal)(hN:N<=10){o:List IV}(h:LeastR N ws goal o)(hn:isNone o=false):Ctr G.P 92 [.agg [.int N,.sl (ws.map rwC)],.sl (goal.map tmC),.agg o] (· = .bool true):=by
 have hc:=jo6 hN;cases h with
 | found E T hR hF=>
  have hE:=EndsAt.of hs hR;obtain⟨h1,h2⟩:=hF.inv_best rfl rfl;obtain⟨h3,h4⟩:=LP.final_best hs.ok hg.rt hE.ok hE.eqv hE.same h1 h2;obtain⟨f1,_⟩:=hE.smF hs hg;have hEn:E.n=N:=by rw[hE.n]
  have fy:∀j,FL 100000 (prU E N (jb7 N ws).2 (fun _=>0) (fun j=> -E.g j) E.n j):=fun j=>by
   refine(FL_prU2 (c:=4) (m:=capN N) (fun _=>jb3 (n:=0) (by omega)) (fun j hj=>jhj (f1 j hj)) E.n (zB _) j).mono ?_;have:E.n*(capN N+1)<=10*(5200+1):=qL (by omega) (by omega);omega
  exact d_check_found hs hg (k:=capN N) (by omega) (by omega) (hE.ptF hs hg) fy h3 (lowr_best hE hs hg.rt h2)
 | none E T r hR hF=>cases hn
 | none2 E E' T T' s r hR hF hR' hF'=>cases hn
 | free E E' T T' s hR hF hR' hF'=>
  have hE:=EndsAt.of hs hR;have hE':=EndsAt.of hs hR';obtain⟨h1,h2,h3⟩:=hF.inv_free rfl;obtain⟨g1,g2⟩:=hF'.inv_best rfl rfl;obtain⟨h4,_⟩:=LP.final_best hs.ok (show RT [] 0 N from trivial) hE'.ok hE'.eqv hE'.same g1 g2;exact d_check_free hs hg (k:=capN N) (by omega) (hE'.ptF hs ⟨show RT [] 0 N from trivial,fun t ht=>(by cases ht)⟩) (hE.dirF hs hg h1) h4 (ray_free hs.ok hg.rt hE.ok hE.eqv h1 h2 h3 h4)
theorem jij(hs:SysOk N ws)(hg:GoalOk N goal)(hN:N<=10)(hn:isNone (jd9 N ws goal)=false):Ctr G.P 92 [.agg [.int N,.sl (ws.map rwC)],.sl (goal.map tmC),.agg (jd9 N ws goal)] (· = .bool true):=by
 obtain⟨o,ho⟩:=LeastR.ex (goal:=goal) hs;rw[<-jl4 ho]at hn⊢;exact ho.chk hs hg hN hn
end
end
section
open Go.Abs
open Go.LP (Rw RT tsum Sol IsMin NoMin S cf cfU)
attribute [local go_sem] ints ic big frac fc zc rwC tmC Raw.c xl
section
variable{R G0 G1:List (List IV)}{n:Nat}{k a c k' a' c':Int}{b d P Y Z b' d' P' Y' Z':List (List IV)}
theorem d_span(h1:k≠1)(h2:k'≠1){x y:Bool}(kO:Ctr G.P 91 [.sl G0] (· = .sl G1))
  (k1:Ctr G.P 92 [.agg [.int n,.sl R],.sl G0,.agg [.int k,.int a,.sl b,.int c,.sl d,.sl P,.sl Y,.sl Z]] (· = .bool x))
  (k2:Ctr G.P 92 [.agg [.int n,.sl R],.sl G1,.agg [.int k',.int a',.sl b',.int c',.sl d',.sl P',.sl Y',.sl Z']] (· = .bool y)):
  Ctr G.P 50 [.agg [.int n,.sl R],.sl G0,.agg ([.int k,.int a,.sl b,.int c,.sl d,.sl P,.sl Y,.sl Z]++[.int k',.int a',.sl b',.int c',.sl d',.sl P',.sl Y',.sl Z'])] (· = .bool (x&&y)):=by
 have d1:decide (k=1)=false:=zq h1;have d2:decide (k'=1)=false:=zq h2;refine ja5 [.tmp 6] Tryz.func50 ?_;simp only[d1,d2,List.cons_append,List.nil_append,go_sem];refine jac 14 ?_;simp only[d1,d2,go_sem];refine ja4 k1 (by decide) ?_;rcases x
 ·simp only[go_sem]
 ·simp only[go_sem];refine ja4 kO (by decide) ?_;simp only[go_sem];refine ja4 k2 (by decide) ?_;simp only[go_sem]
theorem d_span1(h:k=1\/k'=1):
  Ctr G.P 50 [.agg [.int n,.sl R],.sl G0,.agg ([.int k,.int a,.sl b,.int c,.sl d,.sl P,.sl Y,.sl Z]++[.int k',.int a',.sl b',.int c',.sl d',.sl P',.sl Y',.sl Z'])] (· = .bool false):=by
 rcases d1:decide (k=1)with _ | _
 ·have d2:decide (k'=1)=true:=za (h.resolve_left (zJ d1));refine ja5 [.tmp 6] Tryz.func50 ?_;simp only[d1,d2,List.cons_append,List.nil_append,go_sem]
 ·refine ja5 [.tmp 6] Tryz.func50 ?_;simp only[d1,List.cons_append,List.nil_append,go_sem]
end
end
section
open Go.Abs
open Go.LP (Dic Rw RT Ov OvRw tsum Sol IsMin NoMin Bds)
attribute [local go_sem] Evid.c Evid.iv ints ic big frac fc zc
noncomputable def rngIV(e:Evid)(ps:List (Int×Int)):IV:=if okP e ps=true then spanR (nV e) (rowsE e) (goalS e.mats.toNat ps)else .tup [.agg (zo++zo),.int 1]
theorem spanR_shape{N:Nat}{ws:List Rw}{goal:List (Nat×Rat)}(hs:SysOk N ws)(hg:GoalOk N goal):∃r f,spanR N ws goal= .tup [.agg r,.int f]/\jm2 r:=by
 obtain⟨k,a,c,b,d,P,Y,Z,e1,e2⟩:=(jcw hs hg).shape;obtain⟨k',a',c',b',d',P',Y',Z',e3,e4⟩:=(jcw hs hg.opp).shape;unfold spanR;split
 ·exact⟨_,_,rfl,jhx⟩
 ·exact⟨_,_,rfl,_,_,_,_,_,_,_,_,_,_,_,_,_,_,_,_,by rw[e1,e3];rfl⟩
section
variable{e:Evid}{ps:List (Int×Int)}{r:List IV}
theorem jr5(hs:SmallE e)(hl:ps.length<=10000):Ctr G.P 10 [e.iv,.sl (ps.map pickC)] (· =rngIV e ps):=by
 have kg:=jom (e:=e) hl;unfold jel at kg;unfold rngIV;rcases h0:okP e ps with _ | _
 ·rw[h0,zn (by decide)]at kg;rw[zn (by decide)];unfold zo;refine ja5 [.cell 4 40,.tmp 5] Tryz.func10 ?_;unfold Evid.iv Evid.c at*;simp only[go_sem];refine ja1 kg ?_;simp only[go_sem]
 ·obtain⟨hc,_,_⟩:=jdu h0;rw[h0,zm rfl]at kg;rw[zm rfl];have kS:=jk5 (e:=e) (fun _=>by have:=hs.mv;omega);unfold sysIV at kS;rw[zm hc]at kS;have hso:=jme hc hs;have hgo:=jl8 h0;have kO:=x_Of hso hgo;obtain⟨r,f,e1,k1,a1,c1,b1,d1,P1,Y1,Z1,k2,a2,c2,b2,d2,P2,Y2,Z2,rfl⟩:=spanR_shape hso hgo;rw[e1]at kO⊢;unfold nV at*;clear hso hgo e1 hs;generalize (goalS e.mats.toNat ps).map tmC=gt at*;generalize (rowsE e).map rwC=rt at*;refine ja5 [.cell 4 40,.tmp 5] Tryz.func10 ?_;unfold Evid.iv Evid.c at*;simp only[go_sem];refine ja1 kg ?_;simp only[go_sem];refine ja1 kS ?_;simp only[go_sem];refine ja1 kO ?_;simp only[go_sem]
theorem w_rangeS(hs:SmallE e):∃r f b,RSay e ps r f b/\rngIV e ps= .tup [.agg r,.int f]/\(b.isSome=true->isNone (jd9 (nV e) (rowsE e) (goalS e.mats.toNat ps))=false/\r=jd9 (nV e) (rowsE e) (goalS e.mats.toNat ps)++jd9 (nV e) (rowsE e) (mulT ((-1:Int):Rat) (goalS e.mats.toNat ps))):=by
 unfold rngIV;rcases h0:okP e ps with _ | _
 ·rw[zn (by decide)];exact⟨zo++zo,1,none,⟨jhx,jhy,rfl,.none (fun h=>by rw[h0]at h;cases h),⟨fun _=>h0,fun _=>rfl⟩,fun _=>⟨rfl,.inl rfl⟩,fun lo hi h=>by cases h⟩,rfl,fun h=>by cases h⟩
 ·obtain⟨hc,_,_⟩:=jdu h0;rw[zm rfl];have hso:=jme hc hs;have hgo:=jl8 h0;have harg:∀f:Int,f≠1->(f=1↔okP e ps=false):=fun f hf=>⟨fun h=>absurd h hf,fun h=>by rw[h0]at h;cases h⟩;rcases jp1 hso hgo (fun t ht=>by
   obtain⟨k,_,rfl⟩:=qq.1 ht;show(0:Rat)<=1;decide)with ⟨e1,hno⟩ | ⟨r,lo,hi,e1,hb,f1,f2,kB,hr⟩
  ·exact⟨zo++zo,15,none,⟨jhx,jhy,rfl,.none fun _=>hno,harg _ (by decide),fun _=>⟨rfl,.inr rfl⟩,fun lo hi h=>by cases h⟩,e1,fun h=>by cases h⟩
  ·have hfd:∀l' h',some (lo,hi)=some (l',h')->RFound (nV e) (rowsE e) (wgt e ps) r l' h':=fun l' h' hh=>by
    cases hh;have e1:tsum (goalS e.mats.toNat ps)=wgt e ps:=funext fun x=>jif x;rw[e1]at hr;exact hr
   refine⟨r,0,some (lo,hi),⟨hr.shape,kB,rfl,.some lo hi h0 (hb.congr fun x=>jif x) f1 f2,harg _ (by decide),(fun h=>by cases h),hfd⟩,e1,fun _=> ?_⟩;unfold spanR at e1;rcases hn:isNone (jd9 (nV e) (rowsE e) (goalS e.mats.toNat ps))with _ | _
   ·rw[hn,zn (by decide)]at e1;refine⟨rfl,?_⟩;injection e1 with e1;injection e1 with e1 _;injection e1 with e1;exact e1.symm
   ·rw[hn,zm rfl]at e1;injection e1 with e1;injection e1 with _ e1;injection e1 with e1 _;cases e1
theorem d_wcheck0(hs:SmallE e)(hl:ps.length<=10000)(h0:okP e ps=false)(hr:jm2 r):Ctr G.P 11 [e.iv,.sl (ps.map pickC),.agg r] (· = .bool false):=by
 have kg:=jom (e:=e) hl;unfold jel at kg;rw[h0,zn (by decide)]at kg;have kS:=jk5 (e:=e) (fun _=>by have:=hs.mv;omega);obtain⟨n,R,f,he⟩:∃n R f,sysIV e= .tup [.agg [.int n,.sl R],.int f]:=by
  unfold sysIV;split
  ·exact⟨_,_,_,rfl⟩
  ·exact⟨_,_,_,rfl⟩
 rw[he]at kS;obtain⟨k1,a1,c1,b1,d1,P1,Y1,Z1,k2,a2,c2,b2,d2,P2,Y2,Z2,rfl⟩:=hr;clear he hs;refine ja5 [.tmp 6] Tryz.func11 ?_;unfold Evid.iv Evid.c at*;simp only[go_sem];refine ja1 kg ?_;simp only[go_sem];refine ja1 kS ?_;simp only[go_sem]
theorem jlp(hs:SmallE e)(hl:ps.length<=10000)(h0:okP e ps=true)(hr:jm2 r){x:Bool}
  (kC:Ctr G.P 50 [.agg [.int (nV e),.sl ((rowsE e).map rwC)],.sl ((goalS e.mats.toNat ps).map tmC),.agg r] (· = .bool x)):Ctr G.P 11 [e.iv,.sl (ps.map pickC),.agg r] (· = .bool x):=by
 have kg:=jom (e:=e) hl;unfold jel at kg;rw[h0,zm rfl]at kg;have kS:=jk5 (e:=e) (fun _=>by have:=hs.mv;omega);obtain⟨hc,_,_⟩:=jdu h0;unfold sysIV at kS;rw[zm hc]at kS;obtain⟨k1,a1,c1,b1,d1,P1,Y1,Z1,k2,a2,c2,b2,d2,P2,Y2,Z2,rfl⟩:=hr;unfold nV at*;clear hs hc;generalize (goalS e.mats.toNat ps).map tmC=gt at*;generalize (rowsE e).map rwC=rt at*;refine ja5 [.tmp 6] Tryz.func11 ?_;unfold Evid.iv Evid.c at*;simp only[go_sem];refine ja1 kg ?_;simp only[go_sem];refine ja1 kS ?_;simp only[go_sem];refine ja1 kC ?_;simp only[go_sem]
end
end
section
open Go.Abs
attribute [local go_sem] Evid.iv Evid.c Place.c Move.c Cert.c Recall.c Purity.c Sample.c Recipe.c ints ic
end
section
open Go.Abs
attribute [local go_sem] Evid.iv Evid.c Move.c Place.c ints ic big frac fc Raw.c
def fewX(k:Int)(x:Raw):Bool:=decide ((x.l.length:Int)<=k)&&decide ((x.m.length:Int)<=k)
theorem t_few5(x:Raw)(k:Int):Ctr G.P 64 [.agg x.c,.int k] (· = .bool (fewX k x)):=by
 refine ja5 [.tmp 4] Tryz.func64 ?_;unfold fewX;simp only[zw,go_sem]
 repeat' (refine jcy (fun hd hp=> ?_) (fun hd hp=> ?_)<;>simp only[hd,go_sem])
 all_goals simp[*]
def fewP(n k:Int)(l:List Raw):Bool:=(l.take (n.toNat+1)).all (fewX k)&&decide ((l.length:Int)<=n)
theorem jh8(l:List Raw)(n k:Int)(hn:0<=n/\n<=100000):Ctr G.P 37 [.sl (l.map Raw.c),.int n,.int k] (· = .bool (fewP n k l)):=by
 obtain⟨hn1,hn2⟩:=hn;have h5:=fun x=>t_few5 x k;refine ja5 [.tmp 6] Tryz.func37 ?_;simp only[go_sem];refine jal [0,1,2,7] [] (fun i:Nat=>⟨[(0,.im (.sl (l.map Raw.c))),(1,.im (.int n)),(2,.im (.int k)),(7,.im (.int i))],[],[]⟩)
  (fun i=>i<=l.length/\i<=n.toNat+1/\(l.take i).all (fewX k)=true) (fun i=>l.length-i) 0 ?_ ⟨zE _,zE _,rfl⟩ ?_
 ·simp only[Int.natCast_zero,go_sem]
 ·intro i ⟨hi,h41,ha⟩;by_cases hp:(i:Int)<l.length
  ·have hd:decide ((i:Int)<l.length)=true:=za hp;obtain⟨x,hx⟩:=jby hp;have h1:=ja9 (n:=(i:Int)+1) (by omega);have k5:=h5 x;simp only[Raw.c]at k5;by_cases hq:(i:Int)<=n
   ·have hr:decide ((i:Int)<=n)=true:=za hq;simp only[hd,hr,ze,hx,go_sem];refine ja1 k5 ?_;simp only[hd,hr,go_sem];refine jcq (fun he=> ?_) (fun he=> ?_)
    ·simp only[hd,hr,he,go_sem];refine jab (i+1) ?_ (by omega) ⟨by omega,by omega,by rw[jc4 hx,ha,he];rfl⟩;simp only[h1,Int.natCast_add,go_sem]
    ·have hf:fewP n k l=false:=by
      have h41':(l.take (n.toNat+1))[i]? =some x:=by rw[qa,zm (by omega)];exact hx
      simp[fewP,jes h41' (f:=fewX k) he]
     simp only[hd,hr,he,hf,go_sem]
   ·have hr:decide ((i:Int)<=n)=false:=zq hq;have h40:decide ((l.length:Int)<=n)=false:=zq (by omega);have hf:fewP n k l=false:=by simp only[fewP,h40,yq]
    simp only[hd,hr,hf,h40,go_sem]
  ·have hd:decide ((i:Int)<l.length)=false:=zq hp;have hf:fewP n k l=decide ((l.length:Int)<=n):=by
    rcases Decidable.em ((l.length:Int)<=n)with hq | hq
    ·rw[zt (by omega)]at ha;rw[fewP,zt (by omega),ha,qe]
    ·rw[fewP,zq hq,yq]
   simp only[hd,hf,go_sem]
def fewM(n:Int)(h:List (List Raw)):Bool:=(h.take (n.toNat+1)).all (fewP 10 3)&&decide ((h.length:Int)<=n)
theorem jhk(h:List (List Raw))(n:Int)(hn:0<=n/\n<=100000):Ctr G.P 8 [hist h,.int n] (· = .bool (fewM n h)):=by
 obtain⟨hn1,hn2⟩:=hn;have h5:=fun l=>jh8 l 10 3 (by omega);unfold hist;refine ja5 [.tmp 4] Tryz.func8 ?_;simp only[go_sem];refine jal [0,1,5] [] (fun i:Nat=>⟨[(0,.im (.sl (h.map rowC))),(1,.im (.int n)),(5,.im (.int i))],[],[]⟩)
  (fun i=>i<=h.length/\i<=n.toNat+1/\(h.take i).all (fewP 10 3)=true) (fun i=>h.length-i) 0 ?_ ⟨zE _,zE _,rfl⟩ ?_
 ·simp only[Int.natCast_zero,go_sem]
 ·intro i ⟨hi,h41,ha⟩;by_cases hp:(i:Int)<h.length
  ·have hd:decide ((i:Int)<h.length)=true:=za hp;obtain⟨x,hx⟩:=jby hp;have h1:=ja9 (n:=(i:Int)+1) (by omega);have k5:=h5 x;by_cases hq:(i:Int)<=n
   ·have hr:decide ((i:Int)<=n)=true:=za hq;simp only[hd,hr,ze,hx,rowC,go_sem];refine ja1 k5 ?_;simp only[hd,hr,go_sem];refine jcq (fun he=> ?_) (fun he=> ?_)
    ·simp only[hd,hr,he,go_sem];refine jab (i+1) ?_ (by omega) ⟨by omega,by omega,by rw[jc4 hx,ha,he];rfl⟩;simp only[h1,Int.natCast_add,go_sem]
    ·have hf:fewM n h=false:=by
      have h41':(h.take (n.toNat+1))[i]? =some x:=by rw[qa,zm (by omega)];exact hx
      simp[fewM,jes h41' (f:=fewP 10 3) he]
     simp only[hd,hr,he,hf,go_sem]
   ·have hr:decide ((i:Int)<=n)=false:=zq hq;have h40:decide ((h.length:Int)<=n)=false:=zq (by omega);have hf:fewM n h=false:=by simp only[fewM,h40,yq]
    simp only[hd,hr,hf,h40,go_sem]
  ·have hd:decide ((i:Int)<h.length)=false:=zq hp;have hf:fewM n h=decide ((h.length:Int)<=n):=by
    rcases Decidable.em ((h.length:Int)<=n)with hq | hq
    ·rw[zt (by omega)]at ha;rw[fewM,zt (by omega),ha,qe]
    ·rw[fewM,zq hq,yq]
   simp only[hd,hf,go_sem]
end
section
open Go.Abs
attribute [local go_sem] Evid.c Evid.iv ints ic big frac fc zc Raw.c
def fewO(v:Raw)(X Y Z:List Raw):Bool:=fewX 40 v&&fewP 60 40 X&&fewP 60 40 Y&&fewP 60 40 Z
theorem t_few11(k:Int)(v:Raw)(X Y Z:List Raw):Ctr G.P 36 [.agg (optC k v X Y Z),.int 60,.int 40] (· = .bool (fewO v X Y Z)):=by
 have k1:=t_few5 v 40;have k2:=jh8 X 60 40 (by omega);have k3:=jh8 Y 60 40 (by omega);have k4:=jh8 Z 60 40 (by omega);unfold fewO optC;generalize fewX 40 v=b1 at*;generalize fewP 60 40 X=b2 at*;generalize fewP 60 40 Y=b3 at*;generalize fewP 60 40 Z=b4 at*;generalize X.map Raw.c=XC at*;generalize Y.map Raw.c=YC at*;generalize Z.map Raw.c=ZC at*;simp only[Raw.c]at*;refine ja5 [.tmp 6] Tryz.func36 ?_;simp only[List.cons_append,List.nil_append,go_sem];refine ja1 k1 ?_;rcases b1
 ·simp only[go_sem]
 simp only[go_sem];refine ja1 k2 ?_;rcases b2
 ·simp only[go_sem]
 simp only[go_sem];refine ja1 k3 ?_;rcases b3
 ·simp only[go_sem]
 simp only[go_sem];refine ja1 k4 ?_;simp only[go_sem]
structure Rng where
 k:Int
 v:Raw
 X:List Raw
 Y:List Raw
 Z:List Raw
 k':Int
 v':Raw
 X':List Raw
 Y':List Raw
 Z':List Raw
def Rng.c(o:Rng):List IV:=optC o.k o.v o.X o.Y o.Z++optC o.k' o.v' o.X' o.Y' o.Z'
def fewR(o:Rng):Bool:=fewO o.v o.X o.Y o.Z&&fewO o.v' o.X' o.Y' o.Z'
theorem Rng.shape(o:Rng):jm2 o.c:=⟨_,_,_,_,_,_,_,_,_,_,_,_,_,_,_,_,rfl⟩
theorem jqb(e:Evid)(C:List (List IV))(o:Rng)(k:Int):Ctr G.P 7 [e.iv,.sl C,.agg o.c,.int k,.int 2] (· = .bool (few17 e C.length k&&fewR o)):=by
 have k1:=t_small14 e k 2;have k2:=t_few11 o.k o.v o.X o.Y o.Z;have k3:=t_few11 o.k' o.v' o.X' o.Y' o.Z';unfold fewR Rng.c;generalize fewO o.v o.X o.Y o.Z=b1 at*;generalize fewO o.v' o.X' o.Y' o.Z'=b2 at*;unfold optC at*;generalize o.X.map Raw.c=XC at*;generalize o.Y.map Raw.c=YC at*;generalize o.Z.map Raw.c=ZC at*;generalize o.X'.map Raw.c=XC' at*;generalize o.Y'.map Raw.c=YC' at*;generalize o.Z'.map Raw.c=ZC' at*;generalize o.v=v at*;generalize o.v'=v' at*;generalize o.k=ok at*;generalize o.k'=ok' at*;clear o;simp only[Raw.c]at*;unfold few17 Evid.iv Evid.c at*;rcases h1:jmh e k 2 with _ | _
 ·rw[h1]at k1;refine ja5 [.tmp 10] Tryz.func7 ?_;simp only[List.cons_append,List.nil_append,go_sem];refine ja1 k1 ?_;simp only[go_sem]
 rw[h1]at k1;rcases h2:decide ((e.purs.length:Int)<=3)with _ | _
 ·refine ja5 [.tmp 10] Tryz.func7 ?_;simp only[List.cons_append,List.nil_append,go_sem];refine ja1 k1 ?_;simp only[h2,zw,go_sem]
 rcases h3:decide ((C.length:Int)<=20)with _ | _
 ·refine ja5 [.tmp 10] Tryz.func7 ?_;simp only[List.cons_append,List.nil_append,go_sem];refine ja1 k1 ?_;simp only[h2,h3,zw,go_sem]
 rcases b1
 ·refine ja5 [.tmp 10] Tryz.func7 ?_;simp only[List.cons_append,List.nil_append,go_sem];refine ja1 k1 ?_;simp only[h2,h3,zw,go_sem];refine ja1 k2 ?_;simp only[go_sem]
 refine ja5 [.tmp 10] Tryz.func7 ?_;simp only[List.cons_append,List.nil_append,go_sem];refine ja1 k1 ?_;simp only[h2,h3,zw,go_sem];refine ja1 k2 ?_;simp only[go_sem];refine ja1 k3 ?_;simp only[go_sem]
end
section
open Go.Abs
attribute [local go_sem] ints ic big frac fc zc Raw.c hist rowC pickC
noncomputable def rawV(x:Raw):Rat:=if h:rwR x=true then(rw_of h).choose else 0
theorem rawV_c{x:Raw}(h:rwR x=true):x.c=fc (rawV x)/\x.l.length=(dig (rawV x).num.natAbs).length/\x.m.length=(dig (rawV x).den).length:=by
 unfold rawV;rw[dif_pos h];exact(rw_of h).choose_spec
def pickR(h:List (List Raw))(p:Int×Int):Option Raw:=if 0<=p.1/\0<=p.2 then(match h[p.1.toNat]? with
 | some l=>match l[p.2.toNat]? with
  | some x=>if rwR x=true then some x else none
  | none=>none
 | none=>none)else none
noncomputable def pickV(h:List (List Raw))(p:Int×Int):Rat:=match pickR h p with
 | some x=>rawV x
 | none=>0
noncomputable def massV(h:List (List Raw)):List (Int×Int)->Rat
 | []=>0
 | p::ps=>pickV h p+massV h ps
theorem jmq{h:List (List Raw)}{p:Int×Int}:∀{ps:List (Int×Int)},massV h (ps++[p])=massV h ps+pickV h p
 | []=>by simp only[List.nil_append,massV];grind
 | q::ps=>by rw[List.cons_append,massV,jmq,massV];grind
def jgs(h:List (List Raw))(ps:List (Int×Int)):Bool:=ps.all fun p=>(pickR h p).isSome
theorem massOk_no{h:List (List Raw)}{ps:List (Int×Int)}{p:Int×Int}{i:Nat}(hp:ps[i]? =some p)(hn:pickR h p=none):jgs h ps=false:=qQ.2 fun hh=>by
 have:=List.all_eq_true.1 hh p (zk hp);rw[hn]at this;cases this
theorem d_mass(h:List (List Raw))(ps:List (Int×Int)){k:Nat}(hk4:4<=k)(hkk:k<=100000)(hk:∀l∈h,RawL k l)(hl:ps.length<=1000)(hh:h.length<=100000)(hr:∀l∈h,l.length<=100000):
  Ctr G.P 13 [hist h,.sl (ps.map pickC)] (· =if jgs h ps=true then .tup [frac (massV h ps),.bool true]else .tup [.agg zc,.bool false]):=by
 have o1:=jbt 0 (by omega);have e0:((0:Int):Rat)=massV h (ps.take 0):=rfl;rw[e0]at o1;simp only[frac,ints]at o1;unfold zc;refine ja5 [.cell 4 35,.tmp 5] Tryz.func13 ?_;simp only[go_sem];refine ja1 o1 ?_;simp only[zw,go_sem];refine jal [0,4,6,10,11,12] [6,4] (fun i:Nat=>⟨[(0,.im (.sl (h.map rowC))),(4,.loc 4 4 0 0),(6,.loc 6 4 0 0),(10,.im (.sl (ps.map pickC))),(11,.im (.int ps.length)),(12,.im (.int i))],[(6,4,[fc (massV h (ps.take i))]),(4,4,[zc])],[]⟩)
  (fun i=>i<=ps.length/\jgs h (ps.take i)=true/\FL (4+i*(k+1)) (massV h (ps.take i))) (fun i=>ps.length-i) 0 ?_ ⟨zE _,rfl,(jb3 (n:=0) (by omega)).mono (by omega)⟩ ?_
 ·simp only[Int.natCast_zero,go_sem]
 intro i ⟨hi,ha,hF⟩;by_cases hp:(i:Int)<ps.length
 case neg=>
  have hd:decide ((i:Int)<ps.length)=false:=zq hp;rw[zt (by omega)]at ha⊢;rw[ha,zm rfl];unfold frac ints at*;simp only[hd,go_sem]
 have hd:decide ((i:Int)<ps.length)=true:=za hp;obtain⟨⟨a,b⟩,hx⟩:=jby hp;have h1:=ja9 (n:=(i:Int)+1) (by omega);have hi0:(0:Int)<=i:=by omega
 have hg:(ps.map pickC)[i]? =some [.int a,.int b]:=by rw[ze,hx];rfl
 have no:pickR h (a,b)=none->jgs h ps=false:=massOk_no hx;rcases dA:decide (a<0)with _ | _
 case true=>
  have hn:pickR h (a,b)=none:=zn fun hh=>by have:=zI dA;have:=hh.1;dsimp only at this;omega
  rw[no hn,zn (by decide)];simp only[hd,hp,hi0,hg,Int.toNat_natCast,zw,go_sem];refine jac 39 ?_;simp only[dA,zw,go_sem]
 have hA:0<=a:=by have:=zJ dA;omega
 rcases dB:decide ((h.length:Int)<=a)with _ | _
 case true=>
  have hn:pickR h (a,b)=none:=by
   unfold pickR;split
   ·rw[qA (by have:=zI dB;dsimp only;omega)]
   ·rfl
  rw[no hn,zn (by decide)];simp only[hd,hp,hi0,hg,Int.toNat_natCast,zw,go_sem];refine jac 39 ?_;simp only[dA,dB,zw,go_sem]
 have hB:a<h.length:=by have:=zJ dB;omega
 obtain⟨n,rfl⟩:∃n:Nat,a=n:=⟨a.toNat,by omega⟩;obtain⟨l,hlx⟩:=jby hB;have hgl:(h.map rowC)[n]? =some [.sl (l.map Raw.c)]:=by rw[ze,hlx];rfl
 rcases dC:decide (b<0)with _ | _
 case true=>
  have hn:pickR h ((n:Int),b)=none:=zn fun hh=>by have:=zI dC;have:=hh.2;dsimp only at this;omega
  rw[no hn,zn (by decide)];simp only[hd,hp,hi0,hg,Int.toNat_natCast,zw,go_sem];refine jac 39 ?_;simp only[dA,dB,dC,zw,go_sem]
 have hC:0<=b:=by have:=zJ dC;omega
 rcases dD:decide ((l.length:Int)<=b)with _ | _
 case true=>
  have hn:pickR h ((n:Int),b)=none:=by
   unfold pickR;split
   ·dsimp only;rw[Int.toNat_natCast,hlx];dsimp only;rw[qA (by have:=zI dD;omega)]
   ·rfl
  rw[no hn,zn (by decide)];simp only[hd,hp,hi0,hg,Int.toNat_natCast,zw,go_sem];refine jac 39 ?_;simp only[dA,dB,dC,dD,hA,hB,hgl,Int.toNat_natCast,zw,go_sem]
 have hD:b<l.length:=by have:=zJ dD;omega
 obtain⟨m,rfl⟩:∃m:Nat,b=m:=⟨b.toNat,by omega⟩;obtain⟨x,hxx⟩:=jby hD;have hgx:=jrd hxx;have hpr:pickR h ((n:Int),(m:Int))=if rwR x=true then some x else none:=by
  unfold pickR;rw[zm ⟨hA,hC⟩,Int.toNat_natCast,hlx];dsimp only;rw[Int.toNat_natCast,hxx]
 have hxm:=hk l (zk hlx) x (zk hxx);have kf:=jf5 x.s x.t x.l x.m (by omega) (by omega);rw[show fracF x.s x.l x.t x.m=rwR x from rfl]at kf;simp only[ints]at kf;rcases hrx:rwR x with _ | _
 ·rw[hrx]at kf;rw[no (by rw[hpr,hrx];rfl),zn (by decide)];simp only[hd,hp,hi0,hg,Int.toNat_natCast,zw,go_sem];refine jac 39 ?_;simp only[dA,dB,dC,dD,hA,hB,hC,hD,hgl,hgx,Int.toNat_natCast,zw,go_sem];refine ja4 kf (by decide) ?_;simp only[go_sem]
 ·rw[hrx]at kf;obtain⟨c1,c2,c3⟩:=rawV_c hrx;have fx:FL k (rawV x):=⟨by rw[<-c2];exact hxm.1,by rw[<-c3];exact hxm.2⟩;have hs1:massV h (ps.take (i+1))=massV h (ps.take i)+rawV x:=by
   rw[take_succ hx,jmq];unfold pickV;rw[hpr,zm hrx]
  have hik:i*(k+1)<=1000*(100000+1):=qL (by omega) (by omega);have ka:Ctr G.P 54 [.agg (fc (massV h (ps.take i))),.agg x.c] (· = .tup [frac (massV h (ps.take i)+rawV x),.int 0]):=by
   rw[c1];exact f_add (hF.mono (by omega)) (fx.mono (by omega))
  rw[<-hs1]at ka;have hF2:FL (4+(i+1)*(k+1)) (massV h (ps.take (i+1))):=by
   rw[hs1];have e:(i+1)*(k+1)=i*(k+1)+(k+1):=yB i (k+1);exact(jfc hF fx).mono (by omega)
  have hok:jgs h (ps.take (i+1))=true:=by
   unfold jgs at*;rw[take_succ hx,js,ha];simp[hpr,hrx]
  simp only[frac,ints,fc,Raw.c]at ka;simp only[hd,hp,hi0,hg,Int.toNat_natCast,zw,go_sem];refine jac 39 ?_;simp only[dA,dB,dC,dD,hA,hB,hC,hD,hgl,hgx,Int.toNat_natCast,zw,go_sem];refine ja4 kf (by decide) ?_;simp only[dA,dB,dC,dD,hA,hB,hC,hD,hgl,hgx,Int.toNat_natCast,zw,go_sem];refine jaf ?_;simp only[hA,hB,hC,hD,hgl,hgx,Int.toNat_natCast,zw,go_sem];refine ja4 ka (by decide) ?_;simp only[go_sem];refine jab (i+1) ?_ (by omega) ⟨by omega,hok,hF2⟩;simp only[h1,Int.natCast_add,go_sem]
end
section
open Go.Abs
attribute [local go_sem] Evid.c Evid.iv ints ic big frac fc zc bdC
theorem w_within{lo m:Rat}{hi:Option Rat}(f1:FL 19000000000 lo)(f2:FL 19000000000 m)(f3:∀w,hi=some w->FL 19000000000 w)(h1:lo<=m)(h2:∀w,hi=some w->m<=w):
  Ctr G.P 14 [.agg (bdC lo hi),.agg (fc m)] (· = .bool true):=by
 have k1:=f_cmp f1 f2;have d1:decide (cmpR lo m<=0)=true:=za (Int.not_lt.1 fun h=>yH.2 h1 (cmpR_pos.1 h));unfold frac at k1;cases hi with
 | none=>
  unfold bdC sideC zc;unfold fc at*;simp only[ints]at*;refine ja5 [.tmp 4] Tryz.func14 ?_;simp only[List.cons_append,List.nil_append,Option.isSome_none,go_sem];refine ja1 k1 ?_;simp only[d1,go_sem]
 | some w=>
  have k2:=f_cmp f2 (f3 w rfl);have d2:decide (cmpR m w<=0)=true:=za (Int.not_lt.1 fun h=>yH.2 (h2 w rfl) (cmpR_pos.1 h));unfold frac at k2;unfold bdC sideC;unfold fc at*;simp only[ints]at*;refine ja5 [.tmp 4] Tryz.func14 ?_;simp only[List.cons_append,List.nil_append,Option.isSome_some,go_sem];refine ja1 k1 ?_;simp only[d1,go_sem];refine ja1 k2 ?_;simp only[d2,go_sem]
theorem w_at{e:Evid}{ps es hs:List (List IV)}{a c a' c':Int}{b d b' d':List (List IV)}{is:Bool}(kH:Ctr G.P 56 [e.iv,.sl es] (· = .sl hs))
  (kM:Ctr G.P 13 [.sl hs,.sl ps] (· = .tup [.agg [.int a,.sl b,.int c,.sl d],.bool true])) (kC:Ctr G.P 9 [e.iv,.sl hs] (· = .int 0))
  (kS:is=true->Ctr G.P 31 [.agg [.int a,.sl b,.int c,.sl d],.agg [.int a',.sl b',.int c',.sl d']] (· = .bool true)):
  Ctr G.P 16 [e.iv,.sl ps,.sl es,.agg [.int a',.sl b',.int c',.sl d'],.bool is] (· = .bool true):=by
 unfold Evid.iv Evid.c at*;cases is with
 | false=>
  refine ja5 [.tmp 10] Tryz.func16 ?_;simp only[go_sem];refine ja1 kH ?_;simp only[go_sem];refine ja1 kM ?_;simp only[go_sem];refine ja1 kC ?_;simp only[go_sem]
 | true=>
  have kS:=kS rfl;refine ja5 [.tmp 10] Tryz.func16 ?_;simp only[go_sem];refine ja1 kH ?_;simp only[go_sem];refine ja1 kM ?_;simp only[go_sem];refine ja1 kC ?_;simp only[go_sem];refine ja1 kS ?_;simp only[go_sem]
end
section
open Go.Abs
attribute [local go_sem] Evid.c Evid.iv ints ic big frac fc zc
section
variable{e:Evid}{ps hs:List (List IV)}{f ck:Int}{k1 a1 c1:Int}{b1 d1 P1 Y1 Z1:List (List IV)}{k2 a2 c2:Int}{b2 d2 P2 Y2 Z2:List (List IV)}{k3 a3 c3:Int}{b3 d3 P3 Y3 Z3:List (List IV)}{k4 a4 c4:Int}{b4 d4 P4 Y4 Z4:List (List IV)}
variable{q:Bool}
theorem w_enc0(kF:Ctr G.P 7 [e.iv,.sl ps,.agg [.int k1,.int a1,.sl b1,.int c1,.sl d1,.sl P1,.sl Y1,.sl Z1,.int k2,.int a2,.sl b2,.int c2,.sl d2,.sl P2,.sl Y2,.sl Z2],.int 5,.int 2] (· = .bool false)):
  Ctr G.P 3 [e.iv,.sl ps,.sl hs,.agg [.int k1,.int a1,.sl b1,.int c1,.sl d1,.sl P1,.sl Y1,.sl Z1,.int k2,.int a2,.sl b2,.int c2,.sl d2,.sl P2,.sl Y2,.sl Z2]] (· = .bool true):=by
 have k0:=jke;unfold Evid.iv Evid.c at*;refine ja5 [.tmp 8] Tryz.func3 ?_;simp only[go_sem];refine ja1 k0 ?_;simp only[go_sem];refine ja1 kF ?_;simp only[go_sem]
theorem w_enc1(kF:Ctr G.P 7 [e.iv,.sl ps,.agg [.int k1,.int a1,.sl b1,.int c1,.sl d1,.sl P1,.sl Y1,.sl Z1,.int k2,.int a2,.sl b2,.int c2,.sl d2,.sl P2,.sl Y2,.sl Z2],.int 5,.int 2] (· = .bool true))
  (kM:Ctr G.P 8 [.sl hs,.int 5] (· = .bool false)):
  Ctr G.P 3 [e.iv,.sl ps,.sl hs,.agg [.int k1,.int a1,.sl b1,.int c1,.sl d1,.sl P1,.sl Y1,.sl Z1,.int k2,.int a2,.sl b2,.int c2,.sl d2,.sl P2,.sl Y2,.sl Z2]] (· = .bool true):=by
 have k0:=jke;unfold Evid.iv Evid.c at*;refine ja5 [.tmp 8] Tryz.func3 ?_;simp only[go_sem];refine ja1 k0 ?_;simp only[go_sem];refine ja1 kF ?_;simp only[go_sem];refine ja1 kM ?_;simp only[go_sem]
theorem w_enc2(kF:Ctr G.P 7 [e.iv,.sl ps,.agg [.int k1,.int a1,.sl b1,.int c1,.sl d1,.sl P1,.sl Y1,.sl Z1,.int k2,.int a2,.sl b2,.int c2,.sl d2,.sl P2,.sl Y2,.sl Z2],.int 5,.int 2] (· = .bool true))
  (kM:Ctr G.P 8 [.sl hs,.int 5] (· = .bool true)) (kC:Ctr G.P 9 [e.iv,.sl hs] (· = .int ck))
  (kR:Ctr G.P 10 [e.iv,.sl ps] (· = .tup [.agg [.int k3,.int a3,.sl b3,.int c3,.sl d3,.sl P3,.sl Y3,.sl Z3,.int k4,.int a4,.sl b4,.int c4,.sl d4,.sl P4,.sl Y4,.sl Z4],.int f])) (hf:f=1\/(f=15/\ck≠0))
  (kW:Ctr G.P 11 [e.iv,.sl ps,.agg [.int k1,.int a1,.sl b1,.int c1,.sl d1,.sl P1,.sl Y1,.sl Z1,.int k2,.int a2,.sl b2,.int c2,.sl d2,.sl P2,.sl Y2,.sl Z2]] (· = .bool false)):
  Ctr G.P 3 [e.iv,.sl ps,.sl hs,.agg [.int k1,.int a1,.sl b1,.int c1,.sl d1,.sl P1,.sl Y1,.sl Z1,.int k2,.int a2,.sl b2,.int c2,.sl d2,.sl P2,.sl Y2,.sl Z2]] (· = .bool true):=by
 rcases hf with rfl | ⟨rfl,hck⟩
 ·have k0:=jke;unfold Evid.iv Evid.c at*;refine ja5 [.tmp 8] Tryz.func3 ?_;simp only[go_sem];refine ja1 k0 ?_;simp only[go_sem];refine ja1 kF ?_;simp only[go_sem];refine ja1 kM ?_;simp only[go_sem];refine ja1 kC ?_;simp only[go_sem];refine ja1 kR ?_;simp only[go_sem];refine ja1 kW ?_;simp only[go_sem]
 ·have dck:decide (ck=0)=false:=zq hck;have k0:=jke;unfold Evid.iv Evid.c at*;refine ja5 [.tmp 8] Tryz.func3 ?_;simp only[go_sem];refine ja1 k0 ?_;simp only[go_sem];refine ja1 kF ?_;simp only[go_sem];refine ja1 kM ?_;simp only[go_sem];refine ja1 kC ?_;simp only[dck,go_sem];refine ja1 kR ?_;simp only[go_sem];refine ja1 kW ?_;simp only[go_sem]
theorem w_enc3(kF:Ctr G.P 7 [e.iv,.sl ps,.agg [.int k1,.int a1,.sl b1,.int c1,.sl d1,.sl P1,.sl Y1,.sl Z1,.int k2,.int a2,.sl b2,.int c2,.sl d2,.sl P2,.sl Y2,.sl Z2],.int 5,.int 2] (· = .bool true))
  (kM:Ctr G.P 8 [.sl hs,.int 5] (· = .bool true)) (kC:Ctr G.P 9 [e.iv,.sl hs] (· = .int ck))
  (kR:Ctr G.P 10 [e.iv,.sl ps] (· = .tup [.agg [.int k3,.int a3,.sl b3,.int c3,.sl d3,.sl P3,.sl Y3,.sl Z3,.int k4,.int a4,.sl b4,.int c4,.sl d4,.sl P4,.sl Y4,.sl Z4],.int 0]))
  {p1 q1 p2 q2:Int} {r1 s1 r2 s2:List (List IV)} {hi:Bool}
  (kB:Ctr G.P 12 [.agg [.int k3,.int a3,.sl b3,.int c3,.sl d3,.sl P3,.sl Y3,.sl Z3,.int k4,.int a4,.sl b4,.int c4,.sl d4,.sl P4,.sl Y4,.sl Z4]] (· = .agg [.int p1,.sl r1,.int q1,.sl s1,.int p2,.sl r2,.int q2,.sl s2,.bool true,.bool hi]))
  {m1 n1:Int} {x1 y1:List (List IV)} {ok:Bool} (kY:Ctr G.P 13 [.sl hs,.sl ps] (· = .tup [.agg [.int m1,.sl x1,.int n1,.sl y1],.bool ok]))
  (hok:ck=0->ok=true/\Ctr G.P 14 [.agg [.int p1,.sl r1,.int q1,.sl s1,.int p2,.sl r2,.int q2,.sl s2,.bool true,.bool hi],.agg [.int m1,.sl x1,.int n1,.sl y1]] (· = .bool true))
  (kW:Ctr G.P 11 [e.iv,.sl ps,.agg [.int k3,.int a3,.sl b3,.int c3,.sl d3,.sl P3,.sl Y3,.sl Z3,.int k4,.int a4,.sl b4,.int c4,.sl d4,.sl P4,.sl Y4,.sl Z4]] (· = .bool true))
  {w:Bool} (kW2:Ctr G.P 11 [e.iv,.sl ps,.agg [.int k1,.int a1,.sl b1,.int c1,.sl d1,.sl P1,.sl Y1,.sl Z1,.int k2,.int a2,.sl b2,.int c2,.sl d2,.sl P2,.sl Y2,.sl Z2]] (· = .bool w))
  (hw:w=true->Ctr G.P 12 [.agg [.int k1,.int a1,.sl b1,.int c1,.sl d1,.sl P1,.sl Y1,.sl Z1,.int k2,.int a2,.sl b2,.int c2,.sl d2,.sl P2,.sl Y2,.sl Z2]] (· = .agg [.int p1,.sl r1,.int q1,.sl s1,.int p2,.sl r2,.int q2,.sl s2,.bool true,.bool hi]))
  (kE:Ctr G.P 15 [.agg [.int p1,.sl r1,.int q1,.sl s1,.int p2,.sl r2,.int q2,.sl s2,.bool true,.bool hi],.agg [.int p1,.sl r1,.int q1,.sl s1,.int p2,.sl r2,.int q2,.sl s2,.bool true,.bool hi]] (· = .bool true))
  (kA1:Ctr G.P 16 [e.iv,.sl ps,.sl P3,.agg [.int p1,.sl r1,.int q1,.sl s1],.bool true] (· = .bool true))
  (kA2:Ctr G.P 16 [e.iv,.sl ps,.sl P4,.agg [.int p2,.sl r2,.int q2,.sl s2],.bool hi] (· = .bool true)):
  Ctr G.P 3 [e.iv,.sl ps,.sl hs,.agg [.int k1,.int a1,.sl b1,.int c1,.sl d1,.sl P1,.sl Y1,.sl Z1,.int k2,.int a2,.sl b2,.int c2,.sl d2,.sl P2,.sl Y2,.sl Z2]] (· = .bool true):=by
 have k0:=jke;unfold Evid.iv Evid.c at*;refine ja5 [.tmp 8] Tryz.func3 ?_;simp only[go_sem];refine ja1 k0 ?_;simp only[go_sem];refine ja1 kF ?_;simp only[go_sem];refine ja1 kM ?_;simp only[go_sem];refine ja1 kC ?_;simp only[go_sem];refine ja1 kR ?_;simp only[go_sem];refine ja1 kB ?_;simp only[go_sem];refine ja1 kY ?_;by_cases h0:ck=0
 ·have dck:decide (ck=0)=true:=za h0;obtain⟨rfl,kI⟩:=hok h0;simp only[dck,go_sem];refine ja1 kI ?_;simp only[go_sem];refine ja1 kW ?_;simp only[go_sem];refine jac 11 ?_;simp only[go_sem];refine ja4 kW2 (by decide) ?_;rcases w
  ·simp only[go_sem];refine ja1 kA1 ?_;simp only[go_sem];refine ja1 kA2 ?_;simp only[go_sem]
  ·have kw:=hw rfl;simp only[go_sem];refine ja4 kw (by decide) ?_;simp only[go_sem];refine ja4 kE (by decide) ?_;simp only[go_sem];refine ja1 kA1 ?_;simp only[go_sem];refine ja1 kA2 ?_;simp only[go_sem]
 ·have dck:decide (ck=0)=false:=zq h0;simp only[dck,go_sem];refine ja1 kW ?_;simp only[go_sem];refine jac 11 ?_;simp only[go_sem];refine ja4 kW2 (by decide) ?_;rcases w
  ·simp only[go_sem];refine ja1 kA1 ?_;simp only[go_sem];refine ja1 kA2 ?_;simp only[go_sem]
  ·have kw:=hw rfl;simp only[go_sem];refine ja4 kw (by decide) ?_;simp only[go_sem];refine ja4 kE (by decide) ?_;simp only[go_sem];refine ja1 kA1 ?_;simp only[go_sem];refine ja1 kA2 ?_;simp only[go_sem]
end
end
section
open Go.Abs
open Go.LP (Dic Rw RT Ov OvRw tsum Sol IsMin NoMin Bds)
attribute [local go_sem] Evid.c Evid.iv ints ic big frac fc zc
theorem jj9{n k:Nat}{l:List Raw}(h:fewP n k l=true):l.length<=n/\RawL k l:=by
 rw[fewP,zr,zK]at h;have hl:l.length<=n:=by omega
 refine⟨hl,fun x hx=> ?_⟩;have:=List.all_eq_true.1 h.1 x (by rw[zt (by omega)];exact hx);rw[fewX,zr,zK,zK]at this;omega
theorem jmz{v:Raw}{X Y Z:List Raw}(h:fewO v X Y Z=true):(X.length<=100000/\Y.length<=100000/\Z.length<=100000)/\RawL 10000000 X/\RawL 10000000 Y/\RawL 10000000 Z:=by
 simp only[fewO,zr]at h;obtain⟨⟨⟨_,h2⟩,h3⟩,h4⟩:=h;obtain⟨a1,a2⟩:=jj9 (n:=60) (k:=40) h2;obtain⟨b1,b2⟩:=jj9 (n:=60) (k:=40) h3;obtain⟨c1,c2⟩:=jj9 (n:=60) (k:=40) h4;exact⟨⟨by omega,by omega,by omega⟩,fun x hx=>by have:=a2 x hx;omega,fun x hx=>by have:=b2 x hx;omega,fun x hx=>by have:=c2 x hx;omega⟩
section
variable{e:Evid}{ps:List (Int×Int)}{o:Rng}
theorem jpg(hs:SmallE e)(hl:ps.length<=10000)(ho:fewR o=true):∃w,Ctr G.P 11 [e.iv,.sl (ps.map pickC),.agg o.c] (· = .bool w)/\
  (w=true->okP e ps=true/\ChkS (nV e) (rowsE e) (goalS e.mats.toNat ps) o.k o.v/\ChkS (nV e) (rowsE e) (mulT ((-1:Int):Rat) (goalS e.mats.toNat ps)) o.k' o.v'):=by
 rcases h0:okP e ps with _ | _
 ·exact⟨false,d_wcheck0 hs hl h0 o.shape,fun h=>by cases h⟩
 obtain⟨hc,_,_⟩:=jdu h0;have hso:=jme hc hs;have hgo:=jl8 h0;by_cases hk:o.k=1\/o.k'=1
 ·exact⟨false,jlp hs hl h0 o.shape (d_span1 hk),fun h=>by cases h⟩
 have hk1:o.k≠1:=fun h=>hk (.inl h);have hk2:o.k'≠1:=fun h=>hk (.inr h);rw[fewR,zr]at ho;obtain⟨⟨l1,l2,l3⟩,r1,r2,r3⟩:=jmz ho.1;obtain⟨⟨m1,m2,m3⟩,q1,q2,q3⟩:=jmz ho.2;obtain⟨B1,c1,s1⟩:=jlq hso hgo (v:=o.v) hk1 l1 l2 l3 r1 r2 r3;obtain⟨B2,c2,s2⟩:=jlq hso hgo.opp (v:=o.v') hk2 m1 m2 m3 q1 q2 q3;have hn:=hso.n;have hgl:=hgo.len;have kO:=x_opp (goalS e.mats.toNat ps) (job hgo.rt (by omega)) (by omega) hgo.fl;refine⟨B1&&B2,jlp hs hl h0 o.shape (d_span hk1 hk2 kO c1 c2),fun h=> ?_⟩;rw[zr]at h;exact⟨rfl,s1 h.1,s2 h.2⟩
theorem other_bnd{lo:Rat}{hi:Option Rat}(hB:Bds (nV e) (rowsE e) (wgt e ps) lo hi)(f1:FL 4000000000 lo)(f2:∀w,hi=some w->FL 4000000000 w)
  (h1:ChkS (nV e) (rowsE e) (goalS e.mats.toNat ps) o.k o.v) (h2:ChkS (nV e) (rowsE e) (mulT ((-1:Int):Rat) (goalS e.mats.toNat ps)) o.k' o.v'):Ctr G.P 12 [.agg o.c] (· = .agg (bdC lo hi)):=by
 have em:((-1:Int):Rat)= -1:=by decide
 have eg:∀x,tsum (goalS e.mats.toNat ps) x=wgt e ps x:=fun x=>jif x;have eg2:∀x,tsum (mulT ((-1:Int):Rat) (goalS e.mats.toNat ps)) x= -wgt e ps x:=fun x=>by rw[jgm,em,eg];grind
 obtain⟨xl',hx1,hx2⟩:=hB.low_at;rcases h1 with ⟨k0,val,hm,hv⟩ | ⟨_,hno,_⟩
 case inr=>
  exfalso;obtain⟨y,hy,hlt⟩:=hno.2 lo;have:=hB.low y hy;rw[eg]at hlt;grind
 have hval:val=lo:=by
  obtain⟨y,hy,hyv⟩:=hm.at';have a1:=hm.le xl' hx1;have a2:=hB.low y hy;rw[eg]at a1 hyv;grind
 subst hval;rcases h2 with ⟨k0',val',hm',hv'⟩ | ⟨k2',hno',hv'⟩
 ·have hhi:hi=some (-val'):=by
   obtain⟨y,hy,hyv⟩:=hm'.at';rw[eg2]at hyv;cases hi with
   | none=>
    obtain⟨z,hz,hzl⟩:=hB.wide rfl (-val');have:=hm'.le z hz;rw[eg2]at this;grind
   | some w=>
    obtain⟨z,hz,hzw⟩:=hB.high_at w rfl;have a1:=hm'.le z hz;have a2:=hB.high w rfl y hy;rw[eg2]at a1;congr 1;grind
  subst hhi;have fv:FL 4000000000 val':=by
   have:=jhj (f2 _ rfl)
   rwa [show- -val'=val' by grind]at this
  have:=x_bnd (some val) (some val') 0 0 (o.X.map Raw.c) (o.Y.map Raw.c) (o.Z.map Raw.c) (o.X'.map Raw.c) (o.Y'.map Raw.c) (o.Z'.map Raw.c) rfl rfl (fun w h=>by cases h;exact f1) (fun w h=>by cases h;exact fv);unfold Rng.c optC;rw[k0,k0',hv,hv'];exact this
 ·have hhi:hi=none:=by
   cases hi with
   | none=>rfl
   | some w=>
    exfalso;obtain⟨y,hy,hlt⟩:=hno'.2 (-w);have:=hB.high w rfl y hy;rw[eg2]at hlt;grind
  subst hhi;have:=x_bnd (some val) none 0 2 (o.X.map Raw.c) (o.Y.map Raw.c) (o.Z.map Raw.c) (o.X'.map Raw.c) (o.Y'.map Raw.c) (o.Z'.map Raw.c) rfl rfl (fun w h=>by cases h;exact f1) (fun w h=>by cases h);unfold Rng.c optC;rw[k0,k2',hv,hv'];exact this
theorem found_chk(hs:SmallE e)(hl:ps.length<=10000)(hN:nV e<=10)(h0:okP e ps=true)(hx:∃x,Sol (nV e) (rowsE e) x)(hn:isNone (jd9 (nV e) (rowsE e) (goalS e.mats.toNat ps))=false):
  Ctr G.P 11 [e.iv,.sl (ps.map pickC),.agg (jd9 (nV e) (rowsE e) (goalS e.mats.toNat ps)++jd9 (nV e) (rowsE e) (mulT ((-1:Int):Rat) (goalS e.mats.toNat ps)))] (· = .bool true):=by
 obtain⟨hc,_,_⟩:=jdu h0;have hso:=jme hc hs;have hgo:=jl8 h0;have hn2:isNone (jd9 (nV e) (rowsE e) (mulT ((-1:Int):Rat) (goalS e.mats.toNat ps)))=false:=by
  obtain⟨x,hx⟩:=hx;have h:=jcw hso hgo.opp;generalize jd9 (nV e) (rowsE e) (mulT ((-1:Int):Rat) (goalS e.mats.toNat ps))=o at h;cases h with
  | found=>rfl
  | none Y hno=>exact absurd hx (hno x)
  | free=>rfl
 have c1:=jij hso hgo hN hn;have c2:=jij hso hgo.opp hN hn2;obtain⟨k,a,c,b,d,P,Y,Z,e1,e2⟩:=(jcw hso hgo).shape;obtain⟨k',a',c',b',d',P',Y',Z',e3,e4⟩:=(jcw hso hgo.opp).shape;have hk1:k≠1:=zJ (e2.symm.trans hn);have hk2:k'≠1:=zJ (e4.symm.trans hn2);rw[e1]at c1⊢;rw[e3]at c2⊢;have hnn:=hso.n;have hgl:=hgo.len;have kO:=x_opp (goalS e.mats.toNat ps) (job hgo.rt (by omega)) (by omega) hgo.fl;have:=jlp hs hl h0 ⟨_,_,_,_,_,_,_,_,_,_,_,_,_,_,_,_,rfl⟩ (d_span hk1 hk2 kO c1 c2);exact this
