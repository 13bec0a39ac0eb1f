/- A part of the proof. No further condition. -/
import Derived.Test.YtdhlmmoicchgpaaGreatKV19
set_option linter.all false
set_option maxRecDepth 10000000
set_option maxHeartbeats 16000000
namespace Go.LP
section
def Reach(D:Dic)(T:Nat)(E:Dic):Prop:=∃(F:Nat->Dic) (r s:Nat->Nat),Run F r s T/\F 0=D/\F T=E
section
variable{D E:Dic}{T r s K:Nat}
theorem Reach.zero(hD:D.Ok):Reach D 0 D:=⟨fun _=>D,fun _=>0,fun _=>0,⟨hD,fun t ht=>absurd ht (by omega),fun t ht=>absurd ht (by omega)⟩,rfl,rfl⟩
theorem Reach.step(h:Reach D T E)(hr:Rule E r s):Reach D (T+1) (E.pivot r s):=by
 obtain⟨F,r',s',hR,h0,hT⟩:=h;refine⟨fun t=>if t<=T then F t else E.pivot r s,fun t=>if t<T then r' t else r,fun t=>if t<T then s' t else s,⟨?_,fun t ht=> ?_,fun t ht=> ?_⟩,?_,?_⟩
 ·show(if 0<=T then F 0 else _).Ok;rw[zm (zI _)];exact hR.ok
 ·show Rule (if t<=T then F t else _) (if t<T then r' t else r) (if t<T then s' t else s);rw[zm (by omega)];by_cases h1:t<T
  ·rw[zm h1,zm h1];exact hR.rule t h1
  ·have e:t=T:=by omega
   subst e;rw[zr h1,zr h1,hT];exact hr
 ·show(if t+1<=T then F (t+1)else _)=(if t<=T then F t else _).pivot (if t<T then r' t else r) (if t<T then s' t else s);rw[zm (by omega:t<=T)];by_cases h1:t<T
  ·rw[zm h1,zm h1,zm (by omega)];exact hR.next t h1
  ·have e:t=T:=by omega
   subst e;rw[zr h1,zr h1,zr (by omega),hT]
 ·show(if 0<=T then F 0 else _)=D;rw[zm (zI _)];exact h0
 ·show(if T+1<=T then F (T+1)else _)=_;rw[zr (by omega)]
theorem Run.facts{F:Nat->Dic}{r s:Nat->Nat}(h:Run F r s T):∀t,t<=T->(F t).Ok/\Eqv (F 0) (F t)/\SameV (F 0) (F t)/\(F t).m=(F 0).m/\(F t).n=(F 0).n
 | 0,_=>⟨h.ok,Eqv.refl _,SameV.refl _,rfl,rfl⟩
 | t+1,ht=>by
  obtain⟨h1,h2,h3,h4,h5⟩:=h.facts t (by omega);have hr:=h.rule t (by omega);rw[h.next t (by omega)];exact⟨jnf h1 hr.hr hr.hs,h2.trans (jlh hr.hr hr.hs hr.ne),h3.trans (jkp h1 hr.hr hr.hs),h4,h5⟩
theorem Reach.facts(h:Reach D T E):E.Ok/\Eqv D E/\SameV D E/\E.m=D.m/\E.n=D.n:=by
 obtain⟨F,r',s',hR,rfl,rfl⟩:=h;exact hR.facts T (zn _)
theorem Reach.bound(h:Reach D T E)(hK:∀k,(Own D k\/Free D k)->k<K):T<2^K:=by
 obtain⟨F,r',s',hR,rfl,rfl⟩:=h;refine hR.ends K T F r' s' fun t ht=> ?_;obtain⟨_,_,h3,_,_⟩:=hR.facts t (by omega);have hr:=hR.rule t ht;exact⟨hK _ ((h3 _).2 (.inl ⟨_,hr.hr,rfl⟩)),hK _ ((h3 _).2 (.inr ⟨_,hr.hs,rfl⟩))⟩
end
inductive Final(E:Dic):Int->Int->Prop
 | best:(∀i,i<E.m->0<=E.v i)->(∀j,j<E.n->E.g j<=0)->Final E (-1) (-1)
 | none (r:Nat):r<E.m->E.v r<0->(∀i,i<E.m->E.v i<0->E.own r<=E.own i)->(∀j,j<E.n->0<E.g j->E.own r<E.free j)->(∀j,j<E.n->0<=E.a r j)->Final E r (-1)
 | free (s:Nat):s<E.n->0<E.g s->(∀j,j<E.n->0<E.g j->E.free s<=E.free j)->(∀i,i<E.m->E.v i<0->E.free s<E.own i)->(∀i,i<E.m->E.a i s<=0)->Final E (-1) s
section
variable{D E E':Dic}{r r' s s' T T':Nat}{a b a' b':Int}
theorem jrg{x:Rat}(h:0<=x)(h':x<0):False:=by grind
theorem jrf{x:Rat}(h:x<=0)(h':0<x):False:=by grind
theorem Rule.det(hD:D.Ok)(h1:Rule D r s)(h2:Rule D r' s'):r=r'/\s=s':=by
 rcases h1.sel with ⟨a1,a2,a3,a4,a5⟩ | ⟨a1,a2,a3,a4,a5⟩<;>rcases h2.sel with ⟨b1,b2,b3,b4,b5⟩ | ⟨b1,b2,b3,b4,b5⟩
 ·have e:=hD.own r r' h1.hr h2.hr (yr (a2 r' h2.hr b1) (b2 r h1.hr a1));subst e;exact⟨rfl,hD.free s s' h1.hs h2.hs (yr (a5 s' h2.hs b4) (b5 s h1.hs a4))⟩
 ·have e1:=a3 s' h2.hs b1;have e2:=b3 r h1.hr a1;omega
 ·have e1:=b3 s h1.hs a1;have e2:=a3 r' h2.hr b1;omega
 ·have e:=hD.free s s' h1.hs h2.hs (yr (a2 s' h2.hs b1) (b2 s h1.hs a1));subst e;exact⟨hD.own r r' h1.hr h2.hr (yr (a5 r' h2.hr b4) (b5 r h1.hr a4)),rfl⟩
theorem Final.no(hD:E.Ok)(h:Final E a b)(h2:Rule E r s):False:=by
 cases h with
 | best e1 e2=>
  rcases h2.sel with ⟨b1,_⟩ | ⟨b1,_⟩
  ·exact jrg (e1 r h2.hr) b1
  ·exact jrf (e2 s h2.hs) b1
 | none q e1 e2 e3 e4 e5=>
  rcases h2.sel with ⟨b1,b2,b3,b4,b5⟩ | ⟨b1,b2,b3,b4,b5⟩
  ·have e:=hD.own q r e1 h2.hr (yr (e3 r h2.hr b1) (b2 q e1 e2));subst e;exact jrg (e5 s h2.hs) b4
  ·have x1:=e4 s h2.hs b1;have x2:=b3 q e1 e2;omega
 | free q e1 e2 e3 e4 e5=>
  rcases h2.sel with ⟨b1,b2,b3,b4,b5⟩ | ⟨b1,b2,b3,b4,b5⟩
  ·have x1:=e4 r h2.hr b1;have x2:=b3 q e1 e2;omega
  ·have e:=hD.free q s e1 h2.hs (yr (e3 s h2.hs b1) (b2 q e1 e2));subst e;exact jrf (e5 r h2.hr) b4
theorem Final.det(hD:E.Ok)(h:Final E a b)(h':Final E a' b'):a=a'/\b=b':=by
 cases h with
 | best e1 e2=>
  cases h' with
  | best=>exact⟨rfl,rfl⟩
  | none q f1 f2=>exact(jrg (e1 q f1) f2).elim
  | free q f1 f2=>exact(jrf (e2 q f1) f2).elim
 | none q e1 e2 e3 e4 e5=>
  cases h' with
  | best f1 f2=>exact(jrg (f1 q e1) e2).elim
  | none q' f1 f2 f3 f4 f5=>
   have e:=hD.own q q' e1 f1 (yr (e3 q' f1 f2) (f3 q e1 e2));subst e;exact⟨rfl,rfl⟩
  | free q' f1 f2 f3 f4 f5=>
   have x1:=e4 q' f1 f2;have x2:=f4 q e1 e2;omega
 | free q e1 e2 e3 e4 e5=>
  cases h' with
  | best f1 f2=>exact(jrf (f2 q e1) e2).elim
  | none q' f1 f2 f3 f4 f5=>
   have x1:=f4 q e1 e2;have x2:=e4 q' f1 f2;omega
  | free q' f1 f2 f3 f4 f5=>
   have e:=hD.free q q' e1 f1 (yr (e3 q' f1 f2) (f3 q e1 e2));subst e;exact⟨rfl,rfl⟩
theorem Reach.det(h:Reach D T E)(h':Reach D T' E')(f:Final E a b)(f':Final E' a' b'):E=E':=by
 have fE:=h.facts.1;have fE':=h'.facts.1;obtain⟨F,r,s,hR,h0,hT⟩:=h;obtain⟨F',r',s',hR',h0',hT'⟩:=h';have key:∀t,t<=T->t<=T'->F t=F' t:=by
  intro t
  induction t with
  | zero=>intro _ _;rw[h0,h0']
  | succ t ih=>
   intro h1 h2;have e:=ih (by omega) (by omega);have k1:=hR.rule t (by omega);have k2:=hR'.rule t (by omega);rw[<-e]at k2;obtain⟨e1,e2⟩:=k1.det (hR.facts t (by omega)).1 k2;rw[hR.next t (by omega),hR'.next t (by omega),<-e,e1,e2]
 rcases qS T T' with hlt | heq | hlt
 ·have e:=key T (zn _) (by omega);have k2:=hR'.rule T hlt;rw[<-e,hT]at k2;exact(f.no fE k2).elim
 ·subst heq;rw[<-hT,<-hT',key T (zn _) (zn _)]
 ·have e:=key T' (by omega) (zn _);have k2:=hR.rule T' hlt;rw[e,hT']at k2;exact(f'.no fE' k2).elim
end
end
section
structure Rw where
 ts:List (Nat×Rat)
 kind:Int
 val:Rat
def tsum:List (Nat×Rat)->(Nat->Rat)->Rat
 | [],_=>0
 | t::ts,x=>t.2*x t.1+tsum ts x
def cf:List (Nat×Rat)->Nat->Rat
 | [],_=>0
 | t::ts,k=>if k=t.1 then t.2 else cf ts k
def RT:List (Nat×Rat)->Nat->Nat->Prop
 | [],_,_=>True
 | t::ts,lo,N=>lo<=t.1/\t.1<N/\t.2≠0/\RT ts (t.1+1) N
theorem RT.mono:∀{ts:List (Nat×Rat)} {lo lo' N:Nat},RT ts lo N->lo'<=lo->RT ts lo' N
 | [],_,_,_,_,_=>trivial
 | t::ts,lo,lo',N,h,hl=>⟨qh hl h.1,h.2.1,h.2.2.1,h.2.2.2⟩
theorem RT.mem:∀{ts:List (Nat×Rat)} {lo N:Nat},RT ts lo N->∀t∈ts,lo<=t.1/\t.1<N/\t.2≠0
 | t::ts,lo,N,h,u,hu=>by
  rcases zN.1 hu with rfl | hu
  ·exact⟨h.1,h.2.1,h.2.2.1⟩
  ·have h1:=RT.mem h.2.2.2 u hu;have h2:=h.1;exact⟨by omega,h1.2⟩
theorem cf_low:∀{ts:List (Nat×Rat)} {lo N k:Nat},RT ts lo N->k<lo->cf ts k=0
 | [],_,_,_,_,_=>rfl
 | t::ts,lo,N,k,h,hk=>by
  rw[cf,zr (by have:=h.1;omega)];exact cf_low h.2.2.2 (by have:=h.1;omega)
theorem jpw:∀{ts:List (Nat×Rat)} {lo N:Nat} (x:Nat->Rat),RT ts lo N->tsum ts x=S N (fun j=>cf ts j*x j)
 | [],_,N,x,_=>by
  rw[jmz fun j _=> ?_];rfl;simp only[cf];grind
 | t::ts,lo,N,x,h=>by
  rw[tsum,jpw x h.2.2.2,jfv (f:=fun j=>cf (t::ts) j*x j) h.2.1,jfv (f:=fun j=>cf ts j*x j) h.2.1];have e1:cf ts t.1=0:=cf_low h.2.2.2 (by omega);have e2:cf (t::ts) t.1=t.2:=by rw[cf,zm rfl]
  rw[jdw (f:=fun j=>if j=t.1 then 0 else cf (t::ts) j*x j) (g:=fun j=>if j=t.1 then 0 else cf ts j*x j) fun j _=>by
   by_cases e:j=t.1
   ·simp only[zm e]
   ·simp only[zr e,cf]]
  rw[e1,e2];grind
theorem jj6:∀{ts:List (Nat×Rat)} {x y:Nat->Rat},(∀t∈ts,x t.1=y t.1)->tsum ts x=tsum ts y
 | [],_,_,_=>rfl
 | t::ts,x,y,h=>by rw[tsum,tsum,h t (qz ..),jj6 fun u hu=>h u (qq _ hu)]
theorem tsum_app:∀(ts us:List (Nat×Rat)) (x:Nat->Rat),tsum (ts++us) x=tsum ts x+tsum us x
 | [],us,x=>by simp only[List.nil_append,tsum];grind
 | t::ts,us,x=>by rw[List.cons_append,tsum,tsum_app ts us x,tsum];grind
def Rw.sat(w:Rw)(x:Nat->Rat):Prop:=(w.kind≠1->w.val<=tsum w.ts x)/\(w.kind≠0->tsum w.ts x<=w.val)
structure Rw.Ok(w:Rw)(N:Nat):Prop where
 ts:RT w.ts 0 N
 kind:0<=w.kind/\w.kind<3
structure Sol(N:Nat)(ws:List Rw)(x:Nat->Rat):Prop where
 pos:∀k,k<N->0<=x k
 row:∀w∈ws,w.sat x
def Dic.put(D:Dic)(w:Rw)(t:Bool):Dic:=
 {D with
  m:=D.m+1
  own:=fun i=>if i=D.m then D.n+D.m else D.own i
  v:=fun i=>if i=D.m then(if t=true then-w.val else w.val)else D.v i
  a:=fun i=>if i=D.m then(fun j=>if t=true then-cf w.ts j else cf w.ts j)else D.a i}
def jdy(D:Dic)(src:Nat->Int×Bool)(row:Nat)(t:Bool)(i:Nat):Int×Bool:=if i=D.m then((row:Int),t)else src i
def rowD(p:Dic×(Nat->Int×Bool))(row:Nat)(w:Rw):Dic×(Nat->Int×Bool):=
 let p1:=if w.kind≠0 then(p.1.put w false,jdy p.1 p.2 row false)else p
 if w.kind≠1 then(p1.1.put w true,jdy p1.1 p1.2 row true)else p1
def rowsD(ws:List Rw)(p:Dic×(Nat->Int×Bool)):Nat->Dic×(Nat->Int×Bool)
 | 0=>p
 | i+1=>match ws[i]? with
  | some w=>rowD (rowsD ws p i) i w
  | none=>rowsD ws p i
def dic0(N:Nat):Dic:=⟨0,N,fun _=>0,fun j=>j,fun _=>0,fun _=>0,fun _ _=>0⟩
def src0:Nat->Int×Bool:=fun _=>(0,false)
def jf4(N:Nat)(ws:List Rw):Dic×(Nat->Int×Bool):=rowsD ws (dic0 N,src0) ws.length
def first(N:Nat)(ws:List Rw)(goal:List (Nat×Rat)):Dic:={(jf4 N ws).1 with g:=fun j=> -cf goal j}
structure Mk(N:Nat)(D:Dic)(P:(Nat->Rat)->Prop):Prop where
 n:D.n=N
 own:∀i,i<D.m->D.own i=N+i
 free:∀j,D.free j=j
 sat:∀x,P x↔∀i,i<D.m->S N (fun j=>D.a i j*x j)<=D.v i
theorem Mk.congr{N:Nat}{D:Dic}{P Q:(Nat->Rat)->Prop}(h:Mk N D P)(hq:∀x,Q x↔P x):Mk N D Q:=⟨h.n,h.own,h.free,fun x=>(hq x).trans (h.sat x)⟩
theorem mk0(N:Nat):Mk N (dic0 N) (fun _=>True):=⟨rfl,fun i hi=>absurd hi (y9 _),fun _=>rfl,fun x=>⟨fun _ i hi=>absurd hi (y9 _),fun _=>trivial⟩⟩
theorem S_negc(f g:Nat->Rat)(n:Nat):S n (fun j=> -f j*g j)= -S n (fun j=>f j*g j):=by
 rw[<-S_neg];exact jdw fun j _=>by grind
theorem Mk.put{N:Nat}{D:Dic}{P:(Nat->Rat)->Prop}(h:Mk N D P)(w:Rw)(hw:RT w.ts 0 N)(t:Bool):Mk N (D.put w t) (fun x=>P x/\(if t=true then w.val<=tsum w.ts x else tsum w.ts x<=w.val)) where
 n:=h.n
 own i hi:=by
  show(if i=D.m then D.n+D.m else D.own i)=_;by_cases e:i=D.m
  ·rw[zm e,h.n,e]
  ·rw[zr e];exact h.own i (by have:i<D.m+1:=hi;omega)
 free:=h.free
 sat x:=by
  have key:(if t=true then w.val<=tsum w.ts x else tsum w.ts x<=w.val)↔S N (fun j=>(D.put w t).a D.m j*x j)<=(D.put w t).v D.m:=by
   have e1:(D.put w t).a D.m=fun j=>if t=true then-cf w.ts j else cf w.ts j:=zm rfl
   have e2:(D.put w t).v D.m=if t=true then-w.val else w.val:=zm rfl
   rw[e1,e2,jpw x hw];cases t
   ·simp only[qb,z8]
   ·simp only[qv];rw[S_negc];constructor<;>intro h<;>grind
  rw[key,h.sat x];constructor
  ·rintro⟨h1,h2⟩ i hi;by_cases e:i=D.m
   ·subst e;exact h2
   ·have e1:(D.put w t).a i=D.a i:=zr e;have e2:(D.put w t).v i=D.v i:=zr e;rw[e1,e2];exact h1 i (by have:i<D.m+1:=hi;omega)
  ·intro h1;refine⟨fun i hi=> ?_,h1 D.m (ju _)⟩;have e1:(D.put w t).a i=D.a i:=zr (by omega);have e2:(D.put w t).v i=D.v i:=zr (by omega);have:=h1 i (Nat.lt_succ_of_lt hi)
   rwa [e1,e2]at this
theorem mk_row{N:Nat}{p:Dic×(Nat->Int×Bool)}{P:(Nat->Rat)->Prop}(h:Mk N p.1 P)(row:Nat)(w:Rw)(hw:RT w.ts 0 N):Mk N (rowD p row w).1 (fun x=>P x/\w.sat x):=by
 unfold rowD Rw.sat;dsimp only;by_cases h0:w.kind=0
 ·have h1:w.kind≠1:=by omega
  rw[zr (show ¬(w.kind≠0)from fun h=>h h0),zm h1];refine(h.put w hw true).congr fun x=> ?_;rw[zm rfl];constructor
  ·rintro⟨a,b,c⟩;exact⟨a,b h1⟩
  ·rintro⟨a,b⟩;exact⟨a,fun _=>b,fun h=>absurd h0 h⟩
 ·rw[zm h0];by_cases h1:w.kind=1
  ·rw[zr (show ¬(w.kind≠1)from fun h=>h h1)];refine(h.put w hw false).congr fun x=> ?_;rw[zr (by decide)];constructor
   ·rintro⟨a,b,c⟩;exact⟨a,c h0⟩
   ·rintro⟨a,b⟩;exact⟨a,fun h=>absurd h1 h,fun _=>b⟩
  ·rw[zm h1];refine((h.put w hw false).put w hw true).congr fun x=> ?_;rw[zr (by decide),zm rfl];constructor
   ·rintro⟨a,b,c⟩;exact⟨⟨a,c h0⟩,b h1⟩
   ·rintro⟨⟨a,b⟩,c⟩;exact⟨a,fun _=>c,fun _=>b⟩
theorem mk_rows{N:Nat}{ws:List Rw}(hw:∀w∈ws,w.Ok N):∀i,i<=ws.length->Mk N (rowsD ws (dic0 N,src0) i).1 (fun x=>∀w∈ws.take i,w.sat x)
 | 0,_=>(mk0 N).congr fun x=>⟨fun _=>trivial,fun _ w hw=>by rw[List.take_zero]at hw;cases hw⟩
 | i+1,hi=>by
  have hlt:i<ws.length:=hi;have hg:ws[i]? =some ws[i]:=zk hlt;rw[rowsD,hg];refine(mk_row (mk_rows hw i (by omega)) i ws[i] (hw _ (vn hlt)).ts).congr fun x=> ?_;rw[qN,hg];simp only[Option.toList_some,qp,zp];constructor
  ·intro h;exact⟨fun w hw=>h w (.inl hw),h _ (.inr rfl)⟩
  ·rintro⟨h1,h2⟩ w (hw | rfl)
   ·exact h1 w hw
   ·exact h2
section
variable{N:Nat}{ws:List Rw}{goal:List (Nat×Rat)}{E:Dic}
theorem mk_first(hw:∀w∈ws,w.Ok N):Mk N (first N ws goal) (fun x=>∀w∈ws,w.sat x):=by
 have h:=mk_rows hw ws.length (zn _);rw[qL]at h;exact⟨h.n,h.own,h.free,h.sat⟩
theorem Mk.ok{D:Dic}{P:(Nat->Rat)->Prop}(h:Mk N D P):D.Ok where
 own i i' hi hi' e:=by rw[h.own i hi,h.own i' hi']at e;omega
 free j j' hj hj' e:=by rw[h.free,h.free]at e;exact e
 apart i j hi hj:=by rw[h.own i hi,h.free];have:=h.n;omega
def ext(D:Dic)(N:Nat)(x:Nat->Rat)(k:Nat):Rat:=if k<N then x k else D.v (k-N)-S N (fun j=>D.a (k-N) j*x j)
theorem jnr{D:Dic}{x:Nat->Rat}{k:Nat}(h:k<N):ext D N x k=x k:=zm h
theorem Mk.ext_sat{D:Dic}{P:(Nat->Rat)->Prop}(h:Mk N D P)(x:Nat->Rat):D.Sat (ext D N x):=fun i hi=>by
 unfold Dic.row;rw[h.own i hi,h.n,jdw (f:=fun j=>D.a i j*ext D N x (D.free j)) (g:=fun j=>D.a i j*x j) fun j hj=>by rw[h.free,jnr hj]];unfold ext;rw[zr (by omega),show N+i-N=i by omega];grind
theorem Mk.sat_iff{D:Dic}{P:(Nat->Rat)->Prop}(h:Mk N D P){y:Nat->Rat}(hy:D.Sat y)(hp:∀k,0<=y k):P y:=(h.sat y).2 fun i hi=>by
 have h1:=hy i hi;unfold Dic.row at h1;rw[h.own i hi,h.n,jdw (f:=fun j=>D.a i j*y (D.free j)) (g:=fun j=>D.a i j*y j) fun j hj=>by rw[h.free]]at h1;have:=hp (N+i);grind
theorem Mk.ext_nonneg{D:Dic}{P:(Nat->Rat)->Prop}(h:Mk N D P){x:Nat->Rat}(hx:P x)(hp:∀k,k<N->0<=x k):∀k,k<N+D.m->0<=ext D N x k:=fun k hk=>by
 by_cases e:k<N
 ·rw[jnr e];exact hp k e
 ·unfold ext;rw[zr e];have:=(h.sat x).1 hx (k-N) (by omega);grind
theorem own_lt{D:Dic}{P:(Nat->Rat)->Prop}(h:Mk N D P)(k:Nat):(Own D k\/Free D k)↔k<N+D.m:=by
 constructor
 ·rintro(⟨i,hi,rfl⟩ | ⟨j,hj,rfl⟩)
  ·rw[h.own i hi];omega
  ·rw[h.free,<-h.n];omega
 ·intro hk;by_cases e:k<N
  ·exact .inr ⟨k,by rw[h.n];exact e,h.free k⟩
  ·exact .inl ⟨k-N,by omega,by rw[h.own _ (by omega)];omega⟩
theorem jld(hw:∀w∈ws,w.Ok N)(hg:RT goal 0 N)(y:Nat->Rat):(first N ws goal).lin y= -tsum goal y:=by
 have h:=mk_first (goal:=goal) hw;unfold Dic.lin;rw[h.n,jpw y hg,jdw (f:=fun j=>(first N ws goal).g j*y ((first N ws goal).free j)) (g:=fun j=> -cf goal j*y j) fun j hj=>by rw[h.free];rfl,S_negc]
theorem pt_nn(hE:E.Ok)(hv:∀i,i<E.m->0<=E.v i)(k:Nat):0<=E.pt k:=jh0 hE (K:=k+1) (fun i hi _=>hv i hi) (ju _)
theorem final_best(hw:∀w∈ws,w.Ok N)(hg:RT goal 0 N)(hE:E.Ok)(hq:Eqv (first N ws goal) E)(hv:SameV (first N ws goal) E)(h1:∀i,i<E.m->0<=E.v i)(h2:∀j,j<E.n->E.g j<=0):
  Sol N ws E.pt/\∀x,Sol N ws x->tsum goal E.pt<=tsum goal x:=by
 have h:=mk_first (goal:=goal) hw;have hp:=pt_nn hE h1;have hs:(first N ws goal).Sat E.pt:=(hq.sat _).2 (jgz hE);refine⟨⟨fun k _=>hp k,h.sat_iff hs hp⟩,fun x hx=> ?_⟩;have hy:=h.ext_sat x;have hn:=h.ext_nonneg hx.row hx.pos;obtain⟨c,hc⟩:=hq.lin;have e1:=hc _ hy;have e2:=hc _ hs;rw[jld hw hg]at e1 e2;rw[pt_lin hE]at e2;have e3:tsum goal (ext (first N ws goal) N x)=tsum goal x:=jj6 fun t ht=>jnr (hg.mem t ht).2.1;have e4:E.lin (ext (first N ws goal) N x)<=0:=by
  have:0<=S E.n (fun j=> -(E.g j*ext (first N ws goal) N x (E.free j))):=jiz fun j hj=>by
   have a1:=h2 j hj;have a2:0<=ext (first N ws goal) N x (E.free j):=hn _ ((own_lt h _).1 ((hv _).2 (.inr ⟨j,hj,rfl⟩)));exact jri a1 a2
  rw[S_neg]at this;unfold Dic.lin;grind
 rw[e3]at e1;grind
theorem final_none(hw:∀w∈ws,w.Ok N)(hq:Eqv (first N ws goal) E)(hv:SameV (first N ws goal) E){r:Nat}(hr:r<E.m)(h1:E.v r<0)(h2:∀j,j<E.n->0<=E.a r j):∀x,¬Sol N ws x:=fun x hx=>by
 have h:=mk_first (goal:=goal) hw;have hy:=(hq.sat _).1 (h.ext_sat x) r hr;have hn:=h.ext_nonneg hx.row hx.pos;unfold Dic.row at hy;have a1:0<=ext (first N ws goal) N x (E.own r):=hn _ ((own_lt h _).1 ((hv _).2 (.inl ⟨r,hr,rfl⟩)));have a2:0<=S E.n (fun j=>E.a r j*ext (first N ws goal) N x (E.free j)):=jiz fun j hj=>yO (h2 j hj) (hn _ ((own_lt h _).1 ((hv _).2 (.inr ⟨j,hj,rfl⟩))));grind
theorem final_free(hw:∀w∈ws,w.Ok N)(hg:RT goal 0 N)(hE:E.Ok)(hq:Eqv (first N ws goal) E)(hv:SameV (first N ws goal) E){s:Nat}(hs:s<E.n)(h1:0<E.g s)(h2:∀i,i<E.m->E.a i s<=0){x:Nat->Rat}(hx:Sol N ws x):
  ∀c:Rat,∃y,Sol N ws y/\tsum goal y<c:=fun c=>by
 have h:=mk_first (goal:=goal) hw;have hy:=h.ext_sat x;have hn:=h.ext_nonneg hx.row hx.pos;have hd:∀k,0<=E.dir s k:=fun k=>jhl hE (K:=k+1) hs (fun i hi _=>h2 i hi) (ju _);obtain⟨c0,hc⟩:=hq.lin;have key:∀t:Rat,0<=t->Sol N ws (fun k=>ext (first N ws goal) N x k+t*E.dir s k)/\tsum goal (fun k=>ext (first N ws goal) N x k+t*E.dir s k)=tsum goal x-t*E.g s:=fun t ht=>by
  have e0:E.Sat (fun k=>ext (first N ws goal) N x k+t*E.dir s k):=jjh hE hs ((hq.sat _).1 hy) t;have e1:=(hq.sat _).2 e0;refine⟨⟨fun k hk=> ?_,?_⟩,?_⟩
  ·have a1:=hn k (by omega);have a2:=yO ht (hd k);show 0<=ext (first N ws goal) N x k+t*E.dir s k;grind
  ·refine(h.sat _).2 fun i hi=> ?_;have b1:=e1 i hi;unfold Dic.row at b1;rw[h.own i hi,h.n]at b1;rw[jdw (f:=fun j=>(first N ws goal).a i j*(fun k=>ext (first N ws goal) N x k+t*E.dir s k) ((first N ws goal).free j)) (g:=fun j=>(first N ws goal).a i j*(fun k=>ext (first N ws goal) N x k+t*E.dir s k) j) fun j hj=>by rw[h.free]]at b1;have a1:=hn (N+i) (by omega);have a2:=yO ht (hd (N+i));dsimp only at b1⊢;grind
  ·have c1:=hc _ e1;have c2:=hc _ hy;rw[jld hw hg]at c1 c2;rw[jjf,jns hE hs]at c1;have e3:tsum goal (ext (first N ws goal) N x)=tsum goal x:=jj6 fun t ht=>jnr (hg.mem t ht).2.1;rw[e3]at c2;grind
 by_cases hlt:tsum goal x<c
 ·exact⟨x,hx,hlt⟩
 ·have hgi:E.g s*(E.g s)⁻¹=1:=vy _ (by grind);have hi:0<=(E.g s)⁻¹:=Rat.le_of_lt (Rat.inv_pos.2 h1);have ht:0<=(tsum goal x-c+1)*(E.g s)⁻¹:=yO (by grind) hi;obtain⟨k1,k2⟩:=key _ ht;refine⟨_,k1,?_⟩;rw[k2];have:(tsum goal x-c+1)*(E.g s)⁻¹*E.g s=tsum goal x-c+1:=by
   rw[Rat.mul_assoc,Rat.mul_comm _ (E.g s),hgi];grind
  rw[this];grind
theorem final_nil(hw:∀w∈ws,w.Ok N)(hE:E.Ok)(hq:Eqv (first N ws []) E){s:Nat}(hs:s<E.n):E.g s=0:=by
 obtain⟨c,hc⟩:=hq.lin;have e1:=hc _ ((hq.sat _).2 (jgz hE));have e2:=hc _ ((hq.sat _).2 (jjh hE hs (jgz hE) 1));have hr:RT [] 0 N:=trivial;rw[jld hw hr]at e1 e2;rw[jjf,jns hE hs]at e2;simp only[tsum]at e1 e2;grind
end
end
section
theorem Ov_neg{B q:Nat}{x:Rat}(h:Ov B q x):Ov B q (-x):=by
 obtain⟨z,h1,h2⟩:=h;exact⟨-z,by rw[Rat.intCast_neg,<-h1];grind,by rw[qW];exact h2⟩
structure OvRw(B q:Nat)(w:Rw):Prop where
 val:Ov B q w.val
 ts:∀t∈w.ts,Ov B q t.2
theorem Ov_cf{B q:Nat}:∀{ts:List (Nat×Rat)},(∀t∈ts,Ov B q t.2)->∀k,Ov B q (cf ts k)
 | [],_,k=>Ov_zero
 | t::ts,h,k=>by
  rw[cf];split
  ·exact h t (qz ..)
  ·exact Ov_cf (fun u hu=>h u (qq _ hu)) k
def OvD(B q:Nat)(D:Dic):Prop:=∀i,i<D.m->Ov B q (D.v i)/\∀j,Ov B q (D.a i j)
theorem OvD.put{B q:Nat}{D:Dic}(h:OvD B q D){w:Rw}(hw:OvRw B q w)(t:Bool):OvD B q (D.put w t):=fun i hi=>by
 by_cases e:i=D.m
 ·have e1:(D.put w t).a i=fun j=>if t=true then-cf w.ts j else cf w.ts j:=zm e
  have e2:(D.put w t).v i=if t=true then-w.val else w.val:=zm e
  rw[e1,e2];cases t
  ·exact⟨hw.val,fun j=>Ov_cf hw.ts j⟩
  ·exact⟨Ov_neg hw.val,fun j=>Ov_neg (Ov_cf hw.ts j)⟩
 ·have e1:(D.put w t).a i=D.a i:=zr e;have e2:(D.put w t).v i=D.v i:=zr e;rw[e1,e2];exact h i (by have:i<D.m+1:=hi;omega)
theorem OvD.rowD{B q:Nat}{p:Dic×(Nat->Int×Bool)}(h:OvD B q p.1){w:Rw}(hw:OvRw B q w)(row:Nat):OvD B q (rowD p row w).1:=by
 unfold Go.LP.rowD;dsimp only;by_cases h0:w.kind≠0
 ·rw[zm h0];by_cases h1:w.kind≠1
  ·rw[zm h1];exact(h.put hw false).put hw true
  ·rw[zr h1];exact h.put hw false
 ·rw[zr h0];by_cases h1:w.kind≠1
  ·rw[zm h1];exact h.put hw true
  ·rw[zr h1];exact h
theorem OvD.rows{B q:Nat}{N:Nat}{ws:List Rw}(hw:∀w∈ws,OvRw B q w):∀i,OvD B q (rowsD ws (dic0 N,src0) i).1
 | 0=>fun i hi=>absurd hi (y9 _)
 | i+1=>by
  rw[rowsD];split
  ·rename_i w hg;exact(OvD.rows hw i).rowD (hw w (zE hg)) i
  ·exact OvD.rows hw i
theorem small_first{B q N:Nat}{ws:List Rw}{goal:List (Nat×Rat)}(q0:0<q)(hq:q<=B)(hw:∀w∈ws,OvRw B q w)(hg:∀t∈goal,Ov B q t.2):Small B q (first N ws goal) where
 q0:=q0
 qB:=hq
 v i hi:=(OvD.rows hw ws.length i hi).1
 g j _:=Ov_neg (Ov_cf hg j)
 a i j hi _:=(OvD.rows hw ws.length i hi).2 j
structure Src(p:Dic×(Nat->Int×Bool))(R:Nat):Prop where
 row:∀i,i<p.1.m->0<=(p.2 i).1/\(p.2 i).1<(R:Int)
theorem Src.put{p:Dic×(Nat->Int×Bool)}{R:Nat}(h:Src p R)(w:Rw)(row:Nat)(t:Bool)(hr:row<R):Src (p.1.put w t,jdy p.1 p.2 row t) R where
 row i hi:=by
  dsimp only[jdy];by_cases e:i=p.1.m
  ·rw[zm e];dsimp only;omega
  ·rw[zr e];exact h.row i (by have:i<p.1.m+1:=hi;omega)
theorem Src.mono{p:Dic×(Nat->Int×Bool)}{R R':Nat}(h:Src p R)(hR:R<=R'):Src p R':=⟨fun i hi=>by have:=h.row i hi;omega⟩
theorem Src.rowD{p:Dic×(Nat->Int×Bool)}{R:Nat}(h:Src p R)(w:Rw)(row:Nat)(hr:row<R):Src (rowD p row w) R:=by
 unfold Go.LP.rowD;dsimp only;by_cases h0:w.kind≠0
 ·rw[zm h0];by_cases h1:w.kind≠1
  ·rw[zm h1];exact(h.put w row false hr).put w row true hr
  ·rw[zr h1];exact h.put w row false hr
 ·rw[zr h0];by_cases h1:w.kind≠1
  ·rw[zm h1];exact h.put w row true hr
  ·rw[zr h1];exact h
theorem Src.rows{N:Nat}{ws:List Rw}:∀i,Src (rowsD ws (dic0 N,src0) i) i
 | 0=>⟨fun i hi=>absurd hi (y9 _)⟩
 | i+1=>by
  rw[rowsD];split
  ·exact((Src.rows i).mono (by omega)).rowD _ i (by omega)
  ·exact(Src.rows i).mono (by omega)
theorem m_row(p:Dic×(Nat->Int×Bool))(row:Nat)(w:Rw):(rowD p row w).1.m<=p.1.m+2:=by
 unfold rowD;dsimp only;by_cases h0:w.kind≠0
 ·rw[zm h0];by_cases h1:w.kind≠1
  ·rw[zm h1];exact zn _
  ·rw[zr h1];exact Nat.le_succ _
 ·rw[zr h0];by_cases h1:w.kind≠1
  ·rw[zm h1];exact Nat.le_succ _
  ·rw[zr h1];exact Nat.le_add_right _ _
theorem m_rows{ws:List Rw}{p:Dic×(Nat->Int×Bool)}:∀i,(rowsD ws p i).1.m<=p.1.m+2*i
 | 0=>zn _
 | i+1=>by
  have ih:=m_rows (ws:=ws) (p:=p) i;rw[rowsD];split
  ·have:=m_row (rowsD ws p i) i;exact qh (this _) (by omega)
  ·omega
section
variable{N:Nat}{ws ws':List Rw}{g:List (Nat×Rat)}{v u:Rat}
structure IsMin(N:Nat)(ws:List Rw)(g:List (Nat×Rat))(v:Rat):Prop where
 at':∃x,Sol N ws x/\tsum g x=v
 le:∀x,Sol N ws x->v<=tsum g x
def NoMin(N:Nat)(ws:List Rw)(g:List (Nat×Rat)):Prop:=(∃x,Sol N ws x)/\∀c:Rat,∃x,Sol N ws x/\tsum g x<c
theorem Sol.sub{x:Nat->Rat}(h:Sol N ws' x)(hs:∀w∈ws,w∈ws'):Sol N ws x:=⟨h.pos,fun w hw=>h.row w (hs w hw)⟩
theorem tsum_nonneg:∀{ts:List (Nat×Rat)} {lo N:Nat} {x:Nat->Rat},RT ts lo N->(∀t∈ts,0<=t.2)->(∀k,k<N->0<=x k)->0<=tsum ts x
 | [],_,_,_,_,_,_=>by simp only[tsum];grind
 | t::ts,lo,N,x,h,hc,hx=>by
  rw[tsum];have h1:=yO (hc t (qz ..)) (hx t.1 h.2.1);have h2:=tsum_nonneg h.2.2.2 (fun u hu=>hc u (qq _ hu)) hx;grind
end
end
end Go.LP
namespace Go.Proofs.YtdhlmmoicchgpaaGreat
section
open Go.Abs
open Go.LP (Rw RT Ov OvRw tsum)
def sgnF(fr:Int)(y:Move):Int:=if y.fr=fr then-1 else if y.to=fr then 1 else 0
def jam(M:Nat)(fr:Int)(mat:Nat)(ms:List Move):Nat->List (Nat×Rat)
 | 0=>[]
 | i+1=>match ms[i]? with
  | some y=>if sgnF fr y=0 then jam M fr mat ms i else jam M fr mat ms i++[(i*M+mat,((sgnF fr y:Int):Rat))]
  | none=>jam M fr mat ms i
def coF(b own more:Int)(k:Nat):Int:=if(k:Int)=own then b+more else b
def sumT(M mv:Nat)(b own more:Int):Nat->List (Nat×Rat)
 | 0=>[]
 | k+1=>if coF b own more k=0 then sumT M mv b own more k else sumT M mv b own more k++[(mv*M+k,((coF b own more k:Int):Rat))]
def jdx(M:Nat)(ms:List Move)(mv:Nat)(x:Move):Nat->List Rw
 | 0=>[]
 | mat+1=>jdx M ms mv x mat++[⟨jam M x.fr mat ms (mv+1),if x.all=true then 2 else 0,0⟩]
def jdn(e:Evid)(M mv:Nat)(x:Move):List Rw:=
 if x.scale= -1 then []else match ivlF e.certs e.recalls x.scale x.reading x.day with
  | some (lo,hi)=>[⟨sumT M mv 1 (-1) 0 M,0,lo⟩,⟨sumT M mv 1 (-1) 0 M,1,hi⟩]
  | none=>[]
def pur1(M mv:Nat)(p:Purity):List Rw:=if p.move=(mv:Int)then [⟨sumT M mv (-p.least) p.mat 1000 M,0,0⟩,⟨sumT M mv p.most p.mat (-1000) M,0,0⟩]else []
def purR(M mv:Nat)(ps:List Purity):List Rw:=ps.flatMap (pur1 M mv)
def binF(e:Evid)(x:Move):Bool:=(e.places[x.fr.toNat]?).elim false fun p=>decide (p.kind=0)
def moveR(e:Evid)(M mv:Nat)(x:Move):List Rw:=(if binF e x=true then []else jdx M e.moves mv x M)++jdn e M mv x++purR M mv e.purs
def rowsU(e:Evid)(M:Nat):Nat->List Rw
 | 0=>[]
 | i+1=>match e.moves[i]? with
  | some x=>rowsU e M i++moveR e M i x
  | none=>rowsU e M i
def rowsE(e:Evid):List Rw:=rowsU e e.mats.toNat e.moves.length
theorem mem_rowsU{e:Evid}{M:Nat}{w:Rw}:∀{i:Nat},w∈rowsU e M i↔∃k x,k<i/\e.moves[k]? =some x/\w∈moveR e M k x
 | 0=>by simp[rowsU]
 | i+1=>by
  rw[rowsU];cases hg:e.moves[i]? with
  | none=>
   rw[mem_rowsU];constructor
   ·rintro⟨k,x,h1,h2⟩;exact⟨k,x,by omega,h2⟩
   ·rintro⟨k,x,h1,h2,h3⟩;refine⟨k,x,?_,h2,h3⟩;have:k≠i:=fun e=>by subst e;rw[hg]at h2;cases h2
    omega
  | some y=>
   simp only[qp,mem_rowsU];constructor
   ·rintro(⟨k,x,h1,h2⟩ | h)
    ·exact⟨k,x,by omega,h2⟩
    ·exact⟨i,y,by omega,hg,h⟩
   ·rintro⟨k,x,h1,h2,h3⟩;by_cases e1:k=i
    ·subst e1;rw[hg]at h2;cases h2;exact .inr h3
    ·exact .inl ⟨k,x,by omega,h2,h3⟩
theorem mem_stockR{M:Nat}{ms:List Move}{mv:Nat}{x:Move}{w:Rw}:∀{k:Nat},w∈jdx M ms mv x k↔∃mat,mat<k/\w=⟨jam M x.fr mat ms (mv+1),if x.all=true then 2 else 0,0⟩
 | 0=>by simp[jdx]
 | k+1=>by
  rw[jdx];simp only[qp,mem_stockR,zp];constructor
  ·rintro(⟨mat,h1,h2⟩ | h)
   ·exact⟨mat,by omega,h2⟩
   ·exact⟨k,by omega,h⟩
  ·rintro⟨mat,h1,h2⟩;by_cases e1:mat=k
   ·subst e1;exact .inr h2
   ·exact .inl ⟨mat,by omega,h2⟩
theorem RT_up:∀{ts:List (Nat×Rat)} {lo N N':Nat},RT ts lo N->N<=N'->RT ts lo N'
 | [],_,_,_,_,_=>trivial
 | t::ts,lo,N,N',h,hN=>⟨h.1,by have:=h.2.1;omega,h.2.2.1,RT_up h.2.2.2 hN⟩
theorem jqc{t:Nat×Rat}{N:Nat}:∀{ts:List (Nat×Rat)} {lo k:Nat},RT ts lo k->lo<=t.1->k<=t.1->t.1<N->t.2≠0->RT (ts++[t]) lo N
 | [],_,_,_,h1,_,h3,h4=>⟨h1,h3,h4,trivial⟩
 | u::ts,lo,k,h,h1,h2,h3,h4=>⟨h.1,by have:=h.2.1;omega,h.2.2.1,jqc h.2.2.2 (by have:=h.2.1;omega) h2 h3 h4⟩
theorem cast_ne{z:Int}(h:z≠0):(z:Rat)≠0:=fun e=>h (Rat.intCast_eq_zero_iff.1 e)
theorem jsh{M:Nat}{fr:Int}{mat:Nat}{ms:List Move}(hm:mat<M):∀i,RT (jam M fr mat ms i) 0 (i*M)
 | 0=>trivial
 | i+1=>by
  have ih:=jsh (fr:=fr) (ms:=ms) hm i;have e1:(i+1)*M=i*M+M:=jm i M;rw[jam];split
  ·split
   ·exact RT_up ih (by omega)
   ·rename_i h;refine jqc ih (zI _) ?_ ?_ (cast_ne h)
    ·show i*M<=i*M+mat;omega
    ·show i*M+mat<(i+1)*M;omega
  ·exact RT_up ih (by omega)
theorem RT_sum{M mv:Nat}{b own more:Int}:∀k,RT (sumT M mv b own more k) (mv*M) (mv*M+k)
 | 0=>trivial
 | k+1=>by
  have ih:=RT_sum (M:=M) (mv:=mv) (b:=b) (own:=own) (more:=more) k;rw[sumT];split
  ·exact RT_up ih (by omega)
  ·rename_i h;refine jqc ih ?_ ?_ ?_ (cast_ne h)
   ·show mv*M<=mv*M+k;omega
   ·show mv*M+k<=mv*M+k;omega
   ·show mv*M+k<mv*M+(k+1);omega
theorem jo1{M mv n:Nat}{b own more:Int}(h:mv<n):RT (sumT M mv b own more M) 0 (n*M):=by
 have h1:=RT.mono (RT_sum (M:=M) (mv:=mv) (b:=b) (own:=own) (more:=more) M) (zI _);refine RT_up h1 ?_;have:(mv+1)*M<=n*M:=zZ M h;rw[jm]at this;exact this
theorem rows_ok{e:Evid}(w:Rw)(hw:w∈rowsE e):w.Ok (e.moves.length*e.mats.toNat):=by
 obtain⟨k,x,hk,hx,hw⟩:=mem_rowsU.1 hw;unfold moveR at hw;simp only[qp]at hw;have hN:(k+1)*e.mats.toNat<=e.moves.length*e.mats.toNat:=zZ _ hk;rcases hw with (hw | hw) | hw
 ·split at hw
  ·cases hw
  ·obtain⟨mat,h1,rfl⟩:=mem_stockR.1 hw;refine⟨RT_up (jsh h1 (k+1)) hN,?_⟩;dsimp only;split<;>omega
 ·unfold jdn at hw;split at hw
  ·cases hw
  ·split at hw
   ·rcases zN.1 hw with rfl | hw
    ·exact⟨jo1 hk,by dsimp only;omega⟩
    ·rcases zN.1 hw with rfl | hw
     ·exact⟨jo1 hk,by dsimp only;omega⟩
     ·cases hw
   ·cases hw
 ·unfold purR at hw;obtain⟨p,_,hw⟩:=j2.1 hw;unfold pur1 at hw;split at hw
  ·rcases zN.1 hw with rfl | hw
   ·exact⟨jo1 hk,by dsimp only;omega⟩
   ·rcases zN.1 hw with rfl | hw
    ·exact⟨jo1 hk,by dsimp only;omega⟩
    ·cases hw
  ·cases hw
end
section
open Go.Abs
open Go.LP (Rw RT tsum)
attribute [local go_sem] ints ic big frac fc
def tmC(t:Nat×Rat):List IV:= .int (t.1:Int)::fc t.2
attribute [local go_sem] tmC
def rwC(w:Rw):List IV:=[.sl (w.ts.map tmC),.int w.kind]++fc w.val
attribute [local go_sem] rwC
theorem tget{ts:List (Nat×Rat)}{i:Nat}{t:Nat×Rat}(h:ts[i]? =some t):(ts.map tmC)[i]? =some (.int (t.1:Int)::fc t.2):=by rw[za,h];rfl
def lastF(ts:List (Nat×Rat)):Nat->Int
 | 0=> -1
 | i+1=>match ts[i]? with
  | some t=>(t.1:Int)
  | none=> -1
theorem jmg{ts:List (Nat×Rat)}{i:Nat}{t:Nat×Rat}(h:ts[i]? =some t):lastF ts (i+1)=(t.1:Int):=by rw[lastF,h]
theorem RT_at{ts:List (Nat×Rat)}{N:Nat}(h:RT ts 0 N):∀{i:Nat},i<=ts.length->∃lo:Nat,RT (ts.drop i) lo N/\lastF ts i<lo
 | 0,_=>⟨0,h,by show(-1:Int)<0;omega⟩
 | i+1,hi=>by
  obtain⟨lo,h1,h2⟩:=RT_at h (i:=i) (by omega);have hg:ts[i]? =some ts[i]:=zk (by omega);rw[ye (by omega)]at h1;refine⟨ts[i].1+1,h1.2.2.2,?_⟩;rw[jmg hg];omega
theorem jpr{ts:List (Nat×Rat)}{N:Nat}(h:RT ts 0 N){i:Nat}{t:Nat×Rat}(ht:ts[i]? =some t):lastF ts i<t.1/\t.1<N/\t.2≠0:=by
 obtain⟨hi,rfl⟩:=zt.1 ht;obtain⟨lo,h1,h2⟩:=RT_at h (Nat.le_of_lt hi);rw[ye hi]at h1;have:=h1.1;exact⟨by omega,h1.2.1,h1.2.2.1⟩
def tsumU(ts:List (Nat×Rat))(x:Nat->Rat):Nat->Rat
 | 0=>((0:Int):Rat)
 | i+1=>match ts[i]? with
  | some t=>tsumU ts x i+t.2*x t.1
  | none=>tsumU ts x i
theorem jm1{ts:List (Nat×Rat)}{x:Nat->Rat}{i:Nat}{t:Nat×Rat}(h:ts[i]? =some t):tsumU ts x (i+1)=tsumU ts x i+t.2*x t.1:=by rw[tsumU,h]
theorem jm0(x:Nat->Rat)(ts:List (Nat×Rat)):∀i,i<=ts.length->tsumU ts x i=tsum (ts.take i) x
 | 0,_=>by rw[List.take_zero];rfl
 | i+1,hi=>by
  have hg:ts[i]? =some ts[i]:=zk (by omega);rw[jm1 hg,jm0 x ts i (by omega),qN,hg];rw[show(some ts[i]).toList=[ts[i]]from rfl,LP.tsum_app,tsum,tsum];grind
theorem jod(x:Nat->Rat)(ts:List (Nat×Rat)):tsumU ts x ts.length=tsum ts x:=by rw[jm0 x ts _ (zn _),qL]
theorem jo4{ts:List (Nat×Rat)}{x:Nat->Rat}{a b:Nat}(ht:∀t∈ts,FL a t.2)(hx:∀t∈ts,FL b (x t.1)):∀i,FL (4+i*(a+b+1)) (tsumU ts x i)
 | 0=>(jcy (n:=0) (by omega)).mono (by omega)
 | i+1=>by
  have ih:=jo4 ht hx i;rw[tsumU];split
  ·rename_i t hg;have hm:=zE hg;refine(jpt ih (FL_mul (ht t hm) (hx t hm))).mono ?_;rw[jm];omega
  ·exact ih.mono (by rw[jm];omega)
theorem x_rt(ts:List (Nat×Rat))(N:Nat)(h:RT ts 0 N)(hl:ts.length<=100000)(hN:N<=100000)(hf:∀t∈ts,FL 100000000 t.2):
  Ctr G.P 89 [.sl (ts.map tmC),.int N] (· = .bool true):=by
 have hN0:decide ((N:Int)<0)=false:=zw (by omega);refine ja5 [.tmp 4] Tryz.func89 ?_;simp only[hN0,go_sem];refine jaw [1,5,10,11,12] [] (fun i:Nat=>⟨[(1,.im (.int N)),(5,.im (.int (lastF ts i))),(10,.im (.sl (ts.map tmC))),(11,.im (.int ts.length)),(12,.im (.int i))],[],[]⟩)
  (fun i=>i<=ts.length) (fun i=>ts.length-i) 0 ?_ (zI _) ?_
 ·simp only[lastF,Int.natCast_zero,go_sem]
 ·intro i hi;by_cases hp:(i:Int)<ts.length
  ·have hd:decide ((i:Int)<ts.length)=true:=ze hp;obtain⟨t,ht⟩:=jby hp;have h1:=jaa (n:=(i:Int)+1) (by omega);obtain⟨g1,g2,g3⟩:=jpr h ht;have d1:decide ((t.1:Int)<=lastF ts i)=false:=zw (by omega);have d2:decide ((N:Int)<=t.1)=false:=zw (by omega);have hs:=f_sign ((hf t (zE ht)).mono (by omega:100000000<=19000000000));have hq:decide (t.2.num.sign=0)=false:=zw (fun e=>g3 (sign_zero.1 e));have hg:=tget ht;simp only[frac,ints,fc]at hs hg;simp only[hd,hg,d1,d2,go_sem];refine ja2 hs ?_;simp only[hd,hg,d1,d2,hq,go_sem];refine jai (i+1) ?_ (by omega) (by omega);rw[jmg ht];simp only[h1,Int.natCast_add,go_sem]
  ·have hd:decide ((i:Int)<ts.length)=false:=zw hp;simp only[hd,go_sem]
theorem x_right(ws:List Rw)(N:Nat)(h:∀w∈ws,w.Ok N)(hl:ws.length<=6000)(hN:N<=1500)(ht:∀w∈ws,w.ts.length<=100000/\FL 100000000 w.val/\∀t∈w.ts,FL 100000000 t.2):
  Ctr G.P 88 [.agg [.int N,.sl (ws.map rwC)]] (· = .bool true):=by
 have hN0:decide ((N:Int)<0)=false:=zw (by omega);have hN1:decide ((1500:Int)<N)=false:=zw (by omega);have hl1:decide ((6000:Int)<ws.length)=false:=zw (by omega);refine ja5 [.tmp 2] Tryz.func88 ?_;simp only[hN0,hN1,hl1,zq,go_sem];refine jaw [1,20,21,22] [1] (fun i:Nat=>⟨[(1,.loc 1 2 0 0),(20,.im (.sl (ws.map rwC))),(21,.im (.int ws.length)),(22,.im (.int i))],[(1,2,[[.int N,.sl (ws.map rwC)]])],[]⟩)
  (fun i=>i<=ws.length) (fun i=>ws.length-i) 0 ?_ (zI _) ?_
 ·simp only[Int.natCast_zero,go_sem]
 ·intro i hi;by_cases hp:(i:Int)<ws.length
  ·have hd:decide ((i:Int)<ws.length)=true:=ze hp;obtain⟨w,hw⟩:=jby hp;have hm:=zE hw;have h1:=jaa (n:=(i:Int)+1) (by omega);obtain⟨k1,k2,k3⟩:=h w hm;obtain⟨l1,l2,l3⟩:=ht w hm;have c1:=x_rt w.ts N k1 l1 (by omega) l3;have c2:=f_right (l2.mono (by omega:100000000<=19000000000));have d1:decide (w.kind<0)=false:=zw (by omega);have d2:decide (3<=w.kind)=false:=zw (by omega);have hg:(ws.map rwC)[i]? =some (rwC w):=by rw[za,hw];rfl
   simp only[rwC,fc,List.cons_append,List.nil_append]at hg;simp only[frac,ints]at c2;simp only[hd,hg,go_sem];refine ja2 c1 ?_;simp only[hd,hg,d1,d2,go_sem];refine ja2 c2 ?_;simp only[hd,hg,d1,d2,go_sem];refine jai (i+1) ?_ (by omega) (by omega);simp only[h1,Int.natCast_add,go_sem]
  ·have hd:decide ((i:Int)<ws.length)=false:=zw hp;simp only[hd,go_sem]
end
section
open Go.Abs
open Go.LP (Dic)
attribute [local go_sem] ints ic big frac fc
def jbu(vars:Nat->Nat)(ch:Nat->Bool):Nat->Int
 | 0=> -1
 | k+1=>if(ch k&&(decide (jbu vars ch k<0) || decide (vars k<vars (jbu vars ch k).toNat)))=true then(k:Int)else jbu vars ch k
theorem jdq(vars:Nat->Nat)(ch:Nat->Bool):∀k,-1<=jbu vars ch k/\jbu vars ch k<k
 | 0=>by simp[jbu]
 | k+1=>by
  have:=jdq vars ch k;rw[jbu];split<;>omega
theorem jd8{vars:Nat->Nat}{ch:Nat->Bool}:∀{k},jbu vars ch k<0->∀i,i<k->ch i=false
 | k+1,h,i,hi=>by
  rw[jbu]at h;split at h
  ·omega
  ·rename_i hc;rcases vv (vc hi)with h1 | h1
   ·exact jd8 h i h1
   ·subst h1;rw[ze h,Bool.true_or,je]at hc
    simpa using hc
theorem jdk{vars:Nat->Nat}{ch:Nat->Bool}:∀{k},0<=jbu vars ch k->ch (jbu vars ch k).toNat=true/\∀i,i<k->ch i=true->vars (jbu vars ch k).toNat<=vars i
 | 0,h=>by simp[jbu]at h
 | k+1,h=>by
  have hl:=jdq vars ch k;rw[jbu]at h⊢;split at h
  ·rename_i hc;rw[zm hc,Int.toNat_natCast];rw[zC,qK,zO,zO]at hc;refine⟨hc.1,fun i hi hch=> ?_⟩;rcases vv (vc hi)with h1 | h1
   ·rcases hc.2 with h2 | h2
    ·rw[jd8 h2 i h1]at hch;cases hch
    ·by_cases h0:0<=jbu vars ch k
     ·have:=(jdk h0).2 i h1 hch;omega
     ·rw[jd8 (vars:=vars) (ch:=ch) (k:=k) (by omega) i h1]at hch;cases hch
   ·subst h1;exact zn _
  ·rename_i hc;rw[zr hc];obtain⟨h1,h2⟩:=jdk h;refine⟨h1,fun i hi hch=> ?_⟩;rcases vv (vc hi)with h3 | h3
   ·exact h2 i h3 hch
   ·subst h3;rw[hch,qg,qK,zO,zO]at hc;omega
theorem caps_toH(caps:List IV):(caps.map AV.im).map AV.toH=caps.map AV.im:=by simp[AV.toH,Function.comp_def]
theorem jg9(L:Abs.Rows)(O m:Nat)(vars:Nat->Nat)(ch:Nat->Bool)(g:Nat)(caps:List IV)(hg:3<=g/\g<G.fns)(hL:blks L)(hO:m≠0->Abs.look L (hp O)=some (1,tab m fun i=>oc (vars i)))(hm:m<=100000)(hv:∀i,i<m->vars i<=1000000)
  (hc:∀i,i<m->CtrH G.P g (.im (.int (i:Int))::caps.map .im) L (fun r L'=>r= .im (.bool (ch i))/\L'=L)):
  CtrH G.P 123 [.im (sl0 O 3 1 m),.im (.clo g caps)] L (fun r L'=>r= .im (.int (jbu vars ch m))/\L'=L):=by
 have F1:=bF hL;have K1:=bK hL;have G1:=bN hL;rcases yG m with h0 | h0
 ·subst h0;rw[jb7];refine jag [] [] [.tmp 4] Tryz.func123 ?_;simp only[F1,K1,go_sem];refine jb1 [5,10,9] (fun g:Unit=>⟨[(5,.im (.int (-1))),(10,.im (.int 0)),(9,.im (.int 0))],L,[]⟩) (fun _=>True) (fun _=>0) () ?_ ?_ rfl trivial ?_
  ·simp only[go_sem]
  ·exact SubR.of_eq rfl
  ·intro _ _;simp only[go_sem];refine jao L hL (SubR.of_eq rfl) ?_;simp only[jbu,go_sem]
 ·rw[jab (by omega)];have hO:=hO (by omega);refine jag [] [] [.tmp 4] Tryz.func123 ?_;simp only[F1,K1,go_sem];refine jb1 [0,1,5,8,9,10] (fun k:Nat=>⟨[(0,.im (.ref O 3 1 m)),(1,.im (.clo g caps)),(5,.im (.int (jbu vars ch k))),(8,.im (.ref O 3 1 m)),(9,.im (.int m)),(10,.im (.int k))],L,[]⟩)
   (fun k=>k<=m) (fun k=>m-k) 0 ?_ ?_ rfl (zI _) ?_
  ·simp only[Int.natCast_zero,jbu,go_sem]
  ·exact SubR.of_eq rfl
  ·intro k hk;by_cases hlt:k<m
   ·have hd:decide ((k:Int)<m)=true:=ze (by omega);have hkm:(k:Int)<m:=by omega
    have h1:=jaa (n:=(k:Int)+1) (by omega);have hlf:=jdq vars ch k;have hgk:=oget (o:=vars) hlt;have hck:=hc k hlt;have hls:jbu vars ch (k+1)=if(ch k&&(decide (jbu vars ch k<0) || decide (vars k<vars (jbu vars ch k).toNat)))=true then(k:Int)else jbu vars ch k:=rfl
    generalize hr0:jbu vars ch k=r0 at*;have hgr:0<=r0->(tab m fun i=>oc (vars i))[r0.toNat]? =some [.int (vars r0.toNat:Int)]:=fun h=>oget (by omega);have hv1:=hv k hlt;generalize ch k=c at*;have hw: -9223372036854775808<=(k:Int)+1:=by omega
    simp only[hd,hO,hgk,hkm,jae,Int.toNat_natCast,F1,K1,G1,go_sem];refine jbn hck hg (by rw[qD,caps_toH];rfl) hL (SubR.of_eq rfl) ?_;rintro r L' ⟨rfl,rfl⟩ hfr;refine⟨L',jap,?_⟩;cases c
    ·rw[qm,zr qo]at hls;simp only[hd,hO,hgk,hkm,jae,Int.toNat_natCast,F1,K1,G1,go_sem];refine ja8 (k+1) ?_ (SubR.of_eq rfl) rfl (by omega) hlt;simp only[h1,hls,Int.natCast_add,go_sem]
    ·rw[qg]at hls;by_cases hneg:r0<0
     ·have hd1:decide (r0<0)=true:=ze hneg;rw[hd1,Bool.true_or,zm rfl]at hls;simp only[hd,hd1,hO,hgk,hkm,jae,Int.toNat_natCast,F1,K1,G1,go_sem];refine ja8 (k+1) ?_ (SubR.of_eq rfl) rfl (by omega) hlt;simp only[h1,hls,Int.natCast_add,go_sem]
     ·have hd1:decide (r0<0)=false:=zw hneg;have hgr:=hgr (by omega);have hr1:0<=r0:=by omega
      have hr2:r0<m:=by omega
      rw[hd1,yk]at hls;by_cases hlt2:vars k<vars r0.toNat
      ·have hd2:decide ((vars k:Int)<vars r0.toNat)=true:=ze (by omega);rw[ze hlt2,zm rfl]at hls;simp only[hd,hd1,hd2,hO,hgk,hgr,hr1,hr2,hkm,jae,Int.toNat_natCast,F1,K1,G1,go_sem];refine ja8 (k+1) ?_ (SubR.of_eq rfl) rfl (by omega) hlt;simp only[h1,hls,Int.natCast_add,go_sem]
      ·have hd2:decide ((vars k:Int)<vars r0.toNat)=false:=zw (by omega);rw[zw hlt2,zr qo]at hls;simp only[hd,hd1,hd2,hO,hgk,hgr,hr1,hr2,hkm,jae,Int.toNat_natCast,F1,K1,G1,go_sem];refine ja8 (k+1) ?_ (SubR.of_eq rfl) rfl (by omega) hlt;simp only[h1,hls,Int.natCast_add,go_sem]
   ·have hd:decide ((k:Int)<m)=false:=zw (by omega);have hkm:k=m:=by omega
    subst hkm;simp only[hd,go_sem];refine jao L hL (SubR.of_eq rfl) ?_;simp only[go_sem]
end
section
open Go.Abs
open Go.LP (Dic)
attribute [local go_sem] ints ic big frac fc
section
variable{L:Abs.Rows}{nm:DN}{N:Nat}{D:Dic}{src:Nat->Int×Bool}
theorem x_c1(h:HasD L nm N D src){i:Nat}(hi:i<D.m):
  CtrH G.P 124 [.im (.int i),.im (.ip [.pr nm.d 6 0 0] 0)] L (fun r L'=>r= .im (.bool (decide (D.v i<0)))/\L'=L):=by
 have hb:=h.blk;have F1:=bF hb;have G1:=bN hb;have h1:=h.hd;have h2:=h.hr (by omega);have hm0:D.m≠0:=by omega
 have hi':(i:Int)<D.m:=by omega
 have hg:=lget (v:=D.v) (A:=nm.a) (n:=D.n) hi;have e:decide (D.v i<0)=decide ((D.v i).num.sign<0):=yz.2 sign_neg.symm;rw[e];refine jag [] [] [.tmp 3] Tryz.func124 ?_;simp only[h1,h2,hg,hi',jab hm0,jae,Int.toNat_natCast,F1,G1,go_sem];refine jao L hb (SubR.of_eq rfl) ?_;simp only[go_sem]
theorem x_c2(h:HasD L nm N D src){j:Nat}(hj:j<D.n):
  CtrH G.P 125 [.im (.int j),.im (.ip [.pr nm.d 6 0 0] 0)] L (fun r L'=>r= .im (.bool (decide (0<D.g j)))/\L'=L):=by
 have hb:=h.blk;have F1:=bF hb;have G1:=bN hb;have h1:=h.hd;have h2:=h.hg;have hj':(j:Int)<D.n:=by omega
 have hg:=qget (f:=D.g) hj;have e:decide (0<D.g j)=decide (0<(D.g j).num.sign):=yz.2 sign_pos.symm;rw[e];refine jag [] [] [.tmp 3] Tryz.func125 ?_;simp only[h1,h2,hg,hj',jae,Int.toNat_natCast,F1,G1,go_sem];refine jao L hb (SubR.of_eq rfl) ?_;simp only[go_sem]
theorem x_c3(h:HasD L nm N D src){r:Nat}(hr:r<D.m){j:Nat}(hj:j<D.n):
  CtrH G.P 126 [.im (.int j),.im (.ip [.pr nm.d 6 0 0] 0),.im (.ip [.int (r:Int)] 0)] L (fun x L'=>x= .im (.bool (decide (D.a r j<0)))/\L'=L):=by
 have hb:=h.blk;have F1:=bF hb;have G1:=bN hb;have h1:=h.hd;have h2:=h.hr (by omega);have h3:=h.ha r hr;have hm0:D.m≠0:=by omega
 have hr':(r:Int)<D.m:=by omega
 have hj':(j:Int)<D.n:=by omega
 have hg:=lget (v:=D.v) (A:=nm.a) (n:=D.n) hr;have hg2:=qget (f:=D.a r) hj;have e:decide (D.a r j<0)=decide ((D.a r j).num.sign<0):=yz.2 sign_neg.symm;rw[e];refine jag [] [] [.tmp 4] Tryz.func126 ?_;simp only[F1,go_sem];refine jaf 15 ?_;simp only[h1,h2,h3,hg,hg2,hr',hj',jab hm0,jae,Int.toNat_natCast,F1,G1,go_sem];refine jao L hb (SubR.of_eq rfl) ?_;simp only[go_sem]
theorem x_c4(h:HasD L nm N D src){s:Nat}(hs:s<D.n){i:Nat}(hi:i<D.m):
  CtrH G.P 127 [.im (.int i),.im (.ip [.pr nm.d 6 0 0] 0),.im (.ip [.int (s:Int)] 0)] L (fun x L'=>x= .im (.bool (decide (0<D.a i s)))/\L'=L):=by
 have hb:=h.blk;have F1:=bF hb;have G1:=bN hb;have h1:=h.hd;have h2:=h.hr (by omega);have h3:=h.ha i hi;have hm0:D.m≠0:=by omega
 have hi':(i:Int)<D.m:=by omega
 have hs':(s:Int)<D.n:=by omega
 have hg:=lget (v:=D.v) (A:=nm.a) (n:=D.n) hi;have hg2:=qget (f:=D.a i) hs;have e:decide (0<D.a i s)=decide (0<(D.a i s).num.sign):=yz.2 sign_pos.symm;rw[e];refine jag [] [] [.tmp 4] Tryz.func127 ?_;simp only[F1,go_sem];refine jaf 15 ?_;simp only[h1,h2,h3,hg,hg2,hi',hs',jab hm0,jae,Int.toNat_natCast,F1,G1,go_sem];refine jao L hb (SubR.of_eq rfl) ?_;simp only[go_sem]
