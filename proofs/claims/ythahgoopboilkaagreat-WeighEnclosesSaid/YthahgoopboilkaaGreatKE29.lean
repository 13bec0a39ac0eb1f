/- A part of the proof. No further condition. -/
import Derived.Test.YthahgoopboilkaaGreatKE28
set_option linter.all false
set_option maxRecDepth 10000000
set_option maxHeartbeats 16000000
namespace Go.Proofs.YthahgoopboilkaaGreat
section
open Go.Abs
open Go.LP (Dic Rw RT S tsum cf first jb7 Eqv SameV Own Free Sol Final Mk ext rowsD rowD jcd dic0 src0 S_congr S_add S_mul jfj je1)
def SrcW(ws:List Rw)(p:Dic×(Nat->Int×Bool)):Prop:=
 ∀i,i<p.1.m->∃w,ws[(p.2 i).1.toNat]? =some w/\0<=(p.2 i).1/\(((p.2 i).2=true/\w.kind≠1/\p.1.v i= -w.val/\∀j,p.1.a i j= -cf w.ts j)\/((p.2 i).2=false/\w.kind≠0/\p.1.v i=w.val/\∀j,p.1.a i j=cf w.ts j))
theorem SrcW.put{ws:List Rw}{p:Dic×(Nat->Int×Bool)}(h:SrcW ws p)(w:Rw)(row:Nat)(t:Bool)(hr:ws[row]? =some w)(ht:if t=true then w.kind≠1 else w.kind≠0):SrcW ws (p.1.put w t,jcd p.1 p.2 row t):=fun i hi=>by
 by_cases e:i=p.1.m
 ·subst e;refine⟨w,?_,?_,?_⟩
  ·show ws[(jcd p.1 p.2 row t p.1.m).1.toNat]? =some w;unfold jcd;rw[zm rfl];exact hr
  ·show 0<=(jcd p.1 p.2 row t p.1.m).1;unfold jcd;rw[zm rfl];exact Int.natCast_nonneg _
  ·show((jcd p.1 p.2 row t p.1.m).2=true/\_)\/((jcd p.1 p.2 row t p.1.m).2=false/\_);have e1:(p.1.put w t).v p.1.m=if t=true then-w.val else w.val:=zm rfl
   have e2:(p.1.put w t).a p.1.m=fun j=>if t=true then-cf w.ts j else cf w.ts j:=zm rfl
   dsimp only;rw[e1,e2];unfold jcd;rw[zm rfl];cases t
   ·exact .inr ⟨rfl,ht,rfl,fun _=>rfl⟩
   ·exact .inl ⟨rfl,ht,rfl,fun _=>rfl⟩
 ·obtain⟨w',h1,h2,h3⟩:=h i (by have:i<p.1.m+1:=hi;omega);have e0:jcd p.1 p.2 row t i=p.2 i:=zn e;have e1:(p.1.put w t).v i=p.1.v i:=zn e;have e2:(p.1.put w t).a i=p.1.a i:=zn e;dsimp only;rw[e0,e1,e2];exact⟨w',h1,h2,h3⟩
theorem SrcW.row{ws:List Rw}{p:Dic×(Nat->Int×Bool)}(h:SrcW ws p)(w:Rw)(row:Nat)(hr:ws[row]? =some w):SrcW ws (rowD p row w):=by
 unfold rowD;dsimp only;by_cases h0:w.kind≠0
 ·rw[zm h0];by_cases h1:w.kind≠1
  ·rw[zm h1];exact(h.put w row false hr h0).put w row true hr h1
  ·rw[zn h1];exact h.put w row false hr h0
 ·rw[zn h0];by_cases h1:w.kind≠1
  ·rw[zm h1];exact h.put w row true hr h1
  ·rw[zn h1];exact h
theorem SrcW.rows{N:Nat}{ws:List Rw}:∀i,SrcW ws (rowsD ws (dic0 N,src0) i)
 | 0=>fun i hi=>absurd hi (yC _)
 | i+1=>by
  rw[rowsD];split
  ·rename_i w hw;exact(SrcW.rows i).row w i hw
  ·exact SrcW.rows i
section
variable{N:Nat}{ws:List Rw}{goal:List (Nat×Rat)}{x:Nat->Rat}
def exc(ws:List Rw)(x:Nat->Rat)(r:Nat):Rat:=match ws[r]? with
 | some w=>tsum w.ts x-w.val
 | none=>0
def mixF(ws:List Rw)(x:Nat->Rat)(y:Nat->Rat):Rat:=S ws.length fun r=>y r*exc ws x r
theorem mixF_ch{t:Bool}{y:Nat->Rat}{r:Nat}{p:Rat}(hr:r<ws.length):mixF ws x (chU t y r p)=mixF ws x y+(if t then p else-p)*exc ws x r:=by
 have h:∀j,j<ws.length->chU t y r p j*exc ws x j=y j*exc ws x j+(if j=r then(if t then p else-p)*exc ws x r else 0):=fun j _=>by
  unfold chU;by_cases e:j=r
  ·subst e;rw[zm rfl,zm rfl];grind
  ·rw[zn e,zn e];grind
 unfold mixF;rw[S_congr h,S_add];rw[Go.LP.S_one hr (fun j _ e=>zn e),zm rfl]
theorem ext_slack(hw:∀w∈ws,w.Ok N){i:Nat}(hi:i<(jb7 N ws).1.m):∃r,((jb7 N ws).2 i).1.toNat=r/\r<ws.length/\ext (jb7 N ws).1 N x (N+i)=(if((jb7 N ws).2 i).2 then exc ws x r else-exc ws x r):=by
 obtain⟨w,h1,h2,h3⟩:=SrcW.rows (N:=N) (ws:=ws) ws.length i hi;refine⟨_,rfl,(zu.1 h1).1,?_⟩;have hx:exc ws x ((jb7 N ws).2 i).1.toNat=tsum w.ts x-w.val:=by
  unfold exc;rw[show ws[((jb7 N ws).2 i).1.toNat]? =some w from h1]
 have hwk:=hw w (zk h1);unfold ext;rw[zn (by omega),show N+i-N=i by omega,hx,Go.LP.tsum_eq x hwk.ts];rcases h3 with ⟨e0,_,e1,e2⟩ | ⟨e0,_,e1,e2⟩
 ·have e0':((jb7 N ws).2 i).2=true:=e0;have e1':(jb7 N ws).1.v i= -w.val:=e1;rw[e0',e1',S_congr (f:=fun j=>(jb7 N ws).1.a i j*x j) (g:=fun j=> -cf w.ts j*x j) fun j _=>by rw[show(jb7 N ws).1.a i j=_ from e2 j],Go.LP.S_negc];simp only[qC];grind
 ·have e0':((jb7 N ws).2 i).2=false:=e0;have e1':(jb7 N ws).1.v i=w.val:=e1;rw[e0',e1',S_congr (f:=fun j=>(jb7 N ws).1.a i j*x j) (g:=fun j=>cf w.ts j*x j) fun j _=>by rw[show(jb7 N ws).1.a i j=_ from e2 j]];simp only[qS,qt];grind
theorem mixF_src(hw:∀w∈ws,w.Ok N){k:Nat}(hk:N<=k)(hi:k-N<(jb7 N ws).1.m){y:Nat->Rat}{p:Rat}:
  mixF ws x (chU ((jb7 N ws).2 (k-N)).2 y ((jb7 N ws).2 (k-N)).1.toNat p)=mixF ws x y+p*ext (jb7 N ws).1 N x k:=by
 obtain⟨r,h1,h2,h3⟩:=ext_slack (x:=x) hw hi;rw[h1,mixF_ch h2];rw[show N+(k-N)=k by omega]at h3;rw[h3];split<;>grind
theorem mixF_pr(hw:∀w∈ws,w.Ok N){E:Dic}(hf:∀j,j<E.n->N<=E.free j->E.free j-N<(jb7 N ws).1.m)(y0 pr:Nat->Rat):∀j,j<=E.n->
  mixF ws x (prU E N (jb7 N ws).2 y0 pr j)=mixF ws x y0+S j (fun j=>if E.free j<N then 0 else pr j*ext (jb7 N ws).1 N x (E.free j))
 | 0,_=>by rw[prU,S];grind
 | j+1,hj=>by
  rw[prU,S];have ih:=mixF_pr hw hf y0 pr j (by omega);by_cases h:E.free j<N
  ·rw[zm h,zm h,ih];grind
  ·rw[zn h,zn h,mixF_src hw (by omega) (hf j (by omega) (by omega)),ih];grind
end
end
end Go.Proofs.YthahgoopboilkaaGreat
namespace Go.LP
section
theorem jlv(f:Nat->Nat)(p:Nat->Prop):∀{m:Nat},(∃i,i<m/\p i)->∃i,i<m/\p i/\∀j,j<m->p j->f i<=f j
 | 0,⟨i,hi,_⟩=>absurd hi (yC _)
 | m+1,⟨i,hi,hp⟩=>by
  by_cases h:∃k,k<m/\p k
  ·obtain⟨a,h1,h2,h3⟩:=jlv f p h;by_cases hm:p m/\f m<f a
   ·refine⟨m,qE _,hm.1,fun j hj hpj=> ?_⟩;by_cases e:j=m
    ·subst e;exact zB _
    ·have:=h3 j (by omega) hpj;omega
   ·refine⟨a,by omega,h2,fun j hj hpj=> ?_⟩;by_cases e:j=m
    ·subst e;have:¬f j<f a:=fun hlt=>hm ⟨hpj,hlt⟩;omega
    ·exact h3 j (by omega) hpj
  ·have e:i=m:=by
    by_cases e:i=m
    ·exact e
    ·exact absurd ⟨i,by omega,hp⟩ h
   subst e;refine⟨i,hi,hp,fun j hj hpj=> ?_⟩;by_cases e:j=i
   ·subst e;exact zB _
   ·exact absurd ⟨j,by omega,hpj⟩ h
section
variable{D E:Dic}{a b:Int}{r s:Nat}
theorem nn_of{x:Rat}(h:¬x<0):0<=x:=by grind
theorem np_of{x:Rat}(h:¬0<x):x<=0:=by grind
theorem step_or_final(hE:E.Ok):(∃r s,Rule E r s)\/∃a b,Final E a b:=by
 by_cases hr:∃i,i<E.m/\E.v i<0
 ·obtain⟨r,hrm,hrv,hrl⟩:=jlv E.own (fun i=>E.v i<0) hr;by_cases hrf:∀j,j<E.n->0<E.g j->E.own r<E.free j
  ·by_cases ha:∃j,j<E.n/\E.a r j<0
   ·obtain⟨s,hsn,hsa,hsl⟩:=jlv E.free (fun j=>E.a r j<0) ha;exact .inl ⟨r,s,hrm,hsn,.inl ⟨hrv,hrl,hrf,hsa,hsl⟩⟩
   ·exact .inr ⟨r,-1,.none r hrm hrv hrl hrf fun j hj=>nn_of fun h=>ha ⟨j,hj,h⟩⟩
  ·have hs:∃j,j<E.n/\0<E.g j:=by
    by_cases hs:∃j,j<E.n/\0<E.g j
    ·exact hs
    ·exact absurd (fun j hj hg=>absurd ⟨j,hj,hg⟩ hs) hrf
   obtain⟨s,hsn,hsg,hsl⟩:=jlv E.free (fun j=>0<E.g j) hs;have hsf:∀i,i<E.m->E.v i<0->E.free s<E.own i:=fun i hi hv=>by
    have h1:=hrl i hi hv;have h2:¬E.own r<E.free s:=fun h=>hrf fun j hj hg=>zY h (hsl j hj hg);have h3:=hE.apart r s hrm hsn;omega
   by_cases ha:∃i,i<E.m/\0<E.a i s
   ·obtain⟨q,hqm,hqa,hql⟩:=jlv E.own (fun i=>0<E.a i s) ha;exact .inl ⟨q,s,hqm,hsn,.inr ⟨hsg,hsl,hsf,hqa,hql⟩⟩
   ·exact .inr ⟨-1,s,.free s hsn hsg hsl hsf fun i hi=>np_of fun h=>ha ⟨i,hi,h⟩⟩
 ·have hv:∀i,i<E.m->0<=E.v i:=fun i hi=>nn_of fun h=>hr ⟨i,hi,h⟩;by_cases hs:∃j,j<E.n/\0<E.g j
  ·obtain⟨s,hsn,hsg,hsl⟩:=jlv E.free (fun j=>0<E.g j) hs;have hsf:∀i,i<E.m->E.v i<0->E.free s<E.own i:=fun i hi h=>absurd ⟨i,hi,h⟩ hr;by_cases ha:∃i,i<E.m/\0<E.a i s
   ·obtain⟨q,hqm,hqa,hql⟩:=jlv E.own (fun i=>0<E.a i s) ha;exact .inl ⟨q,s,hqm,hsn,.inr ⟨hsg,hsl,hsf,hqa,hql⟩⟩
   ·exact .inr ⟨-1,s,.free s hsn hsg hsl hsf fun i hi=>np_of fun h=>ha ⟨i,hi,h⟩⟩
  ·exact .inr ⟨-1,-1,.best hv fun j hj=>np_of fun h=>hs ⟨j,hj,h⟩⟩
theorem jkn{K:Nat}(hK:∀k,(Own D k\/Free D k)->k<K):∀(n T:Nat) (E:Dic),Reach D T E->2^K-T<=n->∃T' E' a b,Reach D T' E'/\Final E' a b
 | n,T,E,h,hn=>by
  have hb:=h.bound hK;rcases step_or_final h.facts.1 with ⟨r,s,hr⟩ | ⟨a,b,hf⟩
  ·have h2:=h.step hr;have hb2:=h2.bound hK
   match n,hn with
   | 0,hn=>omega
   | n+1,hn=>exact jkn hK n (T+1) _ h2 (by omega)
  ·exact⟨T,E,a,b,h,hf⟩
theorem ends{K:Nat}(hD:D.Ok)(hK:∀k,(Own D k\/Free D k)->k<K):∃T E a b,Reach D T E/\Final E a b:=jkn hK (2^K) 0 D (.zero hD) (Nat.sub_le _ _)
theorem Final.inv_best(h:Final E a b)(ha:a= -1)(hb:b= -1):(∀i,i<E.m->0<=E.v i)/\∀j,j<E.n->E.g j<=0:=by
 cases h with
 | best h1 h2=>exact⟨h1,h2⟩
 | none r=>omega
 | free s=>omega
theorem Final.inv_none(h:Final E a b)(ha:a=(r:Int)):r<E.m/\E.v r<0/\∀j,j<E.n->0<=E.a r j:=by
 cases h with
 | best h1 h2=>omega
 | none r' h1 h2 h3 h4 h5=>have e:=j6.1 ha;subst e;exact⟨h1,h2,h5⟩
 | free s=>omega
theorem Final.inv_free(h:Final E a b)(hb:b=(s:Int)):s<E.n/\0<E.g s/\∀i,i<E.m->E.a i s<=0:=by
 cases h with
 | best h1 h2=>omega
 | none r=>omega
 | free s' h1 h2 h3 h4 h5=>have e:=j6.1 hb;subst e;exact⟨h1,h2,h5⟩
end
end
end Go.LP
namespace Go.Proofs.YthahgoopboilkaaGreat
section
open Go.Abs
open Go.LP (Dic Rw RT Ov OvRw Own Free Final first jb7 tsum Sol IsMin NoMin)
attribute [local go_sem] ints ic big frac fc zc
section
variable{N:Nat}{ws:List Rw}{goal:List (Nat×Rat)}
def capN(N:Nat):Nat:=2^N*(100+1)/20+1
theorem jo6(h:N<=10):capN N<=5200:=by
 have h1:2^N<=2^10:=q7 (by omega) h;have h2:(2:Nat)^10=1024:=by decide
 unfold capN;omega
theorem EndsAt.ptF{E:Dic}(hE:EndsAt N ws goal E)(hs:SysOk N ws)(hg:GoalOk N goal)(k:Nat):FL (capN N) (E.pt k):=by
 have hm:=LP.mk_first (goal:=goal) hs.ok;obtain⟨q',hsm⟩:=LP.small_all hm.ok hE.ok hE.eqv hE.same (LP.small_first (by decide:0<1000) (by decide:1000<=2^100) hs.ov hg.ov);rw[hm.n]at hsm;have h1:1<=2^N:=Nat.one_le_two_pow;unfold LP.Dic.pt;split
 ·rename_i i hi;exact FL_ov (hsm.v i (LP.find_some hi).1) hsm.q0 hsm.qB (zB _)
 ·exact(jb3 (n:=0) (by omega)).mono (by unfold capN;omega)
def isNone(o:List IV):Bool:=match o with
 | .sc (.int .i64 1)::_=>true
 | _=>false
inductive Says(N:Nat)(ws:List Rw)(goal:List (Nat×Rat)):List IV->Prop
 | found (v:Rat) (x:Nat->Rat) (Y:List (List IV)):FL 4000000000 v->IsMin N ws goal v->Sol N ws x->tsum goal x=v->(∀k,FL (capN N) (x k))->Says N ws goal ([.int 0]++fc v++[xl N x,.sl Y,.sl []])
 | none (Y:List (List IV)):(∀x,¬Sol N ws x)->Says N ws goal ([.int 1]++zc++[.sl [],.sl Y,.sl []])
 | free (x:Nat->Rat) (Z:List (List IV)):NoMin N ws goal->Sol N ws x->(∀k,FL (capN N) (x k))->Says N ws goal ([.int 2]++zc++[xl N x,.sl [],.sl Z])
theorem jjk{goal:List (Nat×Rat)}{x:Nat->Rat}(hl:goal.length<=18)(hf:∀t∈goal,FL 100000000 t.2)(hx:∀k,FL 100000000 (x k)):FL 4000000000 (tsum goal x):=by
 rw[<-joq];refine(joh hf (fun t _=>hx t.1) goal.length).mono ?_;have:goal.length*(100000000+100000000+1)<=18*(100000000+100000000+1):=qy _ hl;omega
theorem LeastR.ex(hs:SysOk N ws):∃o,LeastR N ws goal o:=by
 have hmk:=LP.mk_first (goal:=goal) hs.ok;have hmk0:=LP.mk_first (goal:=[]) hs.ok;obtain⟨T,E,a,b,hR,hF⟩:=LP.ends hmk.ok (K:=N+(first N ws goal).m) fun k hk=>(LP.own_lt hmk k).1 hk;cases hF with
 | best h1 h2=>exact⟨_,.found E T hR (.best h1 h2)⟩
 | none r h1 h2 h3 h4 h5=>exact⟨_,.none E T r hR (.none r h1 h2 h3 h4 h5)⟩
 | free s h1 h2 h3 h4 h5=>
  obtain⟨T',E',a',b',hR',hF'⟩:=LP.ends hmk0.ok (K:=N+(first N ws []).m) fun k hk=>(LP.own_lt hmk0 k).1 hk;cases hF' with
  | best g1 g2=>exact⟨_,.free E E' T T' s hR (.free s h1 h2 h3 h4 h5) hR' (.best g1 g2)⟩
  | none r g1 g2 g3 g4 g5=>exact⟨_,.none2 E E' T T' s r hR (.free s h1 h2 h3 h4 h5) hR' (.none r g1 g2 g3 g4 g5)⟩
  | free s' g1 g2=>
   have hE':=EndsAt.of hs hR';rw[LP.final_nil hs.ok hE'.ok hE'.eqv g1]at g2;exact absurd g2 (by decide)
theorem LeastR.says(hs:SysOk N ws)(hg:GoalOk N goal){o:List IV}(h:LeastR N ws goal o):Says N ws goal o:=by
 cases h with
 | found E T hR hF=>
  have hE:=EndsAt.of hs hR;obtain⟨h1,h2⟩:=hF.inv_best rfl rfl;obtain⟨h3,h4⟩:=LP.final_best hs.ok hg.rt hE.ok hE.eqv hE.same h1 h2;have hl:=hg.len;have hn:=hs.n;exact .found _ E.pt _ (jjk (by omega) hg.fl fun k=>FL_pt (hs.smD hg E hE.ok hE.eqv hE.same) k) ⟨⟨_,h3,rfl⟩,h4⟩ h3 rfl (hE.ptF hs hg)
 | none E T r hR hF=>
  have hE:=EndsAt.of hs hR;obtain⟨h1,h2,h3⟩:=hF.inv_none rfl;exact .none _ (LP.final_none hs.ok hE.eqv hE.same h1 h2 h3)
 | none2 E E' T T' s r hR hF hR' hF'=>
  have hE:=EndsAt.of hs hR';obtain⟨h1,h2,h3⟩:=hF'.inv_none rfl;exact .none _ (LP.final_none hs.ok hE.eqv hE.same h1 h2 h3)
 | free E E' T T' s hR hF hR' hF'=>
  have hE:=EndsAt.of hs hR;have hE':=EndsAt.of hs hR';obtain⟨h1,h2,h3⟩:=hF.inv_free rfl;obtain⟨g1,g2⟩:=hF'.inv_best rfl rfl;obtain⟨h4,_⟩:=LP.final_best hs.ok (show RT [] 0 N from trivial) hE'.ok hE'.eqv hE'.same g1 g2;exact .free E'.pt _ ⟨⟨_,h4⟩,LP.final_free hs.ok hg.rt hE.ok hE.eqv hE.same h1 h2 h3 h4⟩ h4 (hE'.ptF hs ⟨show RT [] 0 N from trivial,fun t ht=>(by cases ht)⟩)
theorem jcw(hs:SysOk N ws)(hg:GoalOk N goal):Says N ws goal (jd9 N ws goal):=by
 obtain⟨o,ho⟩:=LeastR.ex (goal:=goal) hs;rw[<-jl4 ho];exact ho.says hs hg
end
end
section
open Go.Abs
open Go.LP (Dic Rw RT S tsum cf first jb7 Eqv SameV Own Free Sol Final Mk ext rowsD rowD jcd dic0 src0 S_congr S_add S_mul jfj je1)
def SgnW(ws:List Rw)(y:Nat->Rat):Prop:=∀(r:Nat) (w:Rw),ws[r]? =some w->(w.kind=0->0<=y r)/\(w.kind=1->y r<=0)
def mc(ws:List Rw)(y:Nat->Rat)(k:Nat):Rat:=S ws.length fun r=>match ws[r]? with
 | some w=>y r*cf w.ts k
 | none=>0
def mv(ws:List Rw)(y:Nat->Rat):Rat:=S ws.length fun r=>match ws[r]? with
 | some w=>y r*w.val
 | none=>0
section
variable{N:Nat}{ws:List Rw}{goal:List (Nat×Rat)}{x y:Nat->Rat}
theorem SgnW.zero:SgnW ws fun _=>0:=fun _ _ _=>⟨fun _=>jx,fun _=>jx⟩
theorem SgnW.ch(h:SgnW ws y){t:Bool}{r:Nat}{p:Rat}(hp:0<=p)(ht:∀w,ws[r]? =some w->if t=true then w.kind≠1 else w.kind≠0):SgnW ws (chU t y r p):=fun k w hw=>by
 obtain⟨h1,h2⟩:=h k w hw;unfold chU;by_cases e:k=r
 ·subst e;have:=ht w hw;rw[zm rfl];cases t
  ·refine⟨fun e=>absurd e this,fun e=> ?_⟩;have:=h2 e;simp only[qS,qt];grind
  ·refine⟨fun e=> ?_,fun e=>absurd e this⟩;have:=h1 e;simp only[qC];grind
 ·rw[zn e];exact⟨h1,h2⟩
theorem SgnW.src(h:SgnW ws y){i:Nat}(hi:i<(jb7 N ws).1.m){p:Rat}(hp:0<=p):SgnW ws (chU ((jb7 N ws).2 i).2 y ((jb7 N ws).2 i).1.toNat p):=by
 obtain⟨w,h1,h2,h3⟩:=SrcW.rows (N:=N) (ws:=ws) ws.length i hi;have h1':ws[((jb7 N ws).2 i).1.toNat]? =some w:=h1;refine h.ch hp fun w' hw'=> ?_;rw[h1']at hw';cases hw';rcases h3 with ⟨e0,e1,_⟩ | ⟨e0,e1,_⟩
 ·have e0':((jb7 N ws).2 i).2=true:=e0;rw[e0',zm rfl];exact e1
 ·have e0':((jb7 N ws).2 i).2=false:=e0;rw[e0',zn (by decide)];exact e1
theorem SgnW.pr{E:Dic}(hf:∀j,j<E.n->N<=E.free j->E.free j-N<(jb7 N ws).1.m){y0 pr:Nat->Rat}(h0:SgnW ws y0)(hp:∀j,j<E.n->0<=pr j):∀j,j<=E.n->SgnW ws (prU E N (jb7 N ws).2 y0 pr j)
 | 0,_=>h0
 | j+1,hj=>by
  rw[prU];have ih:=SgnW.pr hf h0 hp j (by omega);by_cases h:E.free j<N
  ·rw[zm h];exact ih
  ·rw[zn h];exact ih.src (hf j (by omega) (by omega)) (hp j (by omega))
theorem exc_get{w:Rw}{r:Nat}(h:ws[r]? =some w):exc ws x r=tsum w.ts x-w.val:=by unfold exc;rw[h]
theorem S_le{n:Nat}{f g:Nat->Rat}(h:∀j,j<n->f j<=g j):S n f<=S n g:=by
 have:=je1 (n:=n) (f:=fun j=>g j+ -1*f j) fun j hj=>by have:=h j hj;grind
 rw[S_add,S_mul]at this;grind
theorem mix_nonneg(hs:SgnW ws y)(hx:∀r w,ws[r]? =some w->y r≠0->w.sat x):0<=mixF ws x y:=je1 fun r hr=>by
 have hw:ws[r]? =some ws[r]:=zh hr;obtain⟨s1,s2⟩:=hs r _ hw;rw[exc_get hw];by_cases h0:y r=0
 ·rw[h0];grind
 obtain⟨q1,q2⟩:=hx r _ hw h0;by_cases k0:ws[r].kind=0
 ·have a1:=s1 k0;have a2:=q1 (by rw[k0];decide);exact qG a1 (by grind)
 by_cases k1:ws[r].kind=1
 ·have a1:=s2 k1;have a2:=q2 (by rw[k1];decide);have:=qG (show 0<= -y r by grind) (show 0<= -(tsum ws[r].ts x-ws[r].val)by grind);grind
 ·have a1:=q1 k1;have a2:=q2 k0;have:tsum ws[r].ts x-ws[r].val=0:=by grind
  rw[this];grind
theorem S_swap(y:Nat->Rat)(c:Nat->Nat->Rat)(x:Nat->Rat)(N:Nat):∀n,S n (fun r=>y r*S N (fun k=>c r k*x k))=S N (fun k=>S n (fun r=>y r*c r k)*x k)
 | 0=>by
  show(0:Rat)=_;rw[jfj fun k _=>by show S 0 _*x k=0;rw[show S 0 (fun r=>y r*c r k)=0 from rfl];grind]
 | n+1=>by
  show S n (fun r=>y r*S N (fun k=>c r k*x k))+y n*S N (fun k=>c n k*x k)=_;rw[S_swap y c x N n,<-S_mul,<-S_add];refine S_congr fun k _=> ?_;show _=(S n _+y n*c n k)*x k;grind
theorem mix_eq(hw:∀w∈ws,w.Ok N):mixF ws x y=S N (fun k=>mc ws y k*x k)-mv ws y:=by
 have h1:∀r,r<ws.length->y r*exc ws x r=y r*S N (fun k=>(match ws[r]? with | some w=>cf w.ts k | none=>0)*x k)+ -1*(match ws[r]? with | some w=>y r*w.val | none=>0):=fun r hr=>by
  have e:ws[r]? =some ws[r]:=zh hr;rw[exc_get e,e];dsimp only;rw[LP.tsum_eq x (hw _ (jn hr)).ts];grind
 unfold mixF;rw[S_congr h1,S_add,S_mul,S_swap];have h2:∀k,k<N->S ws.length (fun r=>y r*(match ws[r]? with | some w=>cf w.ts k | none=>0))*x k=mc ws y k*x k:=fun k _=>by
  unfold mc;rw[S_congr (f:=fun r=>y r*(match ws[r]? with | some w=>cf w.ts k | none=>0)) (g:=fun r=>match ws[r]? with | some w=>y r*cf w.ts k | none=>0) fun r hr=>by
   have e:ws[r]? =some ws[r]:=zh hr;rw[e]]
 rw[S_congr h2];unfold mv;grind
theorem mix_zero(hw:∀w∈ws,w.Ok N):mixF ws (fun _=>0) y= -mv ws y:=by
 rw[mix_eq hw,jfj fun k _=>by grind];grind
theorem mix_unit(hw:∀w∈ws,w.Ok N){k:Nat}(hk:k<N):mixF ws (fun j=>if j=k then 1 else 0) y=mc ws y k-mv ws y:=by
 rw[mix_eq hw,LP.S_one hk fun j _ e=>by rw[zn e];grind,zm rfl];grind
structure Refu(N:Nat)(ws:List Rw)(y:Nat->Rat):Prop where
 sgn:SgnW ws y
 mix:∀k,k<N->mc ws y k<=0
 val:0<mv ws y
structure Lowr(N:Nat)(ws:List Rw)(goal:List (Nat×Rat))(y:Nat->Rat)(v:Rat):Prop where
 sgn:SgnW ws y
 mix:∀k,k<N->mc ws y k<=cf goal k
 val:mv ws y=v
theorem Lowr.le{v:Rat}(h:Lowr N ws goal y v)(hw:∀w∈ws,w.Ok N)(hg:RT goal 0 N)(hx:Sol N ws x):v<=tsum goal x:=by
 have h1:=mix_nonneg (x:=x) h.sgn fun r w hr _=>hx.row w (zk hr);rw[mix_eq hw,h.val]at h1;have h2:S N (fun k=>mc ws y k*x k)<=S N (fun k=>cf goal k*x k):=S_le fun k hk=>by
  have:=qG (show 0<=cf goal k-mc ws y k by have:=h.mix k hk;grind) (hx.pos k hk);grind
 rw[<-LP.tsum_eq x hg]at h2;grind
section
variable{E:Dic}
theorem prU_lows(f:Nat->Rat):S E.n f=S E.n (fun j=>if E.free j<N then 0 else f j)+S E.n (fun j=>if E.free j<N then f j else 0):=by
 rw[<-S_add];refine S_congr fun j _=> ?_;split<;>grind
theorem EndsAt.fr(hE:EndsAt N ws goal E)(hs:SysOk N ws):∀j,j<E.n->N<=E.free j->E.free j-N<(jb7 N ws).1.m:=fun j hj hN=>by
 have:=(hE.srcs hs).free j hj hN;rw[hE.m]at this;exact this
theorem lowr_best(hE:EndsAt N ws goal E)(hs:SysOk N ws)(hg:RT goal 0 N)(h2:∀j,j<E.n->E.g j<=0):Lowr N ws goal (prU E N (jb7 N ws).2 (fun _=>0) (fun j=> -E.g j) E.n) (tsum goal E.pt):=by
 have h:=LP.mk_first (goal:=goal) hs.ok;have hf:=hE.fr hs;have key:∀x:Nat->Rat,mixF ws x (prU E N (jb7 N ws).2 (fun _=>0) (fun j=> -E.g j) E.n)+S E.n (fun j=>if E.free j<N then-E.g j*x (E.free j)else 0)=tsum goal x-tsum goal E.pt:=fun x=>by
  have hy:=h.ext_sat x;obtain⟨c,hc⟩:=hE.eqv.lin;have c1:=hc _ hy;have c2:=hc _ ((hE.eqv.sat _).2 (LP.pt_sat hE.ok));rw[LP.first_lin hs.ok hg]at c1 c2;rw[LP.pt_lin hE.ok]at c2;have e3:tsum goal (ext (first N ws goal) N x)=tsum goal x:=LP.tsum_congr fun t ht=>LP.ext_low (hg.mem t ht).2.1;rw[e3]at c1;rw[mixF_pr hs.ok hf _ _ E.n (zB _),show mixF ws x (fun _=>0)=0 from jfj fun j _=>by grind];have e4:S E.n (fun j=>if E.free j<N then 0 else-E.g j*ext (jb7 N ws).1 N x (E.free j))=S E.n (fun j=>if E.free j<N then 0 else-E.g j*ext (first N ws goal) N x (E.free j)):=rfl;have e1:S E.n (fun j=>if E.free j<N then-E.g j*x (E.free j)else 0)=S E.n (fun j=>if E.free j<N then-E.g j*ext (first N ws goal) N x (E.free j)else 0):=S_congr fun j _=>by
   split
   ·rename_i hlt;rw[LP.ext_low hlt]
   ·rfl
  have e5:=prU_lows (N:=N) (E:=E) (fun j=> -E.g j*ext (first N ws goal) N x (E.free j));rw[LP.S_negc]at e5;unfold LP.Dic.lin at c1;rw[e4,e1];grind
 have k0:=key fun _=>0;rw[jfj (f:=fun j=>if E.free j<N then-E.g j*(0:Rat)else 0) fun j _=>by split<;>grind,mix_zero hs.ok,LP.tsum_eq _ hg,jfj fun k _=>by grind]at k0;refine⟨SgnW.pr hf SgnW.zero (fun j hj=>by have:=h2 j hj;grind) E.n (zB _),fun k hk=> ?_,by grind⟩;have k1:=key fun j=>if j=k then 1 else 0
 rw[mix_unit hs.ok hk,LP.tsum_eq _ hg,LP.S_one hk fun j _ e=>by rw[zn e];grind,zm rfl]at k1;have z3:0<=S E.n (fun j=>if E.free j<N then-E.g j*(if E.free j=k then 1 else 0)else 0):=je1 fun j hj=>by
  split
  ·split
   ·have:=h2 j hj;grind
   ·grind
  ·exact jx
 grind
end
end
end
section
open Go.Abs
attribute [local go_sem] Evid.iv Evid.c Place.c Move.c Cert.c Recall.c Purity.c Sample.c Recipe.c ints ic
end
section
open Go.Abs
attribute [local go_sem] Evid.iv Evid.c Place.c Move.c Cert.c Recall.c Purity.c Sample.c Recipe.c ints ic
end
section
open Go.Abs
attribute [local go_sem] Evid.iv Evid.c Place.c Move.c Cert.c Recall.c Purity.c Sample.c Recipe.c ints ic
def pairC(p:Int×Int):List IV:=[.int p.1,.int p.2]
def pairs(e:Evid):List (Int×Int):=[(e.mats,6),(e.houses,100),(e.scales,30),(e.places.length,100),(e.moves.length,200),(e.certs.length,100),(e.recalls.length,30),(e.purs.length,200)]
def fitP(p:Int×Int):Bool:= !decide (p.2<p.1)
theorem c46(e:Evid):Ctr G.P 78 [e.iv] (· = .bool (!(pairs e).all fitP)):=by
 refine ja5 [.tmp 2] Tryz.func78 ?_;unfold Evid.iv Evid.c;simp only[go_sem];refine jal [34,35,36] [] (fun i:Nat=>⟨[(34,.sx ((pairs e).map pairC)),(35,.im (.int 8)),(36,.im (.int i))],[],[]⟩)
  (fun i=>i<=8/\((pairs e).take i).all fitP=true) (fun i=>8-i) 0 ?_ ⟨zE _,rfl⟩ ?_
 ·simp only[pairs,pairC,Int.natCast_zero,go_sem]
 ·intro i ⟨hi,ha⟩;simp only[go_sem];refine jcy (fun hd hp=> ?_) (fun hd hp=> ?_)
  ·obtain⟨x,hx⟩:∃x,(pairs e)[i]? =some x:=⟨_,zh (by simp[pairs];omega)⟩;have h1:=ja9 (n:=(i:Int)+1) (by omega);have hat:=jc4 (f:=fitP) hx;simp only[hd,ze,hx,pairC,go_sem]
   repeat' (first | (refine jcq (fun hd=> ?_) (fun hd=> ?_)<;>simp only[*,go_sem]) | (refine jc0 (c67 _ _) (by first | decide | assumption) ?_;simp only[*,go_sem]) | (refine ja4 (c67 _ _) (by decide) ?_;simp only[*,go_sem]))
   all_goals first
    | (refine jab (i+1) ?_ ?_ ⟨?_,?_⟩
       ·simp only[h1,Int.natCast_add,go_sem]
       ·omega
       ·omega
       ·rw[hat,ha,qe];clear hat ha h1;simp_all[fitP]
       done)
    | (rw[jes hx (by clear hat ha h1;simp_all[fitP])];rfl)
  ·simp only[hd,go_sem];rw[zt (by simp[pairs];omega)]at ha;rw[ha];simp only[go_sem]
end
section
open Go.Abs
attribute [local go_sem] Evid.iv Evid.c Place.c Move.c Cert.c Recall.c Purity.c Sample.c Recipe.c ints ic
def jic(e:Evid)(i:Int):Int:=match e.places[i.toNat]? with
 | some p=>p.kind
 | none=>0
theorem jpk{e:Evid}{i:Int}{p:Place}(h:e.places[i.toNat]? =some p):jic e i=p.kind:=by simp[jic,h]
def moveF(e:Evid)(m:Move):Bool:=
 idx m.fr e.places.length&&idx m.to e.places.length&& !decide (m.fr=m.to)&& !decide (jic e m.fr=5)&& !decide (jic e m.fr=6)&& !(decide (jic e m.fr=0)&&m.all)&& !decide (jic e m.to=0)&&
  (if m.scale= -1 then decide (m.reading=0)else idx m.scale e.scales&&btw m.reading 0 1099511627776)
theorem at_idx{α:Type}{l:List α}{i:Int}(h:idx i l.length=true):∃x,l[i.toNat]? =some x/\0<=i:=by
 rw[jnw]at h;exact⟨_,zh (by omega),h.1⟩
theorem c48(e:Evid)(m:Move):Ctr G.P 80 [e.iv,.agg m.c] (· = .bool (moveF e m)):=by
 rcases hf:idx m.fr e.places.length with _ | _
 ·have hm:moveF e m=false:=by simp[moveF,hf]
  refine ja5 [.tmp 4] Tryz.func80 ?_;unfold Evid.iv Evid.c Move.c;rw[hm];simp only[go_sem]
  repeat' (first | (refine jcq (fun hd=> ?_) (fun hd=> ?_)<;>simp only[*,go_sem]) | (refine jc0 (c67 _ _) (by first | decide | assumption) ?_;simp only[*,go_sem]) | (refine ja4 (c67 _ _) (by decide) ?_;simp only[*,go_sem]))
 ·obtain⟨p,hp,h0⟩:=at_idx hf;have hkp:=jpk hp;rcases ht:idx m.to e.places.length with _ | _
  ·have hm:moveF e m=false:=by simp[moveF,ht]
   refine ja5 [.tmp 4] Tryz.func80 ?_;unfold Evid.iv Evid.c Move.c;rw[hm];simp only[go_sem]
   repeat' (first | (refine jcq (fun hd=> ?_) (fun hd=> ?_)<;>simp only[*,go_sem]) | (refine jc0 (c67 _ _) (by first | decide | assumption) ?_;simp only[*,go_sem]) | (refine ja4 (c67 _ _) (by decide) ?_;simp only[*,go_sem]))
  ·obtain⟨q,hq,h1⟩:=at_idx ht;have hkq:=jpk hq;have hm:moveF e m=(!decide (m.fr=m.to)&& !decide (p.kind=5)&& !decide (p.kind=6)&& !(decide (p.kind=0)&&m.all)&& !decide (q.kind=0)&&
    (if m.scale= -1 then decide (m.reading=0)else idx m.scale e.scales&&btw m.reading 0 1099511627776)):=by simp[moveF,hf,ht,hkp,hkq]
   refine ja5 [.tmp 4] Tryz.func80 ?_;unfold Evid.iv Evid.c Move.c;rw[hm];clear hm hkp hkq;simp only[go_sem]
   repeat' (first | (refine jcq (fun hd=> ?_) (fun hd=> ?_)<;>simp only[*,ze,Place.c,go_sem]) | (refine jc0 (c67 _ _) (by first | decide | assumption) ?_;simp only[*,ze,Place.c,go_sem]) | (refine jc0 (c68 _ _ _) (by first | decide | assumption) ?_;simp only[*,ze,Place.c,go_sem]) | (refine ja4 (c67 _ _) (by decide) ?_;simp only[*,ze,Place.c,go_sem]) | (refine ja4 (c68 _ _ _) (by decide) ?_;simp only[*,ze,Place.c,go_sem]))
   all_goals simp_all
end
section
open Go.Abs
attribute [local go_sem] Evid.iv Evid.c Place.c Move.c Cert.c Recall.c Purity.c Sample.c Recipe.c ints ic
def jdm(e:Evid):Int->List Move->Int
 | _,[]=>0
 | last,m::r=>if decide (m.day<last)=true then 17 else if decide (100000<m.day)=true then 17 else if moveF e m=false then 1 else jdm e m.day r
def jbl(e:Evid):Int:=
 if(pairs e).all fitP=false then 6 else if decide (e.mats<1)=true then 1 else if decide (e.houses<0)=true then 1 else if decide (e.scales<0)=true then 1 else if e.places.all (jib e)=false then 1 else
 if jdm e 0 e.moves≠0 then jdm e 0 e.moves else if saidF e=true then 0 else 1
theorem jpv{α:Type}{l:List α}{i:Nat}{x:α}(h:l[i]? =some x):l.drop i=x::l.drop (i+1):=by
 obtain⟨hi,rfl⟩:=zu.1 h;exact yM hi
theorem jld{e:Evid}(h:(pairs e).all fitP=true):e.places.length<=100/\e.moves.length<=200/\e.certs.length<=100/\e.recalls.length<=30/\e.purs.length<=200/\e.mats<=6/\e.houses<=100/\e.scales<=30:=by
 simp[pairs,fitP]at h;omega
theorem c21(e:Evid):Ctr G.P 38 [e.iv] (· = .int (jbl e)):=by
 have h46:=c46 e;rcases hf:(pairs e).all fitP with _ | _
 ·have hc:jbl e=6:=by simp[jbl,hf]
  rw[hf]at h46;refine ja5 [.tmp 2] Tryz.func38 ?_;unfold Evid.iv Evid.c;rw[hc];simp only[go_sem];refine ja1 h46 ?_;simp only[go_sem]
 ·obtain⟨l1,l2,l3,l4,l5,_,_,_⟩:=jld hf;have h47:=c47 e (by omega);have h49:=c49 e (by omega) (by omega) (by omega);rw[hf]at h46;have hc:jbl e=if decide (e.mats<1)=true then 1 else if decide (e.houses<0)=true then 1 else if decide (e.scales<0)=true then 1 else if e.places.all (jib e)=false then 1 else
   if jdm e 0 e.moves≠0 then jdm e 0 e.moves else if saidF e=true then 0 else 1:=by simp[jbl,hf]
  clear hf;refine ja5 [.tmp 2] Tryz.func38 ?_;rw[hc];clear hc;generalize hpl:e.places.all (jib e)=pl at*;generalize hsd:saidF e=sd at*;unfold Evid.iv Evid.c;simp only[go_sem];refine ja1 h46 ?_;simp only[go_sem]
  repeat' (first | (refine jcq (fun hd=> ?_) (fun hd=> ?_)<;>simp only[*,go_sem]) | (refine jc0 (h47) (by first | decide | assumption) ?_;simp only[*,go_sem]) | (refine ja4 (h47) (by decide) ?_;simp only[*,go_sem]))
  rename_i k1 k2 k3 k4;clear h47 h46;refine jal [1,3,29,30,31] [1] (fun g:Nat×Int=>⟨[(1,.loc 1 8 0 0),(3,.im (.int g.2)),(29,.im (.sl (e.moves.map Move.c))),(30,.im (.int e.moves.length)),(31,.im (.int g.1))],[(1,8,[e.c])],[]⟩)
   (fun g=>g.1<=e.moves.length/\jdm e 0 e.moves=jdm e g.2 (e.moves.drop g.1)) (fun g=>e.moves.length-g.1) (0,0) ?_ ⟨zE _,rfl⟩ ?_
  ·simp only[Evid.c,Int.natCast_zero,go_sem]
  ·intro⟨i,last⟩ ⟨hi,ha⟩;dsimp only at hi ha;by_cases hp:(i:Int)<e.moves.length
   ·have hd:decide ((i:Int)<e.moves.length)=true:=za hp;obtain⟨x,hx⟩:=jby hp;have h1:=ja9 (n:=(i:Int)+1) (by omega);rw[jpv hx,jdm]at ha;simp only[hd,ze,hx,Move.c,Evid.c,go_sem]
    repeat' (first | (refine jcq (fun hd=> ?_) (fun hd=> ?_)<;>simp only[*,go_sem]) | (refine jc0 (c48 e x) (by first | decide | assumption) ?_;simp only[*,go_sem]) | (refine ja4 (c48 e x) (by decide) ?_;simp only[*,go_sem]))
    refine jab (i+1,x.day) ?_ ?_ ⟨?_,?_⟩
    ·simp only[h1,Evid.c,Int.natCast_add,go_sem]
    ·show e.moves.length-(i+1)<e.moves.length-i;omega
    ·show i+1<=e.moves.length;omega
    ·rw[ha];simp only[*,qS,Bool.true_eq_false,qt]
   ·have hd:decide ((i:Int)<e.moves.length)=false:=zq hp;have hi':e.moves.drop i=[]:=qw (by omega);rw[hi',jdm]at ha;simp only[hd,Evid.c,go_sem];refine ja1 h49 ?_;simp only[*,go_sem]
    repeat' (first | (refine jcq (fun hd=> ?_) (fun hd=> ?_)<;>simp only[*,go_sem]) | (refine jc0 (h49) (by first | decide | assumption) ?_;simp only[*,go_sem]) | (refine ja4 (h49) (by decide) ?_;simp only[*,go_sem]))
end
section
open Go.Abs
attribute [local go_sem] Evid.iv Evid.c Place.c Move.c Cert.c Recall.c Purity.c Sample.c Recipe.c ints ic
theorem jik{e:Evid}(h:jbl e=0):e.places.length<=100/\e.moves.length<=200/\e.certs.length<=100/\e.recalls.length<=30/\e.purs.length<=200/\e.mats<=6/\e.houses<=100/\e.scales<=30:=by
 refine jld ?_;by_cases hf:(pairs e).all fitP=true
 ·exact hf
 ·simp only[Bool.not_eq_true]at hf;unfold jbl at h;rw[zm hf]at h;cases h
end
section
open Go.Abs
attribute [local go_sem] Evid.iv Evid.c Place.c Move.c Cert.c Recall.c Purity.c Sample.c Recipe.c ints ic
end
section
open Go.Abs
attribute [local go_sem] Evid.iv Evid.c Place.c Move.c Cert.c Recall.c Purity.c Sample.c Recipe.c ints ic
def purs(l:List Purity):IV:= .sl (l.map Purity.c)
end
section
open Go.Abs
attribute [local go_sem] Evid.iv Evid.c Place.c Move.c Cert.c Recall.c Purity.c Sample.c Recipe.c ints ic
theorem jex{α:Type}{l:List α}{f:α->Bool}{i:Nat}{x:α}(h:l[i]? =some x):(l.take (i+1)).any f=((l.take i).any f || f x):=by
 rw[take_succ h,List.any_append];simp
theorem any_at{α:Type}{l:List α}{f:α->Bool}{i:Nat}{x:α}(h:l[i]? =some x)(hf:f x=true):l.any f=true:=
 jw.2 ⟨x,zk h,hf⟩
end
section
open Go.Abs
attribute [local go_sem] Cert.c Recall.c ints ic big frac
theorem jie(n m:Int):Ctr G.P 162 [.int n,.int m] (· = .bool (btw n 0 m)):=by
 unfold btw;refine ja5 [.tmp 4] Tryz.func162 ?_;simp only[go_sem]
 repeat' (refine jcy (fun hd hp=> ?_) (fun hd hp=> ?_)<;>simp only[hd,go_sem])
def jo5(c:Cert):Bool:=decide (0<=c.fr)&&decide (c.fr<=c.until')&&decide (c.until'<=100000)
def jfy(c:Cert):Bool:=jo5 c&&btw c.scale 0 29&&btw c.grams 0 1099511627776&&btw c.perMille 0 1000&&btw c.drift 0 10000000
theorem h_right(c:Cert):Ctr G.P 201 [.agg c.c] (· = .bool (jfy c)):=by
 have a1:=jie c.scale 29;have a2:=jie c.grams 1099511627776;have a3:=jie c.perMille 1000;have a4:=jie c.drift 10000000;generalize hb1:btw c.scale 0 29=b1 at*;generalize hb2:btw c.grams 0 1099511627776=b2 at*;generalize hb3:btw c.perMille 0 1000=b3 at*;generalize hb4:btw c.drift 0 10000000=b4 at*;generalize hd1:decide (0<=c.fr)=d1;generalize hd2:decide (c.fr<=c.until')=d2;generalize hd3:decide (c.until'<=100000)=d3;have hr:jfy c=(d1&&d2&&d3&&b1&&b2&&b3&&b4):=by simp only[jfy,jo5,hb1,hb2,hb3,hb4,hd1,hd2,hd3]
 rw[hr];refine ja5 [.tmp 2] Tryz.func201 ?_;unfold Cert.c;simp only[hd1,hd2,hd3,go_sem]
 repeat' (first | (refine jcq (fun hd=> ?_) (fun hd=> ?_)<;>simp only[*,hd1,hd2,hd3,go_sem]) | (refine jc0 (a1) (by first | decide | assumption) ?_;simp only[*,hd1,hd2,hd3,go_sem]) | (refine jc0 (a2) (by first | decide | assumption) ?_;simp only[*,hd1,hd2,hd3,go_sem]) | (refine jc0 (a3) (by first | decide | assumption) ?_;simp only[*,hd1,hd2,hd3,go_sem]) | (refine jc0 (a4) (by first | decide | assumption) ?_;simp only[*,hd1,hd2,hd3,go_sem]) | (refine ja4 (a1) (by decide) ?_;simp only[*,hd1,hd2,hd3,go_sem]) | (refine ja4 (a2) (by decide) ?_;simp only[*,hd1,hd2,hd3,go_sem]) | (refine ja4 (a3) (by decide) ?_;simp only[*,hd1,hd2,hd3,go_sem]) | (refine ja4 (a4) (by decide) ?_;simp only[*,hd1,hd2,hd3,go_sem]))
 all_goals simp_all
def jdz(c:Cert)(day:Int):Bool:=jfy c&&decide (c.fr<=day)&&decide (day<=c.until')
theorem js4(c:Cert)(day:Int):Ctr G.P 159 [.agg c.c,.int day] (· = .bool (jdz c day)):=by
 have a1:=h_right c;generalize hb1:jfy c=b1 at*;generalize hd1:decide (c.fr<=day)=d1;generalize hd2:decide (day<=c.until')=d2;have hr:jdz c day=(b1&&d1&&d2):=by simp only[jdz,hb1,hd1,hd2]
 rw[hr];refine ja5 [.tmp 4] Tryz.func159 ?_;unfold Cert.c at a1⊢;simp only[hd1,hd2,go_sem]
 repeat' (first | (refine jcq (fun hd=> ?_) (fun hd=> ?_)<;>simp only[*,hd1,hd2,go_sem]) | (refine jc0 (a1) (by first | decide | assumption) ?_;simp only[*,hd1,hd2,go_sem]) | (refine ja4 (a1) (by decide) ?_;simp only[*,hd1,hd2,go_sem]))
 all_goals simp_all
def pickF(l:List Cert)(sc day:Int)(b:Nat×Bool)(c:Cert):Bool:=
 decide (c.scale=sc)&&jdz c day&&(!b.2 || decide ((l[b.1]?.elim 0 Cert.fr)<=c.fr))
def jeu(l:List Cert)(sc day:Int):Nat->Nat×Bool
 | 0=>(0,false)
 | i+1=>if(l[i]?.elim false (pickF l sc day (jeu l sc day i)))=true then(i,true)else jeu l sc day i
theorem jlf(l:List Cert)(sc day:Int)(i:Nat):(jeu l sc day i).2=true->(jeu l sc day i).1<i/\∃c,l[(jeu l sc day i).1]? =some c/\jdz c day=true:=by
 induction i with
 | zero=>intro h;cases h
 | succ i ih=>
  rw[jeu];split
  ·rename_i h;intro _;refine⟨by dsimp only;omega,?_⟩;dsimp only;rcases hx:l[i]? with _ | c
   ·rw[hx]at h;cases h
   ·rw[hx]at h;refine⟨c,rfl,?_⟩;simp only[Option.elim,pickF,zr]at h;exact h.1.2
  ·intro h;obtain⟨h1,h2⟩:=ih h;exact⟨by omega,h2⟩
theorem jf9{l:List Cert}{sc day:Int}{i:Nat}{c:Cert}(h:l[i]? =some c):jeu l sc day (i+1)=if pickF l sc day (jeu l sc day i) c=true then(i,true)else jeu l sc day i:=by
 rw[jeu,h];rfl
def findF(l:List Cert)(sc day:Int):Nat×Bool:=jeu l sc day l.length
theorem h_find(l:List Cert)(sc day:Int)(hl:l.length<=100000):Ctr G.P 116 [.sl (l.map Cert.c),.int sc,.int day] (· = .tup [.int (findF l sc day).1,.bool (findF l sc day).2]):=by
 unfold findF;refine ja5 [.tmp 6,.tmp 7] Tryz.func116 ?_;simp only[go_sem];refine jal [0,1,2,8,9,12,13,14] [] (fun i:Nat=>⟨[(0,.im (.sl (l.map Cert.c))),(1,.im (.int sc)),(2,.im (.int day)),(8,.im (.int (jeu l sc day i).1)),(9,.im (.bool (jeu l sc day i).2)),(12,.im (.sl (l.map Cert.c))),(13,.im (.int l.length)),(14,.im (.int i))],[],[]⟩)
  (fun i=>i<=l.length) (fun i=>l.length-i) 0 ?_ (zE _) ?_
 ·simp only[jeu,Int.natCast_zero,go_sem]
 ·intro i hi;by_cases hp:(i:Int)<l.length
  ·have hd:decide ((i:Int)<l.length)=true:=za hp;obtain⟨x,hx⟩:=jby hp;have h1:=ja9 (n:=(i:Int)+1) (by omega);have hc:=js4 x day;have hsp:=jlf l sc day i;rcases hbf:jeu l sc day i with ⟨b,f⟩;rw[hbf]at hsp;dsimp only at hsp⊢;simp only[Cert.c]at hc;rcases hs:decide (x.scale=sc)with _ | _
   ·simp only[hd,ze,hx,go_sem];refine jac 23 ?_;simp only[hs,ze,hx,go_sem];refine jab (i+1) ?_ (by omega) (by omega);rw[jf9 hx,zn (by simp[pickF, *]),hbf];simp only[h1,Int.natCast_add,go_sem]
   ·rcases hv:jdz x day with _ | _
    ·rw[hv]at hc;simp only[hd,ze,hx,go_sem];refine jac 23 ?_;simp only[hs,ze,hx,go_sem];refine ja4 hc (by decide) ?_;simp only[go_sem];refine jab (i+1) ?_ (by omega) (by omega);rw[jf9 hx,zn (by simp[pickF, *]),hbf];simp only[h1,Int.natCast_add,go_sem]
    ·rw[hv]at hc;rcases f with _ | _
     ·simp only[hd,ze,hx,go_sem];refine jac 23 ?_;simp only[hs,ze,hx,go_sem];refine ja4 hc (by decide) ?_;simp only[go_sem];refine jab (i+1) ?_ (by omega) (by omega);rw[jf9 hx,zm (by simp[pickF, *])];simp only[h1,Int.natCast_add,go_sem]
     ·obtain⟨_,y,hy,_⟩:=hsp rfl;have hg:l[b]?.elim 0 Cert.fr=y.fr:=by rw[hy];rfl
      rcases hk:decide (y.fr<=x.fr)with _ | _
      ·simp only[hd,ze,hx,go_sem];refine jac 23 ?_;simp only[hs,ze,hx,hy,hk,go_sem];refine ja4 hc (by decide) ?_;simp only[hs,ze,hx,hy,hk,go_sem];refine jab (i+1) ?_ (by omega) (by omega);rw[jf9 hx,zn (by simp[pickF, *]),hbf];simp only[h1,Int.natCast_add,go_sem]
      ·simp only[hd,ze,hx,go_sem];refine jac 23 ?_;simp only[hs,ze,hx,hy,hk,go_sem];refine ja4 hc (by decide) ?_;simp only[hs,ze,hx,hy,hk,go_sem];refine jab (i+1) ?_ (by omega) (by omega);rw[jf9 hx,zm (by simp[pickF, *])];simp only[h1,Int.natCast_add,go_sem]
  ·have hd:decide ((i:Int)<l.length)=false:=zq hp;have:i=l.length:=by omega
   subst this;simp only[hd,go_sem]
def recF(sc day:Int)(x:Recall):Bool:=decide (x.scale=sc)&&decide (x.since<=day)
theorem h_rec1(x:Recall)(sc day:Int):Ctr G.P 161 [.agg x.c,.ip [.int sc] 0,.ip [.int day] 0] (· = .bool (recF sc day x)):=by
 unfold recF;refine ja5 [.tmp 4] Tryz.func161 ?_;unfold Recall.c;simp only[go_sem]
 repeat' (refine jcy (fun hd hp=> ?_) (fun hd hp=> ?_)<;>simp only[hd,go_sem])
theorem h_irec(l:List Recall)(hl:l.length<=100000)(p:Recall->Bool)(g:Nat)(caps:List IV)(hg:3<=g/\g<G.fns)(hc:∀x:Recall,Ctr G.P g (.agg x.c::caps) (· = .bool (p x))):
  Ctr G.P 202 [.sl (l.map Recall.c),.clo g caps] (fun r=>∃k:Int,r= .int k/\decide (0<=k)=l.any p):=by
 refine ja5 [.tmp 4] Tryz.func202 ?_;simp only[go_sem];refine jal [0,1,7,8] [] (fun i:Nat=>⟨[(0,.im (.sl (l.map Recall.c))),(1,.im (.clo g caps)),(7,.im (.int l.length)),(8,.im (.int i))],[],[]⟩)
  (fun i=>i<=l.length/\(l.take i).any p=false) (fun i=>l.length-i) 0 ?_ ⟨zE _,rfl⟩ ?_
 ·simp only[Int.natCast_zero,go_sem]
 ·intro i ⟨hi,ha⟩;by_cases hp:(i:Int)<l.length
  ·have hd:decide ((i:Int)<l.length)=true:=za hp;obtain⟨x,hx⟩:=jby hp;have h1:=ja9 (n:=(i:Int)+1) (by omega);have hcx:=hc x;simp only[Recall.c]at hcx;simp only[hd,ze,hx,go_sem];refine jc0 hcx hg ?_;simp only[go_sem];refine jcq (fun he=> ?_) (fun he=> ?_)
   ·simp only[he,go_sem];exact⟨i,rfl,by rw[any_at hx he];simp⟩
   ·simp only[he,go_sem];refine jab (i+1) ?_ (by omega) ⟨by omega,by rw[jex hx,ha,he];rfl⟩;simp only[h1,Int.natCast_add,go_sem]
  ·have hd:decide ((i:Int)<l.length)=false:=zq hp;rw[zt (by omega)]at ha;simp only[hd,go_sem];exact⟨-1,rfl,by rw[ha];rfl⟩
theorem h_crec(l:List Recall)(hl:l.length<=100000)(p:Recall->Bool)(g:Nat)(caps:List IV)(hg:3<=g/\g<G.fns)(hc:∀x:Recall,Ctr G.P g (.agg x.c::caps) (· = .bool (p x))):
  Ctr G.P 160 [.sl (l.map Recall.c),.clo g caps] (· = .bool (l.any p)):=by
 have h:=h_irec l hl p g caps hg hc;refine ja5 [.tmp 4] Tryz.func160 ?_;simp only[go_sem];refine jm3 h ?_;rintro r ⟨k,rfl,hk⟩;rw[<-hk];simp only[go_sem]
theorem h_recalled(l:List Recall)(sc day:Int)(hl:l.length<=100000):Ctr G.P 117 [.sl (l.map Recall.c),.int sc,.int day] (· = .bool (l.any (recF sc day))):=by
 have h:=h_crec l hl (recF sc day) 161 [.ip [.int sc] 0,.ip [.int day] 0] (by decide) (fun x=>h_rec1 x sc day);refine ja5 [.tmp 6] Tryz.func117 ?_;simp only[go_sem];refine ja1 h ?_;simp only[go_sem]
end
section
open Go.Abs
attribute [local go_sem] Cert.c Recall.c ints ic big frac
def zf:IV:= .agg [.int 0,.sl [],.int 0,.sl []]
def errF(c:Cert)(rd day:Int):Rat:=Rat.divInt (c.perMille*rd) 1000+((c.grams+c.drift*(day-c.fr):Int):Rat)
theorem jsz{c:Cert}{rd day:Int}(h:jdz c day=true)(hr:0<=rd/\rd<=1099511627776):
  FL 9 (errF c rd day)/\FL 4 (Rat.divInt (c.perMille*rd) 1000)/\FL 4 ((c.grams+c.drift*(day-c.fr):Int):Rat)/\(0<=c.perMille*rd/\c.perMille*rd<=1099511627776000)/\(0<=c.drift*(day-c.fr)/\c.drift*(day-c.fr)<=1000000000000)/\
  (0<=c.grams/\c.grams<=1099511627776)/\(0<=day-c.fr/\day-c.fr<=100000):=by
 simp only[jdz,jfy,jo5,zr,zK,btw_iff]at h;obtain⟨⟨⟨⟨⟨⟨⟨⟨a1,a2⟩,a3⟩,_⟩,g1,g2⟩,p1,p2⟩,d1,d2⟩,f1⟩,u1⟩:=h;have m1:0<=c.perMille*rd:=qZ p1 hr.1;have m2:c.perMille*rd<=1000*1099511627776:=jY p2 hr.2 hr.1 (by omega);have n1:0<=c.drift*(day-c.fr):=qZ d1 (by omega);have n2:c.drift*(day-c.fr)<=10000000*100000:=jY d2 (by omega) (by omega) (by omega);have k1:FL 4 (Rat.divInt (c.perMille*rd) 1000):=jit (by omega) (jl3 (by omega)) (jl3 (by omega));have k2:FL 4 ((c.grams+c.drift*(day-c.fr):Int):Rat):=jb3 (by omega);exact⟨jfc k1 k2,k1,k2,by omega,by omega,by omega,by omega⟩
def errIV(c:Cert)(rd day:Int):IV:=if(jdz c day&&btw rd 0 1099511627776)=true then .tup [frac (errF c rd day),.bool true]else .tup [zf,.bool false]
theorem h_error(c:Cert)(rd day:Int):Ctr G.P 118 [.agg c.c,.int rd,.int day] (· =errIV c rd day):=by
 have hc:=js4 c day;have hw:=jie rd 1099511627776;unfold errIV;rcases hv:jdz c day with _ | _
 ·rw[hv]at hc;rw[qp,zn yz];unfold zf;simp only[Cert.c]at hc⊢;refine ja5 [.cell 6 35,.tmp 7] Tryz.func118 ?_;simp only[go_sem];refine ja1 hc ?_;simp only[go_sem]
 ·rw[hv]at hc;rw[qe];rcases hb:btw rd 0 1099511627776 with _ | _
  ·rw[hb]at hw;rw[zn yz];unfold zf;simp only[Cert.c]at hc⊢;refine ja5 [.cell 6 35,.tmp 7] Tryz.func118 ?_;simp only[go_sem];refine ja1 hc ?_;simp only[go_sem];refine ja1 hw ?_;simp only[go_sem]
  ·rw[hb]at hw;rw[zm rfl];obtain⟨k0,k1,k2,m1,m2,m3,m4⟩:=jsz hv (btw_iff.1 hb);have ho:=t_poff (c.perMille*rd) 1000 (by omega) (by omega) (by omega);have hi:=jbt (c.grams+c.drift*(day-c.fr)) (by omega);have hs:=f_add (k1.mono (by omega:4<=19000000000)) (k2.mono (by omega:4<=19000000000));have w1:=ja9 (n:=c.perMille*rd) (by omega);have w2:=ja9 (n:=day-c.fr) (by omega);have w3:=ja9 (n:=c.drift*(day-c.fr)) (by omega);have w4:=ja9 (n:=c.grams+c.drift*(day-c.fr)) (by omega);unfold errF;generalize Rat.divInt (c.perMille*rd) 1000=r1 at*;generalize ((c.grams+c.drift*(day-c.fr):Int):Rat)=r2 at*;generalize r1+r2=r3 at*;simp only[Cert.c,big,frac,ints]at hc ho hi hs⊢;refine ja5 [.cell 6 35,.tmp 7] Tryz.func118 ?_;simp only[go_sem];refine ja1 hc ?_;simp only[go_sem];refine ja1 hw ?_;simp only[w1,go_sem];refine ja1 ho ?_;simp only[go_sem];refine jaf ?_;simp only[w2,w3,w4,go_sem];refine ja4 hi (by decide) ?_;simp only[go_sem];refine ja4 hs (by decide) ?_;simp only[go_sem]
def ivlF(cs:List Cert)(rs:List Recall)(sc rd day:Int):Option (Rat×Rat):=
 if(findF cs sc day).2=false then none
 else if rs.any (recF sc day)=true then none
 else match cs[(findF cs sc day).1]? with
  | none=>none
  | some c=>if(jdz c day&&btw rd 0 1099511627776)=true then
    some (if(rd:Rat)-errF c rd day<((0:Int):Rat)then((0:Int):Rat)else(rd:Rat)-errF c rd day,(rd:Rat)+errF c rd day)else none
def ivlIV(r:Option (Rat×Rat)):IV:=match r with
 | none=> .tup [zf,zf,.bool false]
 | some (a,b)=> .tup [frac a,frac b,.bool true]
theorem FL_ivl{cs:List Cert}{rs:List Recall}{sc rd day:Int}{a b:Rat}(h:ivlF cs rs sc rd day=some (a,b)):FL 14 a/\FL 14 b:=by
 unfold ivlF at h;split at h
 ·cases h
 split at h
 ·cases h
 split at h
 ·cases h
 rename_i c _;split at h
 ·rename_i hv;rw[zr]at hv;have hb:=btw_iff.1 hv.2;obtain⟨k0,_⟩:=jsz hv.1 hb;have k4:FL 4 (rd:Rat):=jb3 (by omega);injection h with h;injection h with h1 h2;subst h1 h2;refine⟨?_,(jfc k4 k0).mono (by omega)⟩;split
  ·exact(jb3 (by omega)).mono (by omega)
  ·exact(jsw k4 k0).mono (by omega)
 ·cases h
theorem h_ivl(cs:List Cert)(rs:List Recall)(sc rd day:Int)(l1:cs.length<=100000)(l2:rs.length<=100000):
  Ctr G.P 83 [.sl (cs.map Cert.c),.sl (rs.map Recall.c),.int sc,.int rd,.int day] (· =ivlIV (ivlF cs rs sc rd day)):=by
 have hf:=h_find cs sc day l1;have hr:=h_recalled rs sc day l2;have hsp:=jlf cs sc day cs.length;unfold ivlF;rw[show jeu cs sc day cs.length=findF cs sc day from rfl]at hsp;generalize findF cs sc day=bf at*;obtain⟨b,f⟩:=bf;dsimp only at hf hsp⊢;rcases f with _ | _
 ·rw[zm rfl];unfold ivlIV zf;refine ja5 [.cell 10 35,.cell 11 35,.tmp 12] Tryz.func83 ?_;simp only[go_sem];refine ja1 hf ?_;simp only[go_sem]
 rw[zn (by decide)];rcases ha:rs.any (recF sc day)with _ | _
 ·rw[ha]at hr;rw[zn (by decide)];obtain⟨_,c,hx,_⟩:=hsp rfl;rw[hx];dsimp only;have he:=h_error c rd day;unfold errIV at he;rcases hv:(jdz c day&&btw rd 0 1099511627776)with _ | _
  ·rw[hv,zn yz]at he;rw[zn yz];unfold ivlIV;unfold zf at he⊢;simp only[Cert.c]at he;refine ja5 [.cell 10 35,.cell 11 35,.tmp 12] Tryz.func83 ?_;simp only[go_sem];refine ja1 hf ?_;simp only[go_sem];refine ja1 hr ?_;simp only[ze,hx,go_sem];refine ja1 he ?_;simp only[go_sem]
  ·rw[hv,zm rfl]at he;rw[zm rfl];unfold ivlIV;rw[zr]at hv;have hb:=btw_iff.1 hv.2;obtain⟨k0,_⟩:=jsz hv.1 hb;have k4:FL 4 (rd:Rat):=jb3 (by omega);have o1:=jbt rd (by omega);have o2:=jbt 0 (by omega);have z4:FL 4 ((0:Int):Rat):=jb3 (by omega);generalize errF c rd day=e at*;have s1:=f_sub (k4.mono (by omega:4<=19000000000)) (k0.mono (by omega:9<=19000000000));have s2:=f_add (k4.mono (by omega:4<=19000000000)) (k0.mono (by omega:9<=19000000000));have s3:=f_max ((jsw k4 k0).mono (by omega:14<=19000000000)) (z4.mono (by omega:4<=19000000000));generalize hzz:((0:Int):Rat)=zz at*;generalize (rd:Rat)=rr at*;generalize rr-e=lo at*;generalize rr+e=hi at*;dsimp only;generalize (if lo<zz then zz else lo)=mx at*;simp only[Cert.c,big,frac,ints]at he o1 o2 s1 s2 s3⊢;refine ja5 [.cell 10 35,.cell 11 35,.tmp 12] Tryz.func83 ?_;simp only[go_sem];refine ja1 hf ?_;simp only[go_sem];refine ja1 hr ?_;simp only[ze,hx,go_sem];refine ja1 he ?_;simp only[go_sem];refine ja1 o1 ?_;simp only[go_sem];refine ja1 s1 ?_;simp only[go_sem];refine ja1 s2 ?_;simp only[go_sem];refine jaf ?_;simp only[go_sem];refine ja4 o2 (by decide) ?_;simp only[go_sem];refine ja4 s3 (by decide) ?_;simp only[go_sem];refine DrawE_of ?_;refine jt2 0 1 (by decide+kernel) rfl rfl ?_ ?_
   ·simp only[go_sem];refine jt2 1 2 (by decide+kernel) rfl rfl ?_ ?_
    ·simp only[go_sem];refine jeg 2 (by decide+kernel) rfl ?_;simp only[go_sem];refine jeg 3 (by decide+kernel) rfl ?_;simp only[go_sem];refine jeg 4 (by decide+kernel) rfl ?_;simp only[go_sem];refine joj (by decide+kernel) ?_;simp only[go_sem]
    ·simp only[go_sem];refine jeg 1 (by decide+kernel) rfl ?_;simp only[go_sem];refine jeg 3 (by decide+kernel) rfl ?_;simp only[go_sem];refine jeg 4 (by decide+kernel) rfl ?_;simp only[go_sem];refine joj (by decide+kernel) ?_;simp only[go_sem]
   ·simp only[go_sem];refine jeg 0 (by decide+kernel) rfl ?_;simp only[go_sem];refine jeg 2 (by decide+kernel) rfl ?_;simp only[go_sem];refine jeg 3 (by decide+kernel) rfl ?_;simp only[go_sem];refine jeg 4 (by decide+kernel) rfl ?_;simp only[go_sem];refine joj (by decide+kernel) ?_;simp only[go_sem]
 ·rw[ha]at hr;rw[zm rfl];unfold ivlIV zf;refine ja5 [.cell 10 35,.cell 11 35,.tmp 12] Tryz.func83 ?_;simp only[go_sem];refine ja1 hf ?_;simp only[go_sem];refine ja1 hr ?_;simp only[go_sem]
end
section
open Go.Abs
attribute [local go_sem] Evid.iv Evid.c Move.c Cert.c Recall.c Purity.c ints ic big frac fc
def negF(r:Rat):Bool:=decide (r.num.sign<0)
theorem h_negative(l:List Rat)(hl:l.length<=100000)(hf:∀r∈l,FL 19000000000 r):Ctr G.P 41 [fcs l] (· = .bool (l.any negF)):=by
 unfold fcs;refine ja5 [.tmp 2] Tryz.func41 ?_;simp only[go_sem];refine jal [5,6,7] [] (fun i:Nat=>⟨[(5,.im (.sl (l.map fc))),(6,.im (.int l.length)),(7,.im (.int i))],[],[]⟩)
  (fun i=>i<=l.length/\(l.take i).any negF=false) (fun i=>l.length-i) 0 ?_ ⟨zE _,rfl⟩ ?_
 ·simp only[Int.natCast_zero,go_sem]
 ·intro i ⟨hi,ha⟩;by_cases hp:(i:Int)<l.length
  ·have hd:decide ((i:Int)<l.length)=true:=za hp;obtain⟨x,hx⟩:=jby hp;have h1:=ja9 (n:=(i:Int)+1) (by omega);have hs:=jgl (hf x (zk hx));have hat:=jex (f:=negF) hx;simp only[frac,ints]at hs;rcases hn:negF x with _ | _
   ·have hn':decide (x.num.sign<0)=false:=hn;simp only[hd,ze,hx,go_sem];refine ja1 hs ?_;simp only[hn',go_sem];refine jab (i+1) ?_ (by omega) ⟨by omega,by rw[hat,ha,hn];rfl⟩;simp only[h1,Int.natCast_add,go_sem]
   ·have hn':decide (x.num.sign<0)=true:=hn;rw[any_at hx hn];simp only[hd,ze,hx,go_sem];refine ja1 hs ?_;simp only[hn',go_sem]
  ·have hd:decide ((i:Int)<l.length)=false:=zq hp;rw[zt (by omega)]at ha;rw[ha];simp only[hd,go_sem]
def sumF(l:List Rat):Rat:=l.foldl (· + ·) ((0:Int):Rat)
theorem jow{l:List Rat}{i:Nat}{x:Rat}(h:l[i]? =some x):sumF (l.take (i+1))=sumF (l.take i)+x:=by
 rw[take_succ h,sumF,List.foldl_append];rfl
theorem FL_fold{k:Nat}:∀(l:List Rat) (a:Rat) (m:Nat),(∀r∈l,FL k r)->FL m a->FL (m+l.length*(k+1)) (l.foldl (· + ·) a)
 | [],a,m,_,ha=>ha.mono (by omega)
 | x::r,a,m,h,ha=>by
  have:=FL_fold r (a+x) (m+k+1) (fun y hy=>h y (by simp[hy])) (jfc ha (h x (by simp)));refine this.mono ?_;rw[List.length_cons,qD];omega
theorem FL_sumF{k:Nat}{l:List Rat}(h:∀r∈l,FL k r):FL (4+l.length*(k+1)) (sumF l):=FL_fold l _ 4 h (jb3 (by omega))
theorem h_sum(l:List Rat)(hl:l.length<=100)(hf:∀r∈l,FL 100000000 r):Ctr G.P 43 [fcs l] (· =frac (sumF l)):=by
 have o1:=jbt 0 (by omega);have hz:((0:Int):Rat)=sumF (l.take 0):=by rw[List.take_zero];rfl
 rw[hz]at o1;unfold fcs;simp only[frac,ints]at o1⊢;refine ja5 [.cell 2 35] Tryz.func43 ?_;simp only[go_sem];refine ja1 o1 ?_;simp only[go_sem];refine jal [2,3,7,8,9] [2,3] (fun i:Nat=>⟨[(2,.loc 2 4 0 0),(3,.loc 3 4 0 0),(7,.im (.sl (l.map fc))),(8,.im (.int l.length)),(9,.im (.int i))],[(3,4,[fc (sumF (l.take i))]),(2,4,[[.int 0,.sl [],.int 0,.sl []]])],[]⟩)
  (fun i=>i<=l.length) (fun i=>l.length-i) 0 ?_ (zE _) ?_
 ·simp only[Int.natCast_zero,go_sem]
 ·intro i hi;by_cases hp:(i:Int)<l.length
  ·have hd:decide ((i:Int)<l.length)=true:=za hp;obtain⟨x,hx⟩:=jby hp;have h1:=ja9 (n:=(i:Int)+1) (by omega);have hk:FL 19000000000 (sumF (l.take i)):=by
    refine(FL_sumF (k:=100000000) fun r hr=>hf r (q8 hr)).mono ?_;rw[qi];have:min i l.length*100000001<=100*100000001:=qL (by omega) (zB _);omega
   have hs:=f_add hk ((hf x (zk hx)).mono (by omega:100000000<=19000000000));rw[<-jow hx]at hs;simp only[frac,ints]at hs;simp only[hd,ze,hx,go_sem];refine ja1 hs ?_;simp only[go_sem];refine jab (i+1) ?_ (by omega) (by omega);simp only[h1,Int.natCast_add,go_sem]
  ·have hd:decide ((i:Int)<l.length)=false:=zq hp;rw[zt (by omega)];simp only[hd,go_sem]
