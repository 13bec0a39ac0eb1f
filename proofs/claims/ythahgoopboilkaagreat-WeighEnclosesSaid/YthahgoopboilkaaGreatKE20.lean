/- A part of the proof. No further condition. -/
import Derived.Test.YthahgoopboilkaaGreatKE19
set_option linter.all false
set_option maxRecDepth 10000000
set_option maxHeartbeats 16000000
namespace Go.LP
section
def Free(D:Dic)(k:Nat):Prop:=∃j,j<D.n/\D.free j=k
def SameV(D E:Dic):Prop:=∀k,(Own D k\/Free D k)↔(Own E k\/Free E k)
theorem SameV.refl(D:Dic):SameV D D:=fun _=>Iff.rfl
theorem SameV.trans{D E F:Dic}(h:SameV D E)(h':SameV E F):SameV D F:=fun k=>(h k).trans (h' k)
theorem SameV.symm{D E:Dic}(h:SameV D E):SameV E D:=fun k=>(h k).symm
theorem free_pivot{D:Dic}{r s k:Nat}(hs:s<D.n):Free (D.pivot r s) k↔(k=D.own r\/∃j,j<D.n/\j≠s/\D.free j=k):=by
 constructor
 ·rintro⟨j,hj,e⟩;simp only[Dic.pivot]at hj e;split at e
  ·exact .inl e.symm
  ·exact .inr ⟨j,hj,‹_›,e⟩
 ·rintro(e | ⟨j,hj,hne,e⟩)
  ·exact⟨s,hs,by simp[Dic.pivot,e]⟩
  ·exact⟨j,hj,by simp[Dic.pivot,hne,e]⟩
theorem jkp{D:Dic}(hD:D.Ok){r s:Nat}(hr:r<D.m)(hs:s<D.n):SameV D (D.pivot r s):=by
 intro k;rw[free_pivot hs];constructor
 ·rintro(⟨i,hi,e⟩ | ⟨j,hj,e⟩)
  ·by_cases h:i=r
   ·subst h;exact .inr (.inl e.symm)
   ·exact .inl ⟨i,hi,by simp[Dic.pivot,h,e]⟩
  ·by_cases h:j=s
   ·subst h;exact .inl ⟨r,hr,by simp[Dic.pivot,e]⟩
   ·exact .inr (.inr ⟨j,hj,h,e⟩)
 ·rintro(⟨i,hi,e⟩ | e | ⟨j,hj,_,e⟩)
  ·simp only[Dic.pivot]at hi e;split at e
   ·exact .inr ⟨s,hs,e⟩
   ·exact .inl ⟨i,hi,e⟩
  ·exact .inl ⟨r,hr,e.symm⟩
  ·exact .inr ⟨j,hj,e⟩
theorem jsd{D E:Dic}(hD:D.Ok)(hq:Eqv D E)(hE:E.Ok){s:Nat}(hs:s<D.n)(h0:∀j,j<E.n->D.dir s (E.free j)=0):∀i,i<E.m->D.dir s (E.own i)=0:=by
 intro i hi;have h1:=pt_sat hD;have h2:=(hq.sat _).1 h1 i hi;have h3:=(hq.sat _).1 (dir_sat hD hs h1 1) i hi;unfold Dic.row at h2 h3;have e:S E.n (fun j=>E.a i j*(D.pt (E.free j)+1*D.dir s (E.free j)))=S E.n (fun j=>E.a i j*D.pt (E.free j)):=S_congr fun j hj=>by rw[h0 j hj];grind
 rw[e]at h3;grind
def cntP(p:Nat->Prop)[DecidablePred p]:Nat->Nat
 | 0=>0
 | n+1=>cntP p n+(if p n then 1 else 0)
theorem cntP_le{p q:Nat->Prop}[DecidablePred p][DecidablePred q]:∀{n:Nat},(∀k,k<n->p k->q k)->cntP p n<=cntP q n
 | 0,_=>zB _
 | n+1,h=>by
  have ih:=cntP_le (n:=n) fun k hk=>h k (by omega);have:=h n (by omega);simp only[cntP];by_cases hp:p n
  ·rw[zm hp,zm (this hp)];omega
  ·rw[zn hp];split<;>omega
theorem cntP_lt{p q:Nat->Prop}[DecidablePred p][DecidablePred q]{i:Nat}:∀{n:Nat},i<n->(∀k,k<n->p k->q k)->¬p i->q i->cntP p n<cntP q n
 | n+1,hi,h,hp,hq=>by
  simp only[cntP];by_cases e:i=n
  ·subst e;have ih:=cntP_le (n:=i) (p:=p) (q:=q) fun k hk=>h k (by omega);rw[zn hp,zm hq];omega
  ·have ih:=cntP_lt (n:=n) (by omega) (fun k hk=>h k (by omega)) hp hq;have:=h n (by omega);by_cases hpn:p n
   ·rw[zm hpn,zm (this hpn)];omega
   ·rw[zn hpn];split<;>omega
open Classical in
noncomputable def dist(D E:Dic):Nat:=cntP (fun i=>¬Own D (E.own i)) E.m
inductive Path:Dic->Nat->Dic->Prop
 | nil (D:Dic):Path D 0 D
 | step (D:Dic) (r s t:Nat) (E:Dic):r<D.m->s<D.n->D.a r s≠0->Path (D.pivot r s) t E->Path D (t+1) E
theorem jek{D:Dic}(hD:D.Ok){k:Nat}(h1:Own D k)(h2:Free D k):False:=by
 obtain⟨i,hi,e⟩:=h1;obtain⟨j,hj,e'⟩:=h2;exact hD.apart i j hi hj (e.trans e'.symm)
theorem near_of{D E:Dic}(hD:D.Ok)(hE:E.Ok)(hq:Eqv D E)(hv:SameV D E)(h0:∀i,i<E.m->Own D (E.own i)):∀k,Own D k->Own E k:=by
 intro k ⟨r,hr,e⟩;subst e;rcases(hv (D.own r)).1 (.inl ⟨r,hr,rfl⟩)with h | ⟨s,hs,e⟩
 ·exact h
 ·exfalso;have h1:∀j,j<D.n->E.dir s (D.free j)=0:=by
   intro j hj;rcases(hv (D.free j)).1 (.inr ⟨j,hj,rfl⟩)with ⟨i,hi,e'⟩ | ⟨j',hj',e'⟩
   ·exact(jek hD (h0 i hi) ⟨j,hj,e'.symm⟩).elim
   ·rw[<-e',jfg hE hj' hs,zn];intro h;subst h;exact hD.apart r j hr hj (e.symm.trans e')
  have h2:=jsd hE hq.symm hD hs h1 r hr;rw[<-e,jfg hE hs hs,zm rfl]at h2;exact absurd h2 (by decide)
open Classical in
theorem jpe:∀(t:Nat) (D E:Dic),D.Ok->E.Ok->Eqv D E->SameV D E->dist D E<=t->∃(t':Nat) (F:Dic),t'<=t/\Path D t' F/\F.Ok/\Eqv F E/\SameV F E/\∀k,Own F k↔Own E k
 | t,D,E,hD,hE,hq,hv,ht=>by
  by_cases h0:∀i,i<E.m->Own D (E.own i)
  ·exact⟨0,D,zE _,.nil D,hD,hq,hv,fun k=>⟨near_of hD hE hq hv h0 k,fun⟨i,hi,e⟩=>e▸h0 i hi⟩⟩
  ·obtain⟨i0,hi0,hno⟩:∃i,i<E.m/\¬Own D (E.own i):=by
    refine jy fun hc=>h0 fun i hi=>jy fun h=>hc ⟨i,hi,h⟩
   obtain⟨s,hs,es⟩:Free D (E.own i0):=((hv (E.own i0)).2 (.inl ⟨i0,hi0,rfl⟩)).resolve_left hno;obtain⟨r,hr,hrE,hrs⟩:∃r,r<D.m/\¬Own E (D.own r)/\D.a r s≠0:=by
    refine jy fun hc=> ?_;have h1:∀j,j<E.n->D.dir s (E.free j)=0:=by
     intro j hj;rcases(hv (E.free j)).2 (.inr ⟨j,hj,rfl⟩)with ⟨i,hi,e'⟩ | ⟨j',hj',e'⟩
     ·rw[<-e',jlo hD hi];have:D.a i s=0:=jy fun h=>hc ⟨i,hi,fun ho=>jek hE ho ⟨j,hj,e'.symm⟩,h⟩;rw[this];grind
     ·rw[<-e',jfg hD hj' hs,zn];intro h;subst h;exact hE.apart i0 j hi0 hj (es.symm.trans e')
    have h2:=jsd hD hq hE hs h1 i0 hi0;rw[<-es,jfg hD hs hs,zm rfl]at h2;exact absurd h2 (by decide)
   have hD':=jnl hD hr hs;have hq':Eqv (D.pivot r s) E:=(jli hr hs hrs).symm.trans hq;have hv':SameV (D.pivot r s) E:=(jkp hD hr hs).symm.trans hv;have hd':dist (D.pivot r s) E<dist D E:=by
    refine cntP_lt hi0 (fun k hk hp ho=>hp ?_) (fun h=>h ?_) hno
    ·by_cases e1:E.own k=D.own r
     ·exact(hrE (e1▸⟨k,hk,rfl⟩)).elim
     ·by_cases e2:E.own k=D.free s
      ·rw[e2];exact own_in hr
      ·exact(jpf hD hr hs e1 e2).2 ho
    ·rw[<-es];exact own_in hr
   cases t with
   | zero=>omega
   | succ t=>
    obtain⟨t',F,h1,h2,h3⟩:=jpe t (D.pivot r s) E hD' hE hq' hv' (by omega);exact⟨t'+1,F,by omega,.step D r s t' F hr hs hrs h2,h3⟩
open Classical in
theorem dist_le_n{D E:Dic}(hE:E.Ok)(hv:SameV D E):dist D E<=D.n:=by
 have key:∀(k n:Nat) (f:Nat->Nat) (p:Nat->Prop) [DecidablePred p],(∀i,i<k->p i->∃j,j<n/\f i=j)->(∀i i',i<k->i'<k->p i->p i'->f i=f i'->i=i')->cntP p k<=n:=by
  intro k
  induction k with
  | zero=>intros;exact zE _
  | succ k ih=>
   intro n f p _ h1 h2;simp only[cntP];by_cases hp:p k
   ·rw[zm hp];obtain⟨j,hj,e⟩:=h1 k (by omega) hp;obtain⟨n',rfl⟩:∃n',n=n'+1:=⟨n-1,by omega⟩;have:=ih n' (fun i=>if f i=n' then j else f i) p (fun i hi hpi=>⟨_,?_,rfl⟩) (fun i i' hi hi' hpi hpi' e'=> ?_)
    ·omega
    ·obtain⟨j',hj',e'⟩:=h1 i (by omega) hpi;have hne:f i≠f k:=fun e2=>by have:=h2 i k (by omega) (by omega) hpi hp e2;omega
     split<;>omega
    ·have hne:f i≠f k:=fun e2=>by have:=h2 i k (by omega) (by omega) hpi hp e2;omega
     have hne':f i'≠f k:=fun e2=>by have:=h2 i' k (by omega) (by omega) hpi' hp e2;omega
     obtain⟨a1,a2,a3⟩:=h1 i (by omega) hpi;obtain⟨b1,b2,b3⟩:=h1 i' (by omega) hpi';refine h2 i i' (by omega) (by omega) hpi hpi' ?_;split at e'<;>split at e'<;>omega
   ·rw[zn hp];exact ih n f p (fun i hi=>h1 i (by omega)) fun i i' hi hi'=>h2 i i' (by omega) (by omega)
 have hF:∀i,i<E.m->¬Own D (E.own i)->Free D (E.own i):=fun i hi hn=>((hv (E.own i)).2 (.inl ⟨i,hi,rfl⟩)).resolve_left hn;unfold dist;have pick:∀i,∃j,(i<E.m/\¬Own D (E.own i))->j<D.n/\D.free j=E.own i:=fun i=>by
  by_cases h:i<E.m/\¬Own D (E.own i)
  ·obtain⟨j,hj⟩:=hF i h.1 h.2;exact⟨j,fun _=>hj⟩
  ·exact⟨0,fun h'=>absurd h' h⟩
 refine @key E.m D.n (fun i=>Classical.choose (pick i)) _ _ (fun i hi hp=>⟨_,(vc (pick i) ⟨hi,hp⟩).1,rfl⟩) fun i i' hi hi' hp hp' e=> ?_;have a:=(vc (pick i) ⟨hi,hp⟩).2;have b:=(vc (pick i') ⟨hi',hp'⟩).2;rw[e,b]at a;exact hE.own i i' hi hi' a.symm
theorem same_v{D E:Dic}(hD:D.Ok)(hE:E.Ok)(hq:Eqv D E)(hv:SameV D E)(ho:∀k,Own D k↔Own E k){i i':Nat}(hi:i<D.m)(hi':i'<E.m)(e:D.own i=E.own i'):D.v i=E.v i':=by
 have h1:=(hq.sat _).1 (pt_sat hD) i' hi';unfold Dic.row at h1;have h2:S E.n (fun j=>E.a i' j*D.pt (E.free j))=0:=jfj fun j hj=>by
  have:Free D (E.free j):=((hv (E.free j)).2 (.inr ⟨j,hj,rfl⟩)).resolve_left fun h=>jek hE ((ho _).1 h) ⟨j,hj,rfl⟩;obtain⟨j',hj',e'⟩:=this;rw[<-e',jqg hD hj'];grind
 rw[h2,<-e,jrf hD hi]at h1;grind
theorem dir_of{D E:Dic}(hD:D.Ok)(hE:E.Ok)(hv:SameV D E)(ho:∀k,Own D k↔Own E k){s s':Nat}(hs:s<D.n)(hs':s'<E.n)(e:D.free s=E.free s'):∀j,j<E.n->D.dir s (E.free j)=if j=s' then 1 else 0:=by
 intro j hj;have:Free D (E.free j):=((hv (E.free j)).2 (.inr ⟨j,hj,rfl⟩)).resolve_left fun h=>jek hE ((ho _).1 h) ⟨j,hj,rfl⟩;obtain⟨j',hj',e'⟩:=this;rw[<-e',jfg hD hj' hs];by_cases h:j=s'
 ·subst h;rw[zm rfl,zm (hD.free j' s hj' hs (e'.trans e.symm))]
 ·rw[zn h,zn];intro h';subst h';exact h (hE.free j s' hj hs' (e'.symm.trans e))
theorem same_a{D E:Dic}(hD:D.Ok)(hE:E.Ok)(hq:Eqv D E)(hv:SameV D E)(ho:∀k,Own D k↔Own E k){i i' s s':Nat}(hi:i<D.m)(hi':i'<E.m)(hs:s<D.n)(hs':s'<E.n)(e:D.own i=E.own i')(e':D.free s=E.free s'):D.a i s=E.a i' s':=by
 have hx:=pt_sat hD;have h1:=(hq.sat _).1 hx i' hi';have h2:=(hq.sat _).1 (dir_sat hD hs hx 1) i' hi';unfold Dic.row at h1 h2;have hd:=dir_of hD hE hv ho hs hs' e';have h3:S E.n (fun j=>E.a i' j*(D.pt (E.free j)+1*D.dir s (E.free j)))=S E.n (fun j=>E.a i' j*D.pt (E.free j))+S E.n (fun j=>E.a i' j*D.dir s (E.free j)):=by
  rw[<-S_add];exact S_congr fun j hj=>by grind
 have h4:S E.n (fun j=>E.a i' j*D.dir s (E.free j))=E.a i' s':=by
  rw[S_one hs' fun j hj hne=>by rw[hd j hj,zn hne];grind];rw[hd s' hs',zm rfl];grind
 dsimp only at h2;rw[h3,h4,<-e,jlo hD hi]at h2;rw[<-e]at h1;grind
theorem same_g{D E:Dic}(hD:D.Ok)(hE:E.Ok)(hq:Eqv D E)(hv:SameV D E)(ho:∀k,Own D k↔Own E k){s s':Nat}(hs:s<D.n)(hs':s'<E.n)(e':D.free s=E.free s'):D.g s=E.g s':=by
 obtain⟨c,hc⟩:=hq.lin;have hx:=pt_sat hD;have h1:=hc _ hx;have h2:=hc _ (dir_sat hD hs hx 1);have hd:=dir_of hD hE hv ho hs hs' e';rw[lin_add,lin_add,dir_lin hD hs]at h2;have h4:E.lin (D.dir s)=E.g s':=by
  unfold Dic.lin;rw[S_one hs' fun j hj hne=>by rw[hd j hj,zn hne];grind];rw[hd s' hs',zm rfl];grind
 rw[h4]at h2;grind
def Ov(B q:Nat)(x:Rat):Prop:=∃z:Int,x*(q:Rat)=(z:Rat)/\z.natAbs<=B
structure Small(B:Nat)(q:Nat)(D:Dic):Prop where
 q0:0<q
 qB:q<=B
 v:∀i,i<D.m->Ov B q (D.v i)
 g:∀j,j<D.n->Ov B q (D.g j)
 a:∀i j,i<D.m->j<D.n->Ov B q (D.a i j)
theorem jdv{a b:Int}{A B:Nat}(ha:a.natAbs<=A)(hb:b.natAbs<=B):(a*b).natAbs<=A*B:=by
 rw[jk];exact qL ha hb
theorem jil(a b:Int):((a*b:Int):Rat)=(a:Rat)*(b:Rat):=jO a b
theorem cast_sub(a b:Int):((a-b:Int):Rat)=(a:Rat)-(b:Rat):=Rat.intCast_sub a b
theorem Ov.mono{B C q:Nat}{x:Rat}(h:Ov B q x)(hB:B<=C):Ov C q x:=by
 obtain⟨z,h1,h2⟩:=h;exact⟨z,h1,qn h2 hB⟩
theorem Ov_zero{B q:Nat}:Ov B q 0:=⟨0,by rw[show((0:Int):Rat)=0 from rfl];grind,zE _⟩
theorem Ov_one{B q:Nat}(h:q<=B):Ov B q 1:=⟨(q:Int),by rw[show(((q:Int)):Rat)=(q:Rat)from rfl];grind,by rw[Int.natAbs_natCast];exact h⟩
theorem jsp(p:Int):∃s:Int,s.natAbs<=1/\((p.natAbs:Nat):Rat)=(s:Rat)*(p:Rat):=by
 rcases Int.natAbs_eq p with h | h
 ·refine⟨1,by decide,?_⟩;have e:((p.natAbs:Nat):Rat)=(((p.natAbs:Nat):Int):Rat):=rfl;rw[e,<-h,show((1:Int):Rat)=1 from rfl];grind
 ·refine⟨-1,by decide,?_⟩;have e:((p.natAbs:Nat):Rat)=(((p.natAbs:Nat):Int):Rat):=rfl;have h':((p.natAbs:Nat):Int)= -p:=by omega
  rw[e,h',<-jO];congr 1;omega
theorem jqs{B q:Nat}{a u w:Rat}{p:Int}(hq:q<=B)(ha:a*(q:Rat)=(p:Rat))(hw:w*a=u)(hu:Ov B q u):Ov (2*B*B) (q*p.natAbs) w:=by
 obtain⟨z,h1,h2⟩:=hu;obtain⟨s,hs,e⟩:=jsp p;refine⟨s*((q:Int)*z),?_,?_⟩
 ·rw[Rat.natCast_mul,e,jil,jil,show(((q:Int)):Rat)=(q:Rat)from rfl,<-h1,<-hw,<-ha];grind
 ·have h3:(((q:Int))*z).natAbs<=B*B:=jdv (by rw[Int.natAbs_natCast];exact hq) h2;have h4:=jdv hs h3;have h5:1*(B*B)<=2*B*B:=by rw[jf];exact qy _ (by omega)
  exact qn h4 h5
theorem jir{B q:Nat}{a u w x y:Rat}{p:Int}(hp:p.natAbs<=B)(ha:a*(q:Rat)=(p:Rat))(hw:w*a=u)(hu:Ov B q u)(hx:Ov B q x)(hy:Ov B q y):Ov (2*B*B) (q*p.natAbs) (x-y*w):=by
 obtain⟨z,h1,h2⟩:=hu;obtain⟨zx,x1,x2⟩:=hx;obtain⟨zy,y1,y2⟩:=hy;obtain⟨s,hs,e⟩:=jsp p;refine⟨s*(zx*p-zy*z),?_,?_⟩
 ·rw[Rat.natCast_mul,e,jil,cast_sub,jil,jil,<-h1,<-x1,<-y1,<-hw,<-ha];grind
 ·have h3:=jdv x2 hp;have h4:=jdv y2 h2;have h5:(zx*p-zy*z).natAbs<=2*B*B:=by rw[jf,Nat.two_mul];omega
  have:=jdv hs h5;omega
theorem small_pivot{D:Dic}{r s B q:Nat}(hr:r<D.m)(hs:s<D.n)(hp:D.a r s≠0)(h:Small B q D):∃q',Small (2*B*B) q' (D.pivot r s):=by
 obtain⟨p,hpe,hpB⟩:=h.a r s hr hs;have hp0:p≠0:=by
  intro e;rw[e,show((0:Int):Rat)=0 from rfl]at hpe;rcases Rat.mul_eq_zero.1 hpe with h1 | h1
  ·exact hp h1
  ·have h2:q=0:=by exact_mod_cast h1
   have:=h.q0;omega
 have hB1:1<=B:=qn h.q0 h.qB;have hqu:∀u:Rat,u/D.a r s*D.a r s=u:=fun u=>Rat.div_mul_cancel hp;refine⟨q*p.natAbs,Nat.mul_pos h.q0 (by omega),?_,fun i hi=> ?_,fun j hj=> ?_,fun i j hi hj=> ?_⟩
 ·have h1:=qL h.qB hpB;have h2:1*(B*B)<=2*B*B:=by rw[jf];exact qy _ (by omega)
  omega
 ·show Ov _ _ (if i=r then D.v r/D.a r s else D.v i-D.a i s*(D.v r/D.a r s));split
  ·exact jqs h.qB hpe (hqu _) (h.v r hr)
  ·exact jir hpB hpe (hqu _) (h.v r hr) (h.v i hi) (h.a i s hi hs)
 ·show Ov _ _ (exch _ _ s D.g j);unfold exch;split
  ·exact jir hpB hpe (hqu _) (Ov_one h.qB) Ov_zero (h.g s hs)
  ·exact jir hpB hpe (hqu _) (h.a r j hr hj) (h.g j hj) (h.g s hs)
 ·simp only[Dic.pivot];by_cases e:i=r
  ·rw[zm e];split
   ·exact jqs h.qB hpe (hqu _) (Ov_one h.qB)
   ·exact jqs h.qB hpe (hqu _) (h.a r j hr hj)
  ·rw[zn e];unfold exch;split
   ·exact jir hpB hpe (hqu _) (Ov_one h.qB) Ov_zero (h.a i s hi hs)
   ·exact jir hpB hpe (hqu _) (h.a r j hr hj) (h.a i j hi hj) (h.a i s hi hs)
theorem path_small{D E:Dic}{t:Nat}(h:Path D t E):∀{e q:Nat},Small (2^e) q D->∃q',Small (2^(2^t*(e+1)-1)) q' E:=by
 induction h with
 | nil D=>intro e q h;exact⟨q,by simpa using h⟩
 | step D r s t E hr hs hp _ ih=>
  intro e q h;obtain⟨q1,h1⟩:=small_pivot hr hs hp h;rw[show 2*2^e*2^e=2^(2*e+1)by rw[Nat.pow_succ,Nat.two_mul e,Nat.pow_add,yl 2,jf,yl 2];exact(jf _ _ _).symm]at h1;obtain⟨q2,h2⟩:=ih h1;refine⟨q2,?_⟩
  rwa [show 2^t*(2*e+1+1)=2^(t+1)*(e+1)by rw[Nat.pow_succ,jf];congr 1]at h2
theorem Small.mono{B C q:Nat}{D:Dic}(h:Small B q D)(hB:B<=C):Small C q D:=
 ⟨h.q0,qn h.qB hB,fun i hi=>(h.v i hi).mono hB,fun j hj=>(h.g j hj).mono hB,fun i j hi hj=>(h.a i j hi hj).mono hB⟩
theorem small_all{D E:Dic}{e q:Nat}(hD:D.Ok)(hE:E.Ok)(hq:Eqv D E)(hv:SameV D E)(h:Small (2^e) q D):∃q',Small (2^(2^D.n*(e+1))) q' E:=by
 obtain⟨t,F,ht,hp,hF,hFE,hFv,ho⟩:=jpe D.n D E hD hE hq hv (dist_le_n hE hv);obtain⟨q',h'⟩:=path_small hp h;have hle:2^(2^t*(e+1)-1)<=2^(2^D.n*(e+1)):=q7 (by decide) (by
  have:2^t*(e+1)<=2^D.n*(e+1):=qy _ (q7 (by decide) ht);omega)
 have h':=h'.mono hle;have row:∀i,i<E.m->∃i',i'<F.m/\F.own i'=E.own i:=fun i hi=>(ho (E.own i)).2 ⟨i,hi,rfl⟩;have col:∀j,j<E.n->∃j',j'<F.n/\F.free j'=E.free j:=fun j hj=>((hFv (E.free j)).2 (.inr ⟨j,hj,rfl⟩)).resolve_left fun h=>jek hE ((ho _).1 h) ⟨j,hj,rfl⟩;refine⟨q',h'.q0,h'.qB,fun i hi=> ?_,fun j hj=> ?_,fun i j hi hj=> ?_⟩
 ·obtain⟨i',hi',e'⟩:=row i hi;rw[<-same_v hF hE hFE hFv ho hi' hi e'];exact h'.v i' hi'
 ·obtain⟨j',hj',e'⟩:=col j hj;rw[<-same_g hF hE hFE hFv ho hj' hj e'];exact h'.g j' hj'
 ·obtain⟨i',hi',e1⟩:=row i hi;obtain⟨j',hj',e2⟩:=col j hj;rw[<-same_a hF hE hFE hFv ho hi' hi hj' hj e1 e2];exact h'.a i' j' hi' hj'
end
section
def Reach(D:Dic)(T:Nat)(E:Dic):Prop:=∃(F:Nat->Dic) (r s:Nat->Nat),Run F r s T/\F 0=D/\F T=E
section
variable{D E:Dic}{T r s K:Nat}
theorem Reach.zero(hD:D.Ok):Reach D 0 D:=⟨fun _=>D,fun _=>0,fun _=>0,⟨hD,fun t ht=>absurd ht (by omega),fun t ht=>absurd ht (by omega)⟩,rfl,rfl⟩
theorem Reach.step(h:Reach D T E)(hr:Rule E r s):Reach D (T+1) (E.pivot r s):=by
 obtain⟨F,r',s',hR,h0,hT⟩:=h;refine⟨fun t=>if t<=T then F t else E.pivot r s,fun t=>if t<T then r' t else r,fun t=>if t<T then s' t else s,⟨?_,fun t ht=> ?_,fun t ht=> ?_⟩,?_,?_⟩
 ·show(if 0<=T then F 0 else _).Ok;rw[zm (zE _)];exact hR.ok
 ·show Rule (if t<=T then F t else _) (if t<T then r' t else r) (if t<T then s' t else s);rw[zm (by omega)];by_cases h1:t<T
  ·rw[zm h1,zm h1];exact hR.rule t h1
  ·have e:t=T:=by omega
   subst e;rw[zn h1,zn h1,hT];exact hr
 ·show(if t+1<=T then F (t+1)else _)=(if t<=T then F t else _).pivot (if t<T then r' t else r) (if t<T then s' t else s);rw[zm (by omega:t<=T)];by_cases h1:t<T
  ·rw[zm h1,zm h1,zm (by omega)];exact hR.next t h1
  ·have e:t=T:=by omega
   subst e;rw[zn h1,zn h1,zn (by omega),hT]
 ·show(if 0<=T then F 0 else _)=D;rw[zm (zE _)];exact h0
 ·show(if T+1<=T then F (T+1)else _)=_;rw[zn (by omega)]
theorem Run.facts{F:Nat->Dic}{r s:Nat->Nat}(h:Run F r s T):∀t,t<=T->(F t).Ok/\Eqv (F 0) (F t)/\SameV (F 0) (F t)/\(F t).m=(F 0).m/\(F t).n=(F 0).n
 | 0,_=>⟨h.ok,Eqv.refl _,SameV.refl _,rfl,rfl⟩
 | t+1,ht=>by
  obtain⟨h1,h2,h3,h4,h5⟩:=h.facts t (by omega);have hr:=h.rule t (by omega);rw[h.next t (by omega)];exact⟨jnl h1 hr.hr hr.hs,h2.trans (jli hr.hr hr.hs hr.ne),h3.trans (jkp h1 hr.hr hr.hs),h4,h5⟩
theorem Reach.facts(h:Reach D T E):E.Ok/\Eqv D E/\SameV D E/\E.m=D.m/\E.n=D.n:=by
 obtain⟨F,r',s',hR,rfl,rfl⟩:=h;exact hR.facts T (zB _)
theorem Reach.bound(h:Reach D T E)(hK:∀k,(Own D k\/Free D k)->k<K):T<2^K:=by
 obtain⟨F,r',s',hR,rfl,rfl⟩:=h;refine hR.ends K T F r' s' fun t ht=> ?_;obtain⟨_,_,h3,_,_⟩:=hR.facts t (by omega);have hr:=hR.rule t ht;exact⟨hK _ ((h3 _).2 (.inl ⟨_,hr.hr,rfl⟩)),hK _ ((h3 _).2 (.inr ⟨_,hr.hs,rfl⟩))⟩
end
inductive Final(E:Dic):Int->Int->Prop
 | best:(∀i,i<E.m->0<=E.v i)->(∀j,j<E.n->E.g j<=0)->Final E (-1) (-1)
 | none (r:Nat):r<E.m->E.v r<0->(∀i,i<E.m->E.v i<0->E.own r<=E.own i)->(∀j,j<E.n->0<E.g j->E.own r<E.free j)->(∀j,j<E.n->0<=E.a r j)->Final E r (-1)
 | free (s:Nat):s<E.n->0<E.g s->(∀j,j<E.n->0<E.g j->E.free s<=E.free j)->(∀i,i<E.m->E.v i<0->E.free s<E.own i)->(∀i,i<E.m->E.a i s<=0)->Final E (-1) s
section
variable{D E E':Dic}{r r' s s' T T':Nat}{a b a' b':Int}
theorem jrk{x:Rat}(h:0<=x)(h':x<0):False:=by grind
theorem jrj{x:Rat}(h:x<=0)(h':0<x):False:=by grind
theorem Rule.det(hD:D.Ok)(h1:Rule D r s)(h2:Rule D r' s'):r=r'/\s=s':=by
 rcases h1.sel with ⟨a1,a2,a3,a4,a5⟩ | ⟨a1,a2,a3,a4,a5⟩<;>rcases h2.sel with ⟨b1,b2,b3,b4,b5⟩ | ⟨b1,b2,b3,b4,b5⟩
 ·have e:=hD.own r r' h1.hr h2.hr (yY (a2 r' h2.hr b1) (b2 r h1.hr a1));subst e;exact⟨rfl,hD.free s s' h1.hs h2.hs (yY (a5 s' h2.hs b4) (b5 s h1.hs a4))⟩
 ·have e1:=a3 s' h2.hs b1;have e2:=b3 r h1.hr a1;omega
 ·have e1:=b3 s h1.hs a1;have e2:=a3 r' h2.hr b1;omega
 ·have e:=hD.free s s' h1.hs h2.hs (yY (a2 s' h2.hs b1) (b2 s h1.hs a1));subst e;exact⟨hD.own r r' h1.hr h2.hr (yY (a5 r' h2.hr b4) (b5 r h1.hr a4)),rfl⟩
theorem Final.no(hD:E.Ok)(h:Final E a b)(h2:Rule E r s):False:=by
 cases h with
 | best e1 e2=>
  rcases h2.sel with ⟨b1,_⟩ | ⟨b1,_⟩
  ·exact jrk (e1 r h2.hr) b1
  ·exact jrj (e2 s h2.hs) b1
 | none q e1 e2 e3 e4 e5=>
  rcases h2.sel with ⟨b1,b2,b3,b4,b5⟩ | ⟨b1,b2,b3,b4,b5⟩
  ·have e:=hD.own q r e1 h2.hr (yY (e3 r h2.hr b1) (b2 q e1 e2));subst e;exact jrk (e5 s h2.hs) b4
  ·have x1:=e4 s h2.hs b1;have x2:=b3 q e1 e2;omega
 | free q e1 e2 e3 e4 e5=>
  rcases h2.sel with ⟨b1,b2,b3,b4,b5⟩ | ⟨b1,b2,b3,b4,b5⟩
  ·have x1:=e4 r h2.hr b1;have x2:=b3 q e1 e2;omega
  ·have e:=hD.free q s e1 h2.hs (yY (e3 s h2.hs b1) (b2 q e1 e2));subst e;exact jrj (e5 r h2.hr) b4
theorem Final.det(hD:E.Ok)(h:Final E a b)(h':Final E a' b'):a=a'/\b=b':=by
 cases h with
 | best e1 e2=>
  cases h' with
  | best=>exact⟨rfl,rfl⟩
  | none q f1 f2=>exact(jrk (e1 q f1) f2).elim
  | free q f1 f2=>exact(jrj (e2 q f1) f2).elim
 | none q e1 e2 e3 e4 e5=>
  cases h' with
  | best f1 f2=>exact(jrk (f1 q e1) e2).elim
  | none q' f1 f2 f3 f4 f5=>
   have e:=hD.own q q' e1 f1 (yY (e3 q' f1 f2) (f3 q e1 e2));subst e;exact⟨rfl,rfl⟩
  | free q' f1 f2 f3 f4 f5=>
   have x1:=e4 q' f1 f2;have x2:=f4 q e1 e2;omega
 | free q e1 e2 e3 e4 e5=>
  cases h' with
  | best f1 f2=>exact(jrj (f2 q e1) e2).elim
  | none q' f1 f2 f3 f4 f5=>
   have x1:=f4 q e1 e2;have x2:=e4 q' f1 f2;omega
  | free q' f1 f2 f3 f4 f5=>
   have e:=hD.free q q' e1 f1 (yY (e3 q' f1 f2) (f3 q e1 e2));subst e;exact⟨rfl,rfl⟩
theorem Reach.det(h:Reach D T E)(h':Reach D T' E')(f:Final E a b)(f':Final E' a' b'):E=E':=by
 have fE:=h.facts.1;have fE':=h'.facts.1;obtain⟨F,r,s,hR,h0,hT⟩:=h;obtain⟨F',r',s',hR',h0',hT'⟩:=h';have key:∀t,t<=T->t<=T'->F t=F' t:=by
  intro t
  induction t with
  | zero=>intro _ _;rw[h0,h0']
  | succ t ih=>
   intro h1 h2;have e:=ih (by omega) (by omega);have k1:=hR.rule t (by omega);have k2:=hR'.rule t (by omega);rw[<-e]at k2;obtain⟨e1,e2⟩:=k1.det (hR.facts t (by omega)).1 k2;rw[hR.next t (by omega),hR'.next t (by omega),<-e,e1,e2]
 rcases yx T T' with hlt | heq | hlt
 ·have e:=key T (zB _) (by omega);have k2:=hR'.rule T hlt;rw[<-e,hT]at k2;exact(f.no fE k2).elim
 ·subst heq;rw[<-hT,<-hT',key T (zB _) (zB _)]
 ·have e:=key T' (by omega) (zB _);have k2:=hR.rule T' hlt;rw[e,hT']at k2;exact(f'.no fE' k2).elim
end
end
end Go.LP
namespace Go.Proofs.YthahgoopboilkaaGreat
section
open Go.Abs
open Go.LP (Dic Eqv SameV Rule Final Own Free)
attribute [local go_sem] ints ic big frac fc
theorem nneg{a:Rat}(h:¬a<0):0<=a:=by grind
theorem npos{a:Rat}(h:¬0<a):a<=0:=by grind
section
variable{L:Abs.Rows}{nm:DN}{N:Nat}{D:Dic}{src:Nat->Int×Bool}
theorem x_search_main(h:HasD L nm N D src)(hD:D.Ok)(hm0:D.m≠0)(hn0:D.n≠0)(hm:D.m<=100000)(hn:D.n<=100000)(K:Nat)(hK:K<=1000000)(hv:∀k,(Own D k\/Free D k)->k<K)
  (sm:∀E:Dic,E.Ok->Eqv D E->SameV D E->E.m=D.m->E.n=D.n->SmD E):
  CtrH G.P 129 [.im (.pr nm.d 6 0 0)] L (fun x L'=>∃(E:Dic) (row col:Int),x= .im (.tup [.int row,.int col])/\HasD L' nm N E src/\(∃T,LP.Reach D T E)/\Final E row col):=by
 have hb:=h.blk;have F1:=bF hb;have K1:=bK hb;have G1:=bN hb;refine jav [] [] [.tmp 2,.tmp 3] Tryz.func129 ?_;simp only[F1,K1,G1,go_sem];refine jjj 1 ?_;simp only[F1,K1,G1,go_sem];refine jaz [1] (fun g:(Nat×Dic)×Abs.Rows=>⟨[(1,.im (.ip [.pr nm.d 6 0 0] 0))],g.2,[]⟩)
  (fun g=>LP.Reach D g.1.1 g.1.2/\HasD g.2 nm N g.1.2 src) (fun g=>2^K-g.1.1) ((0,D),L) ?_ ?_ rfl ⟨.zero hD,h⟩ ?_
 ·simp only[go_sem]
 ·exact SubR.of_eq rfl
 clear F1 K1 G1 hb h;rintro⟨⟨T,E⟩,M⟩ ⟨hR,H⟩;dsimp only at hR H;obtain⟨hE,hq,hsv,hEm,hEn⟩:=hR.facts;have hT:=hR.bound hv;have smE:=sm E hE hq hsv hEm hEn;have hm0':E.m≠0:=by omega
 have hn0':E.n≠0:=by omega
 have F2:=bF H.blk;have K2:=bK H.blk;have G2:=bN H.blk;have ho:∀i,i<E.m->E.own i<=1000000:=fun i hi=>by have:=hv _ ((hsv _).2 (.inl ⟨i,hi,rfl⟩));omega
 have hf:∀i,i<E.n->E.free i<=1000000:=fun i hi=>by have:=hv _ ((hsv _).2 (.inr ⟨i,hi,rfl⟩));omega
 have c0:=H.hd;have c1:=H.ho hm0';have c2:=H.hf hn0';rw[jao hm0',jao hm0',jao hn0',jao hm0']at c0;have k1:=jg3 M nm.o E.m E.own (fun i=>decide (E.v i<0)) 181 [.ip [.pr nm.d 6 0 0] 0] (by decide) H.blk H.ho (by omega) ho (fun i hi=>x_c1 H hi);have k2:=jg3 M nm.f E.n E.free (fun j=>decide (0<E.g j)) 182 [.ip [.pr nm.d 6 0 0] 0] (by decide) H.blk H.hf (by omega) hf (fun i hi=>x_c2 H hi);rw[jao hm0']at k1;rw[jao hn0']at k2;have lr:=jdj E.own (fun i=>decide (E.v i<0)) E.m;have ls:=jdj E.free (fun j=>decide (0<E.g j)) E.n;have lr1:=jd0 (vars:=E.own) (ch:=fun i=>decide (E.v i<0)) (k:=E.m);have ls1:=jd0 (vars:=E.free) (ch:=fun j=>decide (0<E.g j)) (k:=E.n);have lr2:=jdd (vars:=E.own) (ch:=fun i=>decide (E.v i<0)) (k:=E.m);have ls2:=jdd (vars:=E.free) (ch:=fun j=>decide (0<E.g j)) (k:=E.n);generalize jbu E.own (fun i=>decide (E.v i<0)) E.m=r0 at*;generalize jbu E.free (fun j=>decide (0<E.g j)) E.n=s0 at*;simp only[c0,c1,c2,F2,K2,G2,go_sem];refine jaj k1 (by decide) rfl H.blk (SubR.of_eq rfl) ?_;rintro _ _ ⟨rfl,rfl⟩ _;refine⟨_,jbn,?_⟩;simp only[c0,c1,c2,F2,K2,G2,go_sem];refine jaj k2 (by decide) rfl H.blk (ja3 (by decide) H.blk (SubR.of_eq rfl)) ?_;rintro _ L' ⟨rfl,rfl⟩ _;refine⟨(4,1,[[.int r0]])::L',Behind_pre [_] (by intro p hp;rw[zF.1 hp];exact jay H.blk (by dsimp only;decide)),?_⟩;by_cases hr0:r0<0
 ·have hd1:decide (r0<0)=true:=za hr0;by_cases hs0:s0<0
  ·have hd2:decide (s0<0)=true:=za hs0;simp only[hd1,hd2,c0,c1,c2,F2,K2,G2,go_sem];refine jbh L' H.blk (ja3 (by decide) H.blk (ja3 (by decide) H.blk (SubR.of_eq rfl))) ?_;simp only[go_sem];exact⟨E,-1,-1,rfl,H,⟨T,hR⟩,.best (fun i hi=>nneg (zJ (lr1 hr0 i hi))) fun j hj=>npos (zJ (ls1 hs0 j hj))⟩
  ·have hd2:decide (s0<0)=false:=zq hs0;have hd3:decide (0<=r0)=false:=zq (by omega);obtain⟨s,rfl⟩:∃s:Nat,s0=s:=⟨s0.toNat,by omega⟩;obtain⟨lx1,lx2⟩:=ls2 (by omega);rw[Int.toNat_natCast]at lx1 lx2;have hsn:s<E.n:=by omega
   have hsg:0<E.g s:=zI lx1;have hsl:∀j,j<E.n->0<E.g j->E.free s<=E.free j:=fun j hj hg=>lx2 j hj (za hg);have hsf:∀i,i<E.m->E.v i<0->E.free s<E.own i:=fun i hi hv=>by have:=zJ (lr1 hr0 i hi);exact absurd hv this
   simp only[hd1,hd2,c0,c1,c2,F2,K2,G2,go_sem];refine jac 24 ?_;simp only[hd1,hd2,hd3,c0,c1,c2,F2,K2,G2,go_sem];have k3:=jg3 L' nm.o E.m E.own (fun i=>decide (0<E.a i s)) 184 [.ip [.pr nm.d 6 0 0] 0,.ip [.int (s:Int)] 0] (by decide) H.blk H.ho (by omega) ho (fun i hi=>x_c4 H hsn hi);rw[jao hm0']at k3;have la:=jdj E.own (fun i=>decide (0<E.a i s)) E.m;have lb:=jd0 (vars:=E.own) (ch:=fun i=>decide (0<E.a i s)) (k:=E.m);have lc:=jdd (vars:=E.own) (ch:=fun i=>decide (0<E.a i s)) (k:=E.m);generalize jbu E.own (fun i=>decide (0<E.a i s)) E.m=r1 at*;refine jaj k3 (by decide) rfl H.blk (ja3 (by decide) H.blk (SubR.of_eq rfl)) ?_;rintro _ L1 ⟨rfl,rfl⟩ _;refine⟨(4,1,[[.int r0]])::L1,Behind_pre [_] (by intro p hp;rw[zF.1 hp];exact jay H.blk (by dsimp only;decide)),?_⟩;by_cases hs1:r1<0
   ·have hd5:decide (r1<0)=true:=za hs1;simp only[hd5,c0,c1,c2,F2,K2,G2,go_sem];refine jac 3 ?_;simp only[hd5,c0,c1,c2,F2,K2,G2,go_sem];refine jbh L1 H.blk (ja3 (by decide) H.blk (SubR.of_eq rfl)) ?_;simp only[go_sem];exact⟨E,-1,s,rfl,H,⟨T,hR⟩,.free s hsn hsg hsl hsf fun i hi=>npos (zJ (lb hs1 i hi))⟩
   ·have hd5:decide (r1<0)=false:=zq hs1;obtain⟨r,rfl⟩:∃r:Nat,r1=r:=⟨r1.toNat,by omega⟩;obtain⟨lc1,lc2⟩:=lc (by omega);rw[Int.toNat_natCast]at lc1 lc2;have hrm:r<E.m:=by omega
    have hsa:0<E.a r s:=zI lc1;have hrule:Rule E r s:=⟨hrm,hsn,.inr ⟨hsg,hsl,hsf,hsa,fun i hi ha=>lc2 i hi (za ha)⟩⟩;have hR':=hR.step hrule;obtain⟨hE',hq',hsv',hEm',hEn'⟩:=hR'.facts;have k4:=jh6 H hrm hsn hrule.ne (by omega) (by omega) smE (sm _ hE' hq' hsv' hEm' hEn');simp only[hd5,c0,c1,c2,F2,K2,G2,go_sem];refine jaj k4 (by decide) rfl H.blk (ja3 (by decide) H.blk (SubR.of_eq rfl)) ?_;rintro _ L2 ⟨rfl,H2⟩ _;refine⟨L2,jbn,?_⟩;have F3:=bF H2.blk;simp only[F3,go_sem];refine jaa ((T+1,E.pivot r s),L2) ?_ (SubR.of_eq rfl) rfl ?_ ⟨hR',H2⟩
    ·simp only[go_sem]
    ·show 2^K-(T+1)<2^K-T;omega
 ·have hd1:decide (r0<0)=false:=zq hr0;have hd3:decide (0<=r0)=true:=za (by omega);obtain⟨r,rfl⟩:∃r:Nat,r0=r:=⟨r0.toNat,by omega⟩;obtain⟨lx1,lx2⟩:=lr2 (by omega);rw[Int.toNat_natCast]at lx1 lx2;have hrm:r<E.m:=by omega
  have hrm':(r:Int)<E.m:=by omega
  have hr00:(0:Int)<=r:=by omega
  have hrv:E.v r<0:=zI lx1;have hrl:∀i,i<E.m->E.v i<0->E.own r<=E.own i:=fun i hi hv=>lx2 i hi (za hv);have og:=oget (o:=E.own) hrm;by_cases hs0:s0<0
  ·have hd2:decide (s0<0)=true:=za hs0;have hrf:∀j,j<E.n->0<E.g j->E.own r<E.free j:=fun j hj hg=>absurd hg (zJ (ls1 hs0 j hj));simp only[hd1,hd2,c0,c1,c2,F2,K2,G2,go_sem];refine jac 24 ?_;simp only[hd1,hd2,hd3,c0,c1,c2,F2,K2,G2,go_sem];have k3:=jg3 L' nm.f E.n E.free (fun j=>decide (E.a r j<0)) 183 [.ip [.pr nm.d 6 0 0] 0,.ip [.int (r:Int)] 0] (by decide) H.blk H.hf (by omega) hf (fun j hj=>x_c3 H hrm hj);rw[jao hn0']at k3;have la:=jdj E.free (fun j=>decide (E.a r j<0)) E.n;have lb:=jd0 (vars:=E.free) (ch:=fun j=>decide (E.a r j<0)) (k:=E.n);have lc:=jdd (vars:=E.free) (ch:=fun j=>decide (E.a r j<0)) (k:=E.n);generalize jbu E.free (fun j=>decide (E.a r j<0)) E.n=s1 at*;refine jaj k3 (by decide) rfl H.blk (ja3 (by decide) H.blk (SubR.of_eq rfl)) ?_;rintro _ L1 ⟨rfl,rfl⟩ _;refine⟨(5,1,[[.int s0]])::L1,Behind_pre [_] (by intro p hp;rw[zF.1 hp];exact jay H.blk (by dsimp only;decide)),?_⟩;by_cases hs1:s1<0
   ·have hd5:decide (s1<0)=true:=za hs1;simp only[hd5,c0,c1,c2,F2,K2,G2,go_sem];refine jbh L1 H.blk (ja3 (by decide) H.blk (SubR.of_eq rfl)) ?_;simp only[go_sem];exact⟨E,r,-1,rfl,H,⟨T,hR⟩,.none r hrm hrv hrl hrf fun j hj=>nneg (zJ (lb hs1 j hj))⟩
   ·have hd5:decide (s1<0)=false:=zq hs1;obtain⟨s,rfl⟩:∃s:Nat,s1=s:=⟨s1.toNat,by omega⟩;obtain⟨lc1,lc2⟩:=lc (by omega);rw[Int.toNat_natCast]at lc1 lc2;have hsn:s<E.n:=by omega
    have hsa:E.a r s<0:=zI lc1;have hrule:Rule E r s:=⟨hrm,hsn,.inl ⟨hrv,hrl,hrf,hsa,fun j hj ha=>lc2 j hj (za ha)⟩⟩;have hR':=hR.step hrule;obtain⟨hE',hq',hsv',hEm',hEn'⟩:=hR'.facts;have k4:=jh6 H hrm hsn hrule.ne (by omega) (by omega) smE (sm _ hE' hq' hsv' hEm' hEn');simp only[hd5,c0,c1,c2,F2,K2,G2,go_sem];refine jaj k4 (by decide) rfl H.blk (ja3 (by decide) H.blk (SubR.of_eq rfl)) ?_;rintro _ L2 ⟨rfl,H2⟩ _;refine⟨L2,jbn,?_⟩;have F3:=bF H2.blk;simp only[F3,go_sem];refine jaa ((T+1,E.pivot r s),L2) ?_ (SubR.of_eq rfl) rfl ?_ ⟨hR',H2⟩
    ·simp only[go_sem]
    ·show 2^K-(T+1)<2^K-T;omega
  ·have hd2:decide (s0<0)=false:=zq hs0;obtain⟨s,rfl⟩:∃s:Nat,s0=s:=⟨s0.toNat,by omega⟩;obtain⟨ly1,ly2⟩:=ls2 (by omega);rw[Int.toNat_natCast]at ly1 ly2;have hsn:s<E.n:=by omega
   have hsn':(s:Int)<E.n:=by omega
   have hs00:(0:Int)<=s:=by omega
   have fg:=oget (o:=E.free) hsn;by_cases hlt:E.own r<E.free s
   ·have hd4:decide ((E.own r:Int)<E.free s)=true:=za (by omega);have hrf:∀j,j<E.n->0<E.g j->E.own r<E.free j:=fun j hj hg=>by have:=ly2 j hj (za hg);omega
    simp only[hd1,hd2,c0,c1,c2,F2,K2,G2,go_sem];refine jac 24 ?_;simp only[hd1,hd2,hd3,hd4,c0,c1,c2,og,fg,hrm',hr00,hsn',hs00,ja6,Int.toNat_natCast,F2,K2,G2,go_sem];obtain⟨s0,hs0e⟩:∃s0:Int,s0=s:=⟨_,rfl⟩;rw[<-hs0e];have k3:=jg3 L' nm.f E.n E.free (fun j=>decide (E.a r j<0)) 183 [.ip [.pr nm.d 6 0 0] 0,.ip [.int (r:Int)] 0] (by decide) H.blk H.hf (by omega) hf (fun j hj=>x_c3 H hrm hj);rw[jao hn0']at k3;have la:=jdj E.free (fun j=>decide (E.a r j<0)) E.n;have lb:=jd0 (vars:=E.free) (ch:=fun j=>decide (E.a r j<0)) (k:=E.n);have lc:=jdd (vars:=E.free) (ch:=fun j=>decide (E.a r j<0)) (k:=E.n);generalize jbu E.free (fun j=>decide (E.a r j<0)) E.n=s1 at*;refine jaj k3 (by decide) rfl H.blk (ja3 (by decide) H.blk (SubR.of_eq rfl)) ?_;rintro _ L1 ⟨rfl,rfl⟩ _;refine⟨(5,1,[[.int s0]])::L1,Behind_pre [_] (by intro p hp;rw[zF.1 hp];exact jay H.blk (by dsimp only;decide)),?_⟩;by_cases hs1:s1<0
    ·have hd5:decide (s1<0)=true:=za hs1;simp only[hd5,c0,c1,c2,F2,K2,G2,go_sem];refine jbh L1 H.blk (ja3 (by decide) H.blk (SubR.of_eq rfl)) ?_;simp only[go_sem];exact⟨E,r,-1,rfl,H,⟨T,hR⟩,.none r hrm hrv hrl hrf fun j hj=>nneg (zJ (lb hs1 j hj))⟩
    ·have hd5:decide (s1<0)=false:=zq hs1;obtain⟨s,rfl⟩:∃s:Nat,s1=s:=⟨s1.toNat,by omega⟩;obtain⟨lc1,lc2⟩:=lc (by omega);rw[Int.toNat_natCast]at lc1 lc2;have hsn:s<E.n:=by omega
     have hsa:E.a r s<0:=zI lc1;have hrule:Rule E r s:=⟨hrm,hsn,.inl ⟨hrv,hrl,hrf,hsa,fun j hj ha=>lc2 j hj (za ha)⟩⟩;have hR':=hR.step hrule;obtain⟨hE',hq',hsv',hEm',hEn'⟩:=hR'.facts;have k4:=jh6 H hrm hsn hrule.ne (by omega) (by omega) smE (sm _ hE' hq' hsv' hEm' hEn');simp only[hd5,c0,c1,c2,F2,K2,G2,go_sem];refine jaj k4 (by decide) rfl H.blk (ja3 (by decide) H.blk (SubR.of_eq rfl)) ?_;rintro _ L2 ⟨rfl,H2⟩ _;refine⟨L2,jbn,?_⟩;have F3:=bF H2.blk;simp only[F3,go_sem];refine jaa ((T+1,E.pivot r s),L2) ?_ (SubR.of_eq rfl) rfl ?_ ⟨hR',H2⟩
     ·simp only[go_sem]
     ·show 2^K-(T+1)<2^K-T;omega
   ·have hd4:decide ((E.own r:Int)<E.free s)=false:=zq (by omega);have hsg:0<E.g s:=zI ly1;have hsl:∀j,j<E.n->0<E.g j->E.free s<=E.free j:=fun j hj hg=>ly2 j hj (za hg);have hsf:∀i,i<E.m->E.v i<0->E.free s<E.own i:=fun i hi hv=>by
     have h1:=hrl i hi hv;have h2:=hE.apart i s hi hsn;have h3:=hE.apart r s hrm hsn;omega
    simp only[hd1,hd2,c0,c1,c2,F2,K2,G2,go_sem];refine jac 24 ?_;simp only[hd1,hd2,hd3,hd4,c0,c1,c2,og,fg,hrm',hr00,hsn',hs00,ja6,Int.toNat_natCast,F2,K2,G2,go_sem];obtain⟨r0,hr0e⟩:∃r0:Int,r0=r:=⟨_,rfl⟩;rw[<-hr0e];clear hrm hrm' hrv hrl og hr00 hd1 hd3 hd4 hr0e;have k3:=jg3 L' nm.o E.m E.own (fun i=>decide (0<E.a i s)) 184 [.ip [.pr nm.d 6 0 0] 0,.ip [.int (s:Int)] 0] (by decide) H.blk H.ho (by omega) ho (fun i hi=>x_c4 H hsn hi);rw[jao hm0']at k3;have la:=jdj E.own (fun i=>decide (0<E.a i s)) E.m;have lb:=jd0 (vars:=E.own) (ch:=fun i=>decide (0<E.a i s)) (k:=E.m);have lc:=jdd (vars:=E.own) (ch:=fun i=>decide (0<E.a i s)) (k:=E.m);generalize jbu E.own (fun i=>decide (0<E.a i s)) E.m=r1 at*;refine jaj k3 (by decide) rfl H.blk (ja3 (by decide) H.blk (SubR.of_eq rfl)) ?_;rintro _ L1 ⟨rfl,rfl⟩ _;refine⟨(4,1,[[.int r0]])::L1,Behind_pre [_] (by intro p hp;rw[zF.1 hp];exact jay H.blk (by dsimp only;decide)),?_⟩;by_cases hs1:r1<0
    ·have hd5:decide (r1<0)=true:=za hs1;simp only[hd5,c0,c1,c2,F2,K2,G2,go_sem];refine jac 3 ?_;simp only[hd5,c0,c1,c2,F2,K2,G2,go_sem];refine jbh L1 H.blk (ja3 (by decide) H.blk (SubR.of_eq rfl)) ?_;simp only[go_sem];exact⟨E,-1,s,rfl,H,⟨T,hR⟩,.free s hsn hsg hsl hsf fun i hi=>npos (zJ (lb hs1 i hi))⟩
    ·have hd5:decide (r1<0)=false:=zq hs1;obtain⟨r,rfl⟩:∃r:Nat,r1=r:=⟨r1.toNat,by omega⟩;obtain⟨lc1,lc2⟩:=lc (by omega);rw[Int.toNat_natCast]at lc1 lc2;have hrm:r<E.m:=by omega
     have hsa:0<E.a r s:=zI lc1;have hrule:Rule E r s:=⟨hrm,hsn,.inr ⟨hsg,hsl,hsf,hsa,fun i hi ha=>lc2 i hi (za ha)⟩⟩;have hR':=hR.step hrule;obtain⟨hE',hq',hsv',hEm',hEn'⟩:=hR'.facts;have k4:=jh6 H hrm hsn hrule.ne (by omega) (by omega) smE (sm _ hE' hq' hsv' hEm' hEn');simp only[hd5,c0,c1,c2,F2,K2,G2,go_sem];refine jaj k4 (by decide) rfl H.blk (ja3 (by decide) H.blk (SubR.of_eq rfl)) ?_;rintro _ L2 ⟨rfl,H2⟩ _;refine⟨L2,jbn,?_⟩;have F3:=bF H2.blk;simp only[F3,go_sem];refine jaa ((T+1,E.pivot r s),L2) ?_ (SubR.of_eq rfl) rfl ?_ ⟨hR',H2⟩
     ·simp only[go_sem]
     ·show 2^K-(T+1)<2^K-T;omega
end
end
section
open Go.Abs
open Go.LP (Dic Eqv SameV Rule Final Own Free)
attribute [local go_sem] ints ic big frac fc
section
variable{L:Abs.Rows}{nm:DN}{N:Nat}{D:Dic}{src:Nat->Int×Bool}
theorem x_search_empty(h:HasD L nm N D src)(hD:D.Ok)(hm0:D.m=0)(hn:D.n<=100000)(K:Nat)(hK:K<=1000000)(hv:∀k,(Own D k\/Free D k)->k<K):
  CtrH G.P 129 [.im (.pr nm.d 6 0 0)] L (fun x L'=>∃(E:Dic) (row col:Int),x= .im (.tup [.int row,.int col])/\HasD L' nm N E src/\(∃T,LP.Reach D T E)/\Final E row col):=by
 have hb:=h.blk;have F1:=bF hb;have K1:=bK hb;have G1:=bN hb;have hf:∀i,i<D.n->D.free i<=1000000:=fun i hi=>by have:=hv _ (.inr ⟨i,hi,rfl⟩);omega
 have c0:=h.hd;rw[hm0,jbc,jbc,jbc]at c0;have k1:=jg3 L nm.o 0 D.own (fun i=>decide (D.v i<0)) 181 [.ip [.pr nm.d 6 0 0] 0] (by decide) hb (fun h=>absurd rfl h) (by omega) (fun i hi=>absurd hi (by omega)) (fun i hi=>absurd hi (by omega));have k2:=jg3 L nm.f D.n D.free (fun j=>decide (0<D.g j)) 182 [.ip [.pr nm.d 6 0 0] 0] (by decide) hb h.hf (by omega) hf (fun i hi=>x_c2 h hi);rw[jbc]at k1;rcases yP D.n with hn0 | hn0
 ·rw[hn0,jbc]at c0 k2;refine jav [] [] [.tmp 2,.tmp 3] Tryz.func129 ?_;simp only[F1,K1,G1,go_sem];refine jjj 1 ?_;simp only[F1,K1,G1,go_sem];refine jaz [1] (fun g:Unit=>⟨[(1,.im (.ip [.pr nm.d 6 0 0] 0))],L,[]⟩) (fun g=>True) (fun g=>0) () ?_ (SubR.of_eq rfl) rfl trivial ?_
  ·simp only[go_sem]
  intro _ _;simp only[c0,F1,K1,G1,go_sem];refine jd4 k1 (by decide) rfl hb (SubR.of_eq rfl) ?_;rintro _ _ ⟨rfl,rfl⟩ _;refine⟨_,jbn,?_⟩;simp only[c0,jbu,F1,K1,G1,go_sem];refine jd4 k2 (by decide) rfl h.blk ?_ ?_
  ·simp only[F1,K1,G1,go_sem];exact ja3 (by decide) h.blk (SubR.of_eq rfl)
  rintro _ L' ⟨rfl,rfl⟩ _;refine⟨(4,1,[[.int (-1)]])::L',?_,?_⟩
  ·simp only[F1,K1,G1,go_sem];exact Behind_pre [(4,1,[[.int (-1)]])] (by intro p hp;rw[zF.1 hp];exact jay h.blk (by dsimp only;decide))
  simp only[c0,jbu,F1,K1,G1,go_sem];refine jbh L' h.blk (ja3 (by decide) h.blk (ja3 (by decide) h.blk (SubR.of_eq rfl))) ?_;simp only[go_sem];exact⟨D,-1,-1,rfl,h,⟨0,.zero hD⟩,.best (fun i hi=>absurd hi (by omega)) fun j hj=>absurd hj (by omega)⟩
 ·rw[jao (by omega)]at c0 k2;have ls:=jdj D.free (fun j=>decide (0<D.g j)) D.n;have ls1:=jd0 (vars:=D.free) (ch:=fun j=>decide (0<D.g j)) (k:=D.n);have ls2:=jdd (vars:=D.free) (ch:=fun j=>decide (0<D.g j)) (k:=D.n);generalize jbu D.free (fun j=>decide (0<D.g j)) D.n=s0 at*;refine jav [] [] [.tmp 2,.tmp 3] Tryz.func129 ?_;simp only[F1,K1,G1,go_sem];refine jjj 1 ?_;simp only[F1,K1,G1,go_sem];refine jaz [1] (fun g:Unit=>⟨[(1,.im (.ip [.pr nm.d 6 0 0] 0))],L,[]⟩) (fun g=>True) (fun g=>0) () ?_ (SubR.of_eq rfl) rfl trivial ?_
  ·simp only[go_sem]
  intro _ _;simp only[c0,F1,K1,G1,go_sem];refine jd4 k1 (by decide) rfl hb (SubR.of_eq rfl) ?_;rintro _ _ ⟨rfl,rfl⟩ _;refine⟨_,jbn,?_⟩;simp only[c0,jbu,F1,K1,G1,go_sem];refine jaj k2 (by decide) rfl h.blk (ja3 (by decide) h.blk (SubR.of_eq rfl)) ?_;rintro _ L' ⟨rfl,rfl⟩ _;refine⟨(4,1,[[.int (-1)]])::L',Behind_pre [_] (by intro p hp;rw[zF.1 hp];exact jay h.blk (by dsimp only;decide)),?_⟩;by_cases hs0:s0<0
  ·have hd2:decide (s0<0)=true:=za hs0;simp only[c0,hd2,jbu,F1,K1,G1,go_sem];refine jbh L' h.blk (ja3 (by decide) h.blk (ja3 (by decide) h.blk (SubR.of_eq rfl))) ?_;simp only[go_sem];exact⟨D,-1,-1,rfl,h,⟨0,.zero hD⟩,.best (fun i hi=>absurd hi (by omega)) fun j hj=>npos (zJ (ls1 hs0 j hj))⟩
  ·have hd2:decide (s0<0)=false:=zq hs0;obtain⟨s,rfl⟩:∃s:Nat,s0=s:=⟨s0.toNat,by omega⟩;obtain⟨lx1,lx2⟩:=ls2 (by omega);rw[Int.toNat_natCast]at lx1;have hsn:s<D.n:=by omega
   have k3:=jg3 L' nm.o 0 D.own (fun i=>decide (0<D.a i s)) 184 [.ip [.pr nm.d 6 0 0] 0,.ip [.int (s:Int)] 0] (by decide) h.blk (fun h=>absurd rfl h) (by omega) (fun i hi=>absurd hi (by omega)) (fun i hi=>absurd hi (by omega));rw[jbc]at k3;simp only[c0,hd2,jbu,F1,K1,G1,go_sem];refine jac 24 ?_;simp only[c0,hd2,jbu,F1,K1,G1,go_sem];refine jd4 k3 (by decide) rfl h.blk ?_ ?_
   ·simp only[F1,K1,G1,go_sem];exact ja3 (by decide) h.blk (SubR.of_eq rfl)
   rintro _ L1 ⟨rfl,rfl⟩ _;refine⟨(4,1,[[.int (-1)]])::L1,?_,?_⟩
   ·simp only[F1,K1,G1,go_sem];exact Behind_pre [(4,1,[[.int (-1)]])] (by intro p hp;rw[zF.1 hp];exact jay h.blk (by dsimp only;decide))
   simp only[c0,hd2,jbu,F1,K1,G1,go_sem];refine jac 3 ?_;simp only[c0,hd2,jbu,F1,K1,G1,go_sem];refine jbh L1 h.blk (ja3 (by decide) h.blk (SubR.of_eq rfl)) ?_;simp only[go_sem];exact⟨D,-1,s,rfl,h,⟨0,.zero hD⟩,.free s hsn (zI lx1) (fun j hj hg=>lx2 j hj (za hg)) (fun i hi=>absurd hi (by omega)) fun i hi=>absurd hi (by omega)⟩
theorem x_search(h:HasD L nm N D src)(hD:D.Ok)(hmn:D.m≠0->D.n≠0)(hm:D.m<=100000)(hn:D.n<=100000)(K:Nat)(hK:K<=1000000)(hv:∀k,(Own D k\/Free D k)->k<K)
  (sm:∀E:Dic,E.Ok->Eqv D E->SameV D E->E.m=D.m->E.n=D.n->SmD E):
  CtrH G.P 129 [.loc (hp nm.d) 6 0 0] L (fun x L'=>∃(E:Dic) (row col:Int),x= .im (.tup [.int row,.int col])/\HasD L' nm N E src/\(∃T,LP.Reach D T E)/\Final E row col):=by
 refine CtrH.loc ?_;by_cases h0:D.m=0
 ·exact x_search_empty h hD h0 hn K hK hv
 ·exact x_search_main h hD h0 (hmn h0) hm hn K hK hv sm
end
end
section
open Go.Abs
open Go.LP (Dic find)
attribute [local go_sem] ints ic big frac fc
theorem jcb{R L0:Abs.Rows}{b s:Nat}{es:List (List IV)}(h:Abs.look L0 (hp b)=some (s,es)):jfk R [] L0 ((hp b,s,es)::R):=fun k x hk=>by
 by_cases e:k=hp b
 ·subst e;rw[ja2]at hk;rw[h,hk];exact .inl rfl
 ·rw[ja0 _ _ e]at hk;exact .inr ⟨rfl,hk⟩
theorem jhg{L M:Abs.Rows}{b s:Nat}{es:List (List IV)}(hL:Abs.look L (hp b)=none)(h:SubR L M):SubR L (M.map (fun p=>if p.1=hp b then(p.1,s,es)else p)):=fun k x hk=>by
 rw[jan (fun e=>by subst e;rw[hL]at hk;cases hk)];exact h k x hk
def ptU(D:Dic)(i k:Nat):Rat:=match find D.own k i with
 | some i'=>D.v i'
 | none=>0
theorem jrg{D:Dic}{i k:Nat}:ptU D (i+1) k=if D.own i=k then D.v i else ptU D i k:=by
 unfold ptU;rw[LP.find];split
 ·rename_i h;split at h
  ·rename_i e;cases h;rw[zm e]
  ·rename_i e;rw[zn e,h]
 ·rename_i h;split at h
  ·cases h
  ·rename_i e;rw[zn e,h]
section
variable{L:Abs.Rows}{nm:DN}{N:Nat}{D:Dic}{src:Nat->Int×Bool}
theorem x_point(h:HasD L nm N D src)(hN:N<=100000)(hm:D.m<=100000)(ho:∀i,i<D.m->D.own i<=1000000):
  CtrH G.P 130 [.loc (hp nm.d) 6 0 0] L (fun x L'=>∃b,x= .im (.ref b 35 4 N)/\blks L'/\SubR L L'/\Abs.look L (hp b)=none/\Abs.look L' (hp b)=some (4,tab N fun k=>qc (D.pt k))):=by
 have hb:=h.blk;have F1:=bF hb;have K1:=bK hb;have G1:=bN hb;have c0:=h.hd;have kz:=jiw N hN;by_cases hm0:D.m=0
 ·rw[hm0,jbc,jbc,jbc]at c0;refine jav [] [] [.tmp 2] Tryz.func130 ?_;simp only[c0,F1,K1,G1,go_sem];refine jd4 kz (by decide) rfl jc8 jad ?_;rintro _ L0 ⟨b,rfl,hb0,hb1,hb2⟩ hfr;have hnew:=(hfr (hp b) (by rw[hb1];rfl)).resolve_left (by simp[Abs.look]);refine⟨(hp b,4,tab N fun _=>qc 0)::L,?_,?_⟩
  ·simp only[c0,F1,K1,G1,go_sem];exact jcb hb1
  have hLb:Abs.look L (hp b)=none:=by
   revert hnew;simp only[c0,F1,K1,G1,go_sem];exact fun h=>h
  clear hnew hfr kz;have hbM:blks ((hp b,4,tab N fun _=>qc 0)::L):=jat hb;have F2:=fun(d:Nat) (h:d<100000)=>je8 (L:=(hp b,4,tab N fun _=>qc 0)::L) (d:=d) hbM h;have ndb:¬nm.d=b:=fun e=>by rw[e,hLb]at c0;cases c0
  simp only[c0,ndb,F1,K1,G1,go_sem];refine jaz [3,15,16] (fun g:Unit=>⟨[(3,.im (.ref b 35 4 N)),(15,.im (.int 0)),(16,.im (.int 0))],(hp b,4,tab N fun _=>qc 0)::L,[]⟩) (fun _=>True) (fun _=>0) () ?_ (SubR.of_eq rfl) rfl trivial ?_
  ·simp only[go_sem]
  intro _ _;have hpt:(tab N fun k=>qc (D.pt k))=tab N fun _=>qc 0:=jak fun k _=>by
   rw[show D.pt k=ptU D D.m k from rfl,hm0];rfl
  simp only[go_sem];refine jbh _ hbM (SubR.of_eq rfl) ?_;rw[hpt];simp only[go_sem];exact⟨b,rfl,hbM,jas hLb (SubR.of_eq rfl),hLb,zm rfl⟩
 ·rw[jao hm0,jao hm0,jao hm0]at c0;have c1:=h.ho hm0;have c2:=h.hr hm0;refine jav [] [] [.tmp 2] Tryz.func130 ?_;simp only[c0,F1,K1,G1,go_sem];refine jd4 kz (by decide) rfl jc8 jad ?_;rintro _ L0 ⟨b,rfl,hb0,hb1,hb2⟩ hfr;have hnew:=(hfr (hp b) (by rw[hb1];rfl)).resolve_left (by simp[Abs.look]);refine⟨(hp b,4,tab N fun _=>qc 0)::L,?_,?_⟩
  ·simp only[c0,F1,K1,G1,go_sem];exact jcb hb1
  have hLb:Abs.look L (hp b)=none:=by
   revert hnew;simp only[c0,F1,K1,G1,go_sem];exact fun h=>h
  clear hnew hfr kz;have hbM:blks ((hp b,4,tab N fun _=>qc 0)::L):=jat hb;have ndb:¬nm.d=b:=fun e=>by rw[e,hLb]at c0;cases c0
  simp only[c0,ndb,F1,K1,G1,go_sem];refine jaz [0,3,14,15,16] (fun g:Nat×Abs.Rows=>⟨[(0,.loc (hp nm.d) 6 0 0),(3,.im (.ref b 35 4 N)),(14,.im (.ref nm.o 3 1 D.m)),(15,.im (.int D.m)),(16,.im (.int g.1))],g.2,[]⟩)
   (fun g=>g.1<=D.m/\blks g.2/\SubR L g.2/\Abs.look g.2 (hp b)=some (4,tab N fun k=>qc (ptU D g.1 k))) (fun g=>D.m-g.1) (0,(hp b,4,tab N fun _=>qc 0)::L) ?_ (SubR.of_eq rfl) rfl
   ⟨zE _,hbM,jas hLb (SubR.of_eq rfl),ja2 _ _ _⟩ ?_
  ·simp only[Int.natCast_zero,go_sem]
  rintro⟨i,M⟩ ⟨hi,hM,hs,hl⟩;dsimp only at hi hM hs hl;have F2:=bF hM;have K2:=bK hM;have G2:=bN hM;have d0:=hs _ _ c0;have d1:=hs _ _ c1;have d2:=hs _ _ c2;by_cases hlt:i<D.m
  ·have hd:decide ((i:Int)<D.m)=true:=za (by omega);have him:(i:Int)<D.m:=by omega
   have hi0:(0:Int)<=i:=by omega
   have w1:=ja9 (n:=(i:Int)+1) (by omega);have og:=oget (o:=D.own) hlt;have rg:=lget (v:=D.v) (A:=nm.a) (n:=D.n) hlt;by_cases hv:D.own i<N
   ·have hd2:decide ((D.own i:Int)<N)=true:=za (by omega);have hvN:(D.own i:Int)<N:=by omega
    have hv0:(0:Int)<=D.own i:=by omega
    have hq:=qget (f:=ptU D i) hv;simp only[hd,hd2,d0,d1,d2,og,rg,hl,hq,hvN,hv0,him,hi0,ja6,Int.toNat_natCast,F2,K2,G2,go_sem];refine jaa (i+1,M.map (fun p=>if p.1=hp b then(p.1,4,(tab N fun k=>qc (ptU D i k)).set (D.own i) (fc (D.v i)))else p)) ?_ (SubR.of_eq rfl) rfl (by show D.m-(i+1)<D.m-i;omega) ⟨hlt,jb8 hM,jhg hLb hs,(jae hl).trans ?_⟩
    ·simp only[w1,Int.natCast_add,go_sem]
    ·rw[qset];congr 2;refine jak fun k hk=>qd qc ?_;rw[jrg];by_cases e:k=D.own i
     ·rw[zm e,zm e.symm]
     ·rw[zn e,zn fun h=>e h.symm]
   ·have hd2:decide ((D.own i:Int)<N)=false:=zq (by omega);simp only[hd,hd2,d0,d1,d2,og,rg,him,hi0,ja6,Int.toNat_natCast,F2,K2,G2,go_sem];refine jaa (i+1,M) ?_ (SubR.of_eq rfl) rfl (by show D.m-(i+1)<D.m-i;omega) ⟨hlt,hM,hs,hl.trans ?_⟩
    ·simp only[w1,Int.natCast_add,go_sem]
    ·congr 2;refine jak fun k hk=>qd qc ?_;rw[jrg,zn (by omega)]
  ·have hd:decide ((i:Int)<D.m)=false:=zq (by omega);have him:i=D.m:=by omega
   subst him;simp only[hd,go_sem];refine jbh M hM (SubR.of_eq rfl) ?_;simp only[go_sem];exact⟨b,rfl,hM,hs,hLb,hl⟩
