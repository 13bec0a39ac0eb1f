/- A part of the proof. No further condition. -/
import Derived.Test.YtjcjcpebocbonaaGreatKZ20
set_option linter.all false
set_option maxRecDepth 10000000
set_option maxHeartbeats 16000000
namespace Go.LP
section
def Free(D:Dic)(k:Nat):Prop:=∃j,j<D.n/\D.free j=k
def SameV(D E:Dic):Prop:=∀k,(Own D k\/Free D k)↔(Own E k\/Free E k)
theorem SameV.refl(D:Dic):SameV D D:=fun _=>Iff.rfl
theorem SameV.trans{D E F:Dic}(h:SameV D E)(h':SameV E F):SameV D F:=fun k=>(h k).trans (h' k)
theorem SameV.symm{D E:Dic}(h:SameV D E):SameV E D:=fun k=>(h k).symm
theorem free_pivot{D:Dic}{r s k:Nat}(hs:s<D.n):Free (D.pivot r s) k↔(k=D.own r\/∃j,j<D.n/\j≠s/\D.free j=k):=by
 constructor
 ·rintro⟨j,hj,e⟩;simp only[Dic.pivot]at hj e;split at e
  ·exact .inl e.symm
  ·exact .inr ⟨j,hj,‹_›,e⟩
 ·rintro(e | ⟨j,hj,hne,e⟩)
  ·exact⟨s,hs,by simp[Dic.pivot,e]⟩
  ·exact⟨j,hj,by simp[Dic.pivot,hne,e]⟩
theorem jl6{D:Dic}(hD:D.Ok){r s:Nat}(hr:r<D.m)(hs:s<D.n):SameV D (D.pivot r s):=by
 intro k;rw[free_pivot hs];constructor
 ·rintro(⟨i,hi,e⟩ | ⟨j,hj,e⟩)
  ·by_cases h:i=r
   ·subst h;exact .inr (.inl e.symm)
   ·exact .inl ⟨i,hi,by simp[Dic.pivot,h,e]⟩
  ·by_cases h:j=s
   ·subst h;exact .inl ⟨r,hr,by simp[Dic.pivot,e]⟩
   ·exact .inr (.inr ⟨j,hj,h,e⟩)
 ·rintro(⟨i,hi,e⟩ | e | ⟨j,hj,_,e⟩)
  ·simp only[Dic.pivot]at hi e;split at e
   ·exact .inr ⟨s,hs,e⟩
   ·exact .inl ⟨i,hi,e⟩
  ·exact .inl ⟨r,hr,e.symm⟩
  ·exact .inr ⟨j,hj,e⟩
theorem jt8{D E:Dic}(hD:D.Ok)(hq:Eqv D E)(hE:E.Ok){s:Nat}(hs:s<D.n)(h0:∀j,j<E.n->D.dir s (E.free j)=0):∀i,i<E.m->D.dir s (E.own i)=0:=by
 intro i hi;have h1:=jh5 hD;have h2:=(hq.sat _).1 h1 i hi;have h3:=(hq.sat _).1 (jjs hD hs h1 1) i hi;unfold Dic.row at h2 h3;have e:S E.n (fun j=>E.a i j*(D.pt (E.free j)+1*D.dir s (E.free j)))=S E.n (fun j=>E.a i j*D.pt (E.free j)):=jdx fun j hj=>by rw[h0 j hj];grind
 rw[e]at h3;grind
def cntP(p:Nat->Prop)[DecidablePred p]:Nat->Nat
 | 0=>0
 | n+1=>cntP p n+(if p n then 1 else 0)
theorem cntP_le{p q:Nat->Prop}[DecidablePred p][DecidablePred q]:∀{n:Nat},(∀k,k<n->p k->q k)->cntP p n<=cntP q n
 | 0,_=>zu _
 | n+1,h=>by
  have ih:=cntP_le (n:=n) fun k hk=>h k (by omega);have:=h n (by omega);simp only[cntP];by_cases hp:p n
  ·rw[zh hp,zh (this hp)];omega
  ·rw[zl hp];split<;>omega
theorem cntP_lt{p q:Nat->Prop}[DecidablePred p][DecidablePred q]{i:Nat}:∀{n:Nat},i<n->(∀k,k<n->p k->q k)->¬p i->q i->cntP p n<cntP q n
 | n+1,hi,h,hp,hq=>by
  simp only[cntP];by_cases e:i=n
  ·subst e;have ih:=cntP_le (n:=i) (p:=p) (q:=q) fun k hk=>h k (by omega);rw[zl hp,zh hq];omega
  ·have ih:=cntP_lt (n:=n) (by omega) (fun k hk=>h k (by omega)) hp hq;have:=h n (by omega);by_cases a1:p n
   ·rw[zh a1,zh (this a1)];omega
   ·rw[zl a1];split<;>omega
open Classical in
noncomputable def dist(D E:Dic):Nat:=cntP (fun i=>¬Own D (E.own i)) E.m
inductive Path:Dic->Nat->Dic->Prop
 | nil (D:Dic):Path D 0 D
 | step (D:Dic) (r s t:Nat) (E:Dic):r<D.m->s<D.n->D.a r s≠0->Path (D.pivot r s) t E->Path D (t+1) E
theorem jel{D:Dic}(hD:D.Ok){k:Nat}(h1:Own D k)(h2:Free D k):False:=by
 obtain⟨i,hi,e⟩:=h1;obtain⟨j,hj,e'⟩:=h2;exact hD.apart i j hi hj (e.trans e'.symm)
theorem near_of{D E:Dic}(hD:D.Ok)(hE:E.Ok)(hq:Eqv D E)(hv:SameV D E)(h0:∀i,i<E.m->Own D (E.own i)):∀k,Own D k->Own E k:=by
 intro k ⟨r,hr,e⟩;subst e;rcases(hv (D.own r)).1 (.inl ⟨r,hr,rfl⟩)with h | ⟨s,hs,e⟩
 ·exact h
 ·exfalso;have h1:∀j,j<D.n->E.dir s (D.free j)=0:=by
   intro j hj;rcases(hv (D.free j)).1 (.inr ⟨j,hj,rfl⟩)with ⟨i,hi,e'⟩ | ⟨j',a1,e'⟩
   ·exact(jel hD (h0 i hi) ⟨j,hj,e'.symm⟩).elim
   ·rw[<-e',jfn hE a1 hs,zl];intro h;subst h;exact hD.apart r j hr hj (e.symm.trans e')
  have h2:=jt8 hE hq.symm hD hs h1 r hr;rw[<-e,jfn hE hs hs,zh rfl]at h2;exact absurd h2 (by decide)
open Classical in
theorem jqa:∀(t:Nat) (D E:Dic),D.Ok->E.Ok->Eqv D E->SameV D E->dist D E<=t->∃(t':Nat) (F:Dic),t'<=t/\Path D t' F/\F.Ok/\Eqv F E/\SameV F E/\∀k,Own F k↔Own E k
 | t,D,E,hD,hE,hq,hv,ht=>by
  by_cases h0:∀i,i<E.m->Own D (E.own i)
  ·exact⟨0,D,zG _,.nil D,hD,hq,hv,fun k=>⟨near_of hD hE hq hv h0 k,fun⟨i,hi,e⟩=>e▸h0 i hi⟩⟩
  ·obtain⟨i0,hi0,hno⟩:∃i,i<E.m/\¬Own D (E.own i):=by
    refine jz fun hc=>h0 fun i hi=>jz fun h=>hc ⟨i,hi,h⟩
   obtain⟨s,hs,es⟩:Free D (E.own i0):=((hv (E.own i0)).2 (.inl ⟨i0,hi0,rfl⟩)).resolve_left hno;obtain⟨r,hr,hrE,hrs⟩:∃r,r<D.m/\¬Own E (D.own r)/\D.a r s≠0:=by
    refine jz fun hc=> ?_;have h1:∀j,j<E.n->D.dir s (E.free j)=0:=by
     intro j hj;rcases(hv (E.free j)).2 (.inr ⟨j,hj,rfl⟩)with ⟨i,hi,e'⟩ | ⟨j',hj',e'⟩
     ·rw[<-e',jmc hD hi];have:D.a i s=0:=jz fun h=>hc ⟨i,hi,fun ho=>jel hE ho ⟨j,hj,e'.symm⟩,h⟩;rw[this];grind
     ·rw[<-e',jfn hD hj' hs,zl];intro h;subst h;exact hE.apart i0 j hi0 hj (es.symm.trans e')
    have h2:=jt8 hD hq hE hs h1 i0 hi0;rw[<-es,jfn hD hs hs,zh rfl]at h2;exact absurd h2 (by decide)
   have hD':=jog hD hr hs;have hq':Eqv (D.pivot r s) E:=(jm5 hr hs hrs).symm.trans hq;have hv':SameV (D.pivot r s) E:=(jl6 hD hr hs).symm.trans hv;have hd':dist (D.pivot r s) E<dist D E:=by
    refine cntP_lt hi0 (fun k hk hp ho=>hp ?_) (fun h=>h ?_) hno
    ·by_cases e1:E.own k=D.own r
     ·exact(hrE (e1▸⟨k,hk,rfl⟩)).elim
     ·by_cases e2:E.own k=D.free s
      ·rw[e2];exact own_in hr
      ·exact(jqb hD hr hs e1 e2).2 ho
    ·rw[<-es];exact own_in hr
   cases t with
   | zero=>omega
   | succ t=>
    obtain⟨t',F,h1,h2,h3⟩:=jqa t (D.pivot r s) E hD' hE hq' hv' (by omega);exact⟨t'+1,F,by omega,.step D r s t' F hr hs hrs h2,h3⟩
open Classical in
theorem dist_le_n{D E:Dic}(hE:E.Ok)(hv:SameV D E):dist D E<=D.n:=by
 have key:∀(k n:Nat) (f:Nat->Nat) (p:Nat->Prop) [DecidablePred p],(∀i,i<k->p i->∃j,j<n/\f i=j)->(∀i i',i<k->i'<k->p i->p i'->f i=f i'->i=i')->cntP p k<=n:=by
  intro k
  induction k with
  | zero=>intros;exact zG _
  | succ k ih=>
   intro n f p _ h1 h2;simp only[cntP];by_cases hp:p k
   ·rw[zh hp];obtain⟨j,hj,e⟩:=h1 k (by omega) hp;obtain⟨n',rfl⟩:∃n',n=n'+1:=⟨n-1,by omega⟩;have:=ih n' (fun i=>if f i=n' then j else f i) p (fun i hi hpi=>⟨_,?_,rfl⟩) (fun i i' hi hi' hpi hpi' e'=> ?_)
    ·omega
    ·obtain⟨j',hj',e'⟩:=h1 i (by omega) hpi;have hne:f i≠f k:=fun e2=>by have:=h2 i k (by omega) (by omega) hpi hp e2;omega
     split<;>omega
    ·have hne:f i≠f k:=fun e2=>by have:=h2 i k (by omega) (by omega) hpi hp e2;omega
     have hne':f i'≠f k:=fun e2=>by have:=h2 i' k (by omega) (by omega) hpi' hp e2;omega
     obtain⟨a1,a2,a3⟩:=h1 i (by omega) hpi;obtain⟨b1,b2,b3⟩:=h1 i' (by omega) hpi';refine h2 i i' (by omega) (by omega) hpi hpi' ?_;split at e'<;>split at e'<;>omega
   ·rw[zl hp];exact ih n f p (fun i hi=>h1 i (by omega)) fun i i' hi hi'=>h2 i i' (by omega) (by omega)
 have hF:∀i,i<E.m->¬Own D (E.own i)->Free D (E.own i):=fun i hi hn=>((hv (E.own i)).2 (.inl ⟨i,hi,rfl⟩)).resolve_left hn;unfold dist;have pick:∀i,∃j,(i<E.m/\¬Own D (E.own i))->j<D.n/\D.free j=E.own i:=fun i=>by
  by_cases h:i<E.m/\¬Own D (E.own i)
  ·obtain⟨j,hj⟩:=hF i h.1 h.2;exact⟨j,fun _=>hj⟩
  ·exact⟨0,fun h'=>absurd h' h⟩
 refine @key E.m D.n (fun i=>Classical.choose (pick i)) _ _ (fun i hi hp=>⟨_,(vB (pick i) ⟨hi,hp⟩).1,rfl⟩) fun i i' hi hi' hp hp' e=> ?_;have a:=(vB (pick i) ⟨hi,hp⟩).2;have b:=(vB (pick i') ⟨hi',hp'⟩).2;rw[e,b]at a;exact hE.own i i' hi hi' a.symm
theorem same_v{D E:Dic}(hD:D.Ok)(hE:E.Ok)(hq:Eqv D E)(hv:SameV D E)(ho:∀k,Own D k↔Own E k){i i':Nat}(hi:i<D.m)(a6:i'<E.m)(e:D.own i=E.own i'):D.v i=E.v i':=by
 have h1:=(hq.sat _).1 (jh5 hD) i' a6;unfold Dic.row at h1;have h2:S E.n (fun j=>E.a i' j*D.pt (E.free j))=0:=jnt fun j hj=>by
  have:Free D (E.free j):=((hv (E.free j)).2 (.inr ⟨j,hj,rfl⟩)).resolve_left fun h=>jel hE ((ho _).1 h) ⟨j,hj,rfl⟩;obtain⟨j',a1,e'⟩:=this;rw[<-e',jrd hD a1];grind
 rw[h2,<-e,jsb hD hi]at h1;grind
theorem dir_of{D E:Dic}(hD:D.Ok)(hE:E.Ok)(hv:SameV D E)(ho:∀k,Own D k↔Own E k){s s':Nat}(hs:s<D.n)(a6:s'<E.n)(e:D.free s=E.free s'):∀j,j<E.n->D.dir s (E.free j)=if j=s' then 1 else 0:=by
 intro j hj;have:Free D (E.free j):=((hv (E.free j)).2 (.inr ⟨j,hj,rfl⟩)).resolve_left fun h=>jel hE ((ho _).1 h) ⟨j,hj,rfl⟩;obtain⟨j',a1,e'⟩:=this;rw[<-e',jfn hD a1 hs];by_cases h:j=s'
 ·subst h;rw[zh rfl,zh (hD.free j' s a1 hs (e'.trans e.symm))]
 ·rw[zl h,zl];intro h';subst h';exact h (hE.free j s' hj a6 (e'.symm.trans e))
theorem same_a{D E:Dic}(hD:D.Ok)(hE:E.Ok)(hq:Eqv D E)(hv:SameV D E)(ho:∀k,Own D k↔Own E k){i i' s s':Nat}(hi:i<D.m)(a6:i'<E.m)(hs:s<D.n)(a1:s'<E.n)(e:D.own i=E.own i')(e':D.free s=E.free s'):D.a i s=E.a i' s':=by
 have hx:=jh5 hD;have h1:=(hq.sat _).1 hx i' a6;have h2:=(hq.sat _).1 (jjs hD hs hx 1) i' a6;unfold Dic.row at h1 h2;have hd:=dir_of hD hE hv ho hs a1 e';have h3:S E.n (fun j=>E.a i' j*(D.pt (E.free j)+1*D.dir s (E.free j)))=S E.n (fun j=>E.a i' j*D.pt (E.free j))+S E.n (fun j=>E.a i' j*D.dir s (E.free j)):=by
  rw[<-S_add];exact jdx fun j hj=>by grind
 have h4:S E.n (fun j=>E.a i' j*D.dir s (E.free j))=E.a i' s':=by
  rw[S_one a1 fun j hj a7=>by rw[hd j hj,zl a7];grind];rw[hd s' a1,zh rfl];grind
 dsimp only at h2;rw[h3,h4,<-e,jmc hD hi]at h2;rw[<-e]at h1;grind
theorem same_g{D E:Dic}(hD:D.Ok)(hE:E.Ok)(hq:Eqv D E)(hv:SameV D E)(ho:∀k,Own D k↔Own E k){s s':Nat}(hs:s<D.n)(a1:s'<E.n)(e':D.free s=E.free s'):D.g s=E.g s':=by
 obtain⟨c,hc⟩:=hq.lin;have hx:=jh5 hD;have h1:=hc _ hx;have h2:=hc _ (jjs hD hs hx 1);have hd:=dir_of hD hE hv ho hs a1 e';rw[jjq,jjq,jp0 hD hs]at h2;have h4:E.lin (D.dir s)=E.g s':=by
  unfold Dic.lin;rw[S_one a1 fun j hj a6=>by rw[hd j hj,zl a6];grind];rw[hd s' a1,zh rfl];grind
 rw[h4]at h2;grind
def Ov(B q:Nat)(x:Rat):Prop:=∃z:Int,x*(q:Rat)=(z:Rat)/\z.natAbs<=B
structure Small(B:Nat)(q:Nat)(D:Dic):Prop where
 q0:0<q
 qB:q<=B
 v:∀i,i<D.m->Ov B q (D.v i)
 g:∀j,j<D.n->Ov B q (D.g j)
 a:∀i j,i<D.m->j<D.n->Ov B q (D.a i j)
theorem je4{a b:Int}{A B:Nat}(ha:a.natAbs<=A)(hb:b.natAbs<=B):(a*b).natAbs<=A*B:=by
 rw[jB];exact yl ha hb
theorem jj6(a b:Int):((a*b:Int):Rat)=(a:Rat)*(b:Rat):=j5 a b
theorem cast_sub(a b:Int):((a-b:Int):Rat)=(a:Rat)-(b:Rat):=Rat.intCast_sub a b
theorem Ov.mono{B C q:Nat}{x:Rat}(h:Ov B q x)(hB:B<=C):Ov C q x:=by
 obtain⟨z,h1,h2⟩:=h;exact⟨z,h1,qH h2 hB⟩
theorem Ov_zero{B q:Nat}:Ov B q 0:=⟨0,by rw[show((0:Int):Rat)=0 from rfl];grind,zG _⟩
theorem Ov_one{B q:Nat}(h:q<=B):Ov B q 1:=⟨(q:Int),by rw[show(((q:Int)):Rat)=(q:Rat)from rfl];grind,by rw[Int.natAbs_natCast];exact h⟩
theorem jtj(p:Int):∃s:Int,s.natAbs<=1/\((p.natAbs:Nat):Rat)=(s:Rat)*(p:Rat):=by
 rcases Int.natAbs_eq p with h | h
 ·refine⟨1,by decide,?_⟩;have e:((p.natAbs:Nat):Rat)=(((p.natAbs:Nat):Int):Rat):=rfl;rw[e,<-h,show((1:Int):Rat)=1 from rfl];grind
 ·refine⟨-1,by decide,?_⟩;have e:((p.natAbs:Nat):Rat)=(((p.natAbs:Nat):Int):Rat):=rfl;have h':((p.natAbs:Nat):Int)= -p:=by omega
  rw[e,h',<-j5];congr 1;omega
theorem jrn{B q:Nat}{a u w:Rat}{p:Int}(hq:q<=B)(ha:a*(q:Rat)=(p:Rat))(hw:w*a=u)(hu:Ov B q u):Ov (2*B*B) (q*p.natAbs) w:=by
 obtain⟨z,h1,h2⟩:=hu;obtain⟨s,hs,e⟩:=jtj p;refine⟨s*((q:Int)*z),?_,?_⟩
 ·rw[Rat.natCast_mul,e,jj6,jj6,show(((q:Int)):Rat)=(q:Rat)from rfl,<-h1,<-hw,<-ha];grind
 ·have h3:(((q:Int))*z).natAbs<=B*B:=je4 (by rw[Int.natAbs_natCast];exact hq) h2;have h4:=je4 hs h3;have h5:1*(B*B)<=2*B*B:=by rw[j2];exact qj _ (by omega)
  exact qH h4 h5
theorem jjd{B q:Nat}{a u w x y:Rat}{p:Int}(hp:p.natAbs<=B)(ha:a*(q:Rat)=(p:Rat))(hw:w*a=u)(hu:Ov B q u)(hx:Ov B q x)(hy:Ov B q y):Ov (2*B*B) (q*p.natAbs) (x-y*w):=by
 obtain⟨z,h1,h2⟩:=hu;obtain⟨zx,x1,x2⟩:=hx;obtain⟨zy,y1,y2⟩:=hy;obtain⟨s,hs,e⟩:=jtj p;refine⟨s*(zx*p-zy*z),?_,?_⟩
 ·rw[Rat.natCast_mul,e,jj6,cast_sub,jj6,jj6,<-h1,<-x1,<-y1,<-hw,<-ha];grind
 ·have h3:=je4 x2 hp;have h4:=je4 y2 h2;have h5:(zx*p-zy*z).natAbs<=2*B*B:=by rw[j2,Nat.two_mul];omega
  have:=je4 hs h5;omega
theorem small_pivot{D:Dic}{r s B q:Nat}(hr:r<D.m)(hs:s<D.n)(hp:D.a r s≠0)(h:Small B q D):∃q',Small (2*B*B) q' (D.pivot r s):=by
 obtain⟨p,a1,a7⟩:=h.a r s hr hs;have a8:p≠0:=by
  intro e;rw[e,show((0:Int):Rat)=0 from rfl]at a1;rcases Rat.mul_eq_zero.1 a1 with h1 | h1
  ·exact hp h1
  ·have h2:q=0:=by exact_mod_cast h1
   have:=h.q0;omega
 have b0:1<=B:=qH h.q0 h.qB;have a6:∀u:Rat,u/D.a r s*D.a r s=u:=fun u=>Rat.div_mul_cancel hp;refine⟨q*p.natAbs,Nat.mul_pos h.q0 (by omega),?_,fun i hi=> ?_,fun j hj=> ?_,fun i j hi hj=> ?_⟩
 ·have h1:=yl h.qB a7;have h2:1*(B*B)<=2*B*B:=by rw[j2];exact qj _ (by omega)
  omega
 ·show Ov _ _ (if i=r then D.v r/D.a r s else D.v i-D.a i s*(D.v r/D.a r s));split
  ·exact jrn h.qB a1 (a6 _) (h.v r hr)
  ·exact jjd a7 a1 (a6 _) (h.v r hr) (h.v i hi) (h.a i s hi hs)
 ·show Ov _ _ (exch _ _ s D.g j);unfold exch;split
  ·exact jjd a7 a1 (a6 _) (Ov_one h.qB) Ov_zero (h.g s hs)
  ·exact jjd a7 a1 (a6 _) (h.a r j hr hj) (h.g j hj) (h.g s hs)
 ·simp only[Dic.pivot];by_cases e:i=r
  ·rw[zh e];split
   ·exact jrn h.qB a1 (a6 _) (Ov_one h.qB)
   ·exact jrn h.qB a1 (a6 _) (h.a r j hr hj)
  ·rw[zl e];unfold exch;split
   ·exact jjd a7 a1 (a6 _) (Ov_one h.qB) Ov_zero (h.a i s hi hs)
   ·exact jjd a7 a1 (a6 _) (h.a r j hr hj) (h.a i j hi hj) (h.a i s hi hs)
theorem path_small{D E:Dic}{t:Nat}(h:Path D t E):∀{e q:Nat},Small (2^e) q D->∃q',Small (2^(2^t*(e+1)-1)) q' E:=by
 induction h with
 | nil D=>intro e q h;exact⟨q,by simpa using h⟩
 | step D r s t E hr hs hp _ ih=>
  intro e q h;obtain⟨q1,h1⟩:=small_pivot hr hs hp h;rw[show 2*2^e*2^e=2^(2*e+1)by rw[Nat.pow_succ,Nat.two_mul e,Nat.pow_add,jv 2,j2,jv 2];exact(j2 _ _ _).symm]at h1;obtain⟨q2,h2⟩:=ih h1;refine⟨q2,?_⟩
  rwa [show 2^t*(2*e+1+1)=2^(t+1)*(e+1)by rw[Nat.pow_succ,j2];congr 1]at h2
theorem Small.mono{B C q:Nat}{D:Dic}(h:Small B q D)(hB:B<=C):Small C q D:=
 ⟨h.q0,qH h.qB hB,fun i hi=>(h.v i hi).mono hB,fun j hj=>(h.g j hj).mono hB,fun i j hi hj=>(h.a i j hi hj).mono hB⟩
theorem small_all{D E:Dic}{e q:Nat}(hD:D.Ok)(hE:E.Ok)(hq:Eqv D E)(hv:SameV D E)(h:Small (2^e) q D):∃q',Small (2^(2^D.n*(e+1))) q' E:=by
 obtain⟨t,F,ht,hp,hF,a8,a7,ho⟩:=jqa D.n D E hD hE hq hv (dist_le_n hE hv);obtain⟨q',h'⟩:=path_small hp h;have hle:2^(2^t*(e+1)-1)<=2^(2^D.n*(e+1)):=yk (by decide) (by
  have:2^t*(e+1)<=2^D.n*(e+1):=qj _ (yk (by decide) ht);omega)
 have h':=h'.mono hle;have row:∀i,i<E.m->∃i',i'<F.m/\F.own i'=E.own i:=fun i hi=>(ho (E.own i)).2 ⟨i,hi,rfl⟩;have b0:∀j,j<E.n->∃j',j'<F.n/\F.free j'=E.free j:=fun j hj=>((a7 (E.free j)).2 (.inr ⟨j,hj,rfl⟩)).resolve_left fun h=>jel hE ((ho _).1 h) ⟨j,hj,rfl⟩;refine⟨q',h'.q0,h'.qB,fun i hi=> ?_,fun j hj=> ?_,fun i j hi hj=> ?_⟩
 ·obtain⟨i',a6,e'⟩:=row i hi;rw[<-same_v hF hE a8 a7 ho a6 hi e'];exact h'.v i' a6
 ·obtain⟨j',a1,e'⟩:=b0 j hj;rw[<-same_g hF hE a8 a7 ho a1 hj e'];exact h'.g j' a1
 ·obtain⟨i',a6,e1⟩:=row i hi;obtain⟨j',a1,e2⟩:=b0 j hj;rw[<-same_a hF hE a8 a7 ho a6 hi a1 hj e1 e2];exact h'.a i' j' a6 a1
end
section
def Reach(D:Dic)(T:Nat)(E:Dic):Prop:=∃(F:Nat->Dic) (r s:Nat->Nat),Run F r s T/\F 0=D/\F T=E
section
variable{D E:Dic}{T r s K:Nat}
theorem Reach.zero(hD:D.Ok):Reach D 0 D:=⟨fun _=>D,fun _=>0,fun _=>0,⟨hD,fun t ht=>absurd ht (by omega),fun t ht=>absurd ht (by omega)⟩,rfl,rfl⟩
theorem Reach.step(h:Reach D T E)(hr:Rule E r s):Reach D (T+1) (E.pivot r s):=by
 obtain⟨F,r',s',hR,h0,hT⟩:=h;refine⟨fun t=>if t<=T then F t else E.pivot r s,fun t=>if t<T then r' t else r,fun t=>if t<T then s' t else s,⟨?_,fun t ht=> ?_,fun t ht=> ?_⟩,?_,?_⟩
 ·show(if 0<=T then F 0 else _).Ok;rw[zh (zG _)];exact hR.ok
 ·show Rule (if t<=T then F t else _) (if t<T then r' t else r) (if t<T then s' t else s);rw[iPo];by_cases h1:t<T
  ·rw[zh h1,zh h1];exact hR.rule t h1
  ·have e:t=T:=by omega
   subst e;rw[zl h1,zl h1,hT];exact hr
 ·show(if t+1<=T then F (t+1)else _)=(if t<=T then F t else _).pivot (if t<T then r' t else r) (if t<T then s' t else s);rw[zh (by omega:t<=T)];by_cases h1:t<T
  ·rw[zh h1,zh h1,iPo];exact hR.next t h1
  ·have e:t=T:=by omega
   subst e;rw[zl h1,zl h1,iNo,hT]
 ·show(if 0<=T then F 0 else _)=D;rw[zh (zG _)];exact h0
 ·show(if T+1<=T then F (T+1)else _)=_;rw[iNo]
theorem Run.facts{F:Nat->Dic}{r s:Nat->Nat}(h:Run F r s T):∀t,t<=T->(F t).Ok/\Eqv (F 0) (F t)/\SameV (F 0) (F t)/\(F t).m=(F 0).m/\(F t).n=(F 0).n
 | 0,_=>⟨h.ok,Eqv.refl _,SameV.refl _,rfl,rfl⟩
 | t+1,ht=>by
  obtain⟨h1,h2,h3,h4,h5⟩:=h.facts t (by omega);have hr:=h.rule t (by omega);rw[h.next t (by omega)];exact⟨jog h1 hr.hr hr.hs,h2.trans (jm5 hr.hr hr.hs hr.ne),h3.trans (jl6 h1 hr.hr hr.hs),h4,h5⟩
theorem Reach.facts(h:Reach D T E):E.Ok/\Eqv D E/\SameV D E/\E.m=D.m/\E.n=D.n:=by
 obtain⟨F,r',s',hR,rfl,rfl⟩:=h;exact hR.facts T (zu _)
theorem Reach.bound(h:Reach D T E)(hK:∀k,(Own D k\/Free D k)->k<K):T<2^K:=by
 obtain⟨F,r',s',hR,rfl,rfl⟩:=h;refine hR.ends K T F r' s' fun t ht=> ?_;obtain⟨_,_,h3,_,_⟩:=hR.facts t (by omega);have hr:=hR.rule t ht;exact⟨hK _ ((h3 _).2 (.inl ⟨_,hr.hr,rfl⟩)),hK _ ((h3 _).2 (.inr ⟨_,hr.hs,rfl⟩))⟩
end
inductive Final(E:Dic):Int->Int->Prop
 | best:(∀i,i<E.m->0<=E.v i)->(∀j,j<E.n->E.g j<=0)->Final E (-1) (-1)
 | none (r:Nat):r<E.m->E.v r<0->(∀i,i<E.m->E.v i<0->E.own r<=E.own i)->(∀j,j<E.n->0<E.g j->E.own r<E.free j)->(∀j,j<E.n->0<=E.a r j)->Final E r (-1)
 | free (s:Nat):s<E.n->0<E.g s->(∀j,j<E.n->0<E.g j->E.free s<=E.free j)->(∀i,i<E.m->E.v i<0->E.free s<E.own i)->(∀i,i<E.m->E.a i s<=0)->Final E (-1) s
section
variable{D E E':Dic}{r r' s s' T T':Nat}{a b a' b':Int}
theorem jsg{x:Rat}(h:0<=x)(h':x<0):False:=by grind
theorem jsf{x:Rat}(h:x<=0)(h':0<x):False:=by grind
theorem Rule.det(hD:D.Ok)(h1:Rule D r s)(h2:Rule D r' s'):r=r'/\s=s':=by
 rcases h1.sel with ⟨a1,a2,a3,a4,a5⟩ | ⟨a1,a2,a3,a4,a5⟩<;>rcases h2.sel with ⟨b1,b2,b3,b4,b5⟩ | ⟨b1,b2,b3,b4,b5⟩
 ·have e:=hD.own r r' h1.hr h2.hr (yS (a2 r' h2.hr b1) (b2 r h1.hr a1));subst e;exact⟨rfl,hD.free s s' h1.hs h2.hs (yS (a5 s' h2.hs b4) (b5 s h1.hs a4))⟩
 ·have e1:=a3 s' h2.hs b1;have e2:=b3 r h1.hr a1;omega
 ·have e1:=b3 s h1.hs a1;have e2:=a3 r' h2.hr b1;omega
 ·have e:=hD.free s s' h1.hs h2.hs (yS (a2 s' h2.hs b1) (b2 s h1.hs a1));subst e;exact⟨hD.own r r' h1.hr h2.hr (yS (a5 r' h2.hr b4) (b5 r h1.hr a4)),rfl⟩
theorem Final.no(hD:E.Ok)(h:Final E a b)(h2:Rule E r s):False:=by
 cases h with
 | best e1 e2=>
  rcases h2.sel with ⟨b1,_⟩ | ⟨b1,_⟩
  ·exact jsg (e1 r h2.hr) b1
  ·exact jsf (e2 s h2.hs) b1
 | none q e1 e2 e3 e4 e5=>
  rcases h2.sel with ⟨b1,b2,b3,b4,b5⟩ | ⟨b1,b2,b3,b4,b5⟩
  ·have e:=hD.own q r e1 h2.hr (yS (e3 r h2.hr b1) (b2 q e1 e2));subst e;exact jsg (e5 s h2.hs) b4
  ·have x1:=e4 s h2.hs b1;have x2:=b3 q e1 e2;omega
 | free q e1 e2 e3 e4 e5=>
  rcases h2.sel with ⟨b1,b2,b3,b4,b5⟩ | ⟨b1,b2,b3,b4,b5⟩
  ·have x1:=e4 r h2.hr b1;have x2:=b3 q e1 e2;omega
  ·have e:=hD.free q s e1 h2.hs (yS (e3 s h2.hs b1) (b2 q e1 e2));subst e;exact jsf (e5 r h2.hr) b4
theorem Final.det(hD:E.Ok)(h:Final E a b)(h':Final E a' b'):a=a'/\b=b':=by
 cases h with
 | best e1 e2=>
  cases h' with
  | best=>exact⟨rfl,rfl⟩
  | none q f1 f2=>exact(jsg (e1 q f1) f2).elim
  | free q f1 f2=>exact(jsf (e2 q f1) f2).elim
 | none q e1 e2 e3 e4 e5=>
  cases h' with
  | best f1 f2=>exact(jsg (f1 q e1) e2).elim
  | none q' f1 f2 f3 f4 f5=>
   have e:=hD.own q q' e1 f1 (yS (e3 q' f1 f2) (f3 q e1 e2));subst e;exact⟨rfl,rfl⟩
  | free q' f1 f2 f3 f4 f5=>
   have x1:=e4 q' f1 f2;have x2:=f4 q e1 e2;omega
 | free q e1 e2 e3 e4 e5=>
  cases h' with
  | best f1 f2=>exact(jsf (f2 q e1) e2).elim
  | none q' f1 f2 f3 f4 f5=>
   have x1:=f4 q e1 e2;have x2:=e4 q' f1 f2;omega
  | free q' f1 f2 f3 f4 f5=>
   have e:=hD.free q q' e1 f1 (yS (e3 q' f1 f2) (f3 q e1 e2));subst e;exact⟨rfl,rfl⟩
theorem Reach.det(h:Reach D T E)(h':Reach D T' E')(f:Final E a b)(f':Final E' a' b'):E=E':=by
 have fE:=h.facts.1;have a8:=h'.facts.1;obtain⟨F,r,s,hR,h0,hT⟩:=h;obtain⟨F',r',s',a1,a7,a6⟩:=h';have key:∀t,t<=T->t<=T'->F t=F' t:=by
  intro t
  induction t with
  | zero=>intro _ _;rw[h0,a7]
  | succ t ih=>
   intro h1 h2;have e:=ih (by omega) (by omega);have k1:=hR.rule t (by omega);have k2:=a1.rule t (by omega);rw[<-e]at k2;obtain⟨e1,e2⟩:=k1.det (hR.facts t (by omega)).1 k2;rw[hR.next t (by omega),a1.next t (by omega),<-e,e1,e2]
 rcases qS T T' with hlt | heq | hlt
 ·have e:=key T (zu _) (by omega);have k2:=a1.rule T hlt;rw[<-e,hT]at k2;exact(f.no fE k2).elim
 ·subst heq;rw[<-hT,<-a6,key T (zu _) (zu _)]
 ·have e:=key T' (by omega) (zu _);have k2:=hR.rule T' hlt;rw[e,a6]at k2;exact(f'.no a8 k2).elim
end
end
section
structure Rw where
 ts:List (Nat×Rat)
 kind:Int
 val:Rat
def tsum:List (Nat×Rat)->(Nat->Rat)->Rat
 | [],_=>0
 | t::ts,x=>t.2*x t.1+tsum ts x
def cf:List (Nat×Rat)->Nat->Rat
 | [],_=>0
 | t::ts,k=>if k=t.1 then t.2 else cf ts k
def RT:List (Nat×Rat)->Nat->Nat->Prop
 | [],_,_=>True
 | t::ts,lo,N=>lo<=t.1/\t.1<N/\t.2≠0/\RT ts (t.1+1) N
theorem RT.mono:∀{ts:List (Nat×Rat)} {lo a1 N:Nat},RT ts lo N->a1<=lo->RT ts a1 N
 | [],_,_,_,_,_=>trivial
 | t::ts,lo,a1,N,h,hl=>⟨qH hl h.1,h.2.1,h.2.2.1,h.2.2.2⟩
theorem RT.mem:∀{ts:List (Nat×Rat)} {lo N:Nat},RT ts lo N->∀t∈ts,lo<=t.1/\t.1<N/\t.2≠0
 | t::ts,lo,N,h,u,hu=>by
  rcases zL.1 hu with rfl | hu
  ·exact⟨h.1,h.2.1,h.2.2.1⟩
  ·have h1:=RT.mem h.2.2.2 u hu;have h2:=h.1;exact⟨by omega,h1.2⟩
theorem cf_low:∀{ts:List (Nat×Rat)} {lo N k:Nat},RT ts lo N->k<lo->cf ts k=0
 | [],_,_,_,_,_=>rfl
 | t::ts,lo,N,k,h,hk=>by
  rw[cf,zl (by have:=h.1;omega)];exact cf_low h.2.2.2 (by have:=h.1;omega)
theorem jr6:∀{ts:List (Nat×Rat)} {lo N:Nat} (x:Nat->Rat),RT ts lo N->tsum ts x=S N (fun j=>cf ts j*x j)
 | [],_,N,x,_=>by
  rw[jnt fun j _=> ?_];rfl;simp only[cf];grind
 | t::ts,lo,N,x,h=>by
  rw[tsum,jr6 x h.2.2.2,jfx (f:=fun j=>cf (t::ts) j*x j) h.2.1,jfx (f:=fun j=>cf ts j*x j) h.2.1];have e1:cf ts t.1=0:=cf_low h.2.2.2 (by omega);have e2:cf (t::ts) t.1=t.2:=by rw[cf,zh rfl]
  rw[jdx (f:=fun j=>if j=t.1 then 0 else cf (t::ts) j*x j) (g:=fun j=>if j=t.1 then 0 else cf ts j*x j) fun j _=>by
   by_cases e:j=t.1
   ·simp only[zh e]
   ·simp only[zl e,cf]]
  rw[e1,e2];grind
theorem jjj:∀{ts:List (Nat×Rat)} {x y:Nat->Rat},(∀t∈ts,x t.1=y t.1)->tsum ts x=tsum ts y
 | [],_,_,_=>rfl
 | t::ts,x,y,h=>by rw[tsum,tsum,h t (zU ..),jjj fun u hu=>h u (zW _ hu)]
theorem tsum_app:∀(ts us:List (Nat×Rat)) (x:Nat->Rat),tsum (ts++us) x=tsum ts x+tsum us x
 | [],us,x=>by simp only[List.nil_append,tsum];grind
 | t::ts,us,x=>by rw[List.cons_append,tsum,tsum_app ts us x,tsum];grind
def Rw.sat(w:Rw)(x:Nat->Rat):Prop:=(w.kind≠1->w.val<=tsum w.ts x)/\(w.kind≠0->tsum w.ts x<=w.val)
structure Rw.Ok(w:Rw)(N:Nat):Prop where
 ts:RT w.ts 0 N
 kind:0<=w.kind/\w.kind<3
structure Sol(N:Nat)(ws:List Rw)(x:Nat->Rat):Prop where
 pos:∀k,k<N->0<=x k
 row:∀w∈ws,w.sat x
def Dic.put(D:Dic)(w:Rw)(t:Bool):Dic:=
 {D with
  m:=D.m+1
  own:=fun i=>if i=D.m then D.n+D.m else D.own i
  v:=fun i=>if i=D.m then(if t=true then-w.val else w.val)else D.v i
  a:=fun i=>if i=D.m then(fun j=>if t=true then-cf w.ts j else cf w.ts j)else D.a i}
def jdy(D:Dic)(src:Nat->Int×Bool)(row:Nat)(t:Bool)(i:Nat):Int×Bool:=if i=D.m then((row:Int),t)else src i
def rowD(p:Dic×(Nat->Int×Bool))(row:Nat)(w:Rw):Dic×(Nat->Int×Bool):=
 let p1:=if w.kind≠0 then(p.1.put w false,jdy p.1 p.2 row false)else p
 if w.kind≠1 then(p1.1.put w true,jdy p1.1 p1.2 row true)else p1
def rowsD(ws:List Rw)(p:Dic×(Nat->Int×Bool)):Nat->Dic×(Nat->Int×Bool)
 | 0=>p
 | i+1=>match ws[i]? with
  | some w=>rowD (rowsD ws p i) i w
  | none=>rowsD ws p i
def dic0(N:Nat):Dic:=⟨0,N,fun _=>0,fun j=>j,fun _=>0,fun _=>0,fun _ _=>0⟩
def src0:Nat->Int×Bool:=fun _=>(0,false)
def jev(N:Nat)(ws:List Rw):Dic×(Nat->Int×Bool):=rowsD ws (dic0 N,src0) ws.length
def first(N:Nat)(ws:List Rw)(goal:List (Nat×Rat)):Dic:={(jev N ws).1 with g:=fun j=> -cf goal j}
structure Mk(N:Nat)(D:Dic)(P:(Nat->Rat)->Prop):Prop where
 n:D.n=N
 own:∀i,i<D.m->D.own i=N+i
 free:∀j,D.free j=j
 sat:∀x,P x↔∀i,i<D.m->S N (fun j=>D.a i j*x j)<=D.v i
theorem Mk.congr{N:Nat}{D:Dic}{P Q:(Nat->Rat)->Prop}(h:Mk N D P)(hq:∀x,Q x↔P x):Mk N D Q:=⟨h.n,h.own,h.free,fun x=>(hq x).trans (h.sat x)⟩
theorem mk0(N:Nat):Mk N (dic0 N) (fun _=>True):=⟨rfl,fun i hi=>absurd hi (jy _),fun _=>rfl,fun x=>⟨fun _ i hi=>absurd hi (jy _),fun _=>trivial⟩⟩
theorem S_negc(f g:Nat->Rat)(n:Nat):S n (fun j=> -f j*g j)= -S n (fun j=>f j*g j):=by
 rw[<-S_neg];exact jdx fun j _=>by grind
theorem Mk.put{N:Nat}{D:Dic}{P:(Nat->Rat)->Prop}(h:Mk N D P)(w:Rw)(hw:RT w.ts 0 N)(t:Bool):Mk N (D.put w t) (fun x=>P x/\(if t=true then w.val<=tsum w.ts x else tsum w.ts x<=w.val)) where
 n:=h.n
 own i hi:=by
  show(if i=D.m then D.n+D.m else D.own i)=_;by_cases e:i=D.m
  ·rw[zh e,h.n,e]
  ·rw[zl e];exact h.own i (by have:i<D.m+1:=hi;omega)
 free:=h.free
 sat x:=by
  have key:(if t=true then w.val<=tsum w.ts x else tsum w.ts x<=w.val)↔S N (fun j=>(D.put w t).a D.m j*x j)<=(D.put w t).v D.m:=by
   have e1:(D.put w t).a D.m=fun j=>if t=true then-cf w.ts j else cf w.ts j:=zh rfl
   have e2:(D.put w t).v D.m=if t=true then-w.val else w.val:=zh rfl
   rw[e1,e2,jr6 x hw];cases t
   ·simp only[ya,qp]
   ·simp only[qA];rw[S_negc];constructor<;>intro h<;>grind
  rw[key,h.sat x];constructor
  ·rintro⟨h1,h2⟩ i hi;by_cases e:i=D.m
   ·subst e;exact h2
   ·have e1:(D.put w t).a i=D.a i:=zl e;have e2:(D.put w t).v i=D.v i:=zl e;rw[e1,e2];exact h1 i (by have:i<D.m+1:=hi;omega)
  ·intro h1;refine⟨fun i hi=> ?_,h1 D.m (jE _)⟩;have e1:(D.put w t).a i=D.a i:=iNo;have e2:(D.put w t).v i=D.v i:=iNo;have:=h1 i (Nat.lt_succ_of_lt hi)
   rwa [e1,e2]at this
theorem mk_row{N:Nat}{p:Dic×(Nat->Int×Bool)}{P:(Nat->Rat)->Prop}(h:Mk N p.1 P)(row:Nat)(w:Rw)(hw:RT w.ts 0 N):Mk N (rowD p row w).1 (fun x=>P x/\w.sat x):=by
 unfold rowD Rw.sat;dsimp only;by_cases h0:w.kind=0
 ·have h1:w.kind≠1:=by omega
  rw[zl (show ¬(w.kind≠0)from fun h=>h h0),zh h1];refine(h.put w hw true).congr fun x=> ?_;rw[zh rfl];constructor
  ·rintro⟨a,b,c⟩;exact⟨a,b h1⟩
  ·rintro⟨a,b⟩;exact⟨a,fun _=>b,fun h=>absurd h0 h⟩
 ·rw[zh h0];by_cases h1:w.kind=1
  ·rw[zl (show ¬(w.kind≠1)from fun h=>h h1)];refine(h.put w hw false).congr fun x=> ?_;rw[zl (by decide)];constructor
   ·rintro⟨a,b,c⟩;exact⟨a,c h0⟩
   ·rintro⟨a,b⟩;exact⟨a,fun h=>absurd h1 h,fun _=>b⟩
  ·rw[zh h1];refine((h.put w hw false).put w hw true).congr fun x=> ?_;rw[zl (by decide),zh rfl];constructor
   ·rintro⟨a,b,c⟩;exact⟨⟨a,c h0⟩,b h1⟩
   ·rintro⟨⟨a,b⟩,c⟩;exact⟨a,fun _=>c,fun _=>b⟩
theorem mk_rows{N:Nat}{ws:List Rw}(hw:∀w∈ws,w.Ok N):∀i,i<=ws.length->Mk N (rowsD ws (dic0 N,src0) i).1 (fun x=>∀w∈ws.take i,w.sat x)
 | 0,_=>(mk0 N).congr fun x=>⟨fun _=>trivial,fun _ w hw=>by rw[List.take_zero]at hw;cases hw⟩
 | i+1,hi=>by
  have a1:i<ws.length:=hi;have hg:ws[i]? =some ws[i]:=zw a1;rw[rowsD,hg];refine(mk_row (mk_rows hw i (by omega)) i ws[i] (hw _ (yN a1)).ts).congr fun x=> ?_;rw[yo,hg];simp only[Option.toList_some,qk,zE];constructor
  ·intro h;exact⟨fun w hw=>h w (.inl hw),h _ (.inr rfl)⟩
  ·rintro⟨h1,h2⟩ w (hw | rfl)
   ·exact h1 w hw
   ·exact h2
section
variable{N:Nat}{ws:List Rw}{goal:List (Nat×Rat)}{E:Dic}
theorem mk_first(hw:∀w∈ws,w.Ok N):Mk N (first N ws goal) (fun x=>∀w∈ws,w.sat x):=by
 have h:=mk_rows hw ws.length (zu _);rw[qE]at h;exact⟨h.n,h.own,h.free,h.sat⟩
theorem Mk.ok{D:Dic}{P:(Nat->Rat)->Prop}(h:Mk N D P):D.Ok where
 own i i' hi hi' e:=by rw[h.own i hi,h.own i' hi']at e;omega
 free j j' hj hj' e:=by rw[h.free,h.free]at e;exact e
 apart i j hi hj:=by rw[h.own i hi,h.free];have:=h.n;omega
def ext(D:Dic)(N:Nat)(x:Nat->Rat)(k:Nat):Rat:=if k<N then x k else D.v (k-N)-S N (fun j=>D.a (k-N) j*x j)
theorem jow{D:Dic}{x:Nat->Rat}{k:Nat}(h:k<N):ext D N x k=x k:=zh h
theorem Mk.ext_sat{D:Dic}{P:(Nat->Rat)->Prop}(h:Mk N D P)(x:Nat->Rat):D.Sat (ext D N x):=fun i hi=>by
 unfold Dic.row;rw[h.own i hi,h.n,jdx (f:=fun j=>D.a i j*ext D N x (D.free j)) (g:=fun j=>D.a i j*x j) fun j hj=>by rw[h.free,jow hj]];unfold ext;rw[iNo,show N+i-N=i by omega];grind
theorem Mk.sat_iff{D:Dic}{P:(Nat->Rat)->Prop}(h:Mk N D P){y:Nat->Rat}(hy:D.Sat y)(hp:∀k,0<=y k):P y:=(h.sat y).2 fun i hi=>by
 have h1:=hy i hi;unfold Dic.row at h1;rw[h.own i hi,h.n,jdx (f:=fun j=>D.a i j*y (D.free j)) (g:=fun j=>D.a i j*y j) fun j hj=>by rw[h.free]]at h1;have:=hp (N+i);grind
theorem Mk.ext_nonneg{D:Dic}{P:(Nat->Rat)->Prop}(h:Mk N D P){x:Nat->Rat}(hx:P x)(hp:∀k,k<N->0<=x k):∀k,k<N+D.m->0<=ext D N x k:=fun k hk=>by
 by_cases e:k<N
 ·rw[jow e];exact hp k e
 ·unfold ext;rw[zl e];have:=(h.sat x).1 hx (k-N) (by omega);grind
theorem own_lt{D:Dic}{P:(Nat->Rat)->Prop}(h:Mk N D P)(k:Nat):(Own D k\/Free D k)↔k<N+D.m:=by
 constructor
 ·rintro(⟨i,hi,rfl⟩ | ⟨j,hj,rfl⟩)
  ·rw[h.own i hi];omega
  ·rw[h.free,<-h.n];omega
 ·intro hk;by_cases e:k<N
  ·exact .inr ⟨k,by rw[h.n];exact e,h.free k⟩
  ·exact .inl ⟨k-N,by omega,by rw[h.own _ (by omega)];omega⟩
theorem jlx(hw:∀w∈ws,w.Ok N)(hg:RT goal 0 N)(y:Nat->Rat):(first N ws goal).lin y= -tsum goal y:=by
 have h:=mk_first (goal:=goal) hw;unfold Dic.lin;rw[h.n,jr6 y hg,jdx (f:=fun j=>(first N ws goal).g j*y ((first N ws goal).free j)) (g:=fun j=> -cf goal j*y j) fun j hj=>by rw[h.free];rfl,S_negc]
theorem pt_nn(hE:E.Ok)(hv:∀i,i<E.m->0<=E.v i)(k:Nat):0<=E.pt k:=jh6 hE (K:=k+1) (fun i hi _=>hv i hi) (jE _)
theorem final_best(hw:∀w∈ws,w.Ok N)(hg:RT goal 0 N)(hE:E.Ok)(hq:Eqv (first N ws goal) E)(hv:SameV (first N ws goal) E)(h1:∀i,i<E.m->0<=E.v i)(h2:∀j,j<E.n->E.g j<=0):
  Sol N ws E.pt/\∀x,Sol N ws x->tsum goal E.pt<=tsum goal x:=by
 have h:=mk_first (goal:=goal) hw;have hp:=pt_nn hE h1;have hs:(first N ws goal).Sat E.pt:=(hq.sat _).2 (jh5 hE);refine⟨⟨fun k _=>hp k,h.sat_iff hs hp⟩,fun x hx=> ?_⟩;have hy:=h.ext_sat x;have hn:=h.ext_nonneg hx.row hx.pos;obtain⟨c,hc⟩:=hq.lin;have e1:=hc _ hy;have e2:=hc _ hs;rw[jlx hw hg]at e1 e2;rw[pt_lin hE]at e2;have e3:tsum goal (ext (first N ws goal) N x)=tsum goal x:=jjj fun t ht=>jow (hg.mem t ht).2.1;have e4:E.lin (ext (first N ws goal) N x)<=0:=by
  have:0<=S E.n (fun j=> -(E.g j*ext (first N ws goal) N x (E.free j))):=jjb fun j hj=>by
   have a1:=h2 j hj;have a2:0<=ext (first N ws goal) N x (E.free j):=hn _ ((own_lt h _).1 ((hv _).2 (.inr ⟨j,hj,rfl⟩)));exact jsj a1 a2
  rw[S_neg]at this;unfold Dic.lin;grind
 rw[e3]at e1;grind
theorem final_none(hw:∀w∈ws,w.Ok N)(hq:Eqv (first N ws goal) E)(hv:SameV (first N ws goal) E){r:Nat}(hr:r<E.m)(h1:E.v r<0)(h2:∀j,j<E.n->0<=E.a r j):∀x,¬Sol N ws x:=fun x hx=>by
 have h:=mk_first (goal:=goal) hw;have hy:=(hq.sat _).1 (h.ext_sat x) r hr;have hn:=h.ext_nonneg hx.row hx.pos;unfold Dic.row at hy;have a1:0<=ext (first N ws goal) N x (E.own r):=hn _ ((own_lt h _).1 ((hv _).2 (.inl ⟨r,hr,rfl⟩)));have a2:0<=S E.n (fun j=>E.a r j*ext (first N ws goal) N x (E.free j)):=jjb fun j hj=>jf (h2 j hj) (hn _ ((own_lt h _).1 ((hv _).2 (.inr ⟨j,hj,rfl⟩))));grind
theorem final_free(hw:∀w∈ws,w.Ok N)(hg:RT goal 0 N)(hE:E.Ok)(hq:Eqv (first N ws goal) E)(hv:SameV (first N ws goal) E){s:Nat}(hs:s<E.n)(h1:0<E.g s)(h2:∀i,i<E.m->E.a i s<=0){x:Nat->Rat}(hx:Sol N ws x):
  ∀c:Rat,∃y,Sol N ws y/\tsum goal y<c:=fun c=>by
 have h:=mk_first (goal:=goal) hw;have hy:=h.ext_sat x;have hn:=h.ext_nonneg hx.row hx.pos;have hd:∀k,0<=E.dir s k:=fun k=>jhx hE (K:=k+1) hs (fun i hi _=>h2 i hi) (jE _);obtain⟨c0,hc⟩:=hq.lin;have key:∀t:Rat,0<=t->Sol N ws (fun k=>ext (first N ws goal) N x k+t*E.dir s k)/\tsum goal (fun k=>ext (first N ws goal) N x k+t*E.dir s k)=tsum goal x-t*E.g s:=fun t ht=>by
  have e0:E.Sat (fun k=>ext (first N ws goal) N x k+t*E.dir s k):=jjs hE hs ((hq.sat _).1 hy) t;have e1:=(hq.sat _).2 e0;refine⟨⟨fun k hk=> ?_,?_⟩,?_⟩
  ·have a1:=hn k (by omega);have a2:=jf ht (hd k);show 0<=ext (first N ws goal) N x k+t*E.dir s k;grind
  ·refine(h.sat _).2 fun i hi=> ?_;have b1:=e1 i hi;unfold Dic.row at b1;rw[h.own i hi,h.n]at b1;rw[jdx (f:=fun j=>(first N ws goal).a i j*(fun k=>ext (first N ws goal) N x k+t*E.dir s k) ((first N ws goal).free j)) (g:=fun j=>(first N ws goal).a i j*(fun k=>ext (first N ws goal) N x k+t*E.dir s k) j) fun j hj=>by rw[h.free]]at b1;have a1:=hn (N+i) (by omega);have a2:=jf ht (hd (N+i));dsimp only at b1⊢;grind
  ·have c1:=hc _ e1;have c2:=hc _ hy;rw[jlx hw hg]at c1 c2;rw[jjq,jp0 hE hs]at c1;have e3:tsum goal (ext (first N ws goal) N x)=tsum goal x:=jjj fun t ht=>jow (hg.mem t ht).2.1;rw[e3]at c2;grind
 by_cases a6:tsum goal x<c
 ·exact⟨x,hx,a6⟩
 ·have a7:E.g s*(E.g s)⁻¹=1:=vQ _ (by grind);have hi:0<=(E.g s)⁻¹:=Rat.le_of_lt (Rat.inv_pos.2 h1);have ht:0<=(tsum goal x-c+1)*(E.g s)⁻¹:=jf (by grind) hi;obtain⟨k1,k2⟩:=key _ ht;refine⟨_,k1,?_⟩;rw[k2];have:(tsum goal x-c+1)*(E.g s)⁻¹*E.g s=tsum goal x-c+1:=by
   rw[Rat.mul_assoc,Rat.mul_comm _ (E.g s),a7];grind
  rw[this];grind
theorem final_nil(hw:∀w∈ws,w.Ok N)(hE:E.Ok)(hq:Eqv (first N ws []) E){s:Nat}(hs:s<E.n):E.g s=0:=by
 obtain⟨c,hc⟩:=hq.lin;have e1:=hc _ ((hq.sat _).2 (jh5 hE));have e2:=hc _ ((hq.sat _).2 (jjs hE hs (jh5 hE) 1));have hr:RT [] 0 N:=trivial;rw[jlx hw hr]at e1 e2;rw[jjq,jp0 hE hs]at e2;simp only[tsum]at e1 e2;grind
end
end
section
theorem Ov_neg{B q:Nat}{x:Rat}(h:Ov B q x):Ov B q (-x):=by
 obtain⟨z,h1,h2⟩:=h;exact⟨-z,by rw[Rat.intCast_neg,<-h1];grind,by rw[qT];exact h2⟩
structure OvRw(B q:Nat)(w:Rw):Prop where
 val:Ov B q w.val
 ts:∀t∈w.ts,Ov B q t.2
theorem Ov_cf{B q:Nat}:∀{ts:List (Nat×Rat)},(∀t∈ts,Ov B q t.2)->∀k,Ov B q (cf ts k)
 | [],_,k=>Ov_zero
 | t::ts,h,k=>by
  rw[cf];split
  ·exact h t (zU ..)
  ·exact Ov_cf (fun u hu=>h u (zW _ hu)) k
def OvD(B q:Nat)(D:Dic):Prop:=∀i,i<D.m->Ov B q (D.v i)/\∀j,Ov B q (D.a i j)
theorem OvD.put{B q:Nat}{D:Dic}(h:OvD B q D){w:Rw}(hw:OvRw B q w)(t:Bool):OvD B q (D.put w t):=fun i hi=>by
 by_cases e:i=D.m
 ·have e1:(D.put w t).a i=fun j=>if t=true then-cf w.ts j else cf w.ts j:=zh e
  have e2:(D.put w t).v i=if t=true then-w.val else w.val:=zh e
  rw[e1,e2];cases t
  ·exact⟨hw.val,fun j=>Ov_cf hw.ts j⟩
  ·exact⟨Ov_neg hw.val,fun j=>Ov_neg (Ov_cf hw.ts j)⟩
 ·have e1:(D.put w t).a i=D.a i:=zl e;have e2:(D.put w t).v i=D.v i:=zl e;rw[e1,e2];exact h i (by have:i<D.m+1:=hi;omega)
theorem OvD.rowD{B q:Nat}{p:Dic×(Nat->Int×Bool)}(h:OvD B q p.1){w:Rw}(hw:OvRw B q w)(row:Nat):OvD B q (rowD p row w).1:=by
 unfold Go.LP.rowD;dsimp only;by_cases h0:w.kind≠0
 ·rw[zh h0];by_cases h1:w.kind≠1
  ·rw[zh h1];exact(h.put hw false).put hw true
  ·rw[zl h1];exact h.put hw false
 ·rw[zl h0];by_cases h1:w.kind≠1
  ·rw[zh h1];exact h.put hw true
  ·rw[zl h1];exact h
theorem OvD.rows{B q:Nat}{N:Nat}{ws:List Rw}(hw:∀w∈ws,OvRw B q w):∀i,OvD B q (rowsD ws (dic0 N,src0) i).1
 | 0=>fun i hi=>absurd hi (jy _)
 | i+1=>by
  rw[rowsD];split
  ·rename_i w hg;exact(OvD.rows hw i).rowD (hw w (zk hg)) i
  ·exact OvD.rows hw i
theorem small_first{B q N:Nat}{ws:List Rw}{goal:List (Nat×Rat)}(q0:0<q)(hq:q<=B)(hw:∀w∈ws,OvRw B q w)(hg:∀t∈goal,Ov B q t.2):Small B q (first N ws goal) where
 q0:=q0
 qB:=hq
 v i hi:=(OvD.rows hw ws.length i hi).1
 g j _:=Ov_neg (Ov_cf hg j)
 a i j hi _:=(OvD.rows hw ws.length i hi).2 j
structure Src(p:Dic×(Nat->Int×Bool))(R:Nat):Prop where
 row:∀i,i<p.1.m->0<=(p.2 i).1/\(p.2 i).1<(R:Int)
theorem Src.put{p:Dic×(Nat->Int×Bool)}{R:Nat}(h:Src p R)(w:Rw)(row:Nat)(t:Bool)(hr:row<R):Src (p.1.put w t,jdy p.1 p.2 row t) R where
 row i hi:=by
  dsimp only[jdy];by_cases e:i=p.1.m
  ·rw[zh e];dsimp only;omega
  ·rw[zl e];exact h.row i (by have:i<p.1.m+1:=hi;omega)
theorem Src.mono{p:Dic×(Nat->Int×Bool)}{R R':Nat}(h:Src p R)(hR:R<=R'):Src p R':=⟨fun i hi=>by have:=h.row i hi;omega⟩
theorem Src.rowD{p:Dic×(Nat->Int×Bool)}{R:Nat}(h:Src p R)(w:Rw)(row:Nat)(hr:row<R):Src (rowD p row w) R:=by
 unfold Go.LP.rowD;dsimp only;by_cases h0:w.kind≠0
 ·rw[zh h0];by_cases h1:w.kind≠1
  ·rw[zh h1];exact(h.put w row false hr).put w row true hr
  ·rw[zl h1];exact h.put w row false hr
 ·rw[zl h0];by_cases h1:w.kind≠1
  ·rw[zh h1];exact h.put w row true hr
  ·rw[zl h1];exact h
theorem Src.rows{N:Nat}{ws:List Rw}:∀i,Src (rowsD ws (dic0 N,src0) i) i
 | 0=>⟨fun i hi=>absurd hi (jy _)⟩
 | i+1=>by
  rw[rowsD];split
  ·exact((Src.rows i).mono (by omega)).rowD _ i (by omega)
  ·exact(Src.rows i).mono (by omega)
theorem m_row(p:Dic×(Nat->Int×Bool))(row:Nat)(w:Rw):(rowD p row w).1.m<=p.1.m+2:=by
 unfold rowD;dsimp only;by_cases h0:w.kind≠0
 ·rw[zh h0];by_cases h1:w.kind≠1
  ·rw[zh h1];exact zu _
  ·rw[zl h1];exact Nat.le_succ _
 ·rw[zl h0];by_cases h1:w.kind≠1
  ·rw[zh h1];exact Nat.le_succ _
  ·rw[zl h1];exact Nat.le_add_right _ _
theorem m_rows{ws:List Rw}{p:Dic×(Nat->Int×Bool)}:∀i,(rowsD ws p i).1.m<=p.1.m+2*i
 | 0=>zu _
 | i+1=>by
  have ih:=m_rows (ws:=ws) (p:=p) i;rw[rowsD];split
  ·have:=m_row (rowsD ws p i) i;exact qH (this _) (by omega)
  ·omega
section
variable{N:Nat}{ws ws':List Rw}{g:List (Nat×Rat)}{v u:Rat}
structure IsMin(N:Nat)(ws:List Rw)(g:List (Nat×Rat))(v:Rat):Prop where
 at':∃x,Sol N ws x/\tsum g x=v
 le:∀x,Sol N ws x->v<=tsum g x
def NoMin(N:Nat)(ws:List Rw)(g:List (Nat×Rat)):Prop:=(∃x,Sol N ws x)/\∀c:Rat,∃x,Sol N ws x/\tsum g x<c
theorem Sol.sub{x:Nat->Rat}(h:Sol N ws' x)(hs:∀w∈ws,w∈ws'):Sol N ws x:=⟨h.pos,fun w hw=>h.row w (hs w hw)⟩
theorem tsum_nonneg:∀{ts:List (Nat×Rat)} {lo N:Nat} {x:Nat->Rat},RT ts lo N->(∀t∈ts,0<=t.2)->(∀k,k<N->0<=x k)->0<=tsum ts x
 | [],_,_,_,_,_,_=>by simp only[tsum];grind
 | t::ts,lo,N,x,h,hc,hx=>by
  rw[tsum];have h1:=jf (hc t (zU ..)) (hx t.1 h.2.1);have h2:=tsum_nonneg h.2.2.2 (fun u hu=>hc u (zW _ hu)) hx;grind
end
end
end Go.LP
namespace Go.Proofs.YtjcjcpebocbonaaGreat
section
set_option maxRecDepth 1000000
open Go.Abs
open Go.LP (Rw RT Ov OvRw tsum)
def sgnF(fr:Int)(y:Move):Int:=if y.fr=fr then-1 else if y.to=fr then 1 else 0
def jbj(M:Nat)(fr:Int)(mat:Nat)(ms:List Move):Nat->List (Nat×Rat)
 | 0=>[]
 | i+1=>match ms[i]? with
  | some y=>if sgnF fr y=0 then jbj M fr mat ms i else jbj M fr mat ms i++[(i*M+mat,((sgnF fr y:Int):Rat))]
  | none=>jbj M fr mat ms i
def coF(b own more:Int)(k:Nat):Int:=if(k:Int)=own then b+more else b
def sumT(M mv:Nat)(b own more:Int):Nat->List (Nat×Rat)
 | 0=>[]
 | k+1=>if coF b own more k=0 then sumT M mv b own more k else sumT M mv b own more k++[(mv*M+k,((coF b own more k:Int):Rat))]
def jeu(M:Nat)(ms:List Move)(mv:Nat)(x:Move):Nat->List Rw
 | 0=>[]
 | mat+1=>jeu M ms mv x mat++[⟨jbj M x.fr mat ms (mv+1),if x.all=true then 2 else 0,0⟩]
def jd5(e:Evid)(M mv:Nat)(x:Move):List Rw:=
 if x.scale= -1 then []else match ivlF e.certs e.recalls x.scale x.reading x.day with
  | some (lo,hi)=>[⟨sumT M mv 1 (-1) 0 M,0,lo⟩,⟨sumT M mv 1 (-1) 0 M,1,hi⟩]
  | none=>[]
def pur1(M mv:Nat)(p:Purity):List Rw:=if p.move=(mv:Int)then [⟨sumT M mv (-p.least) p.mat 1000 M,0,0⟩,⟨sumT M mv p.most p.mat (-1000) M,0,0⟩]else []
def purR(M mv:Nat)(ps:List Purity):List Rw:=ps.flatMap (pur1 M mv)
def binF(e:Evid)(x:Move):Bool:=(e.places[x.fr.toNat]?).elim false fun p=>decide (p.kind=0)
def moveR(e:Evid)(M mv:Nat)(x:Move):List Rw:=(if binF e x=true then []else jeu M e.moves mv x M)++jd5 e M mv x++purR M mv e.purs
def rowsU(e:Evid)(M:Nat):Nat->List Rw
 | 0=>[]
 | i+1=>match e.moves[i]? with
  | some x=>rowsU e M i++moveR e M i x
  | none=>rowsU e M i
def rowsE(e:Evid):List Rw:=rowsU e e.mats.toNat e.moves.length
theorem mem_rowsU{e:Evid}{M:Nat}{w:Rw}:∀{i:Nat},w∈rowsU e M i↔∃k x,k<i/\e.moves[k]? =some x/\w∈moveR e M k x
 | 0=>by simp[rowsU]
 | i+1=>by
  rw[rowsU];cases hg:e.moves[i]? with
  | none=>
   rw[mem_rowsU];constructor
   ·rintro⟨k,x,h1,h2⟩;exact⟨k,x,by omega,h2⟩
   ·rintro⟨k,x,h1,h2,h3⟩;refine⟨k,x,?_,h2,h3⟩;have:k≠i:=fun e=>by subst e;rw[hg]at h2;cases h2
    omega
  | some y=>
   simp only[qk,mem_rowsU];constructor
   ·rintro(⟨k,x,h1,h2⟩ | h)
    ·exact⟨k,x,by omega,h2⟩
    ·exact⟨i,y,by omega,hg,h⟩
   ·rintro⟨k,x,h1,h2,h3⟩;by_cases e1:k=i
    ·subst e1;rw[hg]at h2;cases h2;exact .inr h3
    ·exact .inl ⟨k,x,by omega,h2,h3⟩
theorem mem_stockR{M:Nat}{ms:List Move}{mv:Nat}{x:Move}{w:Rw}:∀{k:Nat},w∈jeu M ms mv x k↔∃mat,mat<k/\w=⟨jbj M x.fr mat ms (mv+1),if x.all=true then 2 else 0,0⟩
 | 0=>by simp[jeu]
 | k+1=>by
  rw[jeu];simp only[qk,mem_stockR,zE];constructor
  ·rintro(⟨mat,h1,h2⟩ | h)
   ·exact⟨mat,by omega,h2⟩
   ·exact⟨k,by omega,h⟩
  ·rintro⟨mat,h1,h2⟩;by_cases e1:mat=k
   ·subst e1;exact .inr h2
   ·exact .inl ⟨mat,by omega,h2⟩
theorem RT_up:∀{ts:List (Nat×Rat)} {lo N N':Nat},RT ts lo N->N<=N'->RT ts lo N'
 | [],_,_,_,_,_=>trivial
 | t::ts,lo,N,N',h,hN=>⟨h.1,by have:=h.2.1;omega,h.2.2.1,RT_up h.2.2.2 hN⟩
theorem jrm{t:Nat×Rat}{N:Nat}:∀{ts:List (Nat×Rat)} {lo k:Nat},RT ts lo k->lo<=t.1->k<=t.1->t.1<N->t.2≠0->RT (ts++[t]) lo N
 | [],_,_,_,h1,_,h3,h4=>⟨h1,h3,h4,trivial⟩
 | u::ts,lo,k,h,h1,h2,h3,h4=>⟨h.1,by have:=h.2.1;omega,h.2.2.1,jrm h.2.2.2 (by have:=h.2.1;omega) h2 h3 h4⟩
theorem cast_ne{z:Int}(h:z≠0):(z:Rat)≠0:=fun e=>h (Rat.intCast_eq_zero_iff.1 e)
theorem jtl{M:Nat}{fr:Int}{mat:Nat}{ms:List Move}(hm:mat<M):∀i,RT (jbj M fr mat ms i) 0 (i*M)
 | 0=>trivial
 | i+1=>by
  have ih:=jtl (fr:=fr) (ms:=ms) hm i;have e1:(i+1)*M=i*M+M:=jo i M;rw[jbj];split
  ·split
   ·exact RT_up ih (by omega)
   ·rename_i h;refine jrm ih (zG _) ?_ ?_ (cast_ne h)
    ·show i*M<=i*M+mat;omega
    ·show i*M+mat<(i+1)*M;omega
  ·exact RT_up ih (by omega)
theorem RT_sum{M mv:Nat}{b own more:Int}:∀k,RT (sumT M mv b own more k) (mv*M) (mv*M+k)
 | 0=>trivial
 | k+1=>by
  have ih:=RT_sum (M:=M) (mv:=mv) (b:=b) (own:=own) (more:=more) k;rw[sumT];split
  ·exact RT_up ih (by omega)
  ·rename_i h;refine jrm ih ?_ ?_ ?_ (cast_ne h)
   ·show mv*M<=mv*M+k;omega
   ·show mv*M+k<=mv*M+k;omega
   ·show mv*M+k<mv*M+(k+1);omega
theorem jp9{M mv n:Nat}{b own more:Int}(h:mv<n):RT (sumT M mv b own more M) 0 (n*M):=by
 have h1:=RT.mono (RT_sum (M:=M) (mv:=mv) (b:=b) (own:=own) (more:=more) M) (zG _);refine RT_up h1 ?_;have:(mv+1)*M<=n*M:=qj M h;rw[jo]at this;exact this
theorem rows_ok{e:Evid}(w:Rw)(hw:w∈rowsE e):w.Ok (e.moves.length*e.mats.toNat):=by
 obtain⟨k,x,hk,hx,hw⟩:=mem_rowsU.1 hw;unfold moveR at hw;simp only[qk]at hw;have hN:(k+1)*e.mats.toNat<=e.moves.length*e.mats.toNat:=qj _ hk;rcases hw with (hw | hw) | hw
 ·split at hw
  ·cases hw
  ·obtain⟨mat,h1,rfl⟩:=mem_stockR.1 hw;refine⟨RT_up (jtl h1 (k+1)) hN,?_⟩;dsimp only;split<;>omega
 ·unfold jd5 at hw;split at hw
  ·cases hw
  ·split at hw
   ·rcases zL.1 hw with rfl | hw
    ·exact⟨jp9 hk,by dsimp only;omega⟩
    ·rcases zL.1 hw with rfl | hw
     ·exact⟨jp9 hk,by dsimp only;omega⟩
     ·cases hw
   ·cases hw
 ·unfold purR at hw;obtain⟨p,_,hw⟩:=jh.1 hw;unfold pur1 at hw;split at hw
  ·rcases zL.1 hw with rfl | hw
   ·exact⟨jp9 hk,by dsimp only;omega⟩
   ·rcases zL.1 hw with rfl | hw
    ·exact⟨jp9 hk,by dsimp only;omega⟩
    ·cases hw
  ·cases hw
end
section
set_option maxRecDepth 1000000
open Go.Abs
def fc(r:Rat):List IV:=[.int r.num.sign,.sl ((dig r.num.natAbs).map ic),.int (r.den:Int).sign,.sl ((dig (r.den:Int).natAbs).map ic)]
def fcs(l:List Rat):IV:= .sl (l.map fc)
def qc(r:Rat):List IV:=fc r
theorem qget{n s:Nat}{f:Nat->Rat}(h:s<n):(tab n fun j=>qc (f j))[s]? =some (fc (f s)):=jgg h
theorem qset{n s:Nat}{f:Nat->Rat}{x:Rat}:(tab n fun j=>qc (f j)).set s (fc x)=tab n fun k=>qc (if k=s then x else f k):=by
 rw[show fc x=qc x from rfl,jo2];exact jan fun k _=>by split<;>rfl
theorem sign_zero{r:Rat}:r.num.sign=0↔r=0:=by
 rw[yj];exact Rat.num_eq_zero
theorem sign_neg{r:Rat}:r.num.sign<0↔r<0:=by
 rw[Int.sign_neg_iff,wB];simp
theorem sign_pos{r:Rat}:0<r.num.sign↔0<r:=by
 rw[Int.sign_pos_iff,wB];simp
end
section
set_option maxRecDepth 1000000
open Go.Abs
open Go.LP (Rw RT tsum)
attribute [local go_sem] ints ic big frac fc
def tmC(t:Nat×Rat):List IV:= .int (t.1:Int)::fc t.2
attribute [local go_sem] tmC
def rwC(w:Rw):List IV:=[.sl (w.ts.map tmC),.int w.kind]++fc w.val
attribute [local go_sem] rwC
theorem tget{ts:List (Nat×Rat)}{i:Nat}{t:Nat×Rat}(h:ts[i]? =some t):(ts.map tmC)[i]? =some (.int (t.1:Int)::fc t.2):=by rw[zq,h];rfl
def lastF(ts:List (Nat×Rat)):Nat->Int
 | 0=> -1
 | i+1=>match ts[i]? with
  | some t=>(t.1:Int)
  | none=> -1
theorem jn9{ts:List (Nat×Rat)}{i:Nat}{t:Nat×Rat}(h:ts[i]? =some t):lastF ts (i+1)=(t.1:Int):=by rw[lastF,h]
theorem RT_at{ts:List (Nat×Rat)}{N:Nat}(h:RT ts 0 N):∀{i:Nat},i<=ts.length->∃lo:Nat,RT (ts.drop i) lo N/\lastF ts i<lo
 | 0,_=>⟨0,h,by show(-1:Int)<0;omega⟩
 | i+1,hi=>by
  obtain⟨lo,h1,h2⟩:=RT_at h (i:=i) (by omega);have hg:ts[i]? =some ts[i]:=zw (by omega);rw[qR (by omega)]at h1;refine⟨ts[i].1+1,h1.2.2.2,?_⟩;rw[jn9 hg];omega
theorem jr3{ts:List (Nat×Rat)}{N:Nat}(h:RT ts 0 N){i:Nat}{t:Nat×Rat}(ht:ts[i]? =some t):lastF ts i<t.1/\t.1<N/\t.2≠0:=by
 obtain⟨hi,rfl⟩:=zr.1 ht;obtain⟨lo,h1,h2⟩:=RT_at h (Nat.le_of_lt hi);rw[qR hi]at h1;have:=h1.1;exact⟨by omega,h1.2.1,h1.2.2.1⟩
def tsumU(ts:List (Nat×Rat))(x:Nat->Rat):Nat->Rat
 | 0=>((0:Int):Rat)
 | i+1=>match ts[i]? with
  | some t=>tsumU ts x i+t.2*x t.1
  | none=>tsumU ts x i
theorem jms{ts:List (Nat×Rat)}{x:Nat->Rat}{i:Nat}{t:Nat×Rat}(h:ts[i]? =some t):tsumU ts x (i+1)=tsumU ts x i+t.2*x t.1:=by rw[tsumU,h]
theorem jmr(x:Nat->Rat)(ts:List (Nat×Rat)):∀i,i<=ts.length->tsumU ts x i=tsum (ts.take i) x
 | 0,_=>by rw[List.take_zero];rfl
 | i+1,hi=>by
  have hg:ts[i]? =some ts[i]:=zw (by omega);rw[jms hg,jmr x ts i (by omega),yo,hg];rw[show(some ts[i]).toList=[ts[i]]from rfl,LP.tsum_app,tsum,tsum];grind
theorem jpl(x:Nat->Rat)(ts:List (Nat×Rat)):tsumU ts x ts.length=tsum ts x:=by rw[jmr x ts _ (zu _),qE]
theorem jpd{ts:List (Nat×Rat)}{x:Nat->Rat}{a b:Nat}(ht:∀t∈ts,FL a t.2)(hx:∀t∈ts,FL b (x t.1)):∀i,FL (4+i*(a+b+1)) (tsumU ts x i)
 | 0=>(jbn (n:=0) (by omega)).mono (by omega)
 | i+1=>by
  have ih:=jpd ht hx i;rw[tsumU];split
  ·rename_i t hg;have hm:=zk hg;refine(ji8 ih (jje (ht t hm) (hx t hm))).mono ?_;rw[jo];omega
  ·exact ih.mono (by rw[jo];omega)
theorem x_rt(ts:List (Nat×Rat))(N:Nat)(h:RT ts 0 N)(hl:ts.length<=100000)(hN:N<=100000)(hf:∀t∈ts,FL 100000000 t.2):
  Ctr G.P 138 [.sl (ts.map tmC),.int N] (· = .bool true):=by
 have a1:decide ((N:Int)<0)=false:=dFo;refine ja4 [.tmp 4] Tryz.func138 ?_;simp only[a1,go_sem];refine jai [1,5,10,11,12] [] (fun i:Nat=>⟨[(1,.im (.int N)),(5,.im (.int (lastF ts i))),(10,.im (.sl (ts.map tmC))),(11,.im (.int ts.length)),(12,.im (.int i))],[],[]⟩)
  (fun i=>i<=ts.length) (fun i=>ts.length-i) 0 ?_ (zG _) ?_
 ·simp only[lastF,Int.natCast_zero,go_sem]
 ·intro i hi;by_cases hp:(i:Int)<ts.length
  ·have hd:decide ((i:Int)<ts.length)=true:=zp hp;obtain⟨t,ht⟩:=jcf hp;have h1:=ja8 ((i:Int)+1);obtain⟨g1,g2,g3⟩:=jr3 h ht;have d1:decide ((t.1:Int)<=lastF ts i)=false:=dFo;have d2:decide ((N:Int)<=t.1)=false:=dFo;have hs:=f_sign ((hf t (zk ht)).mono (by omega:100000000<=19000000000));have hq:decide (t.2.num.sign=0)=false:=ze (fun e=>g3 (sign_zero.1 e));have hg:=tget ht;simp only[frac,ints,fc]at hs hg;simp only[hd,hg,d1,d2,go_sem];refine ja0 hs ?_;simp only[hd,hg,d1,d2,hq,go_sem];refine ja7 (i+1) ?_ (by omega) (by omega);rw[jn9 ht];simp only[h1,Int.natCast_add,go_sem]
  ·have hd:decide ((i:Int)<ts.length)=false:=ze hp;simp only[hd,go_sem]
theorem x_right(ws:List Rw)(N:Nat)(h:∀w∈ws,w.Ok N)(hl:ws.length<=6000)(hN:N<=1500)(ht:∀w∈ws,w.ts.length<=100000/\FL 100000000 w.val/\∀t∈w.ts,FL 100000000 t.2):
  Ctr G.P 137 [.agg [.int N,.sl (ws.map rwC)]] (· = .bool true):=by
 have a7:decide ((N:Int)<0)=false:=dFo;have a6:decide ((1500:Int)<N)=false:=dFo;have a1:decide ((6000:Int)<ws.length)=false:=dFo;refine ja4 [.tmp 2] Tryz.func137 ?_;simp only[a7,a6,a1,za,go_sem];refine jai [1,20,21,22] [1] (fun i:Nat=>⟨[(1,.loc 1 2 0 0),(20,.im (.sl (ws.map rwC))),(21,.im (.int ws.length)),(22,.im (.int i))],[(1,2,[[.int N,.sl (ws.map rwC)]])],[]⟩)
  (fun i=>i<=ws.length) (fun i=>ws.length-i) 0 ?_ (zG _) ?_
 ·simp only[Int.natCast_zero,go_sem]
 ·intro i hi;by_cases hp:(i:Int)<ws.length
  ·have hd:decide ((i:Int)<ws.length)=true:=zp hp;obtain⟨w,hw⟩:=jcf hp;have hm:=zk hw;have h1:=ja8 ((i:Int)+1);obtain⟨k1,k2,k3⟩:=h w hm;obtain⟨l1,l2,l3⟩:=ht w hm;have c1:=x_rt w.ts N k1 l1 (by omega) l3;have c2:=jrg (l2.mono (by omega:100000000<=19000000000));have d1:decide (w.kind<0)=false:=dFo;have d2:decide (3<=w.kind)=false:=dFo;have hg:(ws.map rwC)[i]? =some (rwC w):=by rw[zq,hw];rfl
   simp only[rwC,fc,List.cons_append,List.nil_append]at hg;simp only[frac,ints]at c2;simp only[hd,hg,go_sem];refine ja0 c1 ?_;simp only[hd,hg,d1,d2,go_sem];refine ja0 c2 ?_;simp only[hd,hg,d1,d2,go_sem];refine ja7 (i+1) ?_ (by omega) (by omega);simp only[h1,Int.natCast_add,go_sem]
  ·have hd:decide ((i:Int)<ws.length)=false:=ze hp;simp only[hd,go_sem]
end
section
set_option maxRecDepth 1000000
open Go.Abs
attribute [local go_sem] ints ic big frac fc
theorem jpj(r:Rat):Ctr G.P 191 [frac r] (· = .bool (decide (r=0))):=by
 have e:decide (r=0)=decide (r.num.sign=0):=yC.2 sign_zero.symm;rw[e];refine ja4 [.tmp 2] Tryz.func191 ?_;simp only[go_sem]
theorem x_over{a b:Rat}(h:b≠0)(ha:FL 19000000000 a)(hb:FL 19000000000 b):Ctr G.P 190 [frac a,frac b] (· =frac (a/b)):=by
 have k1:=f_div h ha hb;generalize a/b=c at*;simp only[frac,ints]at k1⊢;refine ja4 [.cell 4 48] Tryz.func190 ?_;simp only[go_sem];refine ja0 k1 ?_;simp only[go_sem]
theorem x_less{a b c:Rat}(ha:FL 6000000000 a)(hb:FL 6000000000 b)(hc:FL 6000000000 c):Ctr G.P 192 [frac a,frac b,frac c] (· =frac (a-b*c)):=by
 have z1:=jpj b;have z2:=jpj c;have m1:=f_mul (hb.mono (by omega)) (hc.mono (by omega));have s1:=f_sub (ha.mono (by omega)) ((jje hb hc).mono (by omega));have e1:b=0->a-b*c=a:=fun h=>by rw[h];grind
 have e2:c=0->a-b*c=a:=fun h=>by rw[h];grind
 generalize a-b*c=x at*;generalize b*c=y at*;generalize a6:decide (b=0)=d1 at*;generalize a1:decide (c=0)=d2 at*;simp only[frac,ints]at z1 z2 m1 s1⊢;refine ja4 [.cell 6 48] Tryz.func192 ?_;simp only[go_sem];refine ja0 z1 ?_;simp only[go_sem];refine jc5 (fun h1=> ?_) (fun h1=> ?_)
 ·subst h1;have e1:=e1 (zI a6);subst e1;simp only[go_sem]
 ·subst h1;simp only[go_sem];refine ja0 z2 ?_;simp only[go_sem];refine jc5 (fun h2=> ?_) (fun h2=> ?_)
  ·subst h2;have e2:=e2 (zI a1);subst e2;simp only[go_sem]
  ·subst h2;simp only[go_sem];refine ja0 m1 ?_;simp only[go_sem];refine ja0 s1 ?_;simp only[go_sem]
