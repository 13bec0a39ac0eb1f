/- A part of the proof. No further condition. -/
import Derived.Test.YtfahloobpegieaaGreatKX16
import Derived.Test.YtfahloobpegieaaGreatKX10
import Derived.Test.YtfahloobpegieaaGreatKX15
set_option linter.all false
set_option maxRecDepth 100000
namespace Go.LP
section
def Free(D:Dic)(k:Nat):Prop:=∃j,j<D.n/\D.free j=k
def SameV(D E:Dic):Prop:=∀k,(Own D k\/Free D k)↔(Own E k\/Free E k)
theorem SameV.refl(D:Dic):SameV D D:=fun _=>Iff.rfl
theorem SameV.trans{D E F:Dic}(h:SameV D E)(h':SameV E F):SameV D F:=fun k=>(h k).trans (h' k)
theorem SameV.symm{D E:Dic}(h:SameV D E):SameV E D:=fun k=>(h k).symm
theorem free_pivot{D:Dic}{r s k:Nat}(hs:s<D.n):Free (D.pivot r s) k↔(k=D.own r\/∃j,j<D.n/\j≠s/\D.free j=k):=by
 constructor
 ·rintro⟨j,hj,e⟩;simp only[Dic.pivot]at hj e;split at e
  ·exact .inl e.symm
  ·exact .inr ⟨j,hj,‹_›,e⟩
 ·rintro(e | ⟨j,hj,hne,e⟩)
  ·exact⟨s,hs,by simp[Dic.pivot,e]⟩
  ·exact⟨j,hj,by simp[Dic.pivot,hne,e]⟩
theorem jjr{D:Dic}(hD:D.Ok){r s:Nat}(hr:r<D.m)(hs:s<D.n):SameV D (D.pivot r s):=by
 intro k;rw[free_pivot hs];constructor
 ·rintro(⟨i,hi,e⟩ | ⟨j,hj,e⟩)
  ·by_cases h:i=r
   ·subst h;exact .inr (.inl e.symm)
   ·exact .inl ⟨i,hi,by simp[Dic.pivot,h,e]⟩
  ·by_cases h:j=s
   ·subst h;exact .inl ⟨r,hr,by simp[Dic.pivot,e]⟩
   ·exact .inr (.inr ⟨j,hj,h,e⟩)
 ·rintro(⟨i,hi,e⟩ | e | ⟨j,hj,_,e⟩)
  ·simp only[Dic.pivot]at hi e;split at e
   ·exact .inr ⟨s,hs,e⟩
   ·exact .inl ⟨i,hi,e⟩
  ·exact .inl ⟨r,hr,e.symm⟩
  ·exact .inr ⟨j,hj,e⟩
theorem jq4{D E:Dic}(hD:D.Ok)(hq:Eqv D E)(hE:E.Ok){s:Nat}(hs:s<D.n)(h0:∀j,j<E.n->D.dir s (E.free j)=0):∀i,i<E.m->D.dir s (E.own i)=0:=by
 intro i hi;have h1:=jgf hD;have h2:=(hq.sat _).1 h1 i hi;have h3:=(hq.sat _).1 (jij hD hs h1 1) i hi;unfold Dic.row at h2 h3;have e:S E.n (fun j=>E.a i j*(D.pt (E.free j)+1*D.dir s (E.free j)))=S E.n (fun j=>E.a i j*D.pt (E.free j)):=jdi fun j hj=>by rw[h0 j hj];grind
 rw[e]at h3;grind
def cntP(p:Nat->Prop)[DecidablePred p]:Nat->Nat
 | 0=>0
 | n+1=>cntP p n+(if p n then 1 else 0)
theorem cntP_le{p q:Nat->Prop}[DecidablePred p][DecidablePred q]:∀{n:Nat},(∀k,k<n->p k->q k)->cntP p n<=cntP q n
 | 0,_=>Nat.le_refl _
 | n+1,h=>by
  have ih:=cntP_le (n:=n) fun k hk=>h k (by omega);have:=h n (by omega);simp only[cntP];by_cases hp:p n
  ·rw[if_pos hp,if_pos (this hp)];omega
  ·rw[if_neg hp];split<;>omega
theorem cntP_lt{p q:Nat->Prop}[DecidablePred p][DecidablePred q]{i:Nat}:∀{n:Nat},i<n->(∀k,k<n->p k->q k)->¬p i->q i->cntP p n<cntP q n
 | n+1,hi,h,hp,hq=>by
  simp only[cntP];by_cases e:i=n
  ·subst e;have ih:=cntP_le (n:=i) (p:=p) (q:=q) fun k hk=>h k (by omega);rw[if_neg hp,if_pos hq];omega
  ·have ih:=cntP_lt (n:=n) (by omega) (fun k hk=>h k (by omega)) hp hq;have:=h n (by omega);by_cases hpn:p n
   ·rw[if_pos hpn,if_pos (this hpn)];omega
   ·rw[if_neg hpn];split<;>omega
open Classical in
noncomputable def dist(D E:Dic):Nat:=cntP (fun i=>¬Own D (E.own i)) E.m
inductive Path:Dic->Nat->Dic->Prop
 | nil (D:Dic):Path D 0 D
 | step (D:Dic) (r s t:Nat) (E:Dic):r<D.m->s<D.n->D.a r s≠0->Path (D.pivot r s) t E->Path D (t+1) E
theorem jec{D:Dic}(hD:D.Ok){k:Nat}(h1:Own D k)(h2:Free D k):False:=by
 obtain⟨i,hi,e⟩:=h1;obtain⟨j,hj,e'⟩:=h2;exact hD.apart i j hi hj (e.trans e'.symm)
theorem near_of{D E:Dic}(hD:D.Ok)(hE:E.Ok)(hq:Eqv D E)(hv:SameV D E)(h0:∀i,i<E.m->Own D (E.own i)):∀k,Own D k->Own E k:=by
 intro k ⟨r,hr,e⟩;subst e;rcases(hv (D.own r)).1 (.inl ⟨r,hr,rfl⟩)with h | ⟨s,hs,e⟩
 ·exact h
 ·exfalso;have h1:∀j,j<D.n->E.dir s (D.free j)=0:=by
   intro j hj;rcases(hv (D.free j)).1 (.inr ⟨j,hj,rfl⟩)with ⟨i,hi,e'⟩ | ⟨j',hj',e'⟩
   ·exact(jec hD (h0 i hi) ⟨j,hj,e'.symm⟩).elim
   ·rw[<-e',jf3 hE hj' hs,if_neg];intro h;subst h;exact hD.apart r j hr hj (e.symm.trans e')
  have h2:=jq4 hE hq.symm hD hs h1 r hr;rw[<-e,jf3 hE hs hs,if_pos rfl]at h2;exact absurd h2 (by decide)
open Classical in
theorem jnm:∀(t:Nat) (D E:Dic),D.Ok->E.Ok->Eqv D E->SameV D E->dist D E<=t->∃(t':Nat) (F:Dic),t'<=t/\Path D t' F/\F.Ok/\Eqv F E/\SameV F E/\∀k,Own F k↔Own E k
 | t,D,E,hD,hE,hq,hv,ht=>by
  by_cases h0:∀i,i<E.m->Own D (E.own i)
  ·exact⟨0,D,Nat.zero_le _,.nil D,hD,hq,hv,fun k=>⟨near_of hD hE hq hv h0 k,fun⟨i,hi,e⟩=>e▸h0 i hi⟩⟩
  ·obtain⟨i0,hi0,hno⟩:∃i,i<E.m/\¬Own D (E.own i):=by
    refine Classical.byContradiction fun hc=>h0 fun i hi=>Classical.byContradiction fun h=>hc ⟨i,hi,h⟩
   obtain⟨s,hs,es⟩:Free D (E.own i0):=((hv (E.own i0)).2 (.inl ⟨i0,hi0,rfl⟩)).resolve_left hno;obtain⟨r,hr,hrE,hrs⟩:∃r,r<D.m/\¬Own E (D.own r)/\D.a r s≠0:=by
    refine Classical.byContradiction fun hc=> ?_;have h1:∀j,j<E.n->D.dir s (E.free j)=0:=by
     intro j hj;rcases(hv (E.free j)).2 (.inr ⟨j,hj,rfl⟩)with ⟨i,hi,e'⟩ | ⟨j',hj',e'⟩
     ·rw[<-e',jki hD hi];have:D.a i s=0:=Classical.byContradiction fun h=>hc ⟨i,hi,fun ho=>jec hE ho ⟨j,hj,e'.symm⟩,h⟩;rw[this];grind
     ·rw[<-e',jf3 hD hj' hs,if_neg];intro h;subst h;exact hE.apart i0 j hi0 hj (es.symm.trans e')
    have h2:=jq4 hD hq hE hs h1 i0 hi0;rw[<-es,jf3 hD hs hs,if_pos rfl]at h2;exact absurd h2 (by decide)
   have hD':=jm5 hD hr hs;have hq':Eqv (D.pivot r s) E:=(jke hr hs hrs).symm.trans hq;have hv':SameV (D.pivot r s) E:=(jjr hD hr hs).symm.trans hv;have hd':dist (D.pivot r s) E<dist D E:=by
    refine cntP_lt hi0 (fun k hk hp ho=>hp ?_) (fun h=>h ?_) hno
    ·by_cases e1:E.own k=D.own r
     ·exact(hrE (e1▸⟨k,hk,rfl⟩)).elim
     ·by_cases e2:E.own k=D.free s
      ·rw[e2];exact own_in hr
      ·exact(jnn hD hr hs e1 e2).2 ho
    ·rw[<-es];exact own_in hr
   cases t with
   | zero=>omega
   | succ t=>
    obtain⟨t',F,h1,h2,h3⟩:=jnm t (D.pivot r s) E hD' hE hq' hv' (by omega);exact⟨t'+1,F,by omega,.step D r s t' F hr hs hrs h2,h3⟩
open Classical in
theorem dist_le_n{D E:Dic}(hE:E.Ok)(hv:SameV D E):dist D E<=D.n:=by
 have key:∀(k n:Nat) (f:Nat->Nat) (p:Nat->Prop) [DecidablePred p],(∀i,i<k->p i->∃j,j<n/\f i=j)->(∀i i',i<k->i'<k->p i->p i'->f i=f i'->i=i')->cntP p k<=n:=by
  intro k
  induction k with
  | zero=>intros;exact Nat.zero_le _
  | succ k ih=>
   intro n f p _ h1 h2;simp only[cntP];by_cases hp:p k
   ·rw[if_pos hp];obtain⟨j,hj,e⟩:=h1 k (by omega) hp;obtain⟨n',rfl⟩:∃n',n=n'+1:=⟨n-1,by omega⟩;have:=ih n' (fun i=>if f i=n' then j else f i) p (fun i hi hpi=>⟨_,?_,rfl⟩) (fun i i' hi hi' hpi hpi' e'=> ?_)
    ·omega
    ·obtain⟨j',hj',e'⟩:=h1 i (by omega) hpi;have hne:f i≠f k:=fun e2=>by have:=h2 i k (by omega) (by omega) hpi hp e2;omega
     split<;>omega
    ·have hne:f i≠f k:=fun e2=>by have:=h2 i k (by omega) (by omega) hpi hp e2;omega
     have hne':f i'≠f k:=fun e2=>by have:=h2 i' k (by omega) (by omega) hpi' hp e2;omega
     obtain⟨a1,a2,a3⟩:=h1 i (by omega) hpi;obtain⟨b1,b2,b3⟩:=h1 i' (by omega) hpi';refine h2 i i' (by omega) (by omega) hpi hpi' ?_;split at e'<;>split at e'<;>omega
   ·rw[if_neg hp];exact ih n f p (fun i hi=>h1 i (by omega)) fun i i' hi hi'=>h2 i i' (by omega) (by omega)
 have hF:∀i,i<E.m->¬Own D (E.own i)->Free D (E.own i):=fun i hi hn=>((hv (E.own i)).2 (.inl ⟨i,hi,rfl⟩)).resolve_left hn;unfold dist;have pick:∀i,∃j,(i<E.m/\¬Own D (E.own i))->j<D.n/\D.free j=E.own i:=fun i=>by
  by_cases h:i<E.m/\¬Own D (E.own i)
  ·obtain⟨j,hj⟩:=hF i h.1 h.2;exact⟨j,fun _=>hj⟩
  ·exact⟨0,fun h'=>absurd h' h⟩
 refine @key E.m D.n (fun i=>Classical.choose (pick i)) _ _ (fun i hi hp=>⟨_,(Classical.choose_spec (pick i) ⟨hi,hp⟩).1,rfl⟩) fun i i' hi hi' hp hp' e=> ?_;have a:=(Classical.choose_spec (pick i) ⟨hi,hp⟩).2;have b:=(Classical.choose_spec (pick i') ⟨hi',hp'⟩).2;rw[e,b]at a;exact hE.own i i' hi hi' a.symm
theorem same_v{D E:Dic}(hD:D.Ok)(hE:E.Ok)(hq:Eqv D E)(hv:SameV D E)(ho:∀k,Own D k↔Own E k){i i':Nat}(hi:i<D.m)(hi':i'<E.m)(e:D.own i=E.own i'):D.v i=E.v i':=by
 have h1:=(hq.sat _).1 (jgf hD) i' hi';unfold Dic.row at h1;have h2:S E.n (fun j=>E.a i' j*D.pt (E.free j))=0:=jlp fun j hj=>by
  have:Free D (E.free j):=((hv (E.free j)).2 (.inr ⟨j,hj,rfl⟩)).resolve_left fun h=>jec hE ((ho _).1 h) ⟨j,hj,rfl⟩;obtain⟨j',hj',e'⟩:=this;rw[<-e',joi hD hj'];grind
 rw[h2,<-e,jpe hD hi]at h1;grind
theorem dir_of{D E:Dic}(hD:D.Ok)(hE:E.Ok)(hv:SameV D E)(ho:∀k,Own D k↔Own E k){s s':Nat}(hs:s<D.n)(hs':s'<E.n)(e:D.free s=E.free s'):∀j,j<E.n->D.dir s (E.free j)=if j=s' then 1 else 0:=by
 intro j hj;have:Free D (E.free j):=((hv (E.free j)).2 (.inr ⟨j,hj,rfl⟩)).resolve_left fun h=>jec hE ((ho _).1 h) ⟨j,hj,rfl⟩;obtain⟨j',hj',e'⟩:=this;rw[<-e',jf3 hD hj' hs];by_cases h:j=s'
 ·subst h;rw[if_pos rfl,if_pos (hD.free j' s hj' hs (e'.trans e.symm))]
 ·rw[if_neg h,if_neg];intro h';subst h';exact h (hE.free j s' hj hs' (e'.symm.trans e))
theorem same_a{D E:Dic}(hD:D.Ok)(hE:E.Ok)(hq:Eqv D E)(hv:SameV D E)(ho:∀k,Own D k↔Own E k){i i' s s':Nat}(hi:i<D.m)(hi':i'<E.m)(hs:s<D.n)(hs':s'<E.n)(e:D.own i=E.own i')(e':D.free s=E.free s'):D.a i s=E.a i' s':=by
 have hx:=jgf hD;have h1:=(hq.sat _).1 hx i' hi';have h2:=(hq.sat _).1 (jij hD hs hx 1) i' hi';unfold Dic.row at h1 h2;have hd:=dir_of hD hE hv ho hs hs' e';have h3:S E.n (fun j=>E.a i' j*(D.pt (E.free j)+1*D.dir s (E.free j)))=S E.n (fun j=>E.a i' j*D.pt (E.free j))+S E.n (fun j=>E.a i' j*D.dir s (E.free j)):=by
  rw[<-S_add];exact jdi fun j hj=>by grind
 have h4:S E.n (fun j=>E.a i' j*D.dir s (E.free j))=E.a i' s':=by
  rw[S_one hs' fun j hj hne=>by rw[hd j hj,if_neg hne];grind];rw[hd s' hs',if_pos rfl];grind
 dsimp only at h2;rw[h3,h4,<-e,jki hD hi]at h2;rw[<-e]at h1;grind
theorem same_g{D E:Dic}(hD:D.Ok)(hE:E.Ok)(hq:Eqv D E)(hv:SameV D E)(ho:∀k,Own D k↔Own E k){s s':Nat}(hs:s<D.n)(hs':s'<E.n)(e':D.free s=E.free s'):D.g s=E.g s':=by
 obtain⟨c,hc⟩:=hq.lin;have hx:=jgf hD;have h1:=hc _ hx;have h2:=hc _ (jij hD hs hx 1);have hd:=dir_of hD hE hv ho hs hs' e';rw[jih,jih,jmi hD hs]at h2;have h4:E.lin (D.dir s)=E.g s':=by
  unfold Dic.lin;rw[S_one hs' fun j hj hne=>by rw[hd j hj,if_neg hne];grind];rw[hd s' hs',if_pos rfl];grind
 rw[h4]at h2;grind
def Ov(B q:Nat)(x:Rat):Prop:=∃z:Int,x*(q:Rat)=(z:Rat)/\z.natAbs<=B
structure Small(B:Nat)(q:Nat)(D:Dic):Prop where
 q0:0<q
 qB:q<=B
 v:∀i,i<D.m->Ov B q (D.v i)
 g:∀j,j<D.n->Ov B q (D.g j)
 a:∀i j,i<D.m->j<D.n->Ov B q (D.a i j)
theorem jdq{a b:Int}{A B:Nat}(ha:a.natAbs<=A)(hb:b.natAbs<=B):(a*b).natAbs<=A*B:=by
 rw[Int.natAbs_mul];exact Nat.mul_le_mul ha hb
theorem jhz(a b:Int):((a*b:Int):Rat)=(a:Rat)*(b:Rat):=Rat.intCast_mul a b
theorem cast_sub(a b:Int):((a-b:Int):Rat)=(a:Rat)-(b:Rat):=Rat.intCast_sub a b
theorem Ov.mono{B C q:Nat}{x:Rat}(h:Ov B q x)(hB:B<=C):Ov C q x:=by
 obtain⟨z,h1,h2⟩:=h;exact⟨z,h1,Nat.le_trans h2 hB⟩
theorem Ov_zero{B q:Nat}:Ov B q 0:=⟨0,by rw[show((0:Int):Rat)=0 from rfl];grind,Nat.zero_le _⟩
theorem Ov_one{B q:Nat}(h:q<=B):Ov B q 1:=⟨(q:Int),by rw[show(((q:Int)):Rat)=(q:Rat)from rfl];grind,by rw[Int.natAbs_natCast];exact h⟩
theorem jqe(p:Int):∃s:Int,s.natAbs<=1/\((p.natAbs:Nat):Rat)=(s:Rat)*(p:Rat):=by
 rcases Int.natAbs_eq p with h | h
 ·refine⟨1,by decide,?_⟩;have e:((p.natAbs:Nat):Rat)=(((p.natAbs:Nat):Int):Rat):=rfl;rw[e,<-h,show((1:Int):Rat)=1 from rfl];grind
 ·refine⟨-1,by decide,?_⟩;have e:((p.natAbs:Nat):Rat)=(((p.natAbs:Nat):Int):Rat):=rfl;have h':((p.natAbs:Nat):Int)= -p:=by omega
  rw[e,h',<-Rat.intCast_mul];congr 1;omega
theorem jot{B q:Nat}{a u w:Rat}{p:Int}(hq:q<=B)(ha:a*(q:Rat)=(p:Rat))(hw:w*a=u)(hu:Ov B q u):Ov (2*B*B) (q*p.natAbs) w:=by
 obtain⟨z,h1,h2⟩:=hu;obtain⟨s,hs,e⟩:=jqe p;refine⟨s*((q:Int)*z),?_,?_⟩
 ·rw[Rat.natCast_mul,e,jhz,jhz,show(((q:Int)):Rat)=(q:Rat)from rfl,<-h1,<-hw,<-ha];grind
 ·have h3:(((q:Int))*z).natAbs<=B*B:=jdq (by rw[Int.natAbs_natCast];exact hq) h2;have h4:=jdq hs h3;have h5:1*(B*B)<=2*B*B:=by rw[Nat.mul_assoc];exact Nat.mul_le_mul_right _ (by omega)
  exact Nat.le_trans h4 h5
theorem ji4{B q:Nat}{a u w x y:Rat}{p:Int}(hp:p.natAbs<=B)(ha:a*(q:Rat)=(p:Rat))(hw:w*a=u)(hu:Ov B q u)(hx:Ov B q x)(hy:Ov B q y):Ov (2*B*B) (q*p.natAbs) (x-y*w):=by
 obtain⟨z,h1,h2⟩:=hu;obtain⟨zx,x1,x2⟩:=hx;obtain⟨zy,y1,y2⟩:=hy;obtain⟨s,hs,e⟩:=jqe p;refine⟨s*(zx*p-zy*z),?_,?_⟩
 ·rw[Rat.natCast_mul,e,jhz,cast_sub,jhz,jhz,<-h1,<-x1,<-y1,<-hw,<-ha];grind
 ·have h3:=jdq x2 hp;have h4:=jdq y2 h2;have h5:(zx*p-zy*z).natAbs<=2*B*B:=by rw[Nat.mul_assoc,Nat.two_mul];omega
  have:=jdq hs h5;omega
theorem small_pivot{D:Dic}{r s B q:Nat}(hr:r<D.m)(hs:s<D.n)(hp:D.a r s≠0)(h:Small B q D):∃q',Small (2*B*B) q' (D.pivot r s):=by
 obtain⟨p,hpe,hpB⟩:=h.a r s hr hs;have hp0:p≠0:=by
  intro e;rw[e,show((0:Int):Rat)=0 from rfl]at hpe;rcases Rat.mul_eq_zero.1 hpe with h1 | h1
  ·exact hp h1
  ·have h2:q=0:=by exact_mod_cast h1
   have:=h.q0;omega
 have hB1:1<=B:=Nat.le_trans h.q0 h.qB;have hqu:∀u:Rat,u/D.a r s*D.a r s=u:=fun u=>Rat.div_mul_cancel hp;refine⟨q*p.natAbs,Nat.mul_pos h.q0 (by omega),?_,fun i hi=> ?_,fun j hj=> ?_,fun i j hi hj=> ?_⟩
 ·have h1:=Nat.mul_le_mul h.qB hpB;have h2:1*(B*B)<=2*B*B:=by rw[Nat.mul_assoc];exact Nat.mul_le_mul_right _ (by omega)
  omega
 ·show Ov _ _ (if i=r then D.v r/D.a r s else D.v i-D.a i s*(D.v r/D.a r s));split
  ·exact jot h.qB hpe (hqu _) (h.v r hr)
  ·exact ji4 hpB hpe (hqu _) (h.v r hr) (h.v i hi) (h.a i s hi hs)
 ·show Ov _ _ (exch _ _ s D.g j);unfold exch;split
  ·exact ji4 hpB hpe (hqu _) (Ov_one h.qB) Ov_zero (h.g s hs)
  ·exact ji4 hpB hpe (hqu _) (h.a r j hr hj) (h.g j hj) (h.g s hs)
 ·simp only[Dic.pivot];by_cases e:i=r
  ·rw[if_pos e];split
   ·exact jot h.qB hpe (hqu _) (Ov_one h.qB)
   ·exact jot h.qB hpe (hqu _) (h.a r j hr hj)
  ·rw[if_neg e];unfold exch;split
   ·exact ji4 hpB hpe (hqu _) (Ov_one h.qB) Ov_zero (h.a i s hi hs)
   ·exact ji4 hpB hpe (hqu _) (h.a r j hr hj) (h.a i j hi hj) (h.a i s hi hs)
theorem path_small{D E:Dic}{t:Nat}(h:Path D t E):∀{e q:Nat},Small (2^e) q D->∃q',Small (2^(2^t*(e+1)-1)) q' E:=by
 induction h with
 | nil D=>intro e q h;exact⟨q,by simpa using h⟩
 | step D r s t E hr hs hp _ ih=>
  intro e q h;obtain⟨q1,h1⟩:=small_pivot hr hs hp h;rw[show 2*2^e*2^e=2^(2*e+1)by rw[Nat.pow_succ,Nat.two_mul e,Nat.pow_add,Nat.mul_comm 2,Nat.mul_assoc,Nat.mul_comm 2];exact(Nat.mul_assoc _ _ _).symm]at h1;obtain⟨q2,h2⟩:=ih h1;refine⟨q2,?_⟩
  rwa [show 2^t*(2*e+1+1)=2^(t+1)*(e+1)by rw[Nat.pow_succ,Nat.mul_assoc];congr 1]at h2
theorem Small.mono{B C q:Nat}{D:Dic}(h:Small B q D)(hB:B<=C):Small C q D:=
 ⟨h.q0,Nat.le_trans h.qB hB,fun i hi=>(h.v i hi).mono hB,fun j hj=>(h.g j hj).mono hB,fun i j hi hj=>(h.a i j hi hj).mono hB⟩
theorem small_all{D E:Dic}{e q:Nat}(hD:D.Ok)(hE:E.Ok)(hq:Eqv D E)(hv:SameV D E)(h:Small (2^e) q D):∃q',Small (2^(2^D.n*(e+1))) q' E:=by
 obtain⟨t,F,ht,hp,hF,hFE,hFv,ho⟩:=jnm D.n D E hD hE hq hv (dist_le_n hE hv);obtain⟨q',h'⟩:=path_small hp h;have hle:2^(2^t*(e+1)-1)<=2^(2^D.n*(e+1)):=Nat.pow_le_pow_right (by decide) (by
  have:2^t*(e+1)<=2^D.n*(e+1):=Nat.mul_le_mul_right _ (Nat.pow_le_pow_right (by decide) ht);omega)
 have h':=h'.mono hle;have row:∀i,i<E.m->∃i',i'<F.m/\F.own i'=E.own i:=fun i hi=>(ho (E.own i)).2 ⟨i,hi,rfl⟩;have col:∀j,j<E.n->∃j',j'<F.n/\F.free j'=E.free j:=fun j hj=>((hFv (E.free j)).2 (.inr ⟨j,hj,rfl⟩)).resolve_left fun h=>jec hE ((ho _).1 h) ⟨j,hj,rfl⟩;refine⟨q',h'.q0,h'.qB,fun i hi=> ?_,fun j hj=> ?_,fun i j hi hj=> ?_⟩
 ·obtain⟨i',hi',e'⟩:=row i hi;rw[<-same_v hF hE hFE hFv ho hi' hi e'];exact h'.v i' hi'
 ·obtain⟨j',hj',e'⟩:=col j hj;rw[<-same_g hF hE hFE hFv ho hj' hj e'];exact h'.g j' hj'
 ·obtain⟨i',hi',e1⟩:=row i hi;obtain⟨j',hj',e2⟩:=col j hj;rw[<-same_a hF hE hFE hFv ho hi' hi hj' hj e1 e2];exact h'.a i' j' hi' hj'
end
section
def Reach(D:Dic)(T:Nat)(E:Dic):Prop:=∃(F:Nat->Dic) (r s:Nat->Nat),Run F r s T/\F 0=D/\F T=E
section
variable{D E:Dic}{T r s K:Nat}
theorem Reach.zero(hD:D.Ok):Reach D 0 D:=⟨fun _=>D,fun _=>0,fun _=>0,⟨hD,fun t ht=>absurd ht (by omega),fun t ht=>absurd ht (by omega)⟩,rfl,rfl⟩
theorem Reach.step(h:Reach D T E)(hr:Rule E r s):Reach D (T+1) (E.pivot r s):=by
 obtain⟨F,r',s',hR,h0,hT⟩:=h;refine⟨fun t=>if t<=T then F t else E.pivot r s,fun t=>if t<T then r' t else r,fun t=>if t<T then s' t else s,⟨?_,fun t ht=> ?_,fun t ht=> ?_⟩,?_,?_⟩
 ·show(if 0<=T then F 0 else _).Ok;rw[if_pos (Nat.zero_le _)];exact hR.ok
 ·show Rule (if t<=T then F t else _) (if t<T then r' t else r) (if t<T then s' t else s);rw[if_pos (by omega)];by_cases h1:t<T
  ·rw[if_pos h1,if_pos h1];exact hR.rule t h1
  ·have e:t=T:=by omega
   subst e;rw[if_neg h1,if_neg h1,hT];exact hr
 ·show(if t+1<=T then F (t+1)else _)=(if t<=T then F t else _).pivot (if t<T then r' t else r) (if t<T then s' t else s);rw[if_pos (by omega:t<=T)];by_cases h1:t<T
  ·rw[if_pos h1,if_pos h1,if_pos (by omega)];exact hR.next t h1
  ·have e:t=T:=by omega
   subst e;rw[if_neg h1,if_neg h1,if_neg (by omega),hT]
 ·show(if 0<=T then F 0 else _)=D;rw[if_pos (Nat.zero_le _)];exact h0
 ·show(if T+1<=T then F (T+1)else _)=_;rw[if_neg (by omega)]
theorem Run.facts{F:Nat->Dic}{r s:Nat->Nat}(h:Run F r s T):∀t,t<=T->(F t).Ok/\Eqv (F 0) (F t)/\SameV (F 0) (F t)/\(F t).m=(F 0).m/\(F t).n=(F 0).n
 | 0,_=>⟨h.ok,Eqv.refl _,SameV.refl _,rfl,rfl⟩
 | t+1,ht=>by
  obtain⟨h1,h2,h3,h4,h5⟩:=h.facts t (by omega);have hr:=h.rule t (by omega);rw[h.next t (by omega)];exact⟨jm5 h1 hr.hr hr.hs,h2.trans (jke hr.hr hr.hs hr.ne),h3.trans (jjr h1 hr.hr hr.hs),h4,h5⟩
theorem Reach.facts(h:Reach D T E):E.Ok/\Eqv D E/\SameV D E/\E.m=D.m/\E.n=D.n:=by
 obtain⟨F,r',s',hR,rfl,rfl⟩:=h;exact hR.facts T (Nat.le_refl _)
theorem Reach.bound(h:Reach D T E)(hK:∀k,(Own D k\/Free D k)->k<K):T<2^K:=by
 obtain⟨F,r',s',hR,rfl,rfl⟩:=h;refine hR.ends K T F r' s' fun t ht=> ?_;obtain⟨_,_,h3,_,_⟩:=hR.facts t (by omega);have hr:=hR.rule t ht;exact⟨hK _ ((h3 _).2 (.inl ⟨_,hr.hr,rfl⟩)),hK _ ((h3 _).2 (.inr ⟨_,hr.hs,rfl⟩))⟩
end
inductive Final(E:Dic):Int->Int->Prop
 | best:(∀i,i<E.m->0<=E.v i)->(∀j,j<E.n->E.g j<=0)->Final E (-1) (-1)
 | none (r:Nat):r<E.m->E.v r<0->(∀i,i<E.m->E.v i<0->E.own r<=E.own i)->(∀j,j<E.n->0<E.g j->E.own r<E.free j)->(∀j,j<E.n->0<=E.a r j)->Final E r (-1)
 | free (s:Nat):s<E.n->0<E.g s->(∀j,j<E.n->0<E.g j->E.free s<=E.free j)->(∀i,i<E.m->E.v i<0->E.free s<E.own i)->(∀i,i<E.m->E.a i s<=0)->Final E (-1) s
section
variable{D E E':Dic}{r r' s s' T T':Nat}{a b a' b':Int}
theorem jpj{x:Rat}(h:0<=x)(h':x<0):False:=by grind
theorem jpi{x:Rat}(h:x<=0)(h':0<x):False:=by grind
theorem Rule.det(hD:D.Ok)(h1:Rule D r s)(h2:Rule D r' s'):r=r'/\s=s':=by
 rcases h1.sel with ⟨a1,a2,a3,a4,a5⟩ | ⟨a1,a2,a3,a4,a5⟩<;>rcases h2.sel with ⟨b1,b2,b3,b4,b5⟩ | ⟨b1,b2,b3,b4,b5⟩
 ·have e:=hD.own r r' h1.hr h2.hr (Nat.le_antisymm (a2 r' h2.hr b1) (b2 r h1.hr a1));subst e;exact⟨rfl,hD.free s s' h1.hs h2.hs (Nat.le_antisymm (a5 s' h2.hs b4) (b5 s h1.hs a4))⟩
 ·have e1:=a3 s' h2.hs b1;have e2:=b3 r h1.hr a1;omega
 ·have e1:=b3 s h1.hs a1;have e2:=a3 r' h2.hr b1;omega
 ·have e:=hD.free s s' h1.hs h2.hs (Nat.le_antisymm (a2 s' h2.hs b1) (b2 s h1.hs a1));subst e;exact⟨hD.own r r' h1.hr h2.hr (Nat.le_antisymm (a5 r' h2.hr b4) (b5 r h1.hr a4)),rfl⟩
theorem Final.no(hD:E.Ok)(h:Final E a b)(h2:Rule E r s):False:=by
 cases h with
 | best e1 e2=>
  rcases h2.sel with ⟨b1,_⟩ | ⟨b1,_⟩
  ·exact jpj (e1 r h2.hr) b1
  ·exact jpi (e2 s h2.hs) b1
 | none q e1 e2 e3 e4 e5=>
  rcases h2.sel with ⟨b1,b2,b3,b4,b5⟩ | ⟨b1,b2,b3,b4,b5⟩
  ·have e:=hD.own q r e1 h2.hr (Nat.le_antisymm (e3 r h2.hr b1) (b2 q e1 e2));subst e;exact jpj (e5 s h2.hs) b4
  ·have x1:=e4 s h2.hs b1;have x2:=b3 q e1 e2;omega
 | free q e1 e2 e3 e4 e5=>
  rcases h2.sel with ⟨b1,b2,b3,b4,b5⟩ | ⟨b1,b2,b3,b4,b5⟩
  ·have x1:=e4 r h2.hr b1;have x2:=b3 q e1 e2;omega
  ·have e:=hD.free q s e1 h2.hs (Nat.le_antisymm (e3 s h2.hs b1) (b2 q e1 e2));subst e;exact jpi (e5 r h2.hr) b4
theorem Final.det(hD:E.Ok)(h:Final E a b)(h':Final E a' b'):a=a'/\b=b':=by
 cases h with
 | best e1 e2=>
  cases h' with
  | best=>exact⟨rfl,rfl⟩
  | none q f1 f2=>exact(jpj (e1 q f1) f2).elim
  | free q f1 f2=>exact(jpi (e2 q f1) f2).elim
 | none q e1 e2 e3 e4 e5=>
  cases h' with
  | best f1 f2=>exact(jpj (f1 q e1) e2).elim
  | none q' f1 f2 f3 f4 f5=>
   have e:=hD.own q q' e1 f1 (Nat.le_antisymm (e3 q' f1 f2) (f3 q e1 e2));subst e;exact⟨rfl,rfl⟩
  | free q' f1 f2 f3 f4 f5=>
   have x1:=e4 q' f1 f2;have x2:=f4 q e1 e2;omega
 | free q e1 e2 e3 e4 e5=>
  cases h' with
  | best f1 f2=>exact(jpi (f2 q e1) e2).elim
  | none q' f1 f2 f3 f4 f5=>
   have x1:=f4 q e1 e2;have x2:=e4 q' f1 f2;omega
  | free q' f1 f2 f3 f4 f5=>
   have e:=hD.free q q' e1 f1 (Nat.le_antisymm (e3 q' f1 f2) (f3 q e1 e2));subst e;exact⟨rfl,rfl⟩
theorem Reach.det(h:Reach D T E)(h':Reach D T' E')(f:Final E a b)(f':Final E' a' b'):E=E':=by
 have fE:=h.facts.1;have fE':=h'.facts.1;obtain⟨F,r,s,hR,h0,hT⟩:=h;obtain⟨F',r',s',hR',h0',hT'⟩:=h';have key:∀t,t<=T->t<=T'->F t=F' t:=by
  intro t
  induction t with
  | zero=>intro _ _;rw[h0,h0']
  | succ t ih=>
   intro h1 h2;have e:=ih (by omega) (by omega);have k1:=hR.rule t (by omega);have k2:=hR'.rule t (by omega);rw[<-e]at k2;obtain⟨e1,e2⟩:=k1.det (hR.facts t (by omega)).1 k2;rw[hR.next t (by omega),hR'.next t (by omega),<-e,e1,e2]
 rcases Nat.lt_trichotomy T T' with hlt | heq | hlt
 ·have e:=key T (Nat.le_refl _) (by omega);have k2:=hR'.rule T hlt;rw[<-e,hT]at k2;exact(f.no fE k2).elim
 ·subst heq;rw[<-hT,<-hT',key T (Nat.le_refl _) (Nat.le_refl _)]
 ·have e:=key T' (by omega) (Nat.le_refl _);have k2:=hR.rule T' hlt;rw[e,hT']at k2;exact(f'.no fE' k2).elim
end
end
section
structure Rw where
 ts:List (Nat×Rat)
 kind:Int
 val:Rat
def tsum:List (Nat×Rat)->(Nat->Rat)->Rat
 | [],_=>0
 | t::ts,x=>t.2*x t.1+tsum ts x
def cf:List (Nat×Rat)->Nat->Rat
 | [],_=>0
 | t::ts,k=>if k=t.1 then t.2 else cf ts k
def RT:List (Nat×Rat)->Nat->Nat->Prop
 | [],_,_=>True
 | t::ts,lo,N=>lo<=t.1/\t.1<N/\t.2≠0/\RT ts (t.1+1) N
theorem RT.mono:∀{ts:List (Nat×Rat)} {lo lo' N:Nat},RT ts lo N->lo'<=lo->RT ts lo' N
 | [],_,_,_,_,_=>trivial
 | t::ts,lo,lo',N,h,hl=>⟨Nat.le_trans hl h.1,h.2.1,h.2.2.1,h.2.2.2⟩
theorem RT.mem:∀{ts:List (Nat×Rat)} {lo N:Nat},RT ts lo N->∀t∈ts,lo<=t.1/\t.1<N/\t.2≠0
 | t::ts,lo,N,h,u,hu=>by
  rcases List.mem_cons.1 hu with rfl | hu
  ·exact⟨h.1,h.2.1,h.2.2.1⟩
  ·have h1:=RT.mem h.2.2.2 u hu;have h2:=h.1;exact⟨by omega,h1.2⟩
theorem cf_low:∀{ts:List (Nat×Rat)} {lo N k:Nat},RT ts lo N->k<lo->cf ts k=0
 | [],_,_,_,_,_=>rfl
 | t::ts,lo,N,k,h,hk=>by
  rw[cf,if_neg (by have:=h.1;omega)];exact cf_low h.2.2.2 (by have:=h.1;omega)
theorem joe:∀{ts:List (Nat×Rat)} {lo N:Nat} (x:Nat->Rat),RT ts lo N->tsum ts x=S N (fun j=>cf ts j*x j)
 | [],_,N,x,_=>by
  rw[jlp fun j _=> ?_];rfl;simp only[cf];grind
 | t::ts,lo,N,x,h=>by
  rw[tsum,joe x h.2.2.2,jf7 (f:=fun j=>cf (t::ts) j*x j) h.2.1,jf7 (f:=fun j=>cf ts j*x j) h.2.1];have e1:cf ts t.1=0:=cf_low h.2.2.2 (by omega);have e2:cf (t::ts) t.1=t.2:=by rw[cf,if_pos rfl]
  rw[jdi (f:=fun j=>if j=t.1 then 0 else cf (t::ts) j*x j) (g:=fun j=>if j=t.1 then 0 else cf ts j*x j) fun j _=>by
   by_cases e:j=t.1
   ·simp only[if_pos e]
   ·simp only[if_neg e,cf]]
  rw[e1,e2];grind
theorem ji8:∀{ts:List (Nat×Rat)} {x y:Nat->Rat},(∀t∈ts,x t.1=y t.1)->tsum ts x=tsum ts y
 | [],_,_,_=>rfl
 | t::ts,x,y,h=>by rw[tsum,tsum,h t (List.mem_cons_self ..),ji8 fun u hu=>h u (List.mem_cons_of_mem _ hu)]
theorem tsum_app:∀(ts us:List (Nat×Rat)) (x:Nat->Rat),tsum (ts++us) x=tsum ts x+tsum us x
 | [],us,x=>by simp only[List.nil_append,tsum];grind
 | t::ts,us,x=>by rw[List.cons_append,tsum,tsum_app ts us x,tsum];grind
def Rw.sat(w:Rw)(x:Nat->Rat):Prop:=(w.kind≠1->w.val<=tsum w.ts x)/\(w.kind≠0->tsum w.ts x<=w.val)
structure Rw.Ok(w:Rw)(N:Nat):Prop where
 ts:RT w.ts 0 N
 kind:0<=w.kind/\w.kind<3
structure Sol(N:Nat)(ws:List Rw)(x:Nat->Rat):Prop where
 pos:∀k,k<N->0<=x k
 row:∀w∈ws,w.sat x
def Dic.put(D:Dic)(w:Rw)(t:Bool):Dic:=
 {D with
  m:=D.m+1
  own:=fun i=>if i=D.m then D.n+D.m else D.own i
  v:=fun i=>if i=D.m then(if t=true then-w.val else w.val)else D.v i
  a:=fun i=>if i=D.m then(fun j=>if t=true then-cf w.ts j else cf w.ts j)else D.a i}
def jea(D:Dic)(src:Nat->Int×Bool)(row:Nat)(t:Bool)(i:Nat):Int×Bool:=if i=D.m then((row:Int),t)else src i
def rowD(p:Dic×(Nat->Int×Bool))(row:Nat)(w:Rw):Dic×(Nat->Int×Bool):=
 let p1:=if w.kind≠0 then(p.1.put w false,jea p.1 p.2 row false)else p
 if w.kind≠1 then(p1.1.put w true,jea p1.1 p1.2 row true)else p1
def rowsD(ws:List Rw)(p:Dic×(Nat->Int×Bool)):Nat->Dic×(Nat->Int×Bool)
 | 0=>p
 | i+1=>match ws[i]? with
  | some w=>rowD (rowsD ws p i) i w
  | none=>rowsD ws p i
def dic0(N:Nat):Dic:=⟨0,N,fun _=>0,fun j=>j,fun _=>0,fun _=>0,fun _ _=>0⟩
def src0:Nat->Int×Bool:=fun _=>(0,false)
def jej(N:Nat)(ws:List Rw):Dic×(Nat->Int×Bool):=rowsD ws (dic0 N,src0) ws.length
def first(N:Nat)(ws:List Rw)(goal:List (Nat×Rat)):Dic:={(jej N ws).1 with g:=fun j=> -cf goal j}
structure Mk(N:Nat)(D:Dic)(P:(Nat->Rat)->Prop):Prop where
 n:D.n=N
 own:∀i,i<D.m->D.own i=N+i
 free:∀j,D.free j=j
 sat:∀x,P x↔∀i,i<D.m->S N (fun j=>D.a i j*x j)<=D.v i
theorem Mk.congr{N:Nat}{D:Dic}{P Q:(Nat->Rat)->Prop}(h:Mk N D P)(hq:∀x,Q x↔P x):Mk N D Q:=⟨h.n,h.own,h.free,fun x=>(hq x).trans (h.sat x)⟩
theorem mk0(N:Nat):Mk N (dic0 N) (fun _=>True):=⟨rfl,fun i hi=>absurd hi (Nat.not_lt_zero _),fun _=>rfl,fun x=>⟨fun _ i hi=>absurd hi (Nat.not_lt_zero _),fun _=>trivial⟩⟩
theorem S_negc(f g:Nat->Rat)(n:Nat):S n (fun j=> -f j*g j)= -S n (fun j=>f j*g j):=by
 rw[<-S_neg];exact jdi fun j _=>by grind
theorem Mk.put{N:Nat}{D:Dic}{P:(Nat->Rat)->Prop}(h:Mk N D P)(w:Rw)(hw:RT w.ts 0 N)(t:Bool):Mk N (D.put w t) (fun x=>P x/\(if t=true then w.val<=tsum w.ts x else tsum w.ts x<=w.val)) where
 n:=h.n
 own i hi:=by
  show(if i=D.m then D.n+D.m else D.own i)=_;by_cases e:i=D.m
  ·rw[if_pos e,h.n,e]
  ·rw[if_neg e];exact h.own i (by have:i<D.m+1:=hi;omega)
 free:=h.free
 sat x:=by
  have key:(if t=true then w.val<=tsum w.ts x else tsum w.ts x<=w.val)↔S N (fun j=>(D.put w t).a D.m j*x j)<=(D.put w t).v D.m:=by
   have e1:(D.put w t).a D.m=fun j=>if t=true then-cf w.ts j else cf w.ts j:=if_pos rfl
   have e2:(D.put w t).v D.m=if t=true then-w.val else w.val:=if_pos rfl
   rw[e1,e2,joe x hw];cases t
   ·simp only[Bool.false_eq_true,if_false]
   ·simp only[if_true];rw[S_negc];constructor<;>intro h<;>grind
  rw[key,h.sat x];constructor
  ·rintro⟨h1,h2⟩ i hi;by_cases e:i=D.m
   ·subst e;exact h2
   ·have e1:(D.put w t).a i=D.a i:=if_neg e;have e2:(D.put w t).v i=D.v i:=if_neg e;rw[e1,e2];exact h1 i (by have:i<D.m+1:=hi;omega)
  ·intro h1;refine⟨fun i hi=> ?_,h1 D.m (Nat.lt_succ_self _)⟩;have e1:(D.put w t).a i=D.a i:=if_neg (by omega);have e2:(D.put w t).v i=D.v i:=if_neg (by omega);have:=h1 i (Nat.lt_succ_of_lt hi)
   rwa [e1,e2]at this
theorem mk_row{N:Nat}{p:Dic×(Nat->Int×Bool)}{P:(Nat->Rat)->Prop}(h:Mk N p.1 P)(row:Nat)(w:Rw)(hw:RT w.ts 0 N):Mk N (rowD p row w).1 (fun x=>P x/\w.sat x):=by
 unfold rowD Rw.sat;dsimp only;by_cases h0:w.kind=0
 ·have h1:w.kind≠1:=by omega
  rw[if_neg (show ¬(w.kind≠0)from fun h=>h h0),if_pos h1];refine(h.put w hw true).congr fun x=> ?_;rw[if_pos rfl];constructor
  ·rintro⟨a,b,c⟩;exact⟨a,b h1⟩
  ·rintro⟨a,b⟩;exact⟨a,fun _=>b,fun h=>absurd h0 h⟩
 ·rw[if_pos h0];by_cases h1:w.kind=1
  ·rw[if_neg (show ¬(w.kind≠1)from fun h=>h h1)];refine(h.put w hw false).congr fun x=> ?_;rw[if_neg (by decide)];constructor
   ·rintro⟨a,b,c⟩;exact⟨a,c h0⟩
   ·rintro⟨a,b⟩;exact⟨a,fun h=>absurd h1 h,fun _=>b⟩
  ·rw[if_pos h1];refine((h.put w hw false).put w hw true).congr fun x=> ?_;rw[if_neg (by decide),if_pos rfl];constructor
   ·rintro⟨a,b,c⟩;exact⟨⟨a,c h0⟩,b h1⟩
   ·rintro⟨⟨a,b⟩,c⟩;exact⟨a,fun _=>c,fun _=>b⟩
theorem mk_rows{N:Nat}{ws:List Rw}(hw:∀w∈ws,w.Ok N):∀i,i<=ws.length->Mk N (rowsD ws (dic0 N,src0) i).1 (fun x=>∀w∈ws.take i,w.sat x)
 | 0,_=>(mk0 N).congr fun x=>⟨fun _=>trivial,fun _ w hw=>by rw[List.take_zero]at hw;cases hw⟩
 | i+1,hi=>by
  have hlt:i<ws.length:=hi;have hg:ws[i]? =some ws[i]:=List.getElem?_eq_getElem hlt;rw[rowsD,hg];refine(mk_row (mk_rows hw i (by omega)) i ws[i] (hw _ (List.getElem_mem hlt)).ts).congr fun x=> ?_;rw[List.take_add_one,hg];simp only[Option.toList_some,List.mem_append,List.mem_singleton];constructor
  ·intro h;exact⟨fun w hw=>h w (.inl hw),h _ (.inr rfl)⟩
  ·rintro⟨h1,h2⟩ w (hw | rfl)
   ·exact h1 w hw
   ·exact h2
section
variable{N:Nat}{ws:List Rw}{goal:List (Nat×Rat)}{E:Dic}
theorem mk_first(hw:∀w∈ws,w.Ok N):Mk N (first N ws goal) (fun x=>∀w∈ws,w.sat x):=by
 have h:=mk_rows hw ws.length (Nat.le_refl _);rw[List.take_length]at h;exact⟨h.n,h.own,h.free,h.sat⟩
theorem Mk.ok{D:Dic}{P:(Nat->Rat)->Prop}(h:Mk N D P):D.Ok where
 own i i' hi hi' e:=by rw[h.own i hi,h.own i' hi']at e;omega
 free j j' hj hj' e:=by rw[h.free,h.free]at e;exact e
 apart i j hi hj:=by rw[h.own i hi,h.free];have:=h.n;omega
def ext(D:Dic)(N:Nat)(x:Nat->Rat)(k:Nat):Rat:=if k<N then x k else D.v (k-N)-S N (fun j=>D.a (k-N) j*x j)
theorem jmh{D:Dic}{x:Nat->Rat}{k:Nat}(h:k<N):ext D N x k=x k:=if_pos h
theorem Mk.ext_sat{D:Dic}{P:(Nat->Rat)->Prop}(h:Mk N D P)(x:Nat->Rat):D.Sat (ext D N x):=fun i hi=>by
 unfold Dic.row;rw[h.own i hi,h.n,jdi (f:=fun j=>D.a i j*ext D N x (D.free j)) (g:=fun j=>D.a i j*x j) fun j hj=>by rw[h.free,jmh hj]];unfold ext;rw[if_neg (by omega),show N+i-N=i by omega];grind
theorem Mk.sat_iff{D:Dic}{P:(Nat->Rat)->Prop}(h:Mk N D P){y:Nat->Rat}(hy:D.Sat y)(hp:∀k,0<=y k):P y:=(h.sat y).2 fun i hi=>by
 have h1:=hy i hi;unfold Dic.row at h1;rw[h.own i hi,h.n,jdi (f:=fun j=>D.a i j*y (D.free j)) (g:=fun j=>D.a i j*y j) fun j hj=>by rw[h.free]]at h1;have:=hp (N+i);grind
theorem Mk.ext_nonneg{D:Dic}{P:(Nat->Rat)->Prop}(h:Mk N D P){x:Nat->Rat}(hx:P x)(hp:∀k,k<N->0<=x k):∀k,k<N+D.m->0<=ext D N x k:=fun k hk=>by
 by_cases e:k<N
 ·rw[jmh e];exact hp k e
 ·unfold ext;rw[if_neg e];have:=(h.sat x).1 hx (k-N) (by omega);grind
theorem own_lt{D:Dic}{P:(Nat->Rat)->Prop}(h:Mk N D P)(k:Nat):(Own D k\/Free D k)↔k<N+D.m:=by
 constructor
 ·rintro(⟨i,hi,rfl⟩ | ⟨j,hj,rfl⟩)
  ·rw[h.own i hi];omega
  ·rw[h.free,<-h.n];omega
 ·intro hk;by_cases e:k<N
  ·exact .inr ⟨k,by rw[h.n];exact e,h.free k⟩
  ·exact .inl ⟨k-N,by omega,by rw[h.own _ (by omega)];omega⟩
theorem jka(hw:∀w∈ws,w.Ok N)(hg:RT goal 0 N)(y:Nat->Rat):(first N ws goal).lin y= -tsum goal y:=by
 have h:=mk_first (goal:=goal) hw;unfold Dic.lin;rw[h.n,joe y hg,jdi (f:=fun j=>(first N ws goal).g j*y ((first N ws goal).free j)) (g:=fun j=> -cf goal j*y j) fun j hj=>by rw[h.free];rfl,S_negc]
theorem pt_nn(hE:E.Ok)(hv:∀i,i<E.m->0<=E.v i)(k:Nat):0<=E.pt k:=jgg hE (K:=k+1) (fun i hi _=>hv i hi) (Nat.lt_succ_self _)
theorem final_best(hw:∀w∈ws,w.Ok N)(hg:RT goal 0 N)(hE:E.Ok)(hq:Eqv (first N ws goal) E)(hv:SameV (first N ws goal) E)(h1:∀i,i<E.m->0<=E.v i)(h2:∀j,j<E.n->E.g j<=0):
  Sol N ws E.pt/\∀x,Sol N ws x->tsum goal E.pt<=tsum goal x:=by
 have h:=mk_first (goal:=goal) hw;have hp:=pt_nn hE h1;have hs:(first N ws goal).Sat E.pt:=(hq.sat _).2 (jgf hE);refine⟨⟨fun k _=>hp k,h.sat_iff hs hp⟩,fun x hx=> ?_⟩;have hy:=h.ext_sat x;have hn:=h.ext_nonneg hx.row hx.pos;obtain⟨c,hc⟩:=hq.lin;have e1:=hc _ hy;have e2:=hc _ hs;rw[jka hw hg]at e1 e2;rw[pt_lin hE]at e2;have e3:tsum goal (ext (first N ws goal) N x)=tsum goal x:=ji8 fun t ht=>jmh (hg.mem t ht).2.1;have e4:E.lin (ext (first N ws goal) N x)<=0:=by
  have:0<=S E.n (fun j=> -(E.g j*ext (first N ws goal) N x (E.free j))):=ji2 fun j hj=>by
   have a1:=h2 j hj;have a2:0<=ext (first N ws goal) N x (E.free j):=hn _ ((own_lt h _).1 ((hv _).2 (.inr ⟨j,hj,rfl⟩)));exact jpl a1 a2
  rw[S_neg]at this;unfold Dic.lin;grind
 rw[e3]at e1;grind
theorem final_none(hw:∀w∈ws,w.Ok N)(hq:Eqv (first N ws goal) E)(hv:SameV (first N ws goal) E){r:Nat}(hr:r<E.m)(h1:E.v r<0)(h2:∀j,j<E.n->0<=E.a r j):∀x,¬Sol N ws x:=fun x hx=>by
 have h:=mk_first (goal:=goal) hw;have hy:=(hq.sat _).1 (h.ext_sat x) r hr;have hn:=h.ext_nonneg hx.row hx.pos;unfold Dic.row at hy;have a1:0<=ext (first N ws goal) N x (E.own r):=hn _ ((own_lt h _).1 ((hv _).2 (.inl ⟨r,hr,rfl⟩)));have a2:0<=S E.n (fun j=>E.a r j*ext (first N ws goal) N x (E.free j)):=ji2 fun j hj=>Rat.mul_nonneg (h2 j hj) (hn _ ((own_lt h _).1 ((hv _).2 (.inr ⟨j,hj,rfl⟩))));grind
theorem final_free(hw:∀w∈ws,w.Ok N)(hg:RT goal 0 N)(hE:E.Ok)(hq:Eqv (first N ws goal) E)(hv:SameV (first N ws goal) E){s:Nat}(hs:s<E.n)(h1:0<E.g s)(h2:∀i,i<E.m->E.a i s<=0){x:Nat->Rat}(hx:Sol N ws x):
  ∀c:Rat,∃y,Sol N ws y/\tsum goal y<c:=fun c=>by
 have h:=mk_first (goal:=goal) hw;have hy:=h.ext_sat x;have hn:=h.ext_nonneg hx.row hx.pos;have hd:∀k,0<=E.dir s k:=fun k=>jh1 hE (K:=k+1) hs (fun i hi _=>h2 i hi) (Nat.lt_succ_self _);obtain⟨c0,hc⟩:=hq.lin;have key:∀t:Rat,0<=t->Sol N ws (fun k=>ext (first N ws goal) N x k+t*E.dir s k)/\tsum goal (fun k=>ext (first N ws goal) N x k+t*E.dir s k)=tsum goal x-t*E.g s:=fun t ht=>by
  have e0:E.Sat (fun k=>ext (first N ws goal) N x k+t*E.dir s k):=jij hE hs ((hq.sat _).1 hy) t;have e1:=(hq.sat _).2 e0;refine⟨⟨fun k hk=> ?_,?_⟩,?_⟩
  ·have a1:=hn k (by omega);have a2:=Rat.mul_nonneg ht (hd k);show 0<=ext (first N ws goal) N x k+t*E.dir s k;grind
  ·refine(h.sat _).2 fun i hi=> ?_;have b1:=e1 i hi;unfold Dic.row at b1;rw[h.own i hi,h.n]at b1;rw[jdi (f:=fun j=>(first N ws goal).a i j*(fun k=>ext (first N ws goal) N x k+t*E.dir s k) ((first N ws goal).free j)) (g:=fun j=>(first N ws goal).a i j*(fun k=>ext (first N ws goal) N x k+t*E.dir s k) j) fun j hj=>by rw[h.free]]at b1;have a1:=hn (N+i) (by omega);have a2:=Rat.mul_nonneg ht (hd (N+i));dsimp only at b1⊢;grind
  ·have c1:=hc _ e1;have c2:=hc _ hy;rw[jka hw hg]at c1 c2;rw[jih,jmi hE hs]at c1;have e3:tsum goal (ext (first N ws goal) N x)=tsum goal x:=ji8 fun t ht=>jmh (hg.mem t ht).2.1;rw[e3]at c2;grind
 by_cases hlt:tsum goal x<c
 ·exact⟨x,hx,hlt⟩
 ·have hgi:E.g s*(E.g s)⁻¹=1:=Rat.mul_inv_cancel _ (by grind);have hi:0<=(E.g s)⁻¹:=Rat.le_of_lt (Rat.inv_pos.2 h1);have ht:0<=(tsum goal x-c+1)*(E.g s)⁻¹:=Rat.mul_nonneg (by grind) hi;obtain⟨k1,k2⟩:=key _ ht;refine⟨_,k1,?_⟩;rw[k2];have:(tsum goal x-c+1)*(E.g s)⁻¹*E.g s=tsum goal x-c+1:=by
   rw[Rat.mul_assoc,Rat.mul_comm _ (E.g s),hgi];grind
  rw[this];grind
theorem final_nil(hw:∀w∈ws,w.Ok N)(hE:E.Ok)(hq:Eqv (first N ws []) E){s:Nat}(hs:s<E.n):E.g s=0:=by
 obtain⟨c,hc⟩:=hq.lin;have e1:=hc _ ((hq.sat _).2 (jgf hE));have e2:=hc _ ((hq.sat _).2 (jij hE hs (jgf hE) 1));have hr:RT [] 0 N:=trivial;rw[jka hw hr]at e1 e2;rw[jih,jmi hE hs]at e2;simp only[tsum]at e1 e2;grind
end
end
section
theorem Ov_neg{B q:Nat}{x:Rat}(h:Ov B q x):Ov B q (-x):=by
 obtain⟨z,h1,h2⟩:=h;exact⟨-z,by rw[Rat.intCast_neg,<-h1];grind,by rw[Int.natAbs_neg];exact h2⟩
structure OvRw(B q:Nat)(w:Rw):Prop where
 val:Ov B q w.val
 ts:∀t∈w.ts,Ov B q t.2
theorem Ov_cf{B q:Nat}:∀{ts:List (Nat×Rat)},(∀t∈ts,Ov B q t.2)->∀k,Ov B q (cf ts k)
 | [],_,k=>Ov_zero
 | t::ts,h,k=>by
  rw[cf];split
  ·exact h t (List.mem_cons_self ..)
  ·exact Ov_cf (fun u hu=>h u (List.mem_cons_of_mem _ hu)) k
def OvD(B q:Nat)(D:Dic):Prop:=∀i,i<D.m->Ov B q (D.v i)/\∀j,Ov B q (D.a i j)
theorem OvD.put{B q:Nat}{D:Dic}(h:OvD B q D){w:Rw}(hw:OvRw B q w)(t:Bool):OvD B q (D.put w t):=fun i hi=>by
 by_cases e:i=D.m
 ·have e1:(D.put w t).a i=fun j=>if t=true then-cf w.ts j else cf w.ts j:=if_pos e
  have e2:(D.put w t).v i=if t=true then-w.val else w.val:=if_pos e
  rw[e1,e2];cases t
  ·exact⟨hw.val,fun j=>Ov_cf hw.ts j⟩
  ·exact⟨Ov_neg hw.val,fun j=>Ov_neg (Ov_cf hw.ts j)⟩
 ·have e1:(D.put w t).a i=D.a i:=if_neg e;have e2:(D.put w t).v i=D.v i:=if_neg e;rw[e1,e2];exact h i (by have:i<D.m+1:=hi;omega)
theorem OvD.rowD{B q:Nat}{p:Dic×(Nat->Int×Bool)}(h:OvD B q p.1){w:Rw}(hw:OvRw B q w)(row:Nat):OvD B q (rowD p row w).1:=by
 unfold Go.LP.rowD;dsimp only;by_cases h0:w.kind≠0
 ·rw[if_pos h0];by_cases h1:w.kind≠1
  ·rw[if_pos h1];exact(h.put hw false).put hw true
  ·rw[if_neg h1];exact h.put hw false
 ·rw[if_neg h0];by_cases h1:w.kind≠1
  ·rw[if_pos h1];exact h.put hw true
  ·rw[if_neg h1];exact h
theorem OvD.rows{B q:Nat}{N:Nat}{ws:List Rw}(hw:∀w∈ws,OvRw B q w):∀i,OvD B q (rowsD ws (dic0 N,src0) i).1
 | 0=>fun i hi=>absurd hi (Nat.not_lt_zero _)
 | i+1=>by
  rw[rowsD];split
  ·rename_i w hg;exact(OvD.rows hw i).rowD (hw w (List.mem_of_getElem? hg)) i
  ·exact OvD.rows hw i
theorem small_first{B q N:Nat}{ws:List Rw}{goal:List (Nat×Rat)}(q0:0<q)(hq:q<=B)(hw:∀w∈ws,OvRw B q w)(hg:∀t∈goal,Ov B q t.2):Small B q (first N ws goal) where
 q0:=q0
 qB:=hq
 v i hi:=(OvD.rows hw ws.length i hi).1
 g j _:=Ov_neg (Ov_cf hg j)
 a i j hi _:=(OvD.rows hw ws.length i hi).2 j
structure Src(p:Dic×(Nat->Int×Bool))(R:Nat):Prop where
 row:∀i,i<p.1.m->0<=(p.2 i).1/\(p.2 i).1<(R:Int)
theorem Src.put{p:Dic×(Nat->Int×Bool)}{R:Nat}(h:Src p R)(w:Rw)(row:Nat)(t:Bool)(hr:row<R):Src (p.1.put w t,jea p.1 p.2 row t) R where
 row i hi:=by
  dsimp only[jea];by_cases e:i=p.1.m
  ·rw[if_pos e];dsimp only;omega
  ·rw[if_neg e];exact h.row i (by have:i<p.1.m+1:=hi;omega)
theorem Src.mono{p:Dic×(Nat->Int×Bool)}{R R':Nat}(h:Src p R)(hR:R<=R'):Src p R':=⟨fun i hi=>by have:=h.row i hi;omega⟩
theorem Src.rowD{p:Dic×(Nat->Int×Bool)}{R:Nat}(h:Src p R)(w:Rw)(row:Nat)(hr:row<R):Src (rowD p row w) R:=by
 unfold Go.LP.rowD;dsimp only;by_cases h0:w.kind≠0
 ·rw[if_pos h0];by_cases h1:w.kind≠1
  ·rw[if_pos h1];exact(h.put w row false hr).put w row true hr
  ·rw[if_neg h1];exact h.put w row false hr
 ·rw[if_neg h0];by_cases h1:w.kind≠1
  ·rw[if_pos h1];exact h.put w row true hr
  ·rw[if_neg h1];exact h
theorem Src.rows{N:Nat}{ws:List Rw}:∀i,Src (rowsD ws (dic0 N,src0) i) i
 | 0=>⟨fun i hi=>absurd hi (Nat.not_lt_zero _)⟩
 | i+1=>by
  rw[rowsD];split
  ·exact((Src.rows i).mono (by omega)).rowD _ i (by omega)
  ·exact(Src.rows i).mono (by omega)
theorem m_row(p:Dic×(Nat->Int×Bool))(row:Nat)(w:Rw):(rowD p row w).1.m<=p.1.m+2:=by
 unfold rowD;dsimp only;by_cases h0:w.kind≠0
 ·rw[if_pos h0];by_cases h1:w.kind≠1
  ·rw[if_pos h1];exact Nat.le_refl _
  ·rw[if_neg h1];exact Nat.le_succ _
 ·rw[if_neg h0];by_cases h1:w.kind≠1
  ·rw[if_pos h1];exact Nat.le_succ _
  ·rw[if_neg h1];exact Nat.le_add_right _ _
theorem m_rows{ws:List Rw}{p:Dic×(Nat->Int×Bool)}:∀i,(rowsD ws p i).1.m<=p.1.m+2*i
 | 0=>Nat.le_refl _
 | i+1=>by
  have ih:=m_rows (ws:=ws) (p:=p) i;rw[rowsD];split
  ·have:=m_row (rowsD ws p i) i;exact Nat.le_trans (this _) (by omega)
  ·omega
section
variable{N:Nat}{ws ws':List Rw}{g:List (Nat×Rat)}{v u:Rat}
structure IsMin(N:Nat)(ws:List Rw)(g:List (Nat×Rat))(v:Rat):Prop where
 at':∃x,Sol N ws x/\tsum g x=v
 le:∀x,Sol N ws x->v<=tsum g x
def NoMin(N:Nat)(ws:List Rw)(g:List (Nat×Rat)):Prop:=(∃x,Sol N ws x)/\∀c:Rat,∃x,Sol N ws x/\tsum g x<c
theorem IsMin.uniq(h:IsMin N ws g v)(h':IsMin N ws g u):v=u:=by
 obtain⟨x,hx,ex⟩:=h.at';obtain⟨y,hy,ey⟩:=h'.at';have h1:=h.le y hy;have h2:=h'.le x hx;grind
theorem IsMin.not(h:IsMin N ws g v)(h':NoMin N ws g):False:=by
 obtain⟨x,hx,hl⟩:=h'.2 v;have:=h.le x hx;grind
theorem Sol.sub{x:Nat->Rat}(h:Sol N ws' x)(hs:∀w∈ws,w∈ws'):Sol N ws x:=⟨h.pos,fun w hw=>h.row w (hs w hw)⟩
theorem IsMin.sub(h:IsMin N ws g v)(h':IsMin N ws' g u)(hs:∀w∈ws,w∈ws'):v<=u:=by
 obtain⟨x,hx,rfl⟩:=h'.at';exact h.le x (hx.sub hs)
theorem NoMin.sub(h:NoMin N ws' g)(hs:∀w∈ws,w∈ws'):NoMin N ws g:=
 ⟨h.1.imp fun _ hx=>hx.sub hs,fun c=>(h.2 c).imp fun _ hx=>⟨hx.1.sub hs,hx.2⟩⟩
theorem tsum_nonneg:∀{ts:List (Nat×Rat)} {lo N:Nat} {x:Nat->Rat},RT ts lo N->(∀t∈ts,0<=t.2)->(∀k,k<N->0<=x k)->0<=tsum ts x
 | [],_,_,_,_,_,_=>by simp only[tsum];grind
 | t::ts,lo,N,x,h,hc,hx=>by
  rw[tsum];have h1:=Rat.mul_nonneg (hc t (List.mem_cons_self ..)) (hx t.1 h.2.1);have h2:=tsum_nonneg h.2.2.2 (fun u hu=>hc u (List.mem_cons_of_mem _ hu)) hx;grind
end
end
end Go.LP
namespace Go.Proofs.YtfahloobpegieaaGreat
section
open Go.Abs
open Go.LP (Rw RT Ov OvRw tsum)
def sgnF(fr:Int)(y:Move):Int:=if y.fr=fr then-1 else if y.to=fr then 1 else 0
def jaj(M:Nat)(fr:Int)(mat:Nat)(ms:List Move):Nat->List (Nat×Rat)
 | 0=>[]
 | i+1=>match ms[i]? with
  | some y=>if sgnF fr y=0 then jaj M fr mat ms i else jaj M fr mat ms i++[(i*M+mat,((sgnF fr y:Int):Rat))]
  | none=>jaj M fr mat ms i
def coF(b own more:Int)(k:Nat):Int:=if(k:Int)=own then b+more else b
def sumT(M mv:Nat)(b own more:Int):Nat->List (Nat×Rat)
 | 0=>[]
 | k+1=>if coF b own more k=0 then sumT M mv b own more k else sumT M mv b own more k++[(mv*M+k,((coF b own more k:Int):Rat))]
def jeh(M:Nat)(ms:List Move)(mv:Nat)(x:Move):Nat->List Rw
 | 0=>[]
 | mat+1=>jeh M ms mv x mat++[⟨jaj M x.fr mat ms (mv+1),if x.all=true then 2 else 0,0⟩]
def jcp(e:Evid)(M mv:Nat)(x:Move):List Rw:=
 if x.scale= -1 then []else match ivlF e.certs e.recalls x.scale x.reading x.day with
  | some (lo,hi)=>[⟨sumT M mv 1 (-1) 0 M,0,lo⟩,⟨sumT M mv 1 (-1) 0 M,1,hi⟩]
  | none=>[]
def pur1(M mv:Nat)(p:Purity):List Rw:=if p.move=(mv:Int)then [⟨sumT M mv (-p.least) p.mat 1000 M,0,0⟩,⟨sumT M mv p.most p.mat (-1000) M,0,0⟩]else []
def purR(M mv:Nat)(ps:List Purity):List Rw:=ps.flatMap (pur1 M mv)
def binF(e:Evid)(x:Move):Bool:=(e.places[x.fr.toNat]?).elim false fun p=>decide (p.kind=0)
def moveR(e:Evid)(M mv:Nat)(x:Move):List Rw:=(if binF e x=true then []else jeh M e.moves mv x M)++jcp e M mv x++purR M mv e.purs
def rowsU(e:Evid)(M:Nat):Nat->List Rw
 | 0=>[]
 | i+1=>match e.moves[i]? with
  | some x=>rowsU e M i++moveR e M i x
  | none=>rowsU e M i
def rowsE(e:Evid):List Rw:=rowsU e e.mats.toNat e.moves.length
theorem mem_rowsU{e:Evid}{M:Nat}{w:Rw}:∀{i:Nat},w∈rowsU e M i↔∃k x,k<i/\e.moves[k]? =some x/\w∈moveR e M k x
 | 0=>by simp[rowsU]
 | i+1=>by
  rw[rowsU];cases hg:e.moves[i]? with
  | none=>
   rw[mem_rowsU];constructor
   ·rintro⟨k,x,h1,h2⟩;exact⟨k,x,by omega,h2⟩
   ·rintro⟨k,x,h1,h2,h3⟩;refine⟨k,x,?_,h2,h3⟩;have:k≠i:=fun e=>by subst e;rw[hg]at h2;cases h2
    omega
  | some y=>
   simp only[List.mem_append,mem_rowsU];constructor
   ·rintro(⟨k,x,h1,h2⟩ | h)
    ·exact⟨k,x,by omega,h2⟩
    ·exact⟨i,y,by omega,hg,h⟩
   ·rintro⟨k,x,h1,h2,h3⟩;by_cases e1:k=i
    ·subst e1;rw[hg]at h2;cases h2;exact .inr h3
    ·exact .inl ⟨k,x,by omega,h2,h3⟩
theorem mem_stockR{M:Nat}{ms:List Move}{mv:Nat}{x:Move}{w:Rw}:∀{k:Nat},w∈jeh M ms mv x k↔∃mat,mat<k/\w=⟨jaj M x.fr mat ms (mv+1),if x.all=true then 2 else 0,0⟩
 | 0=>by simp[jeh]
 | k+1=>by
  rw[jeh];simp only[List.mem_append,mem_stockR,List.mem_singleton];constructor
  ·rintro(⟨mat,h1,h2⟩ | h)
   ·exact⟨mat,by omega,h2⟩
   ·exact⟨k,by omega,h⟩
  ·rintro⟨mat,h1,h2⟩;by_cases e1:mat=k
   ·subst e1;exact .inr h2
   ·exact .inl ⟨mat,by omega,h2⟩
theorem RT_up:∀{ts:List (Nat×Rat)} {lo N N':Nat},RT ts lo N->N<=N'->RT ts lo N'
 | [],_,_,_,_,_=>trivial
 | t::ts,lo,N,N',h,hN=>⟨h.1,by have:=h.2.1;omega,h.2.2.1,RT_up h.2.2.2 hN⟩
theorem jos{t:Nat×Rat}{N:Nat}:∀{ts:List (Nat×Rat)} {lo k:Nat},RT ts lo k->lo<=t.1->k<=t.1->t.1<N->t.2≠0->RT (ts++[t]) lo N
 | [],_,_,_,h1,_,h3,h4=>⟨h1,h3,h4,trivial⟩
 | u::ts,lo,k,h,h1,h2,h3,h4=>⟨h.1,by have:=h.2.1;omega,h.2.2.1,jos h.2.2.2 (by have:=h.2.1;omega) h2 h3 h4⟩
theorem cast_ne{z:Int}(h:z≠0):(z:Rat)≠0:=fun e=>h (Rat.intCast_eq_zero_iff.1 e)
theorem jqh{M:Nat}{fr:Int}{mat:Nat}{ms:List Move}(hm:mat<M):∀i,RT (jaj M fr mat ms i) 0 (i*M)
 | 0=>trivial
 | i+1=>by
  have ih:=jqh (fr:=fr) (ms:=ms) hm i;have e1:(i+1)*M=i*M+M:=Nat.succ_mul i M;rw[jaj];split
  ·split
   ·exact RT_up ih (by omega)
   ·rename_i h;refine jos ih (Nat.zero_le _) ?_ ?_ (cast_ne h)
    ·show i*M<=i*M+mat;omega
    ·show i*M+mat<(i+1)*M;omega
  ·exact RT_up ih (by omega)
theorem RT_sum{M mv:Nat}{b own more:Int}:∀k,RT (sumT M mv b own more k) (mv*M) (mv*M+k)
 | 0=>trivial
 | k+1=>by
  have ih:=RT_sum (M:=M) (mv:=mv) (b:=b) (own:=own) (more:=more) k;rw[sumT];split
  ·exact RT_up ih (by omega)
  ·rename_i h;refine jos ih ?_ ?_ ?_ (cast_ne h)
   ·show mv*M<=mv*M+k;omega
   ·show mv*M+k<=mv*M+k;omega
   ·show mv*M+k<mv*M+(k+1);omega
theorem jms{M mv n:Nat}{b own more:Int}(h:mv<n):RT (sumT M mv b own more M) 0 (n*M):=by
 have h1:=RT.mono (RT_sum (M:=M) (mv:=mv) (b:=b) (own:=own) (more:=more) M) (Nat.zero_le _);refine RT_up h1 ?_;have:(mv+1)*M<=n*M:=Nat.mul_le_mul_right M h;rw[Nat.succ_mul]at this;exact this
theorem rows_ok{e:Evid}(w:Rw)(hw:w∈rowsE e):w.Ok (e.moves.length*e.mats.toNat):=by
 obtain⟨k,x,hk,hx,hw⟩:=mem_rowsU.1 hw;unfold moveR at hw;simp only[List.mem_append]at hw;have hN:(k+1)*e.mats.toNat<=e.moves.length*e.mats.toNat:=Nat.mul_le_mul_right _ hk;rcases hw with (hw | hw) | hw
 ·split at hw
  ·cases hw
  ·obtain⟨mat,h1,rfl⟩:=mem_stockR.1 hw;refine⟨RT_up (jqh h1 (k+1)) hN,?_⟩;dsimp only;split<;>omega
 ·unfold jcp at hw;split at hw
  ·cases hw
  ·split at hw
   ·rcases List.mem_cons.1 hw with rfl | hw
    ·exact⟨jms hk,by dsimp only;omega⟩
    ·rcases List.mem_cons.1 hw with rfl | hw
     ·exact⟨jms hk,by dsimp only;omega⟩
     ·cases hw
   ·cases hw
 ·unfold purR at hw;obtain⟨p,_,hw⟩:=List.mem_flatMap.1 hw;unfold pur1 at hw;split at hw
  ·rcases List.mem_cons.1 hw with rfl | hw
   ·exact⟨jms hk,by dsimp only;omega⟩
   ·rcases List.mem_cons.1 hw with rfl | hw
    ·exact⟨jms hk,by dsimp only;omega⟩
    ·cases hw
  ·cases hw
end
end Go.Proofs.YtfahloobpegieaaGreat
namespace Go.Abs
section
section
variable{L R:Rows}{k d s b:Nat}{es:List (List IV)}
theorem look_filterQ(q:Nat->Bool)(l:Rows)(k:Nat):look (l.filter fun p=>q p.1) k=if q k=true then look l k else none:=jbm l q k
theorem jay(h:blks L)(hd:d<100000):look L d=none:=by
 cases hl:look L d with
 | none=>rfl
 | some x=>obtain⟨b,e⟩:=h d x hl;unfold hp at e;omega
theorem filter_of_none(h:look L d=none):L.filter (fun p=>p.1 !=d)=L:=by
 induction L with
 | nil=>rfl
 | cons p L ih=>
  obtain⟨j,v⟩:=p;by_cases e:d=j
  ·subst e;rw[ja2]at h;cases h
  ·rw[ja0 _ _ e]at h;rw[List.filter_cons,ih h,if_pos (by simp only[bne_iff_ne,ne_eq];exact fun x=>e x.symm)]
theorem jet(h:look L d=none):L.map (fun p=>if p.1=d then(p.1,s,es)else p)=L:=by
 induction L with
 | nil=>rfl
 | cons p L ih=>
  obtain⟨j,v⟩:=p;by_cases e:d=j
  ·subst e;rw[ja2]at h;cases h
  ·rw[ja0 _ _ e]at h;rw[List.map_cons,ih h,if_neg (fun x=>e x.symm)]
theorem je3(h:blks L)(hd:d<100000):L.filter (fun p=>p.1 !=d)=L:=filter_of_none (jay h hd)
theorem jmo(h:blks L)(hd:d<100000):L.map (fun p=>if p.1=d then(p.1,s,es)else p)=L:=jet (jay h hd)
theorem jab{x:Nat×List (List IV)}(h:look L k=some x):look (L.map (fun p=>if p.1=k then(p.1,s,es)else p)) k=some (s,es):=
 jbv (by rw[h];rfl)
theorem jag{j:Nat}(h:j≠k):look (L.map (fun p=>if p.1=k then(p.1,s,es)else p)) j=look L j:=jc5 h
theorem jb5(h:blks L):blks (L.map (fun p=>if p.1=k then(p.1,s,es)else p)):=fun j x hj=>by
 have:(look L j).isSome:=by
  have e:=jbj (l:=L) (d:=k) (s:=s) (k:=j) (es:=es);unfold setRow at e;rw[<-e,hj];rfl
 obtain⟨y,hy⟩:=Option.isSome_iff_exists.1 this;exact h j y hy
theorem jao(h:blks L):blks ((hp b,s,es)::L):=fun j x hj=>by
 by_cases e:j=hp b
 ·exact⟨b,e⟩
 ·rw[ja0 _ _ e]at hj;exact h j x hj
theorem jbl:blks []:=fun _ _ h=>by cases h
theorem jbf(h:blks L):blks (del L d):=fun j x hj=>by
 by_cases e:j=d
 ·subst e;rw[ja8]at hj;cases hj
 ·rw[ja5 _ e]at hj;exact h j x hj
def hiR(R:Rows):Rows:=R.filter fun p=>Nat.ble 100000 p.1
theorem jm8:look (hiR R) k=if 100000<=k then look R k else none:=by
 unfold hiR;rw[look_filterQ];by_cases h:100000<=k
 ·rw[if_pos (Nat.ble_eq▸h),if_pos h]
 ·rw[if_neg (fun e=>h (Nat.le_of_ble_eq_true e)),if_neg h]
theorem jah:look (hiR R) (hp b)=look R (hp b):=by rw[jm8,if_pos (by unfold hp;omega)]
theorem jdd:blks (hiR R):=fun k x h=>by
 rw[jm8]at h;split at h
 ·rename_i hk;exact⟨_,hp_of hk⟩
 ·cases h
theorem hiR_ret:∀k x,look (hiR R) k=some x->100000<=k/\look R k=some x:=fun k x h=>by
 rw[jm8]at h;split at h
 ·exact⟨‹_›,h⟩
 ·cases h
theorem ja4{x:Nat×List (List IV)}(hd:d<100000)(hL:blks L)(h:SubR L R):SubR L ((d,x)::R):=fun k y hk=>by
 rw[ja0 _ _ (fun e=>by subst e;rw[jay hL hd]at hk;cases hk)];exact h k y hk
theorem jbp:SubR [] R:=fun _ _ h=>by cases h
theorem ja6{R':Rows}(p:Nat×Nat×List (List IV))(hs:SubR R' R):SubR (p::R') (p::R):=fun k x hk=>by
 obtain⟨j,v⟩:=p;by_cases e:k=j
 ·subst e;rw[ja2]at hk⊢;exact hk
 ·rw[ja0 _ _ e]at hk⊢;exact hs k x hk
theorem ja3{R':Rows}{p:Nat×Nat×List (List IV)}(h:look R' p.1=none)(hs:SubR R' R):SubR R' (p::R):=fun k x hk=>by
 obtain⟨j,v⟩:=p;rw[ja0 _ _ (fun e=>by subst e;rw[h]at hk;cases hk)];exact hs k x hk
theorem jby{L L':Rows}:∀(pre:Rows),(∀p∈pre,look L p.1=none)->jfo (pre++L) L L' (pre++L')
 | [],_=>fun _ _ h=> .inl h
 | (j,v)::pre,hp=>fun k x h=>by
  by_cases e:k=j
  ·subst e;rw[List.cons_append,ja2]at h⊢;exact .inr ⟨hp _ (List.mem_cons_self ..),h⟩
  ·rw[List.cons_append,ja0 _ _ e]at h⊢;exact jby pre (fun p h=>hp p (List.mem_cons_of_mem _ h)) k x h
theorem jbh{L':Rows}:jfo R L L' L':=fun _ _ h=> .inl h
end
section
variable{R:Rows}
theorem jba{G:Ctx}{rs:List ResultVar}{st:St}{φ:AV->Rows->Prop}(h:jln G rs (fun r=>φ r (hiR st.rows)) st): @RetH G rs st ⟨φ⟩:=RetH_of (hiR st.rows) hiR_ret h
theorem jbd{G:Ctx}{rs:List ResultVar}{st:St}{φ:AV->Rows->Prop}(L':Rows)(hb:blks L')(hs:SubR L' st.rows)(h:jln G rs (fun r=>φ r L') st): @RetH G rs st ⟨φ⟩:=
 RetH_of L' (fun k x hk=>⟨by obtain⟨b,rfl⟩:=hb k x hk;unfold hp;omega,hs k x hk⟩) h
end
def tab{α:Type}(n:Nat)(f:Nat->α):List α:=(List.range n).map f
section
variable{α β:Type}{n:Nat}{f g:Nat->α}
theorem jaa:(tab n f).length=n:=by simp[tab]
theorem jft{i:Nat}(h:i<n):(tab n f)[i]? =some (f i):=by simp[tab,h]
theorem tab_get_none{i:Nat}(h:¬i<n):(tab n f)[i]? =none:=by simp[tab];omega
theorem jas(h:∀k,k<n->f k=g k):tab n f=tab n g:=List.map_congr_left fun k hk=>h k (List.mem_range.1 hk)
theorem tab_ext{l:List α}(hl:l.length=n)(h:∀k,k<n->l[k]? =some (f k)):l=tab n f:=by
 apply List.ext_getElem?;intro i;by_cases hi:i<n
 ·rw[h i hi,jft hi]
 ·rw[tab_get_none hi,List.getElem?_eq_none (by omega)]
theorem jlx{i:Nat}{x:α}:(tab n f).set i x=tab n fun k=>if k=i then x else f k:=by
 refine tab_ext (by rw[List.length_set,jaa]) fun k hk=> ?_;by_cases e:k=i
 ·subst e;rw[if_pos rfl,List.getElem?_set_self (by rw[jaa];exact hk)]
 ·rw[if_neg e,List.getElem?_set_ne (fun h=>e h.symm),jft hk]
theorem jhm:tab (n+1) f=tab n f++[f n]:=by simp[tab,List.range_succ]
theorem tab_zero:tab 0 f=[]:=rfl
theorem tab_replicate{x:α}:List.replicate n x=tab n fun _=>x:=tab_ext (by simp) fun k hk=>by simp[hk]
theorem tab_mem{x:α}(h:x∈tab n f):∃i,i<n/\f i=x:=by
 obtain⟨i,hi,rfl⟩:=List.mem_map.1 h;exact⟨i,List.mem_range.1 hi,rfl⟩
theorem mem_tab{i:Nat}(h:i<n):f i∈tab n f:=List.mem_map.2 ⟨i,List.mem_range.2 h,rfl⟩
theorem jc0:(tab n f).take n=tab n f:=List.take_of_length_le (by rw[jaa];exact Nat.le_refl _)
theorem tab_nodup{A:Nat->Nat}(h:(tab n A).Nodup){i j:Nat}(hi:i<n)(hj:j<n)(e:A i=A j):i=j:=by
 have h1:=jft (f:=A) hi;have h2:=jft (f:=A) hj;rw[<-e]at h2;rw[List.getElem?_eq_some_iff]at h1 h2;obtain⟨a1,a2⟩:=h1;obtain⟨b1,b2⟩:=h2;exact(List.getElem_inj h).1 (a2.trans b2.symm)
end
theorem bF{L:Rows}(hb:blks L)(d:Nat)(h:d<100000):L.filter (fun p=>p.1 !=d)=L:=je3 hb h
theorem bN{L:Rows}(hb:blks L)(d:Nat)(h:d<100000):look L d=none:=jay hb h
theorem bK{L:Rows}(hb:blks L)(d s:Nat)(es:List (List IV))(h:d<100000):L.map (fun p=>if p.1=d then(p.1,s,es)else p)=L:=jmo hb h
end
end Go.Abs
namespace Go.Proofs.YtfahloobpegieaaGreat
section
open Go.Abs
def fc(r:Rat):List IV:=[.int r.num.sign,.sl ((dig r.num.natAbs).map ic),.int (r.den:Int).sign,.sl ((dig (r.den:Int).natAbs).map ic)]
def qc(r:Rat):List IV:=fc r
theorem qget{n s:Nat}{f:Nat->Rat}(h:s<n):(tab n fun j=>qc (f j))[s]? =some (fc (f s)):=jft h
theorem qset{n s:Nat}{f:Nat->Rat}{x:Rat}:(tab n fun j=>qc (f j)).set s (fc x)=tab n fun k=>qc (if k=s then x else f k):=by
 rw[show fc x=qc x from rfl,jlx];exact jas fun k _=>by split<;>rfl
theorem sign_zero{r:Rat}:r.num.sign=0↔r=0:=by
 rw[Int.sign_eq_zero_iff_zero];exact Rat.num_eq_zero
theorem sign_neg{r:Rat}:r.num.sign<0↔r<0:=by
 rw[Int.sign_neg_iff,Rat.lt_iff];simp
theorem sign_pos{r:Rat}:0<r.num.sign↔0<r:=by
 rw[Int.sign_pos_iff,Rat.lt_iff];simp
end
end Go.Proofs.YtfahloobpegieaaGreat
