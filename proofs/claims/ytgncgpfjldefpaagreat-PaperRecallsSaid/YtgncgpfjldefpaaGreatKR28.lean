/- A part of the proof. No further condition. -/
import Derived.Test.YtgncgpfjldefpaaGreatKR27
set_option linter.all false
set_option maxRecDepth 10000000
set_option maxHeartbeats 16000000
namespace Go.LP
section
theorem S_neg(f:Nat->Rat)(n:Nat):S n (fun j=> -f j)= -S n f:=by
 rw[show(fun j=> -f j)=fun j=>(-1)*f j from funext fun j=>by grind,S_mul];grind
inductive Enter(D:Dic)(K:Nat):Prop
 | first (s:Nat):s<D.n->D.free s=K->0<D.g s->(∀i,i<D.m->D.own i<K->0<=D.v i)->(∀j,j<D.n->D.free j<K->D.g j<=0)->Enter D K
 | second (r s:Nat):r<D.m->s<D.n->D.free s=K->D.own r<K->D.v r<0->D.a r s<0->(∀j,j<D.n->D.free j<K->0<=D.a r j)->Enter D K
inductive Leave(D:Dic)(K:Nat):Prop
 | first (r:Nat):r<D.m->D.own r=K->D.v r<0->(∀i,i<D.m->D.own i<K->0<=D.v i)->(∀j,j<D.n->D.free j<K->D.g j<=0)->Leave D K
 | second (r s:Nat):r<D.m->s<D.n->D.own r=K->D.free s<K->0<D.g s->0<D.a r s->(∀i,i<D.m->D.own i<K->D.a i s<=0)->Leave D K
section
variable{D E:Dic}{K:Nat}
theorem jh2(h:E.Ok)(hv:∀i,i<E.m->E.own i<K->0<=E.v i){k:Nat}(hk:k<K):0<=E.pt k:=by
 by_cases he:∃i,i<E.m/\E.own i=k
 ·obtain⟨i,hi,rfl⟩:=he;rw[jqw h hi];exact hv i hi hk
 ·rw[jpu fun i hi e=>he ⟨i,hi,e⟩];grind
theorem jhl(h:E.Ok){s:Nat}(hs:s<E.n)(ha:∀i,i<E.m->E.own i<K->E.a i s<=0){k:Nat}(hk:k<K):0<=E.dir s k:=by
 by_cases he:∃i,i<E.m/\E.own i=k
 ·obtain⟨i,hi,rfl⟩:=he;rw[jli h hi];have:=ha i hi hk;grind
 ·by_cases e:k=E.free s
  ·rw[e,jfi h hs hs,zn rfl];grind
  ·rw[jru (fun i hi e'=>he ⟨i,hi,e'⟩) e];grind
theorem jr6{a b:Rat}(ha:a<=0)(hb:0<=b):0<= -(a*b):=by
 have:=y7 (a:= -a) (b:=b) (by grind) hb;grind
theorem jr5{a b:Rat}(ha:0<a)(hb:b<0):0< -(a*b):=by
 have:=Rat.mul_pos (a:=a) (b:= -b) ha (by grind);grind
theorem jr7{a b:Rat}(ha:a<0)(hb:b<0):0<a*b:=by
 have:=Rat.mul_pos (a:= -a) (b:= -b) (by grind) (by grind);grind
theorem contra(hD:D.Ok)(hE:E.Ok)(hq:Eqv D E)(hin:Enter D K)(hout:Leave E K)
  (h1:∀j,j<D.n->K<D.free j->∀i,i<E.m->E.own i≠D.free j) (h2:∀j,j<E.n->K<E.free j->∀i,i<D.m->D.own i≠E.free j):False:=by
 obtain⟨c,hc⟩:=hq.lin;cases hout with
 | first r hr hK hv hvs hgs=>
  have xE:=jh1 hE;have xD:=(hq.sat _).2 xE;have ptK:E.pt K=E.v r:=by rw[<-hK];exact jqw hE hr
  have big:∀j,j<D.n->K<D.free j->E.pt (D.free j)=0:=fun j hj hk=>jpu (h1 j hj hk);cases hin with
  | first s hs hKs hg hvs' hgs'=>
   have e1:=hc _ xD;have e2:=hc _ (jh1 hD);rw[pt_lin hE]at e1;rw[pt_lin hD]at e2;have p1:0< -D.lin E.pt:=by
    unfold Dic.lin;rw[<-S_neg];refine S_pos hs (fun j hj=> ?_) ?_
    ·rcases qX (D.free j) K with hk | hk | hk
     ·exact jr6 (hgs' j hj hk) (jh2 hE hvs hk)
     ·have:j=s:=hD.free j s hj hs (hk.trans hKs.symm);subst this;rw[hk,ptK];have:=jr5 hg hv;grind
     ·rw[big j hj hk];grind
    ·rw[hKs,ptK];exact jr5 hg hv
   have p2:0<= -E.lin D.pt:=by
    unfold Dic.lin;rw[<-S_neg];refine jir fun j hj=> ?_;rcases qX (E.free j) K with hk | hk | hk
    ·exact jr6 (hgs j hj hk) (jh2 hD hvs' hk)
    ·exact absurd (hK.trans hk.symm) (hE.apart r j hr hj)
    ·rw[jpu (h2 j hj hk)];grind
   grind
  | second p s hp hs hKs hpK hvp hap has=>
   have h3:=xD p hp;unfold Dic.row at h3;have p1:0<S D.n (fun j=>D.a p j*E.pt (D.free j)):=by
    refine S_pos hs (fun j hj=> ?_) ?_
    ·rcases qX (D.free j) K with hk | hk | hk
     ·exact y7 (has j hj hk) (jh2 hE hvs hk)
     ·have:j=s:=hD.free j s hj hs (hk.trans hKs.symm);subst this;rw[hk,ptK];have:=jr7 hap hv;grind
     ·rw[big j hj hk];grind
    ·rw[hKs,ptK];exact jr7 hap hv
   have p2:=jh2 hE hvs hpK;grind
 | second r q hr hq' hK hqK hg ha has=>
  have xE:=jj9 hE hq' (jh1 hE) 1;have xD:=(hq.sat _).2 xE;have yD:=(hq.sat _).2 (jh1 hE);have wK:E.dir q K= -(E.a r q):=by rw[<-hK];exact jli hE hr
  have big:∀j,j<D.n->K<D.free j->E.dir q (D.free j)=0:=fun j hj hk=>jru (h1 j hj hk) (by omega);cases hin with
  | first s hs hKs hgp hvs' hgs'=>
   have e1:=hc _ xD;have e2:=hc _ yD;rw[jj7,jj7,jnq hE hq']at e1;have p1:0< -D.lin (E.dir q):=by
    unfold Dic.lin;rw[<-S_neg];refine S_pos hs (fun j hj=> ?_) ?_
    ·rcases qX (D.free j) K with hk | hk | hk
     ·exact jr6 (hgs' j hj hk) (jhl hE hq' has hk)
     ·have:j=s:=hD.free j s hj hs (hk.trans hKs.symm);subst this;rw[hk,wK];have:=jr5 hgp (b:= -(E.a r q)) (by grind);grind
     ·rw[big j hj hk];grind
    ·rw[hKs,wK];exact jr5 hgp (by grind)
   grind
  | second p s hp hs hKs hpK hvp hap has'=>
   have h3:=xD p hp;have h4:=yD p hp;unfold Dic.row at h3 h4;have e:S D.n (fun j=>D.a p j*(E.pt (D.free j)+1*E.dir q (D.free j)))=S D.n (fun j=>D.a p j*E.pt (D.free j))+S D.n (fun j=>D.a p j*E.dir q (D.free j)):=by
    rw[<-S_add];exact jdt fun j hj=>by grind
   rw[e]at h3;have p1:0<S D.n (fun j=>D.a p j*E.dir q (D.free j)):=by
    refine S_pos hs (fun j hj=> ?_) ?_
    ·rcases qX (D.free j) K with hk | hk | hk
     ·exact y7 (has' j hj hk) (jhl hE hq' has hk)
     ·have:j=s:=hD.free j s hj hs (hk.trans hKs.symm);subst this;rw[hk,wK];have:=jr7 hap (b:= -(E.a r q)) (by grind);grind
     ·rw[big j hj hk];grind
    ·rw[hKs,wK];exact jr7 hap (by grind)
   have p2:=jhl hE hq' has hpK;grind
end
structure Rule(D:Dic)(r s:Nat):Prop where
 hr:r<D.m
 hs:s<D.n
 sel:(D.v r<0/\(∀i,i<D.m->D.v i<0->D.own r<=D.own i)/\(∀j,j<D.n->0<D.g j->D.own r<D.free j)/\D.a r s<0/\∀j,j<D.n->D.a r j<0->D.free s<=D.free j)\/
  (0<D.g s/\(∀j,j<D.n->0<D.g j->D.free s<=D.free j)/\(∀i,i<D.m->D.v i<0->D.free s<D.own i)/\0<D.a r s/\∀i,i<D.m->0<D.a i s->D.own r<=D.own i)
section
variable{D:Dic}{r s K:Nat}
theorem Rule.ne(h:Rule D r s):D.a r s≠0:=by
 rcases h.sel with ⟨_,_,_,h1,_⟩ | ⟨_,_,_,h1,_⟩<;>grind
theorem jkv{a:Rat}(h:¬a<0):0<=a:=by grind
theorem jj4{a:Rat}(h:¬0<a):a<=0:=by grind
theorem Rule.enter(hD:D.Ok)(h:Rule D r s)(hK:D.free s=K)(hr:D.own r<=K):Enter D K:=by
 have hne:=hD.apart r s h.hr h.hs;rcases h.sel with ⟨h1,h2,h3,h4,h5⟩ | ⟨h1,h2,h3,h4,h5⟩
 ·exact .second r s h.hr h.hs hK (by omega) h1 h4 fun j hj hk=>jkv fun h6=>by have:=h5 j hj h6;omega
 ·exact .first s h.hs hK h1 (fun i hi hk=>jkv fun h6=>by have:=h3 i hi h6;omega) fun j hj hk=>jj4 fun h6=>by have:=h2 j hj h6;omega
theorem Rule.leave(hD:D.Ok)(h:Rule D r s)(hK:D.own r=K)(hs:D.free s<=K):Leave D K:=by
 have hne:=hD.apart r s h.hr h.hs;rcases h.sel with ⟨h1,h2,h3,h4,h5⟩ | ⟨h1,h2,h3,h4,h5⟩
 ·exact .first r h.hr hK h1 (fun i hi hk=>jkv fun h6=>by have:=h2 i hi h6;omega) fun j hj hk=>jj4 fun h6=>by have:=h3 j hj h6;omega
 ·exact .second r s h.hr h.hs hK (by omega) h1 h4 fun i hi hk=>jj4 fun h6=>by have:=h5 i hi h6;omega
def Own(D:Dic)(k:Nat):Prop:=∃i,i<D.m/\D.own i=k
theorem jp0(hD:D.Ok)(hr:r<D.m)(hs:s<D.n){k:Nat}(h1:k≠D.own r)(h2:k≠D.free s):Own (D.pivot r s) k↔Own D k:=by
 constructor
 ·rintro⟨i,hi,e⟩;simp only[Dic.pivot]at hi e;split at e
  ·exact absurd e.symm h2
  ·exact⟨i,hi,e⟩
 ·rintro⟨i,hi,e⟩;have hne:i≠r:=fun h=>h1 (by rw[<-e,h]);exact⟨i,hi,by simp[Dic.pivot,hne,e]⟩
theorem own_in(hr:r<D.m):Own (D.pivot r s) (D.free s):=⟨r,hr,by simp[Dic.pivot]⟩
theorem own_out(hD:D.Ok)(hr:r<D.m)(hs:s<D.n):¬Own (D.pivot r s) (D.own r):=by
 rintro⟨i,hi,e⟩;simp only[Dic.pivot]at hi e;split at e
 ·exact hD.apart r s hr hs e.symm
 ·rename_i h;exact h (hD.own i r hi hr e)
end
structure Run(D:Nat->Dic)(r s:Nat->Nat)(T:Nat):Prop where
 ok:(D 0).Ok
 rule:∀t,t<T->Rule (D t) (r t) (s t)
 next:∀t,t<T->D (t+1)=(D t).pivot (r t) (s t)
section
variable{D:Nat->Dic}{r s:Nat->Nat}{T K:Nat}
theorem Run.oks(h:Run D r s T):∀t,t<=T->(D t).Ok
 | 0,_=>h.ok
 | t+1,ht=>by
  have h1:=h.rule t (by omega);rw[h.next t (by omega)];exact jnd (h.oks t (by omega)) h1.hr h1.hs
theorem Run.eqv(h:Run D r s T):∀(k t:Nat),t+k<=T->Eqv (D t) (D (t+k))
 | 0,t,_=>Eqv.refl _
 | k+1,t,ht=>by
  have h1:=h.rule (t+k) (by omega);have h2:=jlc h1.hr h1.hs h1.ne;rw[<-h.next (t+k) (by omega)]at h2;exact(h.eqv k t (by omega)).trans h2
theorem Run.own(h:Run D r s T){x:Nat}:∀(k t:Nat),t+k<=T->(∀u,t<=u->u<t+k->x≠(D u).own (r u)/\x≠(D u).free (s u))->(Own (D (t+k)) x↔Own (D t) x)
 | 0,t,_,_=>Iff.rfl
 | k+1,t,ht,hx=>by
  have h1:=h.rule (t+k) (by omega);have h2:=hx (t+k) (by omega) (by omega);have h3:=jp0 (h.oks (t+k) (by omega)) h1.hr h1.hs h2.1 h2.2;rw[<-h.next (t+k) (by omega)]at h3;exact h3.trans (h.own k t (by omega) fun u hu hu'=>hx u hu (by omega))
theorem Run.part(h:Run D r s T){a n:Nat}(ha:a+n<=T):Run (fun t=>D (a+t)) (fun t=>r (a+t)) (fun t=>s (a+t)) n:=
 ⟨h.oks a (by omega),fun t ht=>h.rule (a+t) (by omega),fun t ht=>h.next (a+t) (by omega)⟩
def Names(D:Nat->Dic)(r s:Nat->Nat)(K t:Nat):Prop:=(D t).own (r t)=K\/(D t).free (s t)=K
theorem least{p:Nat->Prop}:∀{n:Nat},p n->∃m,p m/\∀k,k<m->¬p k:=by
 intro n
 induction n using Nat.strongRecOn with
 | _ n ih=>
  intro h;by_cases he:∃m,m<n/\p m
  ·obtain⟨m,hm,hp⟩:=he;exact ih m hm hp
  ·exact⟨n,h,fun k hk hp=>he ⟨k,hk,hp⟩⟩
theorem Run.once(h:Run D r s T)(hK:∀t,t<T->(D t).own (r t)<=K/\(D t).free (s t)<=K){t1 t2:Nat}(h12:t1<t2)(h2:t2<T)(n1:Names D r s K t1)(n2:Names D r s K t2)(hb:∀t,t1<t->t<t2->¬Names D r s K t):False:=by
 have r1:=h.rule t1 (by omega);have r2:=h.rule t2 h2;have o1:=h.oks t1 (by omega);have o2:=h.oks t2 (by omega);have hq:Eqv (D t1) (D t2):=by
  have:=h.eqv (t2-t1) t1 (by omega)
  rwa [show t1+(t2-t1)=t2 by omega]at this
 have big:∀x,K<x->(Own (D t2) x↔Own (D t1) x):=fun x hx=>by
  have:=h.own (x:=x) (t2-t1) t1 (by omega) fun u hu hu'=>by have:=hK u (by omega);omega
  rwa [show t1+(t2-t1)=t2 by omega]at this
 have mid:Own (D t2) K↔Own (D (t1+1)) K:=by
  have:=h.own (x:=K) (t2-(t1+1)) (t1+1) (by omega) fun u hu hu'=>by
   have:=hb u (by omega) (by omega);exact⟨fun e=>this (.inl e.symm),fun e=>this (.inr e.symm)⟩
  rwa [show t1+1+(t2-(t1+1))=t2 by omega]at this
 have f1:∀j,j<(D t1).n->K<(D t1).free j->∀i,i<(D t2).m->(D t2).own i≠(D t1).free j:=fun j hj hk i hi e=>by
  obtain⟨i',hi',e'⟩:=(big _ hk).1 ⟨i,hi,e⟩;exact o1.apart i' j hi' hj e'
 have f2:∀j,j<(D t2).n->K<(D t2).free j->∀i,i<(D t1).m->(D t1).own i≠(D t2).free j:=fun j hj hk i hi e=>by
  obtain⟨i',hi',e'⟩:=(big _ hk).2 ⟨i,hi,e⟩;exact o2.apart i' j hi' hj e'
 rw[h.next t1 (by omega)]at mid;have k1:=hK t1 (by omega);have k2:=hK t2 h2;rcases n1 with n1 | n1
 ·
  have hno:¬Own (D t2) K:=fun ho=>own_out o1 r1.hr r1.hs (by rw[n1];exact mid.1 ho);rcases n2 with n2 | n2
  ·exact hno ⟨_,r2.hr,n2⟩
  ·exact contra o2 o1 hq.symm (r2.enter o2 n2 k2.1) (r1.leave o1 n1 k1.2) f2 f1
 ·have ho:Own (D t2) K:=mid.2 (by rw[<-n1];exact own_in r1.hr);rcases n2 with n2 | n2
  ·exact contra o1 o2 hq (r1.enter o1 n1 k1.1) (r2.leave o2 n2 k2.2) f1 f2
  ·obtain⟨i,hi,e⟩:=ho;exact o2.apart i _ hi r2.hs (e.trans n2.symm)
end
theorem Run.ends:∀(K T:Nat) (D:Nat->Dic) (r s:Nat->Nat),Run D r s T->(∀t,t<T->(D t).own (r t)<K/\(D t).free (s t)<K)->T<2^K
 | 0,T,D,r,s,h,hK=>by
  rcases yE T with h0 | h0
  ·subst h0;decide
  ·have:=hK 0 h0;omega
 | K+1,T,D,r,s,h,hK=>by
  have h2:2^(K+1)=2^K+2^K:=by rw[Nat.pow_succ];omega
  by_cases he:∃t,t<T/\Names D r s K t
  ·obtain⟨t0,ht0⟩:=he;obtain⟨t1,⟨ht1,hn1⟩,hl1⟩:=least (p:=fun t=>t<T/\Names D r s K t) ht0;have a1:=Run.ends K t1 D r s (by simpa using h.part (a:=0) (n:=t1) (by omega)) fun t ht=>by
    have g1:=hK t (by omega);have g2:=hl1 t ht;have g3:¬Names D r s K t:=fun hn=>g2 ⟨by omega,hn⟩;unfold Names at g3;omega
   have a2:=Run.ends K (T-(t1+1)) _ _ _ (h.part (a:=t1+1) (n:=T-(t1+1)) (by omega)) fun t ht=>by
    have g1:=hK (t1+1+t) (by omega);have g3:¬Names D r s K (t1+1+t):=fun hn=>by
     obtain⟨t2,⟨ht2,ht2',hn2⟩,hl2⟩:=least (p:=fun t=>t1<t/\t<T/\Names D r s K t) ⟨(by omega:t1<t1+1+t),by omega,hn⟩;exact h.once (fun t ht=>by have:=hK t ht;omega) ht2 ht2' hn1 hn2 fun t g4 g5 g6=>hl2 t g5 ⟨g4,by omega,g6⟩
    unfold Names at g3;omega
   omega
  ·have:=Run.ends K T D r s h fun t ht=>by
    have g1:=hK t ht;have g3:¬Names D r s K t:=fun hn=>he ⟨t,ht,hn⟩;unfold Names at g3;omega
   omega
end
section
def Free(D:Dic)(k:Nat):Prop:=∃j,j<D.n/\D.free j=k
def SameV(D E:Dic):Prop:=∀k,(Own D k\/Free D k)↔(Own E k\/Free E k)
theorem SameV.refl(D:Dic):SameV D D:=fun _=>Iff.rfl
theorem SameV.trans{D E F:Dic}(h:SameV D E)(h':SameV E F):SameV D F:=fun k=>(h k).trans (h' k)
theorem SameV.symm{D E:Dic}(h:SameV D E):SameV E D:=fun k=>(h k).symm
theorem free_pivot{D:Dic}{r s k:Nat}(hs:s<D.n):Free (D.pivot r s) k↔(k=D.own r\/∃j,j<D.n/\j≠s/\D.free j=k):=by
 constructor
 ·rintro⟨j,hj,e⟩;simp only[Dic.pivot]at hj e;split at e
  ·exact .inl e.symm
  ·exact .inr ⟨j,hj,‹_›,e⟩
 ·rintro(e | ⟨j,hj,hne,e⟩)
  ·exact⟨s,hs,by simp[Dic.pivot,e]⟩
  ·exact⟨j,hj,by simp[Dic.pivot,hne,e]⟩
theorem jkm{D:Dic}(hD:D.Ok){r s:Nat}(hr:r<D.m)(hs:s<D.n):SameV D (D.pivot r s):=by
 intro k;rw[free_pivot hs];constructor
 ·rintro(⟨i,hi,e⟩ | ⟨j,hj,e⟩)
  ·by_cases h:i=r
   ·subst h;exact .inr (.inl e.symm)
   ·exact .inl ⟨i,hi,by simp[Dic.pivot,h,e]⟩
  ·by_cases h:j=s
   ·subst h;exact .inl ⟨r,hr,by simp[Dic.pivot,e]⟩
   ·exact .inr (.inr ⟨j,hj,h,e⟩)
 ·rintro(⟨i,hi,e⟩ | e | ⟨j,hj,_,e⟩)
  ·simp only[Dic.pivot]at hi e;split at e
   ·exact .inr ⟨s,hs,e⟩
   ·exact .inl ⟨i,hi,e⟩
  ·exact .inl ⟨r,hr,e.symm⟩
  ·exact .inr ⟨j,hj,e⟩
theorem jrt{D E:Dic}(hD:D.Ok)(hq:Eqv D E)(hE:E.Ok){s:Nat}(hs:s<D.n)(h0:∀j,j<E.n->D.dir s (E.free j)=0):∀i,i<E.m->D.dir s (E.own i)=0:=by
 intro i hi;have h1:=jh1 hD;have h2:=(hq.sat _).1 h1 i hi;have h3:=(hq.sat _).1 (jj9 hD hs h1 1) i hi;unfold Dic.row at h2 h3;have e:S E.n (fun j=>E.a i j*(D.pt (E.free j)+1*D.dir s (E.free j)))=S E.n (fun j=>E.a i j*D.pt (E.free j)):=jdt fun j hj=>by rw[h0 j hj];grind
 rw[e]at h3;grind
def cntP(p:Nat->Prop)[DecidablePred p]:Nat->Nat
 | 0=>0
 | n+1=>cntP p n+(if p n then 1 else 0)
theorem cntP_le{p q:Nat->Prop}[DecidablePred p][DecidablePred q]:∀{n:Nat},(∀k,k<n->p k->q k)->cntP p n<=cntP q n
 | 0,_=>zu _
 | n+1,h=>by
  have ih:=cntP_le (n:=n) fun k hk=>h k (by omega);have:=h n (by omega);simp only[cntP];by_cases hp:p n
  ·rw[zn hp,zn (this hp)];omega
  ·rw[zp hp];split<;>omega
theorem cntP_lt{p q:Nat->Prop}[DecidablePred p][DecidablePred q]{i:Nat}:∀{n:Nat},i<n->(∀k,k<n->p k->q k)->¬p i->q i->cntP p n<cntP q n
 | n+1,hi,h,hp,hq=>by
  simp only[cntP];by_cases e:i=n
  ·subst e;have ih:=cntP_le (n:=i) (p:=p) (q:=q) fun k hk=>h k (by omega);rw[zp hp,zn hq];omega
  ·have ih:=cntP_lt (n:=n) (by omega) (fun k hk=>h k (by omega)) hp hq;have:=h n (by omega);by_cases hpn:p n
   ·rw[zn hpn,zn (this hpn)];omega
   ·rw[zp hpn];split<;>omega
open Classical in
noncomputable def dist(D E:Dic):Nat:=cntP (fun i=>¬Own D (E.own i)) E.m
inductive Path:Dic->Nat->Dic->Prop
 | nil (D:Dic):Path D 0 D
 | step (D:Dic) (r s t:Nat) (E:Dic):r<D.m->s<D.n->D.a r s≠0->Path (D.pivot r s) t E->Path D (t+1) E
theorem jen{D:Dic}(hD:D.Ok){k:Nat}(h1:Own D k)(h2:Free D k):False:=by
 obtain⟨i,hi,e⟩:=h1;obtain⟨j,hj,e'⟩:=h2;exact hD.apart i j hi hj (e.trans e'.symm)
theorem near_of{D E:Dic}(hD:D.Ok)(hE:E.Ok)(hq:Eqv D E)(hv:SameV D E)(h0:∀i,i<E.m->Own D (E.own i)):∀k,Own D k->Own E k:=by
 intro k ⟨r,hr,e⟩;subst e;rcases(hv (D.own r)).1 (.inl ⟨r,hr,rfl⟩)with h | ⟨s,hs,e⟩
 ·exact h
 ·exfalso;have h1:∀j,j<D.n->E.dir s (D.free j)=0:=by
   intro j hj;rcases(hv (D.free j)).1 (.inr ⟨j,hj,rfl⟩)with ⟨i,hi,e'⟩ | ⟨j',hj',e'⟩
   ·exact(jen hD (h0 i hi) ⟨j,hj,e'.symm⟩).elim
   ·rw[<-e',jfi hE hj' hs,zp];intro h;subst h;exact hD.apart r j hr hj (e.symm.trans e')
  have h2:=jrt hE hq.symm hD hs h1 r hr;rw[<-e,jfi hE hs hs,zn rfl]at h2;exact absurd h2 (by decide)
open Classical in
theorem joz:∀(t:Nat) (D E:Dic),D.Ok->E.Ok->Eqv D E->SameV D E->dist D E<=t->∃(t':Nat) (F:Dic),t'<=t/\Path D t' F/\F.Ok/\Eqv F E/\SameV F E/\∀k,Own F k↔Own E k
 | t,D,E,hD,hE,hq,hv,ht=>by
  by_cases h0:∀i,i<E.m->Own D (E.own i)
  ·exact⟨0,D,zG _,.nil D,hD,hq,hv,fun k=>⟨near_of hD hE hq hv h0 k,fun⟨i,hi,e⟩=>e▸h0 i hi⟩⟩
  ·obtain⟨i0,hi0,hno⟩:∃i,i<E.m/\¬Own D (E.own i):=by
    refine yR fun hc=>h0 fun i hi=>yR fun h=>hc ⟨i,hi,h⟩
   obtain⟨s,hs,es⟩:Free D (E.own i0):=((hv (E.own i0)).2 (.inl ⟨i0,hi0,rfl⟩)).resolve_left hno;obtain⟨r,hr,hrE,hrs⟩:∃r,r<D.m/\¬Own E (D.own r)/\D.a r s≠0:=by
    refine yR fun hc=> ?_;have h1:∀j,j<E.n->D.dir s (E.free j)=0:=by
     intro j hj;rcases(hv (E.free j)).2 (.inr ⟨j,hj,rfl⟩)with ⟨i,hi,e'⟩ | ⟨j',hj',e'⟩
     ·rw[<-e',jli hD hi];have:D.a i s=0:=yR fun h=>hc ⟨i,hi,fun ho=>jen hE ho ⟨j,hj,e'.symm⟩,h⟩;rw[this];grind
     ·rw[<-e',jfi hD hj' hs,zp];intro h;subst h;exact hE.apart i0 j hi0 hj (es.symm.trans e')
    have h2:=jrt hD hq hE hs h1 i0 hi0;rw[<-es,jfi hD hs hs,zn rfl]at h2;exact absurd h2 (by decide)
   have hD':=jnd hD hr hs;have hq':Eqv (D.pivot r s) E:=(jlc hr hs hrs).symm.trans hq;have hv':SameV (D.pivot r s) E:=(jkm hD hr hs).symm.trans hv;have hd':dist (D.pivot r s) E<dist D E:=by
    refine cntP_lt hi0 (fun k hk hp ho=>hp ?_) (fun h=>h ?_) hno
    ·by_cases e1:E.own k=D.own r
     ·exact(hrE (e1▸⟨k,hk,rfl⟩)).elim
     ·by_cases e2:E.own k=D.free s
      ·rw[e2];exact own_in hr
      ·exact(jp0 hD hr hs e1 e2).2 ho
    ·rw[<-es];exact own_in hr
   cases t with
   | zero=>omega
   | succ t=>
    obtain⟨t',F,h1,h2,h3⟩:=joz t (D.pivot r s) E hD' hE hq' hv' (by omega);exact⟨t'+1,F,by omega,.step D r s t' F hr hs hrs h2,h3⟩
open Classical in
theorem dist_le_n{D E:Dic}(hE:E.Ok)(hv:SameV D E):dist D E<=D.n:=by
 have key:∀(k n:Nat) (f:Nat->Nat) (p:Nat->Prop) [DecidablePred p],(∀i,i<k->p i->∃j,j<n/\f i=j)->(∀i i',i<k->i'<k->p i->p i'->f i=f i'->i=i')->cntP p k<=n:=by
  intro k
  induction k with
  | zero=>intros;exact zG _
  | succ k ih=>
   intro n f p _ h1 h2;simp only[cntP];by_cases hp:p k
   ·rw[zn hp];obtain⟨j,hj,e⟩:=h1 k (by omega) hp;obtain⟨n',rfl⟩:∃n',n=n'+1:=⟨n-1,by omega⟩;have:=ih n' (fun i=>if f i=n' then j else f i) p (fun i hi hpi=>⟨_,?_,rfl⟩) (fun i i' hi hi' hpi hpi' e'=> ?_)
    ·omega
    ·obtain⟨j',hj',e'⟩:=h1 i (by omega) hpi;have hne:f i≠f k:=fun e2=>by have:=h2 i k (by omega) (by omega) hpi hp e2;omega
     split<;>omega
    ·have hne:f i≠f k:=fun e2=>by have:=h2 i k (by omega) (by omega) hpi hp e2;omega
     have hne':f i'≠f k:=fun e2=>by have:=h2 i' k (by omega) (by omega) hpi' hp e2;omega
     obtain⟨a1,a2,a3⟩:=h1 i (by omega) hpi;obtain⟨b1,b2,b3⟩:=h1 i' (by omega) hpi';refine h2 i i' (by omega) (by omega) hpi hpi' ?_;split at e'<;>split at e'<;>omega
   ·rw[zp hp];exact ih n f p (fun i hi=>h1 i (by omega)) fun i i' hi hi'=>h2 i i' (by omega) (by omega)
 have hF:∀i,i<E.m->¬Own D (E.own i)->Free D (E.own i):=fun i hi hn=>((hv (E.own i)).2 (.inl ⟨i,hi,rfl⟩)).resolve_left hn;unfold dist;have pick:∀i,∃j,(i<E.m/\¬Own D (E.own i))->j<D.n/\D.free j=E.own i:=fun i=>by
  by_cases h:i<E.m/\¬Own D (E.own i)
  ·obtain⟨j,hj⟩:=hF i h.1 h.2;exact⟨j,fun _=>hj⟩
  ·exact⟨0,fun h'=>absurd h' h⟩
 refine @key E.m D.n (fun i=>Classical.choose (pick i)) _ _ (fun i hi hp=>⟨_,(vj (pick i) ⟨hi,hp⟩).1,rfl⟩) fun i i' hi hi' hp hp' e=> ?_;have a:=(vj (pick i) ⟨hi,hp⟩).2;have b:=(vj (pick i') ⟨hi',hp'⟩).2;rw[e,b]at a;exact hE.own i i' hi hi' a.symm
theorem same_v{D E:Dic}(hD:D.Ok)(hE:E.Ok)(hq:Eqv D E)(hv:SameV D E)(ho:∀k,Own D k↔Own E k){i i':Nat}(hi:i<D.m)(hi':i'<E.m)(e:D.own i=E.own i'):D.v i=E.v i':=by
 have h1:=(hq.sat _).1 (jh1 hD) i' hi';unfold Dic.row at h1;have h2:S E.n (fun j=>E.a i' j*D.pt (E.free j))=0:=jmu fun j hj=>by
  have:Free D (E.free j):=((hv (E.free j)).2 (.inr ⟨j,hj,rfl⟩)).resolve_left fun h=>jen hE ((ho _).1 h) ⟨j,hj,rfl⟩;obtain⟨j',hj',e'⟩:=this;rw[<-e',jpt hD hj'];grind
 rw[h2,<-e,jqw hD hi]at h1;grind
theorem dir_of{D E:Dic}(hD:D.Ok)(hE:E.Ok)(hv:SameV D E)(ho:∀k,Own D k↔Own E k){s s':Nat}(hs:s<D.n)(hs':s'<E.n)(e:D.free s=E.free s'):∀j,j<E.n->D.dir s (E.free j)=if j=s' then 1 else 0:=by
 intro j hj;have:Free D (E.free j):=((hv (E.free j)).2 (.inr ⟨j,hj,rfl⟩)).resolve_left fun h=>jen hE ((ho _).1 h) ⟨j,hj,rfl⟩;obtain⟨j',hj',e'⟩:=this;rw[<-e',jfi hD hj' hs];by_cases h:j=s'
 ·subst h;rw[zn rfl,zn (hD.free j' s hj' hs (e'.trans e.symm))]
 ·rw[zp h,zp];intro h';subst h';exact h (hE.free j s' hj hs' (e'.symm.trans e))
theorem same_a{D E:Dic}(hD:D.Ok)(hE:E.Ok)(hq:Eqv D E)(hv:SameV D E)(ho:∀k,Own D k↔Own E k){i i' s s':Nat}(hi:i<D.m)(hi':i'<E.m)(hs:s<D.n)(hs':s'<E.n)(e:D.own i=E.own i')(e':D.free s=E.free s'):D.a i s=E.a i' s':=by
 have hx:=jh1 hD;have h1:=(hq.sat _).1 hx i' hi';have h2:=(hq.sat _).1 (jj9 hD hs hx 1) i' hi';unfold Dic.row at h1 h2;have hd:=dir_of hD hE hv ho hs hs' e';have h3:S E.n (fun j=>E.a i' j*(D.pt (E.free j)+1*D.dir s (E.free j)))=S E.n (fun j=>E.a i' j*D.pt (E.free j))+S E.n (fun j=>E.a i' j*D.dir s (E.free j)):=by
  rw[<-S_add];exact jdt fun j hj=>by grind
 have h4:S E.n (fun j=>E.a i' j*D.dir s (E.free j))=E.a i' s':=by
  rw[S_one hs' fun j hj hne=>by rw[hd j hj,zp hne];grind];rw[hd s' hs',zn rfl];grind
 dsimp only at h2;rw[h3,h4,<-e,jli hD hi]at h2;rw[<-e]at h1;grind
theorem same_g{D E:Dic}(hD:D.Ok)(hE:E.Ok)(hq:Eqv D E)(hv:SameV D E)(ho:∀k,Own D k↔Own E k){s s':Nat}(hs:s<D.n)(hs':s'<E.n)(e':D.free s=E.free s'):D.g s=E.g s':=by
 obtain⟨c,hc⟩:=hq.lin;have hx:=jh1 hD;have h1:=hc _ hx;have h2:=hc _ (jj9 hD hs hx 1);have hd:=dir_of hD hE hv ho hs hs' e';rw[jj7,jj7,jnq hD hs]at h2;have h4:E.lin (D.dir s)=E.g s':=by
  unfold Dic.lin;rw[S_one hs' fun j hj hne=>by rw[hd j hj,zp hne];grind];rw[hd s' hs',zn rfl];grind
 rw[h4]at h2;grind
def Ov(B q:Nat)(x:Rat):Prop:=∃z:Int,x*(q:Rat)=(z:Rat)/\z.natAbs<=B
structure Small(B:Nat)(q:Nat)(D:Dic):Prop where
 q0:0<q
 qB:q<=B
 v:∀i,i<D.m->Ov B q (D.v i)
 g:∀j,j<D.n->Ov B q (D.g j)
 a:∀i j,i<D.m->j<D.n->Ov B q (D.a i j)
theorem jdz{a b:Int}{A B:Nat}(ha:a.natAbs<=A)(hb:b.natAbs<=B):(a*b).natAbs<=A*B:=by
 rw[jd];exact yc ha hb
theorem jim(a b:Int):((a*b:Int):Rat)=(a:Rat)*(b:Rat):=jO a b
theorem cast_sub(a b:Int):((a-b:Int):Rat)=(a:Rat)-(b:Rat):=Rat.intCast_sub a b
theorem Ov.mono{B C q:Nat}{x:Rat}(h:Ov B q x)(hB:B<=C):Ov C q x:=by
 obtain⟨z,h1,h2⟩:=h;exact⟨z,h1,qA h2 hB⟩
theorem Ov_zero{B q:Nat}:Ov B q 0:=⟨0,by rw[show((0:Int):Rat)=0 from rfl];grind,zG _⟩
theorem Ov_one{B q:Nat}(h:q<=B):Ov B q 1:=⟨(q:Int),by rw[show(((q:Int)):Rat)=(q:Rat)from rfl];grind,by rw[Int.natAbs_natCast];exact h⟩
theorem js2(p:Int):∃s:Int,s.natAbs<=1/\((p.natAbs:Nat):Rat)=(s:Rat)*(p:Rat):=by
 rcases Int.natAbs_eq p with h | h
 ·refine⟨1,by decide,?_⟩;have e:((p.natAbs:Nat):Rat)=(((p.natAbs:Nat):Int):Rat):=rfl;rw[e,<-h,show((1:Int):Rat)=1 from rfl];grind
 ·refine⟨-1,by decide,?_⟩;have e:((p.natAbs:Nat):Rat)=(((p.natAbs:Nat):Int):Rat):=rfl;have h':((p.natAbs:Nat):Int)= -p:=by omega
  rw[e,h',<-jO];congr 1;omega
theorem jq9{B q:Nat}{a u w:Rat}{p:Int}(hq:q<=B)(ha:a*(q:Rat)=(p:Rat))(hw:w*a=u)(hu:Ov B q u):Ov (2*B*B) (q*p.natAbs) w:=by
 obtain⟨z,h1,h2⟩:=hu;obtain⟨s,hs,e⟩:=js2 p;refine⟨s*((q:Int)*z),?_,?_⟩
 ·rw[Rat.natCast_mul,e,jim,jim,show(((q:Int)):Rat)=(q:Rat)from rfl,<-h1,<-hw,<-ha];grind
 ·have h3:(((q:Int))*z).natAbs<=B*B:=jdz (by rw[Int.natAbs_natCast];exact hq) h2;have h4:=jdz hs h3;have h5:1*(B*B)<=2*B*B:=by rw[jL];exact qv _ (by omega)
  exact qA h4 h5
theorem jit{B q:Nat}{a u w x y:Rat}{p:Int}(hp:p.natAbs<=B)(ha:a*(q:Rat)=(p:Rat))(hw:w*a=u)(hu:Ov B q u)(hx:Ov B q x)(hy:Ov B q y):Ov (2*B*B) (q*p.natAbs) (x-y*w):=by
 obtain⟨z,h1,h2⟩:=hu;obtain⟨zx,x1,x2⟩:=hx;obtain⟨zy,y1,y2⟩:=hy;obtain⟨s,hs,e⟩:=js2 p;refine⟨s*(zx*p-zy*z),?_,?_⟩
 ·rw[Rat.natCast_mul,e,jim,cast_sub,jim,jim,<-h1,<-x1,<-y1,<-hw,<-ha];grind
 ·have h3:=jdz x2 hp;have h4:=jdz y2 h2;have h5:(zx*p-zy*z).natAbs<=2*B*B:=by rw[jL,Nat.two_mul];omega
  have:=jdz hs h5;omega
theorem small_pivot{D:Dic}{r s B q:Nat}(hr:r<D.m)(hs:s<D.n)(hp:D.a r s≠0)(h:Small B q D):∃q',Small (2*B*B) q' (D.pivot r s):=by
 obtain⟨p,hpe,hpB⟩:=h.a r s hr hs;have hp0:p≠0:=by
  intro e;rw[e,show((0:Int):Rat)=0 from rfl]at hpe;rcases Rat.mul_eq_zero.1 hpe with h1 | h1
  ·exact hp h1
  ·have h2:q=0:=by exact_mod_cast h1
   have:=h.q0;omega
 have hB1:1<=B:=qA h.q0 h.qB;have hqu:∀u:Rat,u/D.a r s*D.a r s=u:=fun u=>Rat.div_mul_cancel hp;refine⟨q*p.natAbs,Nat.mul_pos h.q0 (by omega),?_,fun i hi=> ?_,fun j hj=> ?_,fun i j hi hj=> ?_⟩
 ·have h1:=yc h.qB hpB;have h2:1*(B*B)<=2*B*B:=by rw[jL];exact qv _ (by omega)
  omega
 ·show Ov _ _ (if i=r then D.v r/D.a r s else D.v i-D.a i s*(D.v r/D.a r s));split
  ·exact jq9 h.qB hpe (hqu _) (h.v r hr)
  ·exact jit hpB hpe (hqu _) (h.v r hr) (h.v i hi) (h.a i s hi hs)
 ·show Ov _ _ (exch _ _ s D.g j);unfold exch;split
  ·exact jit hpB hpe (hqu _) (Ov_one h.qB) Ov_zero (h.g s hs)
  ·exact jit hpB hpe (hqu _) (h.a r j hr hj) (h.g j hj) (h.g s hs)
 ·simp only[Dic.pivot];by_cases e:i=r
  ·rw[zn e];split
   ·exact jq9 h.qB hpe (hqu _) (Ov_one h.qB)
   ·exact jq9 h.qB hpe (hqu _) (h.a r j hr hj)
  ·rw[zp e];unfold exch;split
   ·exact jit hpB hpe (hqu _) (Ov_one h.qB) Ov_zero (h.a i s hi hs)
   ·exact jit hpB hpe (hqu _) (h.a r j hr hj) (h.a i j hi hj) (h.a i s hi hs)
theorem path_small{D E:Dic}{t:Nat}(h:Path D t E):∀{e q:Nat},Small (2^e) q D->∃q',Small (2^(2^t*(e+1)-1)) q' E:=by
 induction h with
 | nil D=>intro e q h;exact⟨q,by simpa using h⟩
 | step D r s t E hr hs hp _ ih=>
  intro e q h;obtain⟨q1,h1⟩:=small_pivot hr hs hp h;rw[show 2*2^e*2^e=2^(2*e+1)by rw[Nat.pow_succ,Nat.two_mul e,Nat.pow_add,yU 2,jL,yU 2];exact(jL _ _ _).symm]at h1;obtain⟨q2,h2⟩:=ih h1;refine⟨q2,?_⟩
  rwa [show 2^t*(2*e+1+1)=2^(t+1)*(e+1)by rw[Nat.pow_succ,jL];congr 1]at h2
theorem Small.mono{B C q:Nat}{D:Dic}(h:Small B q D)(hB:B<=C):Small C q D:=
 ⟨h.q0,qA h.qB hB,fun i hi=>(h.v i hi).mono hB,fun j hj=>(h.g j hj).mono hB,fun i j hi hj=>(h.a i j hi hj).mono hB⟩
theorem small_all{D E:Dic}{e q:Nat}(hD:D.Ok)(hE:E.Ok)(hq:Eqv D E)(hv:SameV D E)(h:Small (2^e) q D):∃q',Small (2^(2^D.n*(e+1))) q' E:=by
 obtain⟨t,F,ht,hp,hF,hFE,hFv,ho⟩:=joz D.n D E hD hE hq hv (dist_le_n hE hv);obtain⟨q',h'⟩:=path_small hp h;have hle:2^(2^t*(e+1)-1)<=2^(2^D.n*(e+1)):=q7 (by decide) (by
  have:2^t*(e+1)<=2^D.n*(e+1):=qv _ (q7 (by decide) ht);omega)
 have h':=h'.mono hle;have row:∀i,i<E.m->∃i',i'<F.m/\F.own i'=E.own i:=fun i hi=>(ho (E.own i)).2 ⟨i,hi,rfl⟩;have col:∀j,j<E.n->∃j',j'<F.n/\F.free j'=E.free j:=fun j hj=>((hFv (E.free j)).2 (.inr ⟨j,hj,rfl⟩)).resolve_left fun h=>jen hE ((ho _).1 h) ⟨j,hj,rfl⟩;refine⟨q',h'.q0,h'.qB,fun i hi=> ?_,fun j hj=> ?_,fun i j hi hj=> ?_⟩
 ·obtain⟨i',hi',e'⟩:=row i hi;rw[<-same_v hF hE hFE hFv ho hi' hi e'];exact h'.v i' hi'
 ·obtain⟨j',hj',e'⟩:=col j hj;rw[<-same_g hF hE hFE hFv ho hj' hj e'];exact h'.g j' hj'
 ·obtain⟨i',hi',e1⟩:=row i hi;obtain⟨j',hj',e2⟩:=col j hj;rw[<-same_a hF hE hFE hFv ho hi' hi hj' hj e1 e2];exact h'.a i' j' hi' hj'
end
section
def Reach(D:Dic)(T:Nat)(E:Dic):Prop:=∃(F:Nat->Dic) (r s:Nat->Nat),Run F r s T/\F 0=D/\F T=E
section
variable{D E:Dic}{T r s K:Nat}
theorem Reach.zero(hD:D.Ok):Reach D 0 D:=⟨fun _=>D,fun _=>0,fun _=>0,⟨hD,fun t ht=>absurd ht (by omega),fun t ht=>absurd ht (by omega)⟩,rfl,rfl⟩
theorem Reach.step(h:Reach D T E)(hr:Rule E r s):Reach D (T+1) (E.pivot r s):=by
 obtain⟨F,r',s',hR,h0,hT⟩:=h;refine⟨fun t=>if t<=T then F t else E.pivot r s,fun t=>if t<T then r' t else r,fun t=>if t<T then s' t else s,⟨?_,fun t ht=> ?_,fun t ht=> ?_⟩,?_,?_⟩
 ·show(if 0<=T then F 0 else _).Ok;rw[zn (zG _)];exact hR.ok
 ·show Rule (if t<=T then F t else _) (if t<T then r' t else r) (if t<T then s' t else s);rw[zn (by omega)];by_cases h1:t<T
  ·rw[zn h1,zn h1];exact hR.rule t h1
  ·have e:t=T:=by omega
   subst e;rw[zp h1,zp h1,hT];exact hr
 ·show(if t+1<=T then F (t+1)else _)=(if t<=T then F t else _).pivot (if t<T then r' t else r) (if t<T then s' t else s);rw[zn (by omega:t<=T)];by_cases h1:t<T
  ·rw[zn h1,zn h1,zn (by omega)];exact hR.next t h1
  ·have e:t=T:=by omega
   subst e;rw[zp h1,zp h1,zp (by omega),hT]
 ·show(if 0<=T then F 0 else _)=D;rw[zn (zG _)];exact h0
 ·show(if T+1<=T then F (T+1)else _)=_;rw[zp (by omega)]
theorem Run.facts{F:Nat->Dic}{r s:Nat->Nat}(h:Run F r s T):∀t,t<=T->(F t).Ok/\Eqv (F 0) (F t)/\SameV (F 0) (F t)/\(F t).m=(F 0).m/\(F t).n=(F 0).n
 | 0,_=>⟨h.ok,Eqv.refl _,SameV.refl _,rfl,rfl⟩
 | t+1,ht=>by
  obtain⟨h1,h2,h3,h4,h5⟩:=h.facts t (by omega);have hr:=h.rule t (by omega);rw[h.next t (by omega)];exact⟨jnd h1 hr.hr hr.hs,h2.trans (jlc hr.hr hr.hs hr.ne),h3.trans (jkm h1 hr.hr hr.hs),h4,h5⟩
theorem Reach.facts(h:Reach D T E):E.Ok/\Eqv D E/\SameV D E/\E.m=D.m/\E.n=D.n:=by
 obtain⟨F,r',s',hR,rfl,rfl⟩:=h;exact hR.facts T (zu _)
theorem Reach.bound(h:Reach D T E)(hK:∀k,(Own D k\/Free D k)->k<K):T<2^K:=by
 obtain⟨F,r',s',hR,rfl,rfl⟩:=h;refine hR.ends K T F r' s' fun t ht=> ?_;obtain⟨_,_,h3,_,_⟩:=hR.facts t (by omega);have hr:=hR.rule t ht;exact⟨hK _ ((h3 _).2 (.inl ⟨_,hr.hr,rfl⟩)),hK _ ((h3 _).2 (.inr ⟨_,hr.hs,rfl⟩))⟩
end
inductive Final(E:Dic):Int->Int->Prop
 | best:(∀i,i<E.m->0<=E.v i)->(∀j,j<E.n->E.g j<=0)->Final E (-1) (-1)
 | none (r:Nat):r<E.m->E.v r<0->(∀i,i<E.m->E.v i<0->E.own r<=E.own i)->(∀j,j<E.n->0<E.g j->E.own r<E.free j)->(∀j,j<E.n->0<=E.a r j)->Final E r (-1)
 | free (s:Nat):s<E.n->0<E.g s->(∀j,j<E.n->0<E.g j->E.free s<=E.free j)->(∀i,i<E.m->E.v i<0->E.free s<E.own i)->(∀i,i<E.m->E.a i s<=0)->Final E (-1) s
section
variable{D E E':Dic}{r r' s s' T T':Nat}{a b a' b':Int}
theorem jr3{x:Rat}(h:0<=x)(h':x<0):False:=by grind
theorem jr2{x:Rat}(h:x<=0)(h':0<x):False:=by grind
theorem Rule.det(hD:D.Ok)(h1:Rule D r s)(h2:Rule D r' s'):r=r'/\s=s':=by
 rcases h1.sel with ⟨a1,a2,a3,a4,a5⟩ | ⟨a1,a2,a3,a4,a5⟩<;>rcases h2.sel with ⟨b1,b2,b3,b4,b5⟩ | ⟨b1,b2,b3,b4,b5⟩
 ·have e:=hD.own r r' h1.hr h2.hr (yM (a2 r' h2.hr b1) (b2 r h1.hr a1));subst e;exact⟨rfl,hD.free s s' h1.hs h2.hs (yM (a5 s' h2.hs b4) (b5 s h1.hs a4))⟩
 ·have e1:=a3 s' h2.hs b1;have e2:=b3 r h1.hr a1;omega
 ·have e1:=b3 s h1.hs a1;have e2:=a3 r' h2.hr b1;omega
 ·have e:=hD.free s s' h1.hs h2.hs (yM (a2 s' h2.hs b1) (b2 s h1.hs a1));subst e;exact⟨hD.own r r' h1.hr h2.hr (yM (a5 r' h2.hr b4) (b5 r h1.hr a4)),rfl⟩
theorem Final.no(hD:E.Ok)(h:Final E a b)(h2:Rule E r s):False:=by
 cases h with
 | best e1 e2=>
  rcases h2.sel with ⟨b1,_⟩ | ⟨b1,_⟩
  ·exact jr3 (e1 r h2.hr) b1
  ·exact jr2 (e2 s h2.hs) b1
 | none q e1 e2 e3 e4 e5=>
  rcases h2.sel with ⟨b1,b2,b3,b4,b5⟩ | ⟨b1,b2,b3,b4,b5⟩
  ·have e:=hD.own q r e1 h2.hr (yM (e3 r h2.hr b1) (b2 q e1 e2));subst e;exact jr3 (e5 s h2.hs) b4
  ·have x1:=e4 s h2.hs b1;have x2:=b3 q e1 e2;omega
 | free q e1 e2 e3 e4 e5=>
  rcases h2.sel with ⟨b1,b2,b3,b4,b5⟩ | ⟨b1,b2,b3,b4,b5⟩
  ·have x1:=e4 r h2.hr b1;have x2:=b3 q e1 e2;omega
  ·have e:=hD.free q s e1 h2.hs (yM (e3 s h2.hs b1) (b2 q e1 e2));subst e;exact jr2 (e5 r h2.hr) b4
theorem Final.det(hD:E.Ok)(h:Final E a b)(h':Final E a' b'):a=a'/\b=b':=by
 cases h with
 | best e1 e2=>
  cases h' with
  | best=>exact⟨rfl,rfl⟩
  | none q f1 f2=>exact(jr3 (e1 q f1) f2).elim
  | free q f1 f2=>exact(jr2 (e2 q f1) f2).elim
 | none q e1 e2 e3 e4 e5=>
  cases h' with
  | best f1 f2=>exact(jr3 (f1 q e1) e2).elim
  | none q' f1 f2 f3 f4 f5=>
   have e:=hD.own q q' e1 f1 (yM (e3 q' f1 f2) (f3 q e1 e2));subst e;exact⟨rfl,rfl⟩
  | free q' f1 f2 f3 f4 f5=>
   have x1:=e4 q' f1 f2;have x2:=f4 q e1 e2;omega
 | free q e1 e2 e3 e4 e5=>
  cases h' with
  | best f1 f2=>exact(jr2 (f2 q e1) e2).elim
  | none q' f1 f2 f3 f4 f5=>
   have x1:=f4 q e1 e2;have x2:=e4 q' f1 f2;omega
  | free q' f1 f2 f3 f4 f5=>
   have e:=hD.free q q' e1 f1 (yM (e3 q' f1 f2) (f3 q e1 e2));subst e;exact⟨rfl,rfl⟩
theorem Reach.det(h:Reach D T E)(h':Reach D T' E')(f:Final E a b)(f':Final E' a' b'):E=E':=by
 have fE:=h.facts.1;have fE':=h'.facts.1;obtain⟨F,r,s,hR,h0,hT⟩:=h;obtain⟨F',r',s',hR',h0',hT'⟩:=h';have key:∀t,t<=T->t<=T'->F t=F' t:=by
  intro t
  induction t with
  | zero=>intro _ _;rw[h0,h0']
  | succ t ih=>
   intro h1 h2;have e:=ih (by omega) (by omega);have k1:=hR.rule t (by omega);have k2:=hR'.rule t (by omega);rw[<-e]at k2;obtain⟨e1,e2⟩:=k1.det (hR.facts t (by omega)).1 k2;rw[hR.next t (by omega),hR'.next t (by omega),<-e,e1,e2]
 rcases qX T T' with hlt | heq | hlt
 ·have e:=key T (zu _) (by omega);have k2:=hR'.rule T hlt;rw[<-e,hT]at k2;exact(f.no fE k2).elim
 ·subst heq;rw[<-hT,<-hT',key T (zu _) (zu _)]
 ·have e:=key T' (by omega) (zu _);have k2:=hR.rule T' hlt;rw[e,hT']at k2;exact(f'.no fE' k2).elim
end
end
section
structure Rw where
 ts:List (Nat×Rat)
 kind:Int
 val:Rat
def tsum:List (Nat×Rat)->(Nat->Rat)->Rat
 | [],_=>0
 | t::ts,x=>t.2*x t.1+tsum ts x
def cf:List (Nat×Rat)->Nat->Rat
 | [],_=>0
 | t::ts,k=>if k=t.1 then t.2 else cf ts k
def RT:List (Nat×Rat)->Nat->Nat->Prop
 | [],_,_=>True
 | t::ts,lo,N=>lo<=t.1/\t.1<N/\t.2≠0/\RT ts (t.1+1) N
theorem RT.mono:∀{ts:List (Nat×Rat)} {lo lo' N:Nat},RT ts lo N->lo'<=lo->RT ts lo' N
 | [],_,_,_,_,_=>trivial
 | t::ts,lo,lo',N,h,hl=>⟨qA hl h.1,h.2.1,h.2.2.1,h.2.2.2⟩
theorem RT.mem:∀{ts:List (Nat×Rat)} {lo N:Nat},RT ts lo N->∀t∈ts,lo<=t.1/\t.1<N/\t.2≠0
 | t::ts,lo,N,h,u,hu=>by
  rcases zT.1 hu with rfl | hu
  ·exact⟨h.1,h.2.1,h.2.2.1⟩
  ·have h1:=RT.mem h.2.2.2 u hu;have h2:=h.1;exact⟨by omega,h1.2⟩
theorem cf_low:∀{ts:List (Nat×Rat)} {lo N k:Nat},RT ts lo N->k<lo->cf ts k=0
 | [],_,_,_,_,_=>rfl
 | t::ts,lo,N,k,h,hk=>by
  rw[cf,zp (by have:=h.1;omega)];exact cf_low h.2.2.2 (by have:=h.1;omega)
theorem jpn:∀{ts:List (Nat×Rat)} {lo N:Nat} (x:Nat->Rat),RT ts lo N->tsum ts x=S N (fun j=>cf ts j*x j)
 | [],_,N,x,_=>by
  rw[jmu fun j _=> ?_];rfl;simp only[cf];grind
 | t::ts,lo,N,x,h=>by
  rw[tsum,jpn x h.2.2.2,jfp (f:=fun j=>cf (t::ts) j*x j) h.2.1,jfp (f:=fun j=>cf ts j*x j) h.2.1];have e1:cf ts t.1=0:=cf_low h.2.2.2 (by omega);have e2:cf (t::ts) t.1=t.2:=by rw[cf,zn rfl]
  rw[jdt (f:=fun j=>if j=t.1 then 0 else cf (t::ts) j*x j) (g:=fun j=>if j=t.1 then 0 else cf ts j*x j) fun j _=>by
   by_cases e:j=t.1
   ·simp only[zn e]
   ·simp only[zp e,cf]]
  rw[e1,e2];grind
theorem jiw:∀{ts:List (Nat×Rat)} {x y:Nat->Rat},(∀t∈ts,x t.1=y t.1)->tsum ts x=tsum ts y
 | [],_,_,_=>rfl
 | t::ts,x,y,h=>by rw[tsum,tsum,h t (qj ..),jiw fun u hu=>h u (qw _ hu)]
theorem tsum_app:∀(ts us:List (Nat×Rat)) (x:Nat->Rat),tsum (ts++us) x=tsum ts x+tsum us x
 | [],us,x=>by simp only[List.nil_append,tsum];grind
 | t::ts,us,x=>by rw[List.cons_append,tsum,tsum_app ts us x,tsum];grind
def Rw.sat(w:Rw)(x:Nat->Rat):Prop:=(w.kind≠1->w.val<=tsum w.ts x)/\(w.kind≠0->tsum w.ts x<=w.val)
structure Rw.Ok(w:Rw)(N:Nat):Prop where
 ts:RT w.ts 0 N
 kind:0<=w.kind/\w.kind<3
structure Sol(N:Nat)(ws:List Rw)(x:Nat->Rat):Prop where
 pos:∀k,k<N->0<=x k
 row:∀w∈ws,w.sat x
def Dic.put(D:Dic)(w:Rw)(t:Bool):Dic:=
 {D with
  m:=D.m+1
  own:=fun i=>if i=D.m then D.n+D.m else D.own i
  v:=fun i=>if i=D.m then(if t=true then-w.val else w.val)else D.v i
  a:=fun i=>if i=D.m then(fun j=>if t=true then-cf w.ts j else cf w.ts j)else D.a i}
def jel(D:Dic)(src:Nat->Int×Bool)(row:Nat)(t:Bool)(i:Nat):Int×Bool:=if i=D.m then((row:Int),t)else src i
def rowD(p:Dic×(Nat->Int×Bool))(row:Nat)(w:Rw):Dic×(Nat->Int×Bool):=
 let p1:=if w.kind≠0 then(p.1.put w false,jel p.1 p.2 row false)else p
 if w.kind≠1 then(p1.1.put w true,jel p1.1 p1.2 row true)else p1
def rowsD(ws:List Rw)(p:Dic×(Nat->Int×Bool)):Nat->Dic×(Nat->Int×Bool)
 | 0=>p
 | i+1=>match ws[i]? with
  | some w=>rowD (rowsD ws p i) i w
  | none=>rowsD ws p i
def dic0(N:Nat):Dic:=⟨0,N,fun _=>0,fun j=>j,fun _=>0,fun _=>0,fun _ _=>0⟩
def src0:Nat->Int×Bool:=fun _=>(0,false)
def jet(N:Nat)(ws:List Rw):Dic×(Nat->Int×Bool):=rowsD ws (dic0 N,src0) ws.length
def first(N:Nat)(ws:List Rw)(goal:List (Nat×Rat)):Dic:={(jet N ws).1 with g:=fun j=> -cf goal j}
structure Mk(N:Nat)(D:Dic)(P:(Nat->Rat)->Prop):Prop where
 n:D.n=N
 own:∀i,i<D.m->D.own i=N+i
 free:∀j,D.free j=j
 sat:∀x,P x↔∀i,i<D.m->S N (fun j=>D.a i j*x j)<=D.v i
theorem Mk.congr{N:Nat}{D:Dic}{P Q:(Nat->Rat)->Prop}(h:Mk N D P)(hq:∀x,Q x↔P x):Mk N D Q:=⟨h.n,h.own,h.free,fun x=>(hq x).trans (h.sat x)⟩
theorem mk0(N:Nat):Mk N (dic0 N) (fun _=>True):=⟨rfl,fun i hi=>absurd hi (yS _),fun _=>rfl,fun x=>⟨fun _ i hi=>absurd hi (yS _),fun _=>trivial⟩⟩
theorem S_negc(f g:Nat->Rat)(n:Nat):S n (fun j=> -f j*g j)= -S n (fun j=>f j*g j):=by
 rw[<-S_neg];exact jdt fun j _=>by grind
theorem Mk.put{N:Nat}{D:Dic}{P:(Nat->Rat)->Prop}(h:Mk N D P)(w:Rw)(hw:RT w.ts 0 N)(t:Bool):Mk N (D.put w t) (fun x=>P x/\(if t=true then w.val<=tsum w.ts x else tsum w.ts x<=w.val)) where
 n:=h.n
 own i hi:=by
  show(if i=D.m then D.n+D.m else D.own i)=_;by_cases e:i=D.m
  ·rw[zn e,h.n,e]
  ·rw[zp e];exact h.own i (by have:i<D.m+1:=hi;omega)
 free:=h.free
 sat x:=by
  have key:(if t=true then w.val<=tsum w.ts x else tsum w.ts x<=w.val)↔S N (fun j=>(D.put w t).a D.m j*x j)<=(D.put w t).v D.m:=by
   have e1:(D.put w t).a D.m=fun j=>if t=true then-cf w.ts j else cf w.ts j:=zn rfl
   have e2:(D.put w t).v D.m=if t=true then-w.val else w.val:=zn rfl
   rw[e1,e2,jpn x hw];cases t
   ·simp only[q9,ql]
   ·simp only[qr];rw[S_negc];constructor<;>intro h<;>grind
  rw[key,h.sat x];constructor
  ·rintro⟨h1,h2⟩ i hi;by_cases e:i=D.m
   ·subst e;exact h2
   ·have e1:(D.put w t).a i=D.a i:=zp e;have e2:(D.put w t).v i=D.v i:=zp e;rw[e1,e2];exact h1 i (by have:i<D.m+1:=hi;omega)
  ·intro h1;refine⟨fun i hi=> ?_,h1 D.m (jh _)⟩;have e1:(D.put w t).a i=D.a i:=zp (by omega);have e2:(D.put w t).v i=D.v i:=zp (by omega);have:=h1 i (Nat.lt_succ_of_lt hi)
   rwa [e1,e2]at this
theorem mk_row{N:Nat}{p:Dic×(Nat->Int×Bool)}{P:(Nat->Rat)->Prop}(h:Mk N p.1 P)(row:Nat)(w:Rw)(hw:RT w.ts 0 N):Mk N (rowD p row w).1 (fun x=>P x/\w.sat x):=by
 unfold rowD Rw.sat;dsimp only;by_cases h0:w.kind=0
 ·have h1:w.kind≠1:=by omega
  rw[zp (show ¬(w.kind≠0)from fun h=>h h0),zn h1];refine(h.put w hw true).congr fun x=> ?_;rw[zn rfl];constructor
  ·rintro⟨a,b,c⟩;exact⟨a,b h1⟩
  ·rintro⟨a,b⟩;exact⟨a,fun _=>b,fun h=>absurd h0 h⟩
 ·rw[zn h0];by_cases h1:w.kind=1
  ·rw[zp (show ¬(w.kind≠1)from fun h=>h h1)];refine(h.put w hw false).congr fun x=> ?_;rw[zp (by decide)];constructor
   ·rintro⟨a,b,c⟩;exact⟨a,c h0⟩
   ·rintro⟨a,b⟩;exact⟨a,fun h=>absurd h1 h,fun _=>b⟩
  ·rw[zn h1];refine((h.put w hw false).put w hw true).congr fun x=> ?_;rw[zp (by decide),zn rfl];constructor
   ·rintro⟨a,b,c⟩;exact⟨⟨a,c h0⟩,b h1⟩
   ·rintro⟨⟨a,b⟩,c⟩;exact⟨a,fun _=>c,fun _=>b⟩
theorem mk_rows{N:Nat}{ws:List Rw}(hw:∀w∈ws,w.Ok N):∀i,i<=ws.length->Mk N (rowsD ws (dic0 N,src0) i).1 (fun x=>∀w∈ws.take i,w.sat x)
 | 0,_=>(mk0 N).congr fun x=>⟨fun _=>trivial,fun _ w hw=>by rw[List.take_zero]at hw;cases hw⟩
 | i+1,hi=>by
  have hlt:i<ws.length:=hi;have hg:ws[i]? =some ws[i]:=ze hlt;rw[rowsD,hg];refine(mk_row (mk_rows hw i (by omega)) i ws[i] (hw _ (jk hlt)).ts).congr fun x=> ?_;rw[yV,hg];simp only[Option.toList_some,qu,zC];constructor
  ·intro h;exact⟨fun w hw=>h w (.inl hw),h _ (.inr rfl)⟩
  ·rintro⟨h1,h2⟩ w (hw | rfl)
   ·exact h1 w hw
   ·exact h2
section
variable{N:Nat}{ws:List Rw}{goal:List (Nat×Rat)}{E:Dic}
theorem mk_first(hw:∀w∈ws,w.Ok N):Mk N (first N ws goal) (fun x=>∀w∈ws,w.sat x):=by
 have h:=mk_rows hw ws.length (zu _);rw[qC]at h;exact⟨h.n,h.own,h.free,h.sat⟩
theorem Mk.ok{D:Dic}{P:(Nat->Rat)->Prop}(h:Mk N D P):D.Ok where
 own i i' hi hi' e:=by rw[h.own i hi,h.own i' hi']at e;omega
 free j j' hj hj' e:=by rw[h.free,h.free]at e;exact e
 apart i j hi hj:=by rw[h.own i hi,h.free];have:=h.n;omega
def ext(D:Dic)(N:Nat)(x:Nat->Rat)(k:Nat):Rat:=if k<N then x k else D.v (k-N)-S N (fun j=>D.a (k-N) j*x j)
theorem jnp{D:Dic}{x:Nat->Rat}{k:Nat}(h:k<N):ext D N x k=x k:=zn h
theorem Mk.ext_sat{D:Dic}{P:(Nat->Rat)->Prop}(h:Mk N D P)(x:Nat->Rat):D.Sat (ext D N x):=fun i hi=>by
 unfold Dic.row;rw[h.own i hi,h.n,jdt (f:=fun j=>D.a i j*ext D N x (D.free j)) (g:=fun j=>D.a i j*x j) fun j hj=>by rw[h.free,jnp hj]];unfold ext;rw[zp (by omega),show N+i-N=i by omega];grind
theorem Mk.sat_iff{D:Dic}{P:(Nat->Rat)->Prop}(h:Mk N D P){y:Nat->Rat}(hy:D.Sat y)(hp:∀k,0<=y k):P y:=(h.sat y).2 fun i hi=>by
 have h1:=hy i hi;unfold Dic.row at h1;rw[h.own i hi,h.n,jdt (f:=fun j=>D.a i j*y (D.free j)) (g:=fun j=>D.a i j*y j) fun j hj=>by rw[h.free]]at h1;have:=hp (N+i);grind
theorem Mk.ext_nonneg{D:Dic}{P:(Nat->Rat)->Prop}(h:Mk N D P){x:Nat->Rat}(hx:P x)(hp:∀k,k<N->0<=x k):∀k,k<N+D.m->0<=ext D N x k:=fun k hk=>by
 by_cases e:k<N
 ·rw[jnp e];exact hp k e
 ·unfold ext;rw[zp e];have:=(h.sat x).1 hx (k-N) (by omega);grind
theorem own_lt{D:Dic}{P:(Nat->Rat)->Prop}(h:Mk N D P)(k:Nat):(Own D k\/Free D k)↔k<N+D.m:=by
 constructor
 ·rintro(⟨i,hi,rfl⟩ | ⟨j,hj,rfl⟩)
  ·rw[h.own i hi];omega
  ·rw[h.free,<-h.n];omega
 ·intro hk;by_cases e:k<N
  ·exact .inr ⟨k,by rw[h.n];exact e,h.free k⟩
  ·exact .inl ⟨k-N,by omega,by rw[h.own _ (by omega)];omega⟩
theorem jl7(hw:∀w∈ws,w.Ok N)(hg:RT goal 0 N)(y:Nat->Rat):(first N ws goal).lin y= -tsum goal y:=by
 have h:=mk_first (goal:=goal) hw;unfold Dic.lin;rw[h.n,jpn y hg,jdt (f:=fun j=>(first N ws goal).g j*y ((first N ws goal).free j)) (g:=fun j=> -cf goal j*y j) fun j hj=>by rw[h.free];rfl,S_negc]
theorem pt_nn(hE:E.Ok)(hv:∀i,i<E.m->0<=E.v i)(k:Nat):0<=E.pt k:=jh2 hE (K:=k+1) (fun i hi _=>hv i hi) (jh _)
theorem final_best(hw:∀w∈ws,w.Ok N)(hg:RT goal 0 N)(hE:E.Ok)(hq:Eqv (first N ws goal) E)(hv:SameV (first N ws goal) E)(h1:∀i,i<E.m->0<=E.v i)(h2:∀j,j<E.n->E.g j<=0):
  Sol N ws E.pt/\∀x,Sol N ws x->tsum goal E.pt<=tsum goal x:=by
 have h:=mk_first (goal:=goal) hw;have hp:=pt_nn hE h1;have hs:(first N ws goal).Sat E.pt:=(hq.sat _).2 (jh1 hE);refine⟨⟨fun k _=>hp k,h.sat_iff hs hp⟩,fun x hx=> ?_⟩;have hy:=h.ext_sat x;have hn:=h.ext_nonneg hx.row hx.pos;obtain⟨c,hc⟩:=hq.lin;have e1:=hc _ hy;have e2:=hc _ hs;rw[jl7 hw hg]at e1 e2;rw[pt_lin hE]at e2;have e3:tsum goal (ext (first N ws goal) N x)=tsum goal x:=jiw fun t ht=>jnp (hg.mem t ht).2.1;have e4:E.lin (ext (first N ws goal) N x)<=0:=by
  have:0<=S E.n (fun j=> -(E.g j*ext (first N ws goal) N x (E.free j))):=jir fun j hj=>by
   have a1:=h2 j hj;have a2:0<=ext (first N ws goal) N x (E.free j):=hn _ ((own_lt h _).1 ((hv _).2 (.inr ⟨j,hj,rfl⟩)));exact jr6 a1 a2
  rw[S_neg]at this;unfold Dic.lin;grind
 rw[e3]at e1;grind
theorem final_none(hw:∀w∈ws,w.Ok N)(hq:Eqv (first N ws goal) E)(hv:SameV (first N ws goal) E){r:Nat}(hr:r<E.m)(h1:E.v r<0)(h2:∀j,j<E.n->0<=E.a r j):∀x,¬Sol N ws x:=fun x hx=>by
 have h:=mk_first (goal:=goal) hw;have hy:=(hq.sat _).1 (h.ext_sat x) r hr;have hn:=h.ext_nonneg hx.row hx.pos;unfold Dic.row at hy;have a1:0<=ext (first N ws goal) N x (E.own r):=hn _ ((own_lt h _).1 ((hv _).2 (.inl ⟨r,hr,rfl⟩)));have a2:0<=S E.n (fun j=>E.a r j*ext (first N ws goal) N x (E.free j)):=jir fun j hj=>y7 (h2 j hj) (hn _ ((own_lt h _).1 ((hv _).2 (.inr ⟨j,hj,rfl⟩))));grind
theorem final_free(hw:∀w∈ws,w.Ok N)(hg:RT goal 0 N)(hE:E.Ok)(hq:Eqv (first N ws goal) E)(hv:SameV (first N ws goal) E){s:Nat}(hs:s<E.n)(h1:0<E.g s)(h2:∀i,i<E.m->E.a i s<=0){x:Nat->Rat}(hx:Sol N ws x):
  ∀c:Rat,∃y,Sol N ws y/\tsum goal y<c:=fun c=>by
 have h:=mk_first (goal:=goal) hw;have hy:=h.ext_sat x;have hn:=h.ext_nonneg hx.row hx.pos;have hd:∀k,0<=E.dir s k:=fun k=>jhl hE (K:=k+1) hs (fun i hi _=>h2 i hi) (jh _);obtain⟨c0,hc⟩:=hq.lin;have key:∀t:Rat,0<=t->Sol N ws (fun k=>ext (first N ws goal) N x k+t*E.dir s k)/\tsum goal (fun k=>ext (first N ws goal) N x k+t*E.dir s k)=tsum goal x-t*E.g s:=fun t ht=>by
  have e0:E.Sat (fun k=>ext (first N ws goal) N x k+t*E.dir s k):=jj9 hE hs ((hq.sat _).1 hy) t;have e1:=(hq.sat _).2 e0;refine⟨⟨fun k hk=> ?_,?_⟩,?_⟩
  ·have a1:=hn k (by omega);have a2:=y7 ht (hd k);show 0<=ext (first N ws goal) N x k+t*E.dir s k;grind
  ·refine(h.sat _).2 fun i hi=> ?_;have b1:=e1 i hi;unfold Dic.row at b1;rw[h.own i hi,h.n]at b1;rw[jdt (f:=fun j=>(first N ws goal).a i j*(fun k=>ext (first N ws goal) N x k+t*E.dir s k) ((first N ws goal).free j)) (g:=fun j=>(first N ws goal).a i j*(fun k=>ext (first N ws goal) N x k+t*E.dir s k) j) fun j hj=>by rw[h.free]]at b1;have a1:=hn (N+i) (by omega);have a2:=y7 ht (hd (N+i));dsimp only at b1⊢;grind
  ·have c1:=hc _ e1;have c2:=hc _ hy;rw[jl7 hw hg]at c1 c2;rw[jj7,jnq hE hs]at c1;have e3:tsum goal (ext (first N ws goal) N x)=tsum goal x:=jiw fun t ht=>jnp (hg.mem t ht).2.1;rw[e3]at c2;grind
 by_cases hlt:tsum goal x<c
 ·exact⟨x,hx,hlt⟩
 ·have hgi:E.g s*(E.g s)⁻¹=1:=vd _ (by grind);have hi:0<=(E.g s)⁻¹:=Rat.le_of_lt (Rat.inv_pos.2 h1);have ht:0<=(tsum goal x-c+1)*(E.g s)⁻¹:=y7 (by grind) hi;obtain⟨k1,k2⟩:=key _ ht;refine⟨_,k1,?_⟩;rw[k2];have:(tsum goal x-c+1)*(E.g s)⁻¹*E.g s=tsum goal x-c+1:=by
   rw[Rat.mul_assoc,Rat.mul_comm _ (E.g s),hgi];grind
  rw[this];grind
theorem final_nil(hw:∀w∈ws,w.Ok N)(hE:E.Ok)(hq:Eqv (first N ws []) E){s:Nat}(hs:s<E.n):E.g s=0:=by
 obtain⟨c,hc⟩:=hq.lin;have e1:=hc _ ((hq.sat _).2 (jh1 hE));have e2:=hc _ ((hq.sat _).2 (jj9 hE hs (jh1 hE) 1));have hr:RT [] 0 N:=trivial;rw[jl7 hw hr]at e1 e2;rw[jj7,jnq hE hs]at e2;simp only[tsum]at e1 e2;grind
end
end
section
theorem Ov_neg{B q:Nat}{x:Rat}(h:Ov B q x):Ov B q (-x):=by
 obtain⟨z,h1,h2⟩:=h;exact⟨-z,by rw[Rat.intCast_neg,<-h1];grind,by rw[ye];exact h2⟩
structure OvRw(B q:Nat)(w:Rw):Prop where
 val:Ov B q w.val
 ts:∀t∈w.ts,Ov B q t.2
theorem Ov_cf{B q:Nat}:∀{ts:List (Nat×Rat)},(∀t∈ts,Ov B q t.2)->∀k,Ov B q (cf ts k)
 | [],_,k=>Ov_zero
 | t::ts,h,k=>by
  rw[cf];split
  ·exact h t (qj ..)
  ·exact Ov_cf (fun u hu=>h u (qw _ hu)) k
def OvD(B q:Nat)(D:Dic):Prop:=∀i,i<D.m->Ov B q (D.v i)/\∀j,Ov B q (D.a i j)
theorem OvD.put{B q:Nat}{D:Dic}(h:OvD B q D){w:Rw}(hw:OvRw B q w)(t:Bool):OvD B q (D.put w t):=fun i hi=>by
 by_cases e:i=D.m
 ·have e1:(D.put w t).a i=fun j=>if t=true then-cf w.ts j else cf w.ts j:=zn e
  have e2:(D.put w t).v i=if t=true then-w.val else w.val:=zn e
  rw[e1,e2];cases t
  ·exact⟨hw.val,fun j=>Ov_cf hw.ts j⟩
  ·exact⟨Ov_neg hw.val,fun j=>Ov_neg (Ov_cf hw.ts j)⟩
 ·have e1:(D.put w t).a i=D.a i:=zp e;have e2:(D.put w t).v i=D.v i:=zp e;rw[e1,e2];exact h i (by have:i<D.m+1:=hi;omega)
theorem OvD.rowD{B q:Nat}{p:Dic×(Nat->Int×Bool)}(h:OvD B q p.1){w:Rw}(hw:OvRw B q w)(row:Nat):OvD B q (rowD p row w).1:=by
 unfold Go.LP.rowD;dsimp only;by_cases h0:w.kind≠0
 ·rw[zn h0];by_cases h1:w.kind≠1
  ·rw[zn h1];exact(h.put hw false).put hw true
  ·rw[zp h1];exact h.put hw false
 ·rw[zp h0];by_cases h1:w.kind≠1
  ·rw[zn h1];exact h.put hw true
  ·rw[zp h1];exact h
theorem OvD.rows{B q:Nat}{N:Nat}{ws:List Rw}(hw:∀w∈ws,OvRw B q w):∀i,OvD B q (rowsD ws (dic0 N,src0) i).1
 | 0=>fun i hi=>absurd hi (yS _)
 | i+1=>by
  rw[rowsD];split
  ·rename_i w hg;exact(OvD.rows hw i).rowD (hw w (zl hg)) i
  ·exact OvD.rows hw i
theorem small_first{B q N:Nat}{ws:List Rw}{goal:List (Nat×Rat)}(q0:0<q)(hq:q<=B)(hw:∀w∈ws,OvRw B q w)(hg:∀t∈goal,Ov B q t.2):Small B q (first N ws goal) where
 q0:=q0
 qB:=hq
 v i hi:=(OvD.rows hw ws.length i hi).1
 g j _:=Ov_neg (Ov_cf hg j)
 a i j hi _:=(OvD.rows hw ws.length i hi).2 j
structure Src(p:Dic×(Nat->Int×Bool))(R:Nat):Prop where
 row:∀i,i<p.1.m->0<=(p.2 i).1/\(p.2 i).1<(R:Int)
theorem Src.put{p:Dic×(Nat->Int×Bool)}{R:Nat}(h:Src p R)(w:Rw)(row:Nat)(t:Bool)(hr:row<R):Src (p.1.put w t,jel p.1 p.2 row t) R where
 row i hi:=by
  dsimp only[jel];by_cases e:i=p.1.m
  ·rw[zn e];dsimp only;omega
  ·rw[zp e];exact h.row i (by have:i<p.1.m+1:=hi;omega)
theorem Src.mono{p:Dic×(Nat->Int×Bool)}{R R':Nat}(h:Src p R)(hR:R<=R'):Src p R':=⟨fun i hi=>by have:=h.row i hi;omega⟩
theorem Src.rowD{p:Dic×(Nat->Int×Bool)}{R:Nat}(h:Src p R)(w:Rw)(row:Nat)(hr:row<R):Src (rowD p row w) R:=by
 unfold Go.LP.rowD;dsimp only;by_cases h0:w.kind≠0
 ·rw[zn h0];by_cases h1:w.kind≠1
  ·rw[zn h1];exact(h.put w row false hr).put w row true hr
  ·rw[zp h1];exact h.put w row false hr
 ·rw[zp h0];by_cases h1:w.kind≠1
  ·rw[zn h1];exact h.put w row true hr
  ·rw[zp h1];exact h
theorem Src.rows{N:Nat}{ws:List Rw}:∀i,Src (rowsD ws (dic0 N,src0) i) i
 | 0=>⟨fun i hi=>absurd hi (yS _)⟩
 | i+1=>by
  rw[rowsD];split
  ·exact((Src.rows i).mono (by omega)).rowD _ i (by omega)
  ·exact(Src.rows i).mono (by omega)
theorem m_row(p:Dic×(Nat->Int×Bool))(row:Nat)(w:Rw):(rowD p row w).1.m<=p.1.m+2:=by
 unfold rowD;dsimp only;by_cases h0:w.kind≠0
 ·rw[zn h0];by_cases h1:w.kind≠1
  ·rw[zn h1];exact zu _
  ·rw[zp h1];exact Nat.le_succ _
 ·rw[zp h0];by_cases h1:w.kind≠1
  ·rw[zn h1];exact Nat.le_succ _
  ·rw[zp h1];exact Nat.le_add_right _ _
theorem m_rows{ws:List Rw}{p:Dic×(Nat->Int×Bool)}:∀i,(rowsD ws p i).1.m<=p.1.m+2*i
 | 0=>zu _
 | i+1=>by
  have ih:=m_rows (ws:=ws) (p:=p) i;rw[rowsD];split
  ·have:=m_row (rowsD ws p i) i;exact qA (this _) (by omega)
  ·omega
section
variable{N:Nat}{ws ws':List Rw}{g:List (Nat×Rat)}{v u:Rat}
structure IsMin(N:Nat)(ws:List Rw)(g:List (Nat×Rat))(v:Rat):Prop where
 at':∃x,Sol N ws x/\tsum g x=v
 le:∀x,Sol N ws x->v<=tsum g x
def NoMin(N:Nat)(ws:List Rw)(g:List (Nat×Rat)):Prop:=(∃x,Sol N ws x)/\∀c:Rat,∃x,Sol N ws x/\tsum g x<c
theorem Sol.sub{x:Nat->Rat}(h:Sol N ws' x)(hs:∀w∈ws,w∈ws'):Sol N ws x:=⟨h.pos,fun w hw=>h.row w (hs w hw)⟩
theorem tsum_nonneg:∀{ts:List (Nat×Rat)} {lo N:Nat} {x:Nat->Rat},RT ts lo N->(∀t∈ts,0<=t.2)->(∀k,k<N->0<=x k)->0<=tsum ts x
 | [],_,_,_,_,_,_=>by simp only[tsum];grind
 | t::ts,lo,N,x,h,hc,hx=>by
  rw[tsum];have h1:=y7 (hc t (qj ..)) (hx t.1 h.2.1);have h2:=tsum_nonneg h.2.2.2 (fun u hu=>hc u (qw _ hu)) hx;grind
