/- A part of the proof. No further condition. -/
import Derived.Test.YthahgoopboilkaaGreatKE17
set_option linter.all false
set_option maxRecDepth 10000000
set_option maxHeartbeats 16000000
namespace Go.LP
section
theorem S_neg(f:Nat->Rat)(n:Nat):S n (fun j=> -f j)= -S n f:=by
 rw[show(fun j=> -f j)=fun j=>(-1)*f j from funext fun j=>by grind,S_mul];grind
inductive Enter(D:Dic)(K:Nat):Prop
 | first (s:Nat):s<D.n->D.free s=K->0<D.g s->(∀i,i<D.m->D.own i<K->0<=D.v i)->(∀j,j<D.n->D.free j<K->D.g j<=0)->Enter D K
 | second (r s:Nat):r<D.m->s<D.n->D.free s=K->D.own r<K->D.v r<0->D.a r s<0->(∀j,j<D.n->D.free j<K->0<=D.a r j)->Enter D K
inductive Leave(D:Dic)(K:Nat):Prop
 | first (r:Nat):r<D.m->D.own r=K->D.v r<0->(∀i,i<D.m->D.own i<K->0<=D.v i)->(∀j,j<D.n->D.free j<K->D.g j<=0)->Leave D K
 | second (r s:Nat):r<D.m->s<D.n->D.own r=K->D.free s<K->0<D.g s->0<D.a r s->(∀i,i<D.m->D.own i<K->D.a i s<=0)->Leave D K
section
variable{D E:Dic}{K:Nat}
theorem jgr(h:E.Ok)(hv:∀i,i<E.m->E.own i<K->0<=E.v i){k:Nat}(hk:k<K):0<=E.pt k:=by
 by_cases he:∃i,i<E.m/\E.own i=k
 ·obtain⟨i,hi,rfl⟩:=he;rw[jrf h hi];exact hv i hi hk
 ·rw[jqh fun i hi e=>he ⟨i,hi,e⟩];grind
theorem dir_nonneg(h:E.Ok){s:Nat}(hs:s<E.n)(ha:∀i,i<E.m->E.own i<K->E.a i s<=0){k:Nat}(hk:k<K):0<=E.dir s k:=by
 by_cases he:∃i,i<E.m/\E.own i=k
 ·obtain⟨i,hi,rfl⟩:=he;rw[jlo h hi];have:=ha i hi hk;grind
 ·by_cases e:k=E.free s
  ·rw[e,jfg h hs hs,zm rfl];grind
  ·rw[jse (fun i hi e'=>he ⟨i,hi,e'⟩) e];grind
theorem jro{a b:Rat}(ha:a<=0)(hb:0<=b):0<= -(a*b):=by
 have:=qG (a:= -a) (b:=b) (by grind) hb;grind
theorem jrn{a b:Rat}(ha:0<a)(hb:b<0):0< -(a*b):=by
 have:=Rat.mul_pos (a:=a) (b:= -b) ha (by grind);grind
theorem jrp{a b:Rat}(ha:a<0)(hb:b<0):0<a*b:=by
 have:=Rat.mul_pos (a:= -a) (b:= -b) (by grind) (by grind);grind
theorem contra(hD:D.Ok)(hE:E.Ok)(hq:Eqv D E)(hin:Enter D K)(hout:Leave E K)
  (h1:∀j,j<D.n->K<D.free j->∀i,i<E.m->E.own i≠D.free j) (h2:∀j,j<E.n->K<E.free j->∀i,i<D.m->D.own i≠E.free j):False:=by
 obtain⟨c,hc⟩:=hq.lin;cases hout with
 | first r hr hK hv hvs hgs=>
  have xE:=pt_sat hE;have xD:=(hq.sat _).2 xE;have ptK:E.pt K=E.v r:=by rw[<-hK];exact jrf hE hr
  have big:∀j,j<D.n->K<D.free j->E.pt (D.free j)=0:=fun j hj hk=>jqh (h1 j hj hk);cases hin with
  | first s hs hKs hg hvs' hgs'=>
   have e1:=hc _ xD;have e2:=hc _ (pt_sat hD);rw[pt_lin hE]at e1;rw[pt_lin hD]at e2;have p1:0< -D.lin E.pt:=by
    unfold Dic.lin;rw[<-S_neg];refine S_pos hs (fun j hj=> ?_) ?_
    ·rcases yx (D.free j) K with hk | hk | hk
     ·exact jro (hgs' j hj hk) (jgr hE hvs hk)
     ·have:j=s:=hD.free j s hj hs (hk.trans hKs.symm);subst this;rw[hk,ptK];have:=jrn hg hv;grind
     ·rw[big j hj hk];grind
    ·rw[hKs,ptK];exact jrn hg hv
   have p2:0<= -E.lin D.pt:=by
    unfold Dic.lin;rw[<-S_neg];refine je1 fun j hj=> ?_;rcases yx (E.free j) K with hk | hk | hk
    ·exact jro (hgs j hj hk) (jgr hD hvs' hk)
    ·exact absurd (hK.trans hk.symm) (hE.apart r j hr hj)
    ·rw[jqh (h2 j hj hk)];grind
   grind
  | second p s hp hs hKs hpK hvp hap has=>
   have h3:=xD p hp;unfold Dic.row at h3;have p1:0<S D.n (fun j=>D.a p j*E.pt (D.free j)):=by
    refine S_pos hs (fun j hj=> ?_) ?_
    ·rcases yx (D.free j) K with hk | hk | hk
     ·exact qG (has j hj hk) (jgr hE hvs hk)
     ·have:j=s:=hD.free j s hj hs (hk.trans hKs.symm);subst this;rw[hk,ptK];have:=jrp hap hv;grind
     ·rw[big j hj hk];grind
    ·rw[hKs,ptK];exact jrp hap hv
   have p2:=jgr hE hvs hpK;grind
 | second r q hr hq' hK hqK hg ha has=>
  have xE:=dir_sat hE hq' (pt_sat hE) 1;have xD:=(hq.sat _).2 xE;have yD:=(hq.sat _).2 (pt_sat hE);have wK:E.dir q K= -(E.a r q):=by rw[<-hK];exact jlo hE hr
  have big:∀j,j<D.n->K<D.free j->E.dir q (D.free j)=0:=fun j hj hk=>jse (h1 j hj hk) (by omega);cases hin with
  | first s hs hKs hgp hvs' hgs'=>
   have e1:=hc _ xD;have e2:=hc _ yD;rw[lin_add,lin_add,dir_lin hE hq']at e1;have p1:0< -D.lin (E.dir q):=by
    unfold Dic.lin;rw[<-S_neg];refine S_pos hs (fun j hj=> ?_) ?_
    ·rcases yx (D.free j) K with hk | hk | hk
     ·exact jro (hgs' j hj hk) (dir_nonneg hE hq' has hk)
     ·have:j=s:=hD.free j s hj hs (hk.trans hKs.symm);subst this;rw[hk,wK];have:=jrn hgp (b:= -(E.a r q)) (by grind);grind
     ·rw[big j hj hk];grind
    ·rw[hKs,wK];exact jrn hgp (by grind)
   grind
  | second p s hp hs hKs hpK hvp hap has'=>
   have h3:=xD p hp;have h4:=yD p hp;unfold Dic.row at h3 h4;have e:S D.n (fun j=>D.a p j*(E.pt (D.free j)+1*E.dir q (D.free j)))=S D.n (fun j=>D.a p j*E.pt (D.free j))+S D.n (fun j=>D.a p j*E.dir q (D.free j)):=by
    rw[<-S_add];exact S_congr fun j hj=>by grind
   rw[e]at h3;have p1:0<S D.n (fun j=>D.a p j*E.dir q (D.free j)):=by
    refine S_pos hs (fun j hj=> ?_) ?_
    ·rcases yx (D.free j) K with hk | hk | hk
     ·exact qG (has' j hj hk) (dir_nonneg hE hq' has hk)
     ·have:j=s:=hD.free j s hj hs (hk.trans hKs.symm);subst this;rw[hk,wK];have:=jrp hap (b:= -(E.a r q)) (by grind);grind
     ·rw[big j hj hk];grind
    ·rw[hKs,wK];exact jrp hap (by grind)
   have p2:=dir_nonneg hE hq' has hpK;grind
end
structure Rule(D:Dic)(r s:Nat):Prop where
 hr:r<D.m
 hs:s<D.n
 sel:(D.v r<0/\(∀i,i<D.m->D.v i<0->D.own r<=D.own i)/\(∀j,j<D.n->0<D.g j->D.own r<D.free j)/\D.a r s<0/\∀j,j<D.n->D.a r j<0->D.free s<=D.free j)\/
  (0<D.g s/\(∀j,j<D.n->0<D.g j->D.free s<=D.free j)/\(∀i,i<D.m->D.v i<0->D.free s<D.own i)/\0<D.a r s/\∀i,i<D.m->0<D.a i s->D.own r<=D.own i)
section
variable{D:Dic}{r s K:Nat}
theorem Rule.ne(h:Rule D r s):D.a r s≠0:=by
 rcases h.sel with ⟨_,_,_,h1,_⟩ | ⟨_,_,_,h1,_⟩<;>grind
theorem jkx{a:Rat}(h:¬a<0):0<=a:=by grind
theorem jj6{a:Rat}(h:¬0<a):a<=0:=by grind
theorem Rule.enter(hD:D.Ok)(h:Rule D r s)(hK:D.free s=K)(hr:D.own r<=K):Enter D K:=by
 have hne:=hD.apart r s h.hr h.hs;rcases h.sel with ⟨h1,h2,h3,h4,h5⟩ | ⟨h1,h2,h3,h4,h5⟩
 ·exact .second r s h.hr h.hs hK (by omega) h1 h4 fun j hj hk=>jkx fun h6=>by have:=h5 j hj h6;omega
 ·exact .first s h.hs hK h1 (fun i hi hk=>jkx fun h6=>by have:=h3 i hi h6;omega) fun j hj hk=>jj6 fun h6=>by have:=h2 j hj h6;omega
theorem Rule.leave(hD:D.Ok)(h:Rule D r s)(hK:D.own r=K)(hs:D.free s<=K):Leave D K:=by
 have hne:=hD.apart r s h.hr h.hs;rcases h.sel with ⟨h1,h2,h3,h4,h5⟩ | ⟨h1,h2,h3,h4,h5⟩
 ·exact .first r h.hr hK h1 (fun i hi hk=>jkx fun h6=>by have:=h2 i hi h6;omega) fun j hj hk=>jj6 fun h6=>by have:=h3 j hj h6;omega
 ·exact .second r s h.hr h.hs hK (by omega) h1 h4 fun i hi hk=>jj6 fun h6=>by have:=h5 i hi h6;omega
def Own(D:Dic)(k:Nat):Prop:=∃i,i<D.m/\D.own i=k
theorem jpf(hD:D.Ok)(hr:r<D.m)(hs:s<D.n){k:Nat}(h1:k≠D.own r)(h2:k≠D.free s):Own (D.pivot r s) k↔Own D k:=by
 constructor
 ·rintro⟨i,hi,e⟩;simp only[Dic.pivot]at hi e;split at e
  ·exact absurd e.symm h2
  ·exact⟨i,hi,e⟩
 ·rintro⟨i,hi,e⟩;have hne:i≠r:=fun h=>h1 (by rw[<-e,h]);exact⟨i,hi,by simp[Dic.pivot,hne,e]⟩
theorem own_in(hr:r<D.m):Own (D.pivot r s) (D.free s):=⟨r,hr,by simp[Dic.pivot]⟩
theorem own_out(hD:D.Ok)(hr:r<D.m)(hs:s<D.n):¬Own (D.pivot r s) (D.own r):=by
 rintro⟨i,hi,e⟩;simp only[Dic.pivot]at hi e;split at e
 ·exact hD.apart r s hr hs e.symm
 ·rename_i h;exact h (hD.own i r hi hr e)
end
structure Run(D:Nat->Dic)(r s:Nat->Nat)(T:Nat):Prop where
 ok:(D 0).Ok
 rule:∀t,t<T->Rule (D t) (r t) (s t)
 next:∀t,t<T->D (t+1)=(D t).pivot (r t) (s t)
section
variable{D:Nat->Dic}{r s:Nat->Nat}{T K:Nat}
theorem Run.oks(h:Run D r s T):∀t,t<=T->(D t).Ok
 | 0,_=>h.ok
 | t+1,ht=>by
  have h1:=h.rule t (by omega);rw[h.next t (by omega)];exact jnl (h.oks t (by omega)) h1.hr h1.hs
theorem Run.eqv(h:Run D r s T):∀(k t:Nat),t+k<=T->Eqv (D t) (D (t+k))
 | 0,t,_=>Eqv.refl _
 | k+1,t,ht=>by
  have h1:=h.rule (t+k) (by omega);have h2:=jli h1.hr h1.hs h1.ne;rw[<-h.next (t+k) (by omega)]at h2;exact(h.eqv k t (by omega)).trans h2
theorem Run.own(h:Run D r s T){x:Nat}:∀(k t:Nat),t+k<=T->(∀u,t<=u->u<t+k->x≠(D u).own (r u)/\x≠(D u).free (s u))->(Own (D (t+k)) x↔Own (D t) x)
 | 0,t,_,_=>Iff.rfl
 | k+1,t,ht,hx=>by
  have h1:=h.rule (t+k) (by omega);have h2:=hx (t+k) (by omega) (by omega);have h3:=jpf (h.oks (t+k) (by omega)) h1.hr h1.hs h2.1 h2.2;rw[<-h.next (t+k) (by omega)]at h3;exact h3.trans (h.own k t (by omega) fun u hu hu'=>hx u hu (by omega))
theorem Run.part(h:Run D r s T){a n:Nat}(ha:a+n<=T):Run (fun t=>D (a+t)) (fun t=>r (a+t)) (fun t=>s (a+t)) n:=
 ⟨h.oks a (by omega),fun t ht=>h.rule (a+t) (by omega),fun t ht=>h.next (a+t) (by omega)⟩
def Names(D:Nat->Dic)(r s:Nat->Nat)(K t:Nat):Prop:=(D t).own (r t)=K\/(D t).free (s t)=K
theorem least{p:Nat->Prop}:∀{n:Nat},p n->∃m,p m/\∀k,k<m->¬p k:=by
 intro n
 induction n using Nat.strongRecOn with
 | _ n ih=>
  intro h;by_cases he:∃m,m<n/\p m
  ·obtain⟨m,hm,hp⟩:=he;exact ih m hm hp
  ·exact⟨n,h,fun k hk hp=>he ⟨k,hk,hp⟩⟩
theorem Run.once(h:Run D r s T)(hK:∀t,t<T->(D t).own (r t)<=K/\(D t).free (s t)<=K){t1 t2:Nat}(h12:t1<t2)(h2:t2<T)(n1:Names D r s K t1)(n2:Names D r s K t2)(hb:∀t,t1<t->t<t2->¬Names D r s K t):False:=by
 have r1:=h.rule t1 (by omega);have r2:=h.rule t2 h2;have o1:=h.oks t1 (by omega);have o2:=h.oks t2 (by omega);have hq:Eqv (D t1) (D t2):=by
  have:=h.eqv (t2-t1) t1 (by omega)
  rwa [show t1+(t2-t1)=t2 by omega]at this
 have big:∀x,K<x->(Own (D t2) x↔Own (D t1) x):=fun x hx=>by
  have:=h.own (x:=x) (t2-t1) t1 (by omega) fun u hu hu'=>by have:=hK u (by omega);omega
  rwa [show t1+(t2-t1)=t2 by omega]at this
 have mid:Own (D t2) K↔Own (D (t1+1)) K:=by
  have:=h.own (x:=K) (t2-(t1+1)) (t1+1) (by omega) fun u hu hu'=>by
   have:=hb u (by omega) (by omega);exact⟨fun e=>this (.inl e.symm),fun e=>this (.inr e.symm)⟩
  rwa [show t1+1+(t2-(t1+1))=t2 by omega]at this
 have f1:∀j,j<(D t1).n->K<(D t1).free j->∀i,i<(D t2).m->(D t2).own i≠(D t1).free j:=fun j hj hk i hi e=>by
  obtain⟨i',hi',e'⟩:=(big _ hk).1 ⟨i,hi,e⟩;exact o1.apart i' j hi' hj e'
 have f2:∀j,j<(D t2).n->K<(D t2).free j->∀i,i<(D t1).m->(D t1).own i≠(D t2).free j:=fun j hj hk i hi e=>by
  obtain⟨i',hi',e'⟩:=(big _ hk).2 ⟨i,hi,e⟩;exact o2.apart i' j hi' hj e'
 rw[h.next t1 (by omega)]at mid;have k1:=hK t1 (by omega);have k2:=hK t2 h2;rcases n1 with n1 | n1
 ·
  have hno:¬Own (D t2) K:=fun ho=>own_out o1 r1.hr r1.hs (by rw[n1];exact mid.1 ho);rcases n2 with n2 | n2
  ·exact hno ⟨_,r2.hr,n2⟩
  ·exact contra o2 o1 hq.symm (r2.enter o2 n2 k2.1) (r1.leave o1 n1 k1.2) f2 f1
 ·have ho:Own (D t2) K:=mid.2 (by rw[<-n1];exact own_in r1.hr);rcases n2 with n2 | n2
  ·exact contra o1 o2 hq (r1.enter o1 n1 k1.1) (r2.leave o2 n2 k2.2) f1 f2
  ·obtain⟨i,hi,e⟩:=ho;exact o2.apart i _ hi r2.hs (e.trans n2.symm)
end
theorem Run.ends:∀(K T:Nat) (D:Nat->Dic) (r s:Nat->Nat),Run D r s T->(∀t,t<T->(D t).own (r t)<K/\(D t).free (s t)<K)->T<2^K
 | 0,T,D,r,s,h,hK=>by
  rcases yP T with h0 | h0
  ·subst h0;decide
  ·have:=hK 0 h0;omega
 | K+1,T,D,r,s,h,hK=>by
  have h2:2^(K+1)=2^K+2^K:=by rw[Nat.pow_succ];omega
  by_cases he:∃t,t<T/\Names D r s K t
  ·obtain⟨t0,ht0⟩:=he;obtain⟨t1,⟨ht1,hn1⟩,hl1⟩:=least (p:=fun t=>t<T/\Names D r s K t) ht0;have a1:=Run.ends K t1 D r s (by simpa using h.part (a:=0) (n:=t1) (by omega)) fun t ht=>by
    have g1:=hK t (by omega);have g2:=hl1 t ht;have g3:¬Names D r s K t:=fun hn=>g2 ⟨by omega,hn⟩;unfold Names at g3;omega
   have a2:=Run.ends K (T-(t1+1)) _ _ _ (h.part (a:=t1+1) (n:=T-(t1+1)) (by omega)) fun t ht=>by
    have g1:=hK (t1+1+t) (by omega);have g3:¬Names D r s K (t1+1+t):=fun hn=>by
     obtain⟨t2,⟨ht2,ht2',hn2⟩,hl2⟩:=least (p:=fun t=>t1<t/\t<T/\Names D r s K t) ⟨(by omega:t1<t1+1+t),by omega,hn⟩;exact h.once (fun t ht=>by have:=hK t ht;omega) ht2 ht2' hn1 hn2 fun t g4 g5 g6=>hl2 t g5 ⟨g4,by omega,g6⟩
    unfold Names at g3;omega
   omega
  ·have:=Run.ends K T D r s h fun t ht=>by
    have g1:=hK t ht;have g3:¬Names D r s K t:=fun hn=>he ⟨t,ht,hn⟩;unfold Names at g3;omega
   omega
end
end Go.LP
namespace Go.Proofs.YthahgoopboilkaaGreat
section
open Go.Abs
open Go.LP (Dic)
structure DN where
 (d r g o f s:Nat)
 a:Nat->Nat
def sl0(b e s k:Nat):IV:=if k=0 then .emp else .ref b e s k
def oc(k:Nat):List IV:=[.int (k:Int)]
def lineC(v:Rat)(b n:Nat):List IV:=fc v++[.ref b 35 4 n]
def srcC(s:Int×Bool):List IV:=[.int s.1,.bool s.2]
theorem jao{b e s k:Nat}(h:k≠0):sl0 b e s k= .ref b e s k:=zn h
theorem jbc{b e s:Nat}:sl0 b e s 0= .emp:=rfl
structure HasD(L:Abs.Rows)(nm:DN)(N:Nat)(D:Dic)(src:Nat->Int×Bool):Prop where
 blk:blks L
 nd:(nm.d::nm.r::nm.g::nm.o::nm.f::nm.s::tab D.m nm.a).Nodup
 hd:Abs.look L (hp nm.d)=some (6,[[.int N,sl0 nm.r 250 5 D.m,.ref nm.g 35 4 D.n,sl0 nm.o 3 1 D.m,sl0 nm.f 3 1 D.n,sl0 nm.s 272 2 D.m]])
 hg:Abs.look L (hp nm.g)=some (4,tab D.n fun j=>qc (D.g j))
 hr:D.m≠0->Abs.look L (hp nm.r)=some (5,tab D.m fun i=>lineC (D.v i) (nm.a i) D.n)
 ho:D.m≠0->Abs.look L (hp nm.o)=some (1,tab D.m fun i=>oc (D.own i))
 hf:D.n≠0->Abs.look L (hp nm.f)=some (1,tab D.n fun j=>oc (D.free j))
 hs:D.m≠0->Abs.look L (hp nm.s)=some (2,tab D.m fun i=>srcC (src i))
 ha:∀i,i<D.m->Abs.look L (hp (nm.a i))=some (4,tab D.n fun j=>qc (D.a i j))
section
variable{L L':Abs.Rows}{nm:DN}{N:Nat}{D:Dic}{src:Nat->Int×Bool}
structure DN.Ap(nm:DN)(m:Nat):Prop where
 dr:nm.d≠nm.r
 dg:nm.d≠nm.g
 d_o:nm.d≠nm.o
 df:nm.d≠nm.f
 ds:nm.d≠nm.s
 rg:nm.r≠nm.g
 ro:nm.r≠nm.o
 rf:nm.r≠nm.f
 rs:nm.r≠nm.s
 go:nm.g≠nm.o
 gf:nm.g≠nm.f
 gs:nm.g≠nm.s
 of':nm.o≠nm.f
 os:nm.o≠nm.s
 fs:nm.f≠nm.s
 da:∀i,i<m->nm.d≠nm.a i
 ra:∀i,i<m->nm.r≠nm.a i
 ga:∀i,i<m->nm.g≠nm.a i
 oa:∀i,i<m->nm.o≠nm.a i
 fa:∀i,i<m->nm.f≠nm.a i
 sa:∀i,i<m->nm.s≠nm.a i
 aa:∀i j,i<m->j<m->nm.a i=nm.a j->i=j
theorem ap_of{m:Nat}(h:(nm.d::nm.r::nm.g::nm.o::nm.f::nm.s::tab m nm.a).Nodup):nm.Ap m:=by
 simp only[qJ,zS,not_or]at h;obtain⟨⟨h1,h2,h3,h4,h5,h6⟩,⟨g1,g2,g3,g4,g5⟩,⟨k1,k2,k3,k4⟩,⟨l1,l2,l3⟩,⟨m1,m2⟩,n1,o1⟩:=h;have no:∀{x:Nat},x∉tab m nm.a->∀i,i<m->x≠nm.a i:=fun hx i hi e=>hx (e▸mem_tab hi);exact⟨h1,h2,h3,h4,h5,g1,g2,g3,g4,k1,k2,k3,l1,l2,m1,no h6,no g5,no k4,no l3,no m2,no n1,fun i j hi hj e=>tab_nodup o1 hi hj e⟩
theorem HasD.ap(h:HasD L nm N D src):nm.Ap D.m:=ap_of h.nd
theorem hpne{a b:Nat}(h:a≠b):hp a≠hp b:=fun e=>h (hp_inj.1 e)
theorem HasD.withA(h:HasD L nm N D src)(hb:blks L'){i:Nat}(hi:i<D.m){f:Nat->Rat}(hl:Abs.look L' (hp (nm.a i))=some (4,tab D.n fun j=>qc (f j)))(ho:∀k,k≠hp (nm.a i)->Abs.look L' k=Abs.look L k):
  HasD L' nm N {D with a:=fun i'=>if i'=i then f else D.a i'} src:=by
 have ap:=h.ap;refine⟨hb,h.nd,?_,?_,fun hm=> ?_,fun hm=> ?_,fun hm=> ?_,fun hm=> ?_,fun i' hi'=> ?_⟩
 ·rw[ho _ (hpne (ap.da i hi))];exact h.hd
 ·rw[ho _ (hpne (ap.ga i hi))];exact h.hg
 ·rw[ho _ (hpne (ap.ra i hi))];exact h.hr hm
 ·rw[ho _ (hpne (ap.oa i hi))];exact h.ho hm
 ·rw[ho _ (hpne (ap.fa i hi))];exact h.hf hm
 ·rw[ho _ (hpne (ap.sa i hi))];exact h.hs hm
 ·by_cases e:i'=i
  ·subst e;dsimp only;rw[zm rfl];exact hl
  ·dsimp only;rw[zn e,ho _ (hpne fun e'=>e (ap.aa i' i hi' hi e'))];exact h.ha i' hi'
theorem HasD.withV(h:HasD L nm N D src)(hb:blks L'){v:Nat->Rat}(hl:Abs.look L' (hp nm.r)=some (5,tab D.m fun i=>lineC (v i) (nm.a i) D.n))(ho:∀k,k≠hp nm.r->Abs.look L' k=Abs.look L k):
  HasD L' nm N {D with v:=v} src:=by
 have ap:=h.ap;refine⟨hb,h.nd,?_,?_,fun hm=> ?_,fun hm=> ?_,fun hm=> ?_,fun hm=> ?_,fun i' hi'=> ?_⟩
 ·rw[ho _ (hpne ap.dr)];exact h.hd
 ·rw[ho _ (hpne ap.rg.symm)];exact h.hg
 ·exact hl
 ·rw[ho _ (hpne ap.ro.symm)];exact h.ho hm
 ·rw[ho _ (hpne ap.rf.symm)];exact h.hf hm
 ·rw[ho _ (hpne ap.rs.symm)];exact h.hs hm
 ·rw[ho _ (hpne (ap.ra i' hi').symm)];exact h.ha i' hi'
theorem HasD.withG(h:HasD L nm N D src)(hb:blks L'){g:Nat->Rat}(hl:Abs.look L' (hp nm.g)=some (4,tab D.n fun j=>qc (g j)))(ho:∀k,k≠hp nm.g->Abs.look L' k=Abs.look L k):
  HasD L' nm N {D with g:=g} src:=by
 have ap:=h.ap;refine⟨hb,h.nd,?_,?_,fun hm=> ?_,fun hm=> ?_,fun hm=> ?_,fun hm=> ?_,fun i' hi'=> ?_⟩
 ·rw[ho _ (hpne ap.dg)];exact h.hd
 ·exact hl
 ·rw[ho _ (hpne ap.rg)];exact h.hr hm
 ·rw[ho _ (hpne ap.go.symm)];exact h.ho hm
 ·rw[ho _ (hpne ap.gf.symm)];exact h.hf hm
 ·rw[ho _ (hpne ap.gs.symm)];exact h.hs hm
 ·rw[ho _ (hpne (ap.ga i' hi').symm)];exact h.ha i' hi'
theorem HasD.withO(h:HasD L nm N D src)(hb:blks L'){o:Nat->Nat}(hl:Abs.look L' (hp nm.o)=some (1,tab D.m fun i=>oc (o i)))(ho:∀k,k≠hp nm.o->Abs.look L' k=Abs.look L k):
  HasD L' nm N {D with own:=o} src:=by
 have ap:=h.ap;refine⟨hb,h.nd,?_,?_,fun hm=> ?_,fun hm=> ?_,fun hm=> ?_,fun hm=> ?_,fun i' hi'=> ?_⟩
 ·rw[ho _ (hpne ap.d_o)];exact h.hd
 ·rw[ho _ (hpne ap.go)];exact h.hg
 ·rw[ho _ (hpne ap.ro)];exact h.hr hm
 ·exact hl
 ·rw[ho _ (hpne ap.of'.symm)];exact h.hf hm
 ·rw[ho _ (hpne ap.os.symm)];exact h.hs hm
 ·rw[ho _ (hpne (ap.oa i' hi').symm)];exact h.ha i' hi'
theorem HasD.withF(h:HasD L nm N D src)(hb:blks L'){f:Nat->Nat}(hl:Abs.look L' (hp nm.f)=some (1,tab D.n fun i=>oc (f i)))(ho:∀k,k≠hp nm.f->Abs.look L' k=Abs.look L k):
  HasD L' nm N {D with free:=f} src:=by
 have ap:=h.ap;refine⟨hb,h.nd,?_,?_,fun hm=> ?_,fun hm=> ?_,fun hm=> ?_,fun hm=> ?_,fun i' hi'=> ?_⟩
 ·rw[ho _ (hpne ap.df)];exact h.hd
 ·rw[ho _ (hpne ap.gf)];exact h.hg
 ·rw[ho _ (hpne ap.rf)];exact h.hr hm
 ·rw[ho _ (hpne ap.of')];exact h.ho hm
 ·exact hl
 ·rw[ho _ (hpne ap.fs.symm)];exact h.hs hm
 ·rw[ho _ (hpne (ap.fa i' hi').symm)];exact h.ha i' hi'
theorem HasD.sub(h:HasD L nm N D src)(hb:blks L')(hs:SubR L L'):HasD L' nm N D src:=
 ⟨hb,h.nd,hs _ _ h.hd,hs _ _ h.hg,fun hm=>hs _ _ (h.hr hm),fun hm=>hs _ _ (h.ho hm),fun hm=>hs _ _ (h.hf hm),fun hm=>hs _ _ (h.hs hm),fun i hi=>hs _ _ (h.ha i hi)⟩
theorem lget{i m:Nat}{v:Nat->Rat}{A:Nat->Nat}{n:Nat}(h:i<m):(tab m fun i=>lineC (v i) (A i) n)[i]? =some [.int (v i).num.sign,.sl ((dig (v i).num.natAbs).map ic),.int ((v i).den:Int).sign,.sl ((dig ((v i).den:Int).natAbs).map ic),.ref (A i) 35 4 n]:=jfm h
theorem oget{i m:Nat}{o:Nat->Nat}(h:i<m):(tab m fun i=>oc (o i))[i]? =some [.int (o i:Int)]:=jfm h
theorem sget{i m:Nat}{o:Nat->Int×Bool}(h:i<m):(tab m fun i=>srcC (o i))[i]? =some [.int (o i).1,.bool (o i).2]:=jfm h
end
end
section
open Go.Abs
open Go.LP (Dic)
attribute [local go_sem] ints ic big frac fc
def jbu(vars:Nat->Nat)(ch:Nat->Bool):Nat->Int
 | 0=> -1
 | k+1=>if(ch k&&(decide (jbu vars ch k<0) || decide (vars k<vars (jbu vars ch k).toNat)))=true then(k:Int)else jbu vars ch k
theorem jdj(vars:Nat->Nat)(ch:Nat->Bool):∀k,-1<=jbu vars ch k/\jbu vars ch k<k
 | 0=>by simp[jbu]
 | k+1=>by
  have:=jdj vars ch k;rw[jbu];split<;>omega
theorem jd0{vars:Nat->Nat}{ch:Nat->Bool}:∀{k},jbu vars ch k<0->∀i,i<k->ch i=false
 | k+1,h,i,hi=>by
  rw[jbu]at h;split at h
  ·omega
  ·rename_i hc;rcases vo (vC hi)with h1 | h1
   ·exact jd0 h i h1
   ·subst h1;rw[za h,vj,Bool.and_true]at hc
    simpa using hc
theorem jdd{vars:Nat->Nat}{ch:Nat->Bool}:∀{k},0<=jbu vars ch k->ch (jbu vars ch k).toNat=true/\∀i,i<k->ch i=true->vars (jbu vars ch k).toNat<=vars i
 | 0,h=>by simp[jbu]at h
 | k+1,h=>by
  have hl:=jdj vars ch k;rw[jbu]at h⊢;split at h
  ·rename_i hc;rw[zm hc,Int.toNat_natCast];rw[zr,qX,zK,zK]at hc;refine⟨hc.1,fun i hi hch=> ?_⟩;rcases vo (vC hi)with h1 | h1
   ·rcases hc.2 with h2 | h2
    ·rw[jd0 h2 i h1]at hch;cases hch
    ·by_cases h0:0<=jbu vars ch k
     ·have:=(jdd h0).2 i h1 hch;omega
     ·rw[jd0 (vars:=vars) (ch:=ch) (k:=k) (by omega) i h1]at hch;cases hch
   ·subst h1;exact zB _
  ·rename_i hc;rw[zn hc];obtain⟨h1,h2⟩:=jdd h;refine⟨h1,fun i hi hch=> ?_⟩;rcases vo (vC hi)with h3 | h3
   ·exact h2 i h3 hch
   ·subst h3;rw[hch,qe,qX,zK,zK]at hc;omega
theorem caps_toH(caps:List IV):(caps.map AV.im).map AV.toH=caps.map AV.im:=by simp[AV.toH,Function.comp_def]
theorem jg3(L:Abs.Rows)(O m:Nat)(vars:Nat->Nat)(ch:Nat->Bool)(g:Nat)(caps:List IV)(hg:3<=g/\g<G.fns)(hL:blks L)(hO:m≠0->Abs.look L (hp O)=some (1,tab m fun i=>oc (vars i)))(hm:m<=100000)(hv:∀i,i<m->vars i<=1000000)
  (hc:∀i,i<m->CtrH G.P g (.im (.int (i:Int))::caps.map .im) L (fun r L'=>r= .im (.bool (ch i))/\L'=L)):
  CtrH G.P 180 [.im (sl0 O 3 1 m),.im (.clo g caps)] L (fun r L'=>r= .im (.int (jbu vars ch m))/\L'=L):=by
 have F1:=bF hL;have K1:=bK hL;have G1:=bN hL;rcases yP m with h0 | h0
 ·subst h0;rw[jbc];refine jav [] [] [.tmp 4] Tryz.func180 ?_;simp only[F1,K1,go_sem];refine jaz [5,10,9] (fun g:Unit=>⟨[(5,.im (.int (-1))),(10,.im (.int 0)),(9,.im (.int 0))],L,[]⟩) (fun _=>True) (fun _=>0) () ?_ ?_ rfl trivial ?_
  ·simp only[go_sem]
  ·exact SubR.of_eq rfl
  ·intro _ _;simp only[go_sem];refine jbh L hL (SubR.of_eq rfl) ?_;simp only[jbu,go_sem]
 ·rw[jao (by omega)];have hO:=hO (by omega);refine jav [] [] [.tmp 4] Tryz.func180 ?_;simp only[F1,K1,go_sem];refine jaz [0,1,5,8,9,10] (fun k:Nat=>⟨[(0,.im (.ref O 3 1 m)),(1,.im (.clo g caps)),(5,.im (.int (jbu vars ch k))),(8,.im (.ref O 3 1 m)),(9,.im (.int m)),(10,.im (.int k))],L,[]⟩)
   (fun k=>k<=m) (fun k=>m-k) 0 ?_ ?_ rfl (zE _) ?_
  ·simp only[Int.natCast_zero,jbu,go_sem]
  ·exact SubR.of_eq rfl
  ·intro k hk;by_cases hlt:k<m
   ·have hd:decide ((k:Int)<m)=true:=za (by omega);have hkm:(k:Int)<m:=by omega
    have h1:=ja9 (n:=(k:Int)+1) (by omega);have hlf:=jdj vars ch k;have hgk:=oget (o:=vars) hlt;have hck:=hc k hlt;have hls:jbu vars ch (k+1)=if(ch k&&(decide (jbu vars ch k<0) || decide (vars k<vars (jbu vars ch k).toNat)))=true then(k:Int)else jbu vars ch k:=rfl
    generalize hr0:jbu vars ch k=r0 at*;have hgr:0<=r0->(tab m fun i=>oc (vars i))[r0.toNat]? =some [.int (vars r0.toNat:Int)]:=fun h=>oget (by omega);have hv1:=hv k hlt;generalize ch k=c at*;have hw: -9223372036854775808<=(k:Int)+1:=by omega
    simp only[hd,hO,hgk,hkm,ja6,Int.toNat_natCast,F1,K1,G1,go_sem];refine jd4 hck hg (by rw[qW,caps_toH];rfl) hL (SubR.of_eq rfl) ?_;rintro r L' ⟨rfl,rfl⟩ hfr;refine⟨L',jbn,?_⟩;cases c
    ·rw[qp,zn yz]at hls;simp only[hd,hO,hgk,hkm,ja6,Int.toNat_natCast,F1,K1,G1,go_sem];refine jaa (k+1) ?_ (SubR.of_eq rfl) rfl (by omega) hlt;simp only[h1,hls,Int.natCast_add,go_sem]
    ·rw[qe]at hls;by_cases hneg:r0<0
     ·have hd1:decide (r0<0)=true:=za hneg;rw[hd1,vj,zm rfl]at hls;simp only[hd,hd1,hO,hgk,hkm,ja6,Int.toNat_natCast,F1,K1,G1,go_sem];refine jaa (k+1) ?_ (SubR.of_eq rfl) rfl (by omega) hlt;simp only[h1,hls,Int.natCast_add,go_sem]
     ·have hd1:decide (r0<0)=false:=zq hneg;have hgr:=hgr (by omega);have hr1:0<=r0:=by omega
      have hr2:r0<m:=by omega
      rw[hd1,yk]at hls;by_cases hlt2:vars k<vars r0.toNat
      ·have hd2:decide ((vars k:Int)<vars r0.toNat)=true:=za (by omega);rw[za hlt2,zm rfl]at hls;simp only[hd,hd1,hd2,hO,hgk,hgr,hr1,hr2,hkm,ja6,Int.toNat_natCast,F1,K1,G1,go_sem];refine jaa (k+1) ?_ (SubR.of_eq rfl) rfl (by omega) hlt;simp only[h1,hls,Int.natCast_add,go_sem]
      ·have hd2:decide ((vars k:Int)<vars r0.toNat)=false:=zq (by omega);rw[zq hlt2,zn yz]at hls;simp only[hd,hd1,hd2,hO,hgk,hgr,hr1,hr2,hkm,ja6,Int.toNat_natCast,F1,K1,G1,go_sem];refine jaa (k+1) ?_ (SubR.of_eq rfl) rfl (by omega) hlt;simp only[h1,hls,Int.natCast_add,go_sem]
   ·have hd:decide ((k:Int)<m)=false:=zq (by omega);have hkm:k=m:=by omega
    subst hkm;simp only[hd,go_sem];refine jbh L hL (SubR.of_eq rfl) ?_;simp only[go_sem]
end
section
open Go.Abs
open Go.LP (Dic)
attribute [local go_sem] ints ic big frac fc
section
variable{L:Abs.Rows}{nm:DN}{N:Nat}{D:Dic}{src:Nat->Int×Bool}
theorem x_c1(h:HasD L nm N D src){i:Nat}(hi:i<D.m):
  CtrH G.P 181 [.im (.int i),.im (.ip [.pr nm.d 6 0 0] 0)] L (fun r L'=>r= .im (.bool (decide (D.v i<0)))/\L'=L):=by
 have hb:=h.blk;have F1:=bF hb;have G1:=bN hb;have h1:=h.hd;have h2:=h.hr (by omega);have hm0:D.m≠0:=by omega
 have hi':(i:Int)<D.m:=by omega
 have hg:=lget (v:=D.v) (A:=nm.a) (n:=D.n) hi;have e:decide (D.v i<0)=decide ((D.v i).num.sign<0):=yG.2 sign_neg.symm;rw[e];refine jav [] [] [.tmp 3] Tryz.func181 ?_;simp only[h1,h2,hg,hi',jao hm0,ja6,Int.toNat_natCast,F1,G1,go_sem];refine jbh L hb (SubR.of_eq rfl) ?_;simp only[go_sem]
theorem x_c2(h:HasD L nm N D src){j:Nat}(hj:j<D.n):
  CtrH G.P 182 [.im (.int j),.im (.ip [.pr nm.d 6 0 0] 0)] L (fun r L'=>r= .im (.bool (decide (0<D.g j)))/\L'=L):=by
 have hb:=h.blk;have F1:=bF hb;have G1:=bN hb;have h1:=h.hd;have h2:=h.hg;have hj':(j:Int)<D.n:=by omega
 have hg:=qget (f:=D.g) hj;have e:decide (0<D.g j)=decide (0<(D.g j).num.sign):=yG.2 sign_pos.symm;rw[e];refine jav [] [] [.tmp 3] Tryz.func182 ?_;simp only[h1,h2,hg,hj',ja6,Int.toNat_natCast,F1,G1,go_sem];refine jbh L hb (SubR.of_eq rfl) ?_;simp only[go_sem]
theorem x_c3(h:HasD L nm N D src){r:Nat}(hr:r<D.m){j:Nat}(hj:j<D.n):
  CtrH G.P 183 [.im (.int j),.im (.ip [.pr nm.d 6 0 0] 0),.im (.ip [.int (r:Int)] 0)] L (fun x L'=>x= .im (.bool (decide (D.a r j<0)))/\L'=L):=by
 have hb:=h.blk;have F1:=bF hb;have G1:=bN hb;have h1:=h.hd;have h2:=h.hr (by omega);have h3:=h.ha r hr;have hm0:D.m≠0:=by omega
 have hr':(r:Int)<D.m:=by omega
 have hj':(j:Int)<D.n:=by omega
 have hg:=lget (v:=D.v) (A:=nm.a) (n:=D.n) hr;have hg2:=qget (f:=D.a r) hj;have e:decide (D.a r j<0)=decide ((D.a r j).num.sign<0):=yG.2 sign_neg.symm;rw[e];refine jav [] [] [.tmp 4] Tryz.func183 ?_;simp only[F1,go_sem];refine jac 15 ?_;simp only[h1,h2,h3,hg,hg2,hr',hj',jao hm0,ja6,Int.toNat_natCast,F1,G1,go_sem];refine jbh L hb (SubR.of_eq rfl) ?_;simp only[go_sem]
theorem x_c4(h:HasD L nm N D src){s:Nat}(hs:s<D.n){i:Nat}(hi:i<D.m):
  CtrH G.P 184 [.im (.int i),.im (.ip [.pr nm.d 6 0 0] 0),.im (.ip [.int (s:Int)] 0)] L (fun x L'=>x= .im (.bool (decide (0<D.a i s)))/\L'=L):=by
 have hb:=h.blk;have F1:=bF hb;have G1:=bN hb;have h1:=h.hd;have h2:=h.hr (by omega);have h3:=h.ha i hi;have hm0:D.m≠0:=by omega
 have hi':(i:Int)<D.m:=by omega
 have hs':(s:Int)<D.n:=by omega
 have hg:=lget (v:=D.v) (A:=nm.a) (n:=D.n) hi;have hg2:=qget (f:=D.a i) hs;have e:decide (0<D.a i s)=decide (0<(D.a i s).num.sign):=yG.2 sign_pos.symm;rw[e];refine jav [] [] [.tmp 4] Tryz.func184 ?_;simp only[F1,go_sem];refine jac 15 ?_;simp only[h1,h2,h3,hg,hg2,hi',hs',jao hm0,ja6,Int.toNat_natCast,F1,G1,go_sem];refine jbh L hb (SubR.of_eq rfl) ?_;simp only[go_sem]
