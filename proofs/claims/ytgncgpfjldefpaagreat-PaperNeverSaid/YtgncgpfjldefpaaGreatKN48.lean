/- A part of the proof. No further condition. -/
import Derived.Test.YtgncgpfjldefpaaGreatKN47
set_option linter.all false
set_option maxRecDepth 10000000
set_option maxHeartbeats 16000000
namespace Go.Proofs.YtgncgpfjldefpaaGreat
section
open Go.Abs
open Go.LP (Rw RT tsum Sol tsum_app)
def ptH(M:Nat)(H:List (List Rat))(k:Nat):Rat:=(H.getD (k/M) []).getD (k % M) 0
theorem pt_at{M:Nat}{H:List (List Rat)}(i:Nat){m:Nat}(hm:m<M):ptH M H (i*M+m)=(H.getD i []).getD m 0:=by
 unfold ptH;rw[y9 i M,Nat.mul_add_div (by omega),jS hm,Nat.add_zero,vV,jr hm]
theorem getD_some{α:Type}{l:List α}{i:Nat}{x d:α}(h:l[i]? =some x):l.getD i d=x:=by rw[zN,h];rfl
theorem jev{α:Type}{l:List α}{i:Nat}(h:i<l.length):∃x,l[i]? =some x:=⟨_,ze h⟩
theorem jot(ts:List (Nat×Rat))(t:Nat×Rat)(x:Nat->Rat):tsum (ts++[t]) x=tsum ts x+t.2*x t.1:=by
 rw[tsum_app];show tsum ts x+(t.2*x t.1+0)=_;rw[yV]
theorem jkf{M mv:Nat}{b own more:Int}{H:List (List Rat)}{l:List Rat}(hl:H[mv]? =some l)(hM:l.length=M):∀k,k<=M->tsum (sumT M mv b own more k) (ptH M H)=(b:Rat)*sumF (l.take k)+(if 0<=own/\own<(k:Int)then(more:Rat)*l.getD own.toNat 0 else 0)
 | 0,_=>by
  rw[zp (by omega)];show(0:Rat)=(b:Rat)*((0:Int):Rat)+0;rw[show((0:Int):Rat)=0 from rfl,Rat.mul_zero,yV]
 | k+1,hk=>by
  have ih:=jkf (b:=b) (own:=own) (more:=more) hl hM k (by omega);obtain⟨f,hf⟩:=jev (l:=l) (i:=k) (by omega);have hx:ptH M H (mv*M+k)=f:=by rw[pt_at mv (by omega),getD_some hl,getD_some hf]
  have hs:tsum (sumT M mv b own more (k+1)) (ptH M H)=tsum (sumT M mv b own more k) (ptH M H)+((coF b own more k:Int):Rat)*f:=by
   rw[sumT];split
   ·rename_i h;rw[h,show((0:Int):Rat)=0 from rfl,Rat.zero_mul,yV]
   ·rw[jot,hx]
  rw[hs,ih,joz hf];unfold coF;by_cases ho:(k:Int)=own
  ·have h1:own.toNat=k:=by omega
   rw[zp (by omega),zm ho,zm (by omega),h1,getD_some hf,jY];grind
  ·rw[zp ho];by_cases h2:0<=own/\own<(k:Int)
   ·rw[zm h2,zm (by omega)];grind
   ·rw[zp h2,zp (by omega)];grind
def flowS(M:Nat)(fr:Int)(mat:Nat)(ms:List Move)(x:Nat->Rat):Nat->Rat
 | 0=>0
 | i+1=>match ms[i]? with
  | some y=>flowS M fr mat ms x i+((sgnF fr y:Int):Rat)*x (i*M+mat)
  | none=>flowS M fr mat ms x i
theorem jma{M:Nat}{fr:Int}{mat:Nat}{ms:List Move}{x:Nat->Rat}:∀i,tsum (jal M fr mat ms i) x=flowS M fr mat ms x i
 | 0=>rfl
 | i+1=>by
  have ih:=jma (M:=M) (fr:=fr) (mat:=mat) (ms:=ms) (x:=x) i;rw[jal,flowS];cases ms[i]? with
  | none=>exact ih
  | some y=>
   dsimp only;split
   ·rename_i h;rw[ih,h,show((0:Int):Rat)=0 from rfl,Rat.zero_mul,yV]
   ·rw[jot,ih]
theorem jiz{α:Type}{l:List α}{i p:Nat}{v d:α}:(l.set i v).getD p d=if p=i/\i<l.length then v else l.getD p d:=by
 rw[zN,zN,yJ];by_cases h:i=p
 ·subst h;rw[zm rfl];by_cases h2:i<l.length
  ·rw[zm h2,zm ⟨rfl,h2⟩];rfl
  ·rw[zp h2,zp (fun h=>h2 h.2),qM (by omega)]
 ·rw[zp h,zp (fun e=>h e.1.symm)]
def dl(fr to p:Nat)(f:Rat):Rat:=if p=fr then-f else if p=to then f else 0
theorem step_get{P n fr to m k p:Nat}{f:Rat}{T:List (List Rat)}(hT:Stk P n T)(h1:fr<P)(h2:to<P)(hne:fr≠to)(hm:m<n)(hp:p<P):
  ((stepS fr to k f T).getD p []).getD m 0=(T.getD p []).getD m 0+(if m=k then dl fr to p f else 0):=by
 have hr:∀q,q<P->(T.getD q []).length=n:=fun q hq=>hT.2 _ (jho (by rw[hT.1];exact hq));have e1:(T.set fr ((T.getD fr []).set k ((T.getD fr []).getD k 0-f))).getD to []=T.getD to []:=by
  rw[jiz,zp (fun h=>hne h.1.symm)]
 unfold stepS;dsimp only;rw[e1,jiz,zZ,hT.1];by_cases ht:p=to
 ·subst ht;have hd:dl fr p p f=f:=by unfold dl;rw[zp (fun e=>hne e.symm),zm rfl]
  rw[zm ⟨rfl,h2⟩,jiz,hr p hp,hd];by_cases hk:m=k
  ·subst hk;rw[zm ⟨rfl,hm⟩,zm rfl]
  ·rw[zp (fun h=>hk h.1),zp hk,yV]
 ·rw[zp (fun h=>ht h.1),jiz,hT.1];by_cases hf:p=fr
  ·subst hf;have hd:dl p to p f= -f:=by unfold dl;rw[zm rfl]
   rw[zm ⟨rfl,h1⟩,jiz,hr p hp,hd];by_cases hk:m=k
   ·subst hk;rw[zm ⟨rfl,hm⟩,zm rfl];grind
   ·rw[zp (fun h=>hk h.1),zp hk,yV]
  ·have hd:dl fr to p f=0:=by unfold dl;rw[zp hf,zp ht]
   rw[zp (fun h=>hf h.1),hd];split<;>rw[yV]
theorem car_get{P n fr to m p:Nat}{l:List Rat}{S:List (List Rat)}(hS:Stk P n S)(h1:fr<P)(h2:to<P)(hne:fr≠to)(hm:m<n)(hp:p<P):∀k,((carN S fr to l k).getD p []).getD m 0=(S.getD p []).getD m 0+(if m<k then dl fr to p (l.getD m 0)else 0)
 | 0=>by rw[carN,zp (by omega),yV]
 | k+1=>by
  rw[carN,step_get (hS.car h1 h2 k) h1 h2 hne hm hp,car_get hS h1 h2 hne hm hp k];by_cases hk:m=k
  ·subst hk;rw[zp (qX _),zm rfl,zm (js _),yV]
  ·rw[zp hk,yV];by_cases h3:m<k
   ·rw[zm h3,zm (by omega)]
   ·rw[zp h3,zp (by omega)]
section
variable{e:Evid}{H:List (List Rat)}
def S0(e:Evid):List (List Rat):=List.replicate e.places.length (List.replicate e.mats.toNat ((0:Int):Rat))
theorem S0_stk:Stk e.places.length e.mats.toNat (S0 e):=⟨by unfold S0;simp,fun r hr=>by rw[(j7.1 hr).2];simp⟩
theorem S0_get{p m:Nat}:((S0 e).getD p []).getD m 0=0:=by
 rcases zX p e.places.length with h | h
 ·rw[getD_some (l:=S0 e) (x:=List.replicate e.mats.toNat ((0:Int):Rat)) (by unfold S0;rw[qO,zm h])];rcases zX m e.mats.toNat with h2 | h2
  ·rw[getD_some (x:=((0:Int):Rat)) (by rw[qO,zm h2])];rfl
  ·rw[zN,qM (by simp;omega)];rfl
 ·rw[zN (l:=S0 e),qM (by unfold S0;simp;omega)];rfl
theorem move_at{x:Move}(h:moveF e x=true):((0<=x.fr/\x.fr<(e.places.length:Int))/\(0<=x.to/\x.to<(e.places.length:Int)))/\x.fr≠x.to:=by
 simp only[moveF,zu,ya,qm,jo5]at h;exact⟨⟨h.1.1.1.1.1.1.1,h.1.1.1.1.1.1.2⟩,h.1.1.1.1.1.2⟩
theorem st_get(hm:∀x∈e.moves,moveF e x=true)(hH:H.length=e.moves.length)(hl:∀l∈H,l.length=e.mats.toNat){p m:Nat}(hp:p<e.places.length)(hmm:m<e.mats.toNat):∀i,i<=e.moves.length->
  Stk e.places.length e.mats.toNat (stN e.moves H e.mats.toNat (S0 e) i)/\((stN e.moves H e.mats.toNat (S0 e) i).getD p []).getD m 0=flowS e.mats.toNat (p:Int) m e.moves (ptH e.mats.toNat H) i
 | 0,_=>⟨S0_stk,S0_get⟩
 | i+1,hi=>by
  obtain⟨ih1,ih2⟩:=st_get hm hH hl hp hmm i (by omega);obtain⟨x,hx⟩:=jev (l:=e.moves) (i:=i) (by omega);obtain⟨l,hli⟩:=jev (l:=H) (i:=i) (by omega);obtain⟨⟨⟨a1,a2⟩,b1,b2⟩,hne⟩:=move_at (hm x (zl hx));have q1:x.fr.toNat<e.places.length:=by omega
  have q2:x.to.toNat<e.places.length:=by omega
  rw[jnm hx hli];refine⟨Stk.car ih1 q1 q2 _,?_⟩;rw[car_get ih1 q1 q2 (by omega) hmm hp,ih2,flowS,hx,zm hmm,pt_at i hmm,getD_some hli];dsimp only;refine qg _ ?_;by_cases h1:p=x.fr.toNat
  ·have e1:dl x.fr.toNat x.to.toNat p (l.getD m 0)= -l.getD m 0:=by unfold dl;rw[zm h1]
   have e2:sgnF (p:Int) x= -1:=by unfold sgnF;rw[zm (by omega)]
   rw[e1,e2,show((-1:Int):Rat)= -1 by decide];grind
  ·by_cases h2:p=x.to.toNat
   ·have e1:dl x.fr.toNat x.to.toNat p (l.getD m 0)=l.getD m 0:=by unfold dl;rw[zp h1,zm h2]
    have e2:sgnF (p:Int) x=1:=by unfold sgnF;rw[zp (by omega),zm (by omega)]
    rw[e1,e2,show((1:Int):Rat)=1 by decide];grind
   ·have e1:dl x.fr.toNat x.to.toNat p (l.getD m 0)=0:=by unfold dl;rw[zp h1,zp h2]
    have e2:sgnF (p:Int) x=0:=by unfold sgnF;rw[zp (by omega),zp (by omega)]
    rw[e1,e2,show((0:Int):Rat)=0 by decide,Rat.zero_mul]
def okAt(e:Evid)(H:List (List Rat))(k:Nat)(x:Move)(l:List Rat):Prop:=
 l.any negF=false/\jfu ((e.places[x.fr.toNat]?.map Place.kind).getD 0) ((stN e.moves H e.mats.toNat (S0 e) k).getD x.fr.toNat []) x l=0/\jdf e x (sumF l)=true/\pureF e k l (sumF l)=true
theorem go_iff(hH:H.length=e.moves.length):∀(ms:List Move) (i:Nat),e.moves.drop i=ms->(jh0 e H (S0 e) i ms=0↔∀k x l,i<=k->e.moves[k]? =some x->H[k]? =some l->okAt e H k x l)
 | [],i,h=>by
  have hi:=List.drop_eq_nil_iff.1 h;refine⟨fun _ k x l hk hx=> ?_,fun _=>rfl⟩;rw[qM (by omega)]at hx;cases hx
 | x::ms,i,h=>by
  have hi:i<e.moves.length:=by
   rcases zX i e.moves.length with h1 | h1
   ·exact h1
   ·rw[zV h1]at h;cases h
  have hx:e.moves[i]? =some x:=by
   have:=yz (xs:=e.moves) (i:=i) (j:=0);rw[h]at this;simpa using this.symm
  obtain⟨l,hl⟩:=jev (l:=H) (i:=i) (by omega);have ih:=go_iff hH ms (i+1) (by rw[<-vn,h];rfl);have key:(∀k x l,i<=k->e.moves[k]? =some x->H[k]? =some l->okAt e H k x l)↔okAt e H i x l/\∀k x l,i+1<=k->e.moves[k]? =some x->H[k]? =some l->okAt e H k x l:=by
   refine⟨fun h=>⟨h i x l (zB _) hx hl,fun k y q hk=>h k y q (by omega)⟩,fun h k y q hk hy hq=> ?_⟩;by_cases e1:k=i
   ·subst e1;rw[hx]at hy;rw[hl]at hq;cases hy;cases hq;exact h.1
   ·exact h.2 k y q (by omega) hy hq
  rw[key,<-ih,jh0,hl];dsimp only;unfold okAt;generalize jfu ((e.places[x.fr.toNat]?.map Place.kind).getD 0) ((stN e.moves H e.mats.toNat (S0 e) i).getD x.fr.toNat []) x l=T;generalize l.any negF=N;generalize jdf e x (sumF l)=W;generalize pureF e i l (sumF l)=P;generalize jh0 e H (S0 e) (i+1) ms=R;by_cases hT:T=0
  ·cases N<;>cases W<;>cases P<;>simp[hT]
  ·cases N<;>cases W<;>cases P<;>simp[hT]
theorem taken_iff{kind:Int}{a l:List Rat}{x:Move}{n:Nat}(ha:a.length=n)(hl:l.length=n):jfu kind a x l=0↔kind=0\/((∀m,m<n->l.getD m 0<=a.getD m 0)/\(x.all=true->∀m,m<n->a.getD m 0<=l.getD m 0)):=by
 have gt:∀p:Rat×Rat,gtP p=true↔p.2<p.1:=fun p=>by
  rw[gtP,jg,<-cmpR_pos (a:=p.1) (b:=p.2)];constructor
  ·intro h;omega
  ·intro h;unfold cmpR cmpI at h⊢;split at h
   ·omega
   ·split at h
    ·omega
    ·rename_i h1 h2;rw[zp h1,zp h2]
 have lt:∀p:Rat×Rat,ltP p=true↔p.1<p.2:=fun p=>by
  rw[ltP,jg,<-cmpR_neg (a:=p.1) (b:=p.2)];constructor
  ·intro h;omega
  ·intro h;unfold cmpR cmpI at h⊢;split at h
   ·rename_i h1;rw[zm h1]
   ·split at h<;>omega
 have zip:∀(f:Rat×Rat->Bool),(l.zip a).any f=true↔∃m,m<n/\f (l.getD m 0,a.getD m 0)=true:=fun f=>by
  rw[jf];constructor
  ·rintro⟨p,hp,hf⟩;obtain⟨m,hm,e⟩:=jw hp;rw[vY,ha,hl]at hm;rw[List.getElem_zip]at e;refine⟨m,by omega,?_⟩;rw[getD_some (ze (by omega)),getD_some (ze (by omega)),e];exact hf
  ·rintro⟨m,hm,hf⟩;refine⟨(l.getD m 0,a.getD m 0),?_,hf⟩;rw[getD_some (ze (by omega)),getD_some (ze (by omega))];exact List.mem_iff_getElem.2 ⟨m,by rw[vY];omega,List.getElem_zip⟩
 have hg:(l.zip a).any gtP=true↔¬∀m,m<n->l.getD m 0<=a.getD m 0:=by
  rw[zip];constructor
  ·rintro⟨m,hm,h⟩ hh;have h1:=(gt _).1 h;have h2:=hh m hm;dsimp only at h1;grind
  ·intro h;rcases Classical.not_forall.1 h with ⟨m,hm⟩;rcases Classical.not_imp.1 hm with ⟨h1,h2⟩;exact⟨m,h1,(gt _).2 (by dsimp only;grind)⟩
 have hlt:(l.zip a).any ltP=true↔¬∀m,m<n->a.getD m 0<=l.getD m 0:=by
  rw[zip];constructor
  ·rintro⟨m,hm,h⟩ hh;have h1:=(lt _).1 h;have h2:=hh m hm;dsimp only at h1;grind
  ·intro h;rcases Classical.not_forall.1 h with ⟨m,hm⟩;rcases Classical.not_imp.1 hm with ⟨h1,h2⟩;exact⟨m,h1,(lt _).2 (by dsimp only;grind)⟩
 unfold jfu;by_cases hk:kind=0
 ·simp[hk]
 rw[zp hk];by_cases h1:∀m,m<n->l.getD m 0<=a.getD m 0
 ·rw[zp (fun h=>hg.1 h h1)];by_cases h2:∀m,m<n->a.getD m 0<=l.getD m 0
  ·have:(l.zip a).any ltP=false:=by
    rcases h:(l.zip a).any ltP with _ | _
    ·rfl
    ·exact absurd h2 (hlt.1 h)
   rw[this];exact⟨fun _=> .inr ⟨h1,fun _=>h2⟩,fun _=>rfl⟩
  ·rw[hlt.2 h2,z8];rcases hx:x.all with _ | _
   ·exact⟨fun _=> .inr ⟨h1,fun h=>(by cases h)⟩,fun _=>rfl⟩
   ·refine⟨fun h=>(by cases h),fun h=> ?_⟩;rcases h with h | h
    ·exact absurd h hk
    ·exact absurd (h.2 rfl) h2
 ·rw[zm (hg.2 h1)];refine⟨fun h=>(by cases h),fun h=> ?_⟩;rcases h with h | h
  ·exact absurd h hk
  ·exact absurd h.1 h1
end
end
section
open Go.Abs
open Go.LP (Rw RT tsum Sol tsum_app)
section
variable{e:Evid}{H:List (List Rat)}
theorem jng{l:List Rat}{M:Nat}(h:l.length=M):l.take M=l:=zD (by omega)
theorem jp1(hm:∀x∈e.moves,moveF e x=true)(hH:H.length=e.moves.length)(hl:∀l∈H,l.length=e.mats.toNat){k:Nat}{x:Move}{l:List Rat}(hx:e.moves[k]? =some x)(hk:H[k]? =some l):
  (∀w∈(if binF e x=true then []else jea e.mats.toNat e.moves k x e.mats.toNat),w.sat (ptH e.mats.toNat H))↔
   jfu ((e.places[x.fr.toNat]?.map Place.kind).getD 0) ((stN e.moves H e.mats.toNat (S0 e) k).getD x.fr.toNat []) x l=0:=by
 have hkl:k<e.moves.length:=by
  rcases zX k e.moves.length with h | h
  ·exact h
  ·rw[qM h]at hx;cases hx
 obtain⟨⟨⟨a1,a2⟩,b1,b2⟩,hne⟩:=move_at (hm x (zl hx));have q1:x.fr.toNat<e.places.length:=by omega
 obtain⟨pl,hpl⟩:=jev q1;have hll:=hl l (zl hk);have hst:=fun{m:Nat} (hmm:m<e.mats.toNat)=>st_get hm hH hl q1 hmm k (by omega);by_cases hM:e.mats.toNat=0
 ·have e1:jea e.mats.toNat e.moves k x e.mats.toNat=[]:=by rw[hM];rfl
  have e2:l=[]:=zP (by omega);rw[e1,e2];refine⟨fun _=> ?_,fun _ w hw=> ?_⟩
  ·unfold jfu;simp
  ·split at hw<;>cases hw
 have hlen:((stN e.moves H e.mats.toNat (S0 e) k).getD x.fr.toNat []).length=e.mats.toNat:=by
  have h:=(hst (m:=0) (by omega)).1;exact h.2 _ (jho (by rw[h.1];exact q1))
 rw[taken_iff hlen hll,hpl];have hb:binF e x=true↔pl.kind=0:=by unfold binF;rw[hpl];exact jg
 show _↔pl.kind=0\/_;by_cases h0:pl.kind=0
 ·rw[zm (hb.2 h0)];exact⟨fun _=> .inl h0,fun _ w hw=>by cases hw⟩
 rw[zp (fun h=>h0 (hb.1 h))];have ht:∀m,m<e.mats.toNat->tsum (jal e.mats.toNat x.fr m e.moves (k+1)) (ptH e.mats.toNat H)=((stN e.moves H e.mats.toNat (S0 e) k).getD x.fr.toNat []).getD m 0-l.getD m 0:=fun m hmm=>by
  have e1:((x.fr.toNat:Nat):Int)=x.fr:=by omega
  have e2:sgnF x.fr x= -1:=by unfold sgnF;rw[zm rfl]
  rw[jma,flowS,hx,(hst hmm).2,e1,pt_at k hmm,getD_some hk];dsimp only;rw[e2,show((-1:Int):Rat)= -1 by decide];grind
 constructor
 ·intro h;refine .inr ⟨fun m hmm=> ?_,fun ha m hmm=> ?_⟩
  ·have h1:=(h _ (mem_stockR.2 ⟨m,hmm,rfl⟩)).1 (by dsimp only;split<;>decide);dsimp only at h1;rw[ht m hmm]at h1;grind
  ·have h1:=(h _ (mem_stockR.2 ⟨m,hmm,rfl⟩)).2 (by dsimp only;rw[zm ha];decide);dsimp only at h1;rw[ht m hmm]at h1;grind
 ·rintro(h | ⟨h1,h2⟩)
  ·exact absurd h h0
  intro w hw;obtain⟨m,hmm,rfl⟩:=mem_stockR.1 hw;have g1:=h1 m hmm;refine⟨fun _=> ?_,fun hk2=> ?_⟩
  ·dsimp only;rw[ht m hmm];grind
  ·dsimp only at hk2⊢;rw[ht m hmm];rcases ha:x.all with _ | _
   ·rw[ha]at hk2;exact absurd rfl hk2
   ·have g2:=h2 ha m hmm;grind
theorem jm9(hl:∀l∈H,l.length=e.mats.toNat){k:Nat}{x:Move}{l:List Rat}(hk:H[k]? =some l):(∀w∈jec e e.mats.toNat k x,w.sat (ptH e.mats.toNat H))↔jdf e x (sumF l)=true:=by
 have hll:=hl l (zl hk);have ht:tsum (sumT e.mats.toNat k 1 (-1) 0 e.mats.toNat) (ptH e.mats.toNat H)=sumF l:=by
  rw[jkf hk hll _ (zB _),jng hll,zp (by omega),show((1:Int):Rat)=1 by decide];grind
 have hle:∀a b:Rat,decide (cmpR a b<=0)=true↔a<=b:=fun a b=>by
  rw[jg];have:=(not_congr (cmpR_pos (a:=a) (b:=b)));constructor
  ·intro h;have:=this.1 (by omega);grind
  ·intro h;have:=this.2 (by grind);omega
 unfold jec jdf;by_cases hs:x.scale= -1
 ·rw[zm hs,zk hs];exact⟨fun _=>rfl,fun _ w hw=>by cases hw⟩
 rw[zp hs,za hs,ym];cases ivlF e.certs e.recalls x.scale x.reading x.day with
 | none=>exact⟨fun _=>rfl,fun _ w hw=>by cases hw⟩
 | some p=>
  obtain⟨lo,hi⟩:=p;dsimp only;rw[zu,hle,hle];constructor
  ·intro h;have h1:=(h ⟨sumT e.mats.toNat k 1 (-1) 0 e.mats.toNat,0,lo⟩ (by simp)).1 (show(0:Int)≠1 by decide);have h2:=(h ⟨sumT e.mats.toNat k 1 (-1) 0 e.mats.toNat,1,hi⟩ (by simp)).2 (show(1:Int)≠0 by decide);dsimp only at h1 h2;rw[ht]at h1 h2;exact⟨h1,h2⟩
  ·rintro⟨h1,h2⟩ w hw;rcases zW.1 hw with rfl | hw
   ·exact⟨fun _=>by rw[ht];exact h1,fun h=>absurd rfl h⟩
   ·rw[zE.1 hw];exact⟨fun h=>absurd rfl h,fun _=>by rw[ht];exact h2⟩
theorem jri(h0:jc5 e=0)(hl:∀l∈H,l.length=e.mats.toNat){k:Nat}{l:List Rat}(hk:H[k]? =some l):(∀w∈purR e.mats.toNat k e.purs,w.sat (ptH e.mats.toNat H))↔pureF e k l (sumF l)=true:=by
 have hll:=hl l (zl hk);unfold pureF purR;rw[List.all_eq_true];have key:∀p∈e.purs,((∀w∈pur1 e.mats.toNat k p,w.sat (ptH e.mats.toNat H))↔pureP k l (sumF l) p=true):=fun p hp=>by
  obtain⟨_,⟨m1,m2⟩,_⟩:=purF_iff.1 (jhs h0 p hp);obtain⟨f,hf⟩:=jev (l:=l) (i:=p.mat.toNat) (by omega);unfold pur1 pureP;by_cases hm:p.move=(k:Int)
  ·rw[zm hm,zk hm,jC,ym];have t1:tsum (sumT e.mats.toNat k (-p.least) p.mat 1000 e.mats.toNat) (ptH e.mats.toNat H)=((1000:Int):Rat)*f-(p.least:Rat)*sumF l:=by
    rw[jkf hk hll _ (zB _),jng hll,zm (by omega),getD_some hf,Rat.intCast_neg];grind
   have t2:tsum (sumT e.mats.toNat k p.most p.mat (-1000) e.mats.toNat) (ptH e.mats.toNat H)=(p.most:Rat)*sumF l-((1000:Int):Rat)*f:=by
    rw[jkf hk hll _ (zB _),jng hll,zm (by omega),getD_some hf,Rat.intCast_neg];grind
   unfold keepF;rw[hf];dsimp only;rw[Bool.not_or,zu,ya,ya,qm,qm,cmpR_neg,cmpR_pos];constructor
   ·intro h;have h1:=(h ⟨sumT e.mats.toNat k (-p.least) p.mat 1000 e.mats.toNat,0,0⟩ (by simp)).1 (show(0:Int)≠1 by decide);have h2:=(h ⟨sumT e.mats.toNat k p.most p.mat (-1000) e.mats.toNat,0,0⟩ (by simp)).1 (show(0:Int)≠1 by decide);dsimp only at h1 h2;rw[t1]at h1;rw[t2]at h2;exact⟨by grind,by grind⟩
   ·rintro⟨h1,h2⟩ w hw;rcases zW.1 hw with rfl | hw
    ·exact⟨fun _=>by rw[t1];dsimp only;grind,fun h=>absurd rfl h⟩
    ·rw[zE.1 hw];exact⟨fun _=>by rw[t2];dsimp only;grind,fun h=>absurd rfl h⟩
  ·rw[zp hm,za hm];exact⟨fun _=>rfl,fun _ w hw=>by cases hw⟩
 constructor
 ·intro h p hp;exact(key p hp).1 fun w hw=>h w (jU.2 ⟨p,hp,hw⟩)
 ·intro h w hw;obtain⟨p,hp,hw⟩:=jU.1 hw;exact(key p hp).2 (h p hp) w hw
theorem hist_iff(h0:jc5 e=0)(hH:H.length=e.moves.length)(hl:∀l∈H,l.length=e.mats.toNat):jh0 e H (S0 e) 0 e.moves=0↔Sol (e.moves.length*e.mats.toNat) (rowsE e) (ptH e.mats.toNat H):=by
 have hm:∀x∈e.moves,moveF e x=true:=joh (jcb h0).2.2.2.2.2.1;rw[go_iff hH e.moves 0 rfl];constructor
 ·intro h;refine⟨fun j hj=> ?_,fun w hw=> ?_⟩
  ·have hM:0<e.mats.toNat:=by
    rcases yO e.mats.toNat with h1 | h1
    ·rw[h1,Nat.mul_zero]at hj;exact absurd hj (y7 _)
    ·exact h1
   have hk:j/e.mats.toNat<e.moves.length:=(Nat.div_lt_iff_lt_mul hM).2 hj;obtain⟨x,hx⟩:=jev hk;obtain⟨l,hli⟩:=jev (l:=H) (i:=j/e.mats.toNat) (by omega);obtain⟨f,hf⟩:=jev (l:=l) (i:=j % e.mats.toNat) (by rw[hl l (zl hli)];exact jH _ hM);have h1:=(h _ x l (zF _) hx hli).1;unfold ptH;rw[getD_some hli,getD_some hf];rw[yK]at h1;have h2:=h1 f (zl hf);rw[negF,jg,sign_neg]at h2;grind
  ·obtain⟨k,x,hk,hx,hw⟩:=mem_rowsU.1 hw;obtain⟨l,hli⟩:=jev (l:=H) (i:=k) (by omega);obtain⟨_,h2,h3,h4⟩:=h k x l (zF _) hx hli;unfold moveR at hw;simp only[qG]at hw;rcases hw with (hw | hw) | hw
   ·exact(jp1 hm hH hl hx hli).2 h2 w hw
   ·exact(jm9 hl hli).2 h3 w hw
   ·exact(jri h0 hl hli).2 h4 w hw
 ·intro h k x l _ hx hli;have hkl:k<e.moves.length:=by
   rcases zX k e.moves.length with h | h
   ·exact h
   ·rw[qM h]at hx;cases hx
  have row:∀w∈moveR e e.mats.toNat k x,w.sat (ptH e.mats.toNat H):=fun w hw=>h.row w (mem_rowsU.2 ⟨k,x,hkl,hx,hw⟩);unfold moveR at row;refine⟨?_,(jp1 hm hH hl hx hli).1 fun w hw=>row w (jl _ (jl _ hw)),(jm9 hl hli).1 fun w hw=>row w (jl _ (vh _ hw)),(jri h0 hl hli).1 fun w hw=>row w (vh _ hw)⟩;rw[yK];intro f hf;obtain⟨m,hm1,he⟩:=jw hf;have hll:=hl l (zl hli);have h1:=h.pos (k*e.mats.toNat+m) (by
   have:(k+1)*e.mats.toNat<=e.moves.length*e.mats.toNat:=qx _ hkl;rw[jo]at this;omega)
  rw[pt_at k (by omega),getD_some hli,getD_some (ze hm1),he]at h1;rw[negF,jg,sign_neg];grind
end
end
section
open Go.Abs
attribute [local go_sem] Evid.iv Evid.c Move.c Place.c ints ic big frac fc Raw.c
theorem jp2{t b0 n:Nat}{bs:List Nat}{S:List (List Rat)}{R:Abs.Rows}(h:SubR (jbv t b0 bs S n) R):∀k x,Abs.look (jbv t b0 bs S n) k=some x->100000<=k/\Abs.look R k=some x:=by
 intro k x hk;refine⟨?_,h k x hk⟩;rcases zX k 100000 with h1 | h1
 ·rw[jcf h1]at hk;cases hk
 ·exact h1
theorem h_takenH(b0 p n:Nat)(bs:List Nat)(e:Evid)(S:List (List Rat))(x:Move)(l a:List Rat)(pl:Place)(hnd:(b0::bs).Nodup)(hs:Stk p n S)(hbl:bs.length=p)(h0:0<=x.fr)(h0':x.fr<p)(hpl:e.places[x.fr.toNat]? =some pl)(ha:S[x.fr.toNat]? =some a)(hla:l.length<=a.length)(hl:l.length<=100000)
  (kl:∀r∈l,FL 19000000000 r) (ka:∀r∈a,FL 19000000000 r):
  CtrH G.P 47 [.im (.ref b0 91 1 p),.im e.iv,.im (.agg x.c),.im (fcs l)] (jbv 69 b0 bs S n)
   (fun r L'=>r= .im (.int (jfu pl.kind a x l))/\L'=jbv 69 b0 bs S n):=by
 unfold fcs jfu;obtain⟨bf,hbf⟩:∃b,bs[x.fr.toNat]? =some b:=⟨_,ze (by omega)⟩;have hal:a.length=n:=hs.2 a (zl ha);have L0:=jrg (t:=69) (b0:=b0) (bs:=bs) (S:=S) (n:=n);have L1:=jqh (t:=69) (n:=n) hnd hbf ha;have F1:=fun(d:Nat) (h:d<100000)=>jij (t:=69) (b0:=b0) (bs:=bs) (S:=S) (n:=n) h;have G1:=fun(d:Nat) (h:d<100000)=>jcf (t:=69) (b0:=b0) (bs:=bs) (S:=S) (n:=n) h;have K1:=fun(d s:Nat) (es:List (List IV)) (h:d<100000)=>jku (t:=69) (b0:=b0) (bs:=bs) (S:=S) (n:=n) (s:=s) (es:=es) h;rcases dk:decide (pl.kind=0)with _ | _
 ·rw[zp (zK dk)];refine jao [] [] [.tmp 8] Tryz.func47 ?_;unfold Evid.iv Evid.c;simp only[h0,zq,hpl,dk,F1,K1,go_sem];refine jb1 [0,5,6,9,20,21,22] (fun i:Nat=>⟨[(0,.im (.ref b0 91 1 p)),(5,.loc 5 8 0 0),(6,.loc 6 6 0 0),(9,.im (.bool (((l.zip a).take i).any ltP))),(20,.im (.sl (l.map fc))),(21,.im (.int l.length)),(22,.im (.int i))],(6,6,[x.c])::(5,8,[e.c])::jbv 69 b0 bs S n,[]⟩)
   (fun i=>i<=l.length/\((l.zip a).take i).any gtP=false) (fun i=>l.length-i) 0 ?_ ?_ rfl ⟨zF _,rfl⟩ ?_
  ·simp only[Int.natCast_zero,go_sem]
  ·exact SubR.of_eq rfl
  ·intro i ⟨hi,hg⟩;by_cases hp:(i:Int)<l.length
   ·have hd:decide ((i:Int)<l.length)=true:=zk hp;obtain⟨f,hf⟩:=jb9 hp;obtain⟨y,hy⟩:∃y,a[i]? =some y:=⟨_,ze (by omega)⟩;have hz:(l.zip a)[i]? =some (f,y):=by rw[List.getElem?_zip_eq_some];exact⟨hf,hy⟩
    have h1:=ja6 (n:=(i:Int)+1) (by omega);have hin:(i:Int)<n:=by omega
    have hc:=f_cmp (kl f (zl hf)) (ka y (zl hy));have t1:=jck (f:=gtP) hz;have t2:=jck (f:=ltP) hz;have e1:gtP (f,y)=decide (cmpR f y=1):=rfl;have e2:ltP (f,y)=decide (cmpR f y= -1):=rfl;generalize cmpR f y=c at*;simp only[frac,ints]at hc;rcases dg:decide (c=1)with _ | _
    ·rw[dg]at e1;rw[hg,e1,Bool.or_false]at t1;rcases dl:decide (c= -1)with _ | _
     ·rw[dl]at e2;rw[e2,Bool.or_false]at t2;simp only[hd,zq,hf,F1,K1,go_sem];refine jaf 10 ?_;simp only[h0,h0',hin,L0,L1,F1,G1,K1,outer,hbf,zq,hy,go_sem];refine ja5 hc (by decide) ?_;simp only[dg,dl,go_sem];refine jae (i+1) ?_ ?_ rfl (by show l.length-(i+1)<l.length-i;omega) ⟨by omega,t1⟩
      ·simp only[h1,Int.natCast_add,t2,go_sem]
      ·exact jbx (by show Abs.look (_::_::jbv _ _ _ _ _) 11=none;rw[ja0 _ _ (by decide),ja0 _ _ (by decide),jcf (by decide)]) (SubR.of_eq rfl)
     ·rw[dl]at e2;rw[e2,zR]at t2;simp only[hd,zq,hf,F1,K1,go_sem];refine jaf 10 ?_;simp only[h0,h0',hin,L0,L1,F1,G1,K1,outer,hbf,zq,hy,go_sem];refine ja5 hc (by decide) ?_;simp only[dg,dl,go_sem];refine jae (i+1) ?_ ?_ rfl (by show l.length-(i+1)<l.length-i;omega) ⟨by omega,t1⟩
      ·simp only[h1,Int.natCast_add,t2,go_sem]
      ·exact jbx (by show Abs.look (_::_::jbv _ _ _ _ _) 11=none;rw[ja0 _ _ (by decide),ja0 _ _ (by decide),jcf (by decide)]) (SubR.of_eq rfl)
    ·rw[dg]at e1;rw[jka hz e1,zm rfl];simp only[hd,zq,hf,F1,K1,go_sem];refine jaf 10 ?_;simp only[h0,h0',hin,L0,L1,F1,G1,K1,outer,hbf,zq,hy,go_sem];refine ja5 hc (by decide) ?_;simp only[dg,go_sem];refine jgw (jbv 69 b0 bs S n) (jp2 ?_) ?_
     ·exact jbx (jcf (by dsimp only;decide)) (jbx (jcf (by dsimp only;decide)) (jbx (jcf (by dsimp only;decide)) (SubR.of_eq rfl)))
     ·simp only[go_sem]
   ·have hd:decide ((i:Int)<l.length)=false:=za hp;have hzl:(l.zip a).length<=i:=by rw[vY];omega
    rw[zD hzl]at hg⊢;rw[hg,zp yq];rcases hany:(l.zip a).any ltP with _ | _
    ·rw[qb,zp yq];simp only[hd,go_sem];refine jgw (jbv 69 b0 bs S n) (jp2 ?_) ?_
     ·exact jbx (jcf (by dsimp only;decide)) (jbx (jcf (by dsimp only;decide)) (SubR.of_eq rfl))
     ·simp only[go_sem]
    ·rw[z8];rcases hall:x.all with _ | _
     ·rw[zp yq];simp only[hd,hall,go_sem];refine jgw (jbv 69 b0 bs S n) (jp2 ?_) ?_
      ·exact jbx (jcf (by dsimp only;decide)) (jbx (jcf (by dsimp only;decide)) (SubR.of_eq rfl))
      ·simp only[go_sem]
     ·rw[zm rfl];simp only[hd,hall,go_sem];refine jgw (jbv 69 b0 bs S n) (jp2 ?_) ?_
      ·exact jbx (jcf (by dsimp only;decide)) (jbx (jcf (by dsimp only;decide)) (SubR.of_eq rfl))
      ·simp only[go_sem]
 ·rw[zm (zJ dk)];refine jao [] [] [.tmp 8] Tryz.func47 ?_;unfold Evid.iv Evid.c;simp only[h0,zq,hpl,dk,F1,K1,go_sem];refine jgw (jbv 69 b0 bs S n) (jp2 ?_) ?_
  ·exact jbx (jcf (by dsimp only;decide)) (jbx (jcf (by dsimp only;decide)) (SubR.of_eq rfl))
  ·simp only[go_sem]
end
section
open Go.Abs
attribute [local go_sem] Evid.iv Evid.c Move.c Place.c ints ic big frac fc Raw.c
theorem Behind_pre{L L':Abs.Rows}:∀(pre:Abs.Rows),(∀p∈pre,Abs.look L p.1=none)->jf1 (pre++L) L L' (pre++L')
 | [],_=>fun _ _ h=> .inl h
 | (j,v)::pre,hp=>fun k x h=>by
  by_cases e:k=j
  ·subst e;rw[List.cons_append,ja2]at h⊢;exact .inr ⟨hp _ (qd ..),h⟩
  ·rw[List.cons_append,ja0 _ _ e]at h⊢;exact Behind_pre pre (fun p h=>hp p (qe _ h)) k x h
theorem h_check(e:Evid)(h:List (List Raw))(H:List (List Rat))(h0:jc5 e=0)(hs:jgg e h=true)(hh:h.map rowC=H.map stC)(hHl:H.length=e.moves.length)
  (hH:∀l∈H,l.length=e.mats.toNat/\∀r∈l,FL 3 r) (hsz:∀l∈h,∀x∈l,x.l.length<=50000000000/\x.m.length<=50000000000) (hrow:∀l∈h,l.length<=100000) (hmv:e.moves.length<=1000) (hpl:e.places.length<=1000)
  (hm1:0<=e.mats) (hm2:e.mats<=100) (hce:e.certs.length<=100000) (hre:e.recalls.length<=100000) (hpe:e.purs.length<=100000) (hmove:∀x∈e.moves,(0<=x.fr/\x.fr<(e.places.length:Int))/\(0<=x.to/\x.to<(e.places.length:Int)))
  (hpur:∀p∈e.purs,(0<=p.mat/\p.mat<e.mats)/\(-9223372036854775808<=p.least/\p.least<=9223372036854775807)/\(-9223372036854775808<=p.most/\p.most<=9223372036854775807)):
  Ctr G.P 19 [e.iv,hist h] (· = .int (jh0 e H (List.replicate e.places.length (List.replicate e.mats.toNat ((0:Int):Rat))) 0 e.moves)):=by
 have k1:=c21 e;rw[h0]at k1;have k2:=jsb e h (by have:=qg List.length hh;simp at this;omega) hrow hsz;rw[hs]at k2;have k3:=h_none e hpl hm1 (by omega);unfold hist at k2⊢;rw[hh]at k2⊢;have hS0:Stk e.places.length e.mats.toNat (List.replicate e.places.length (List.replicate e.mats.toNat ((0:Int):Rat))):=⟨by simp,fun r hr=>by rw[(j7.1 hr).2];simp⟩;have hF0:∀r∈List.replicate e.places.length (List.replicate e.mats.toNat ((0:Int):Rat)),∀x∈r,FL 4 x:=fun r hr x hx=>by
  rw[(j7.1 hr).2]at hx;rw[(j7.1 hx).2];exact jc4 (by omega)
 have hst:=stN_ok hS0 hF0 hmove hH;generalize List.replicate e.places.length (List.replicate e.mats.toNat ((0:Int):Rat))=S0 at*;simp only[Evid.iv,Evid.c]at k1 k2 k3;refine jqw (goodH [] []) _ _ [.tmp 4] Tryz.func19 rfl rfl (by decide+kernel) rfl ?_;unfold Evid.iv Evid.c;simp only[go_sem];refine ja1 k1 ?_;simp only[go_sem];refine ja1 k2 ?_;simp only[go_sem];refine jd0 k3 (by decide) rfl (fun _ _ h=>by cases h) (fun _ _ h=>by cases h) ?_;rintro r L' ⟨b0,bs,rfl,hnd,hbl,rfl⟩ hfresh;refine⟨(2,8,[e.c])::jbv 69 b0 bs S0 e.mats.toNat,?_,?_⟩
 ·intro k x hk;by_cases e2:k=2
  ·subst e2;rw[ja2]at hk;exact .inr ⟨rfl,by rw[<-hk];exact ja2 _ _ _⟩
  ·rw[ja0 _ _ e2]at hk;exact .inl hk
 clear hfresh k1 k2 k3;have F1:=fun(S:List (List Rat)) (d:Nat) (h:d<100000)=>jij (t:=69) (b0:=b0) (bs:=bs) (S:=S) (n:=e.mats.toNat) h;have G1:=fun(S:List (List Rat)) (d:Nat) (h:d<100000)=>jcf (t:=69) (b0:=b0) (bs:=bs) (S:=S) (n:=e.mats.toNat) h;have K1:=fun(S:List (List Rat)) (d s:Nat) (es:List (List IV)) (h:d<100000)=>jku (t:=69) (b0:=b0) (bs:=bs) (S:=S) (n:=e.mats.toNat) (s:=s) (es:=es) h;simp only[go_sem];refine jb1 [1,2,5,20,21,22] (fun i:Nat=>⟨[(1,.im (.sl (H.map stC))),(2,.loc 2 8 0 0),(5,.im (.ref b0 91 1 e.places.length)),(20,.im (.sl (e.moves.map Move.c))),(21,.im (.int e.moves.length)),(22,.im (.int i))],
   (2,8,[e.c])::jbv 69 b0 bs (stN e.moves H e.mats.toNat S0 i) e.mats.toNat,[]⟩)
  (fun i=>i<=e.moves.length/\jh0 e H S0 0 e.moves=jh0 e H S0 i (e.moves.drop i)) (fun i=>e.moves.length-i) 0 ?_ ?_ rfl ⟨zF _,rfl⟩ ?_
 ·simp only[Int.natCast_zero,go_sem]
 ·exact SubR.of_eq rfl
 ·intro i ⟨hi,ha⟩;by_cases hp:(i:Int)<e.moves.length
  ·have hd:decide ((i:Int)<e.moves.length)=true:=zk hp;obtain⟨x,hx⟩:=jb9 hp;obtain⟨l,hl⟩:∃l,H[i]? =some l:=⟨_,ze (by omega)⟩;have hiH:(i:Int)<H.length:=by omega
   have h1:=ja6 (n:=(i:Int)+1) (by omega);obtain⟨⟨hS1,hS2⟩,hl2⟩:=And.intro (hst i) (hH l (zl hl));obtain⟨⟨p1,p2⟩,p3,p4⟩:=hmove x (zl hx);obtain⟨hll,hlF⟩:=hl2;have hsucc:=jnm (n:=e.mats.toNat) (S:=S0) hx hl;obtain⟨pl,hpk⟩:∃pl,e.places[x.fr.toNat]? =some pl:=⟨_,ze (by omega)⟩;have hgo:jh0 e H S0 i (e.moves.drop i)=if l.any negF=true then 3 else if jfu pl.kind ((stN e.moves H e.mats.toNat S0 i).getD x.fr.toNat []) x l≠0 then jfu pl.kind ((stN e.moves H e.mats.toNat S0 i).getD x.fr.toNat []) x l
     else if jdf e x (sumF l)=false then 24 else if pureF e i l (sumF l)=false then 13 else jh0 e H S0 (i+1) (e.moves.drop (i+1)):=by
    rw[jg4 hx,jh0,hl,hpk];rfl
   rw[hgo]at ha;clear hgo;generalize hS1e:stN e.moves H e.mats.toNat S0 (i+1)=S1 at*;generalize stN e.moves H e.mats.toNat S0 i=S at*;obtain⟨a,hat⟩:∃a,S[x.fr.toNat]? =some a:=⟨_,ze (by rw[hS1.1];omega)⟩;have hag:S.getD x.fr.toNat []=a:=by rw[zN,hat];rfl
   rw[hag]at ha;have hal:a.length=e.mats.toNat:=hS1.2 a (zl hat);have q1:=h_negative l (by omega) (fun r hr=>(hlF r hr).mono (by omega));have q2:=h_takenH b0 e.places.length e.mats.toNat bs e S x l a pl hnd hS1 hbl p1 p2 hpk hat (by omega) (by omega) (fun r hr=>(hlF r hr).mono (by omega)) (fun r hr=>(hS2 a (zl hat) r hr).mono (by omega));have q3:=h_sum l (by omega) (fun r hr=>(hlF r hr).mono (by omega));have hms:FL 9000000000 (sumF l):=(FL_sumF hlF).mono (by omega);have q4:=h_weighed e x (sumF l) (hms.mono (by omega)) hce hre;have q5:=h_pure e i l (sumF l) hpe hms (fun r hr=>(hlF r hr).mono (by omega)) (fun p hp=>⟨⟨(hpur p hp).1.1,by have:=(hpur p hp).1.2;omega⟩,(hpur p hp).2⟩);have q6:=h_carry b0 bs S x l e.places.length e.mats.toNat (4+8*i) hnd hS1 hbl hpl (by omega) ⟨p1,p2⟩ ⟨p3,p4⟩ hll hlF (SL.of_all hS2) (by omega);rw[<-hsucc]at q6;generalize jfu pl.kind a x l=tk at*;generalize l.any negF=ng at*;generalize jdf e x (sumF l)=wt at*;generalize pureF e i l (sumF l)=pt at*;generalize sumF l=mass at*;unfold fcs at q1 q2 q3 q5 q6;simp only[frac,ints,Evid.iv,Evid.c,Move.c]at q1 q2 q3 q4 q5 q6;clear hst hsz hrow hmove hpur;simp only[hd,zq,hx,hl,hiH,stC,F1,G1,K1,go_sem];refine ja1 q1 ?_;simp only[hd,F1,G1,K1,go_sem];refine jc3 (fun c1=> ?_) (fun c1=> ?_)
   ·subst c1;rw[zm rfl]at ha;simp only[go_sem];refine jie [] ?_;simp only[ha,go_sem]
   subst c1;rw[zp yq]at ha;simp only[F1,G1,K1,go_sem];refine jaf 7 ?_;simp only[hd,zq,hl,hiH,stC,F1,G1,K1,go_sem];refine jam q2 (by decide) rfl st_blks ?_ ?_
   ·exact jbx (by show Abs.look (jbv _ _ _ _ _) 7=none;rw[jcf (by decide)]) (jbx (by show Abs.look (jbv _ _ _ _ _) 2=none;rw[jcf (by decide)]) (SubR.of_eq rfl))
   rintro r L' ⟨rfl,rfl⟩ hfresh;clear hfresh;refine⟨(7,6,[x.c])::(2,8,[e.c])::jbv 69 b0 bs S e.mats.toNat,?_,?_⟩
   ·exact Behind_pre [(7,6,[x.c]),(2,8,[e.c])] (by
     intro p hp;rcases zW.1 hp with rfl | hp
     ·exact jcf (by dsimp only;decide)
     ·rw[zE.1 hp];exact jcf (by dsimp only;decide))
   simp only[F1,G1,K1,go_sem];refine jc3 (fun c2=> ?_) (fun c2=> ?_)
   case refine_2=>
    have c2':tk≠0:=zK c2;rw[zm c2']at ha;simp only[c2,go_sem];refine jie [] ?_;simp only[ha,go_sem]
   have c2':¬tk≠0:=fun h=>h (zJ c2);rw[zp c2']at ha;simp only[c2,hd,zq,hl,hiH,stC,F1,G1,K1,go_sem];refine ja1 q3 ?_;simp only[F1,G1,K1,go_sem];refine ja1 q4 ?_;simp only[F1,G1,K1,go_sem];refine jc3 (fun c3=> ?_) (fun c3=> ?_)
   case refine_2=>
    subst c3;rw[zm rfl]at ha;simp only[go_sem];refine jie [] ?_;simp only[ha,go_sem]
   subst c3;rw[zp (by decide)]at ha;simp only[F1,G1,K1,go_sem];refine jaf 10 ?_;simp only[hd,zq,hl,hiH,stC,F1,G1,K1,go_sem];refine ja5 q5 (by decide) ?_;simp only[F1,G1,K1,go_sem];refine jc3 (fun c4=> ?_) (fun c4=> ?_)
   case refine_2=>
    subst c4;rw[zm rfl]at ha;simp only[go_sem];refine jie [] ?_;simp only[ha,go_sem]
   subst c4;rw[zp (by decide)]at ha;simp only[F1,G1,K1,go_sem];refine jaf 6 ?_;simp only[hd,zq,hl,hiH,stC,F1,G1,K1,go_sem];refine jam q6 (by decide) rfl st_blks ?_ ?_
   ·exact jbx (by show Abs.look (jbv _ _ _ _ _) 9=none;rw[jcf (by decide)]) (jbx (by show Abs.look (jbv _ _ _ _ _) 7=none;rw[jcf (by decide)]) (jbx (by show Abs.look (jbv _ _ _ _ _) 2=none;rw[jcf (by decide)]) (SubR.of_eq rfl)))
   rintro r L' ⟨rfl,rfl⟩ hfresh;clear hfresh;refine⟨(9,4,[fc mass])::(7,6,[x.c])::(2,8,[e.c])::jbv 69 b0 bs S1 e.mats.toNat,?_,?_⟩
   ·exact Behind_pre [(9,4,[fc mass]),(7,6,[x.c]),(2,8,[e.c])] (by
     intro p hp;rcases zW.1 hp with rfl | hp
     ·exact jcf (by dsimp only;decide)
     ·rcases zW.1 hp with rfl | hp
      ·exact jcf (by dsimp only;decide)
      ·rw[zE.1 hp];exact jcf (by dsimp only;decide))
   simp only[F1,G1,K1,go_sem];refine jae (i+1) ?_ ?_ rfl (by omega) ⟨by omega,ha⟩
   ·simp only[h1,Int.natCast_add,go_sem]
   ·dsimp only;rw[hS1e];exact jbx (by show Abs.look (_::jbv _ _ _ _ _) 9=none;rw[ja0 _ _ (by decide),jcf (by decide)]) (jbx (by show Abs.look (_::jbv _ _ _ _ _) 7=none;rw[ja0 _ _ (by decide),jcf (by decide)]) (SubR.of_eq rfl))
  ·have hd:decide ((i:Int)<e.moves.length)=false:=za hp;rw[zV (by omega),jh0]at ha;simp only[hd,go_sem];refine jie [] ?_;simp only[ha,go_sem]
end
section
open Go.Abs
open Go.LP (Sol)
attribute [local go_sem] Evid.iv Evid.c Purity.c ints ic big frac fc
theorem h_check2(e:Evid)(h:List (List Raw))(h0:jc5 e=0)(hs:jgg e h=false)(hl:h.length<=100000)(hsz:∀l∈h,∀x∈l,x.l.length<=50000000000/\x.m.length<=50000000000)(hrow:∀l∈h,l.length<=100000):
  Ctr G.P 19 [e.iv,hist h] (· = .int 2):=by
 have k1:=c21 e;rw[h0]at k1;have k2:=jsb e h hl hrow hsz;rw[hs]at k2;simp only[Evid.iv,Evid.c]at k1 k2;refine jqw (goodH [] []) _ _ [.tmp 4] Tryz.func19 rfl rfl (by decide+kernel) rfl ?_;unfold Evid.iv Evid.c;simp only[go_sem];refine ja1 k1 ?_;simp only[go_sem];refine ja1 k2 ?_;simp only[go_sem];refine jie [] ?_;simp only[go_sem]
structure HistOf(e:Evid)(h:List (List Raw))(H:List (List Rat)):Prop where
 eq:h.map rowC=H.map stC
 len:H.length=e.moves.length
 row:∀l∈H,l.length=e.mats.toNat/\∀r∈l,FL 3 r
def FewH(h:List (List Raw)):Prop:=h.length<=20/\∀l∈h,l.length<=10/\∀x∈l,x.l.length<=3/\x.m.length<=3
theorem h_check1(e:Evid)(h:List (List Raw))(h0:jc5 e≠0):Ctr G.P 19 [e.iv,hist h] (· = .int 1):=by
 have k1:=c21 e;have hd:decide (jc5 e=0)=false:=za h0;generalize jc5 e=ck at*;unfold hist;simp only[Evid.iv,Evid.c]at k1;refine jqw (goodH [] []) _ _ [.tmp 4] Tryz.func19 rfl rfl (by decide+kernel) rfl ?_;unfold Evid.iv Evid.c;simp only[go_sem];refine ja1 k1 ?_;simp only[hd,go_sem];refine jie [] ?_;simp only[go_sem]
theorem h_says(e:Evid)(h:List (List Raw))(hf:FewH h):∃c:Int,Ctr G.P 19 [e.iv,hist h] (· = .int c)/\(c=0->jc5 e=0/\∃H,HistOf e h H/\Sol (e.moves.length*e.mats.toNat) (rowsE e) (ptH e.mats.toNat H)):=by
 obtain⟨g1,g2⟩:=hf;by_cases h0:jc5 e=0
 ·rcases hs:jgg e h with _ | _
  ·exact⟨2,h_check2 e h h0 hs (by omega) (fun l hl x hx=>by have:=(g2 l hl).2 x hx;omega) (fun l hl=>by have:=(g2 l hl).1;omega),fun h=>absurd h (by decide)⟩
  ·have hs':=hs;rw[jgg,zu,zS]at hs';obtain⟨H,a1,a2,a3⟩:=hist_of hs'.2 (k:=3) (fun l hl x hx=>(g2 l hl).2 x hx);have hmt:=(jcb h0).2.1;have hlx:=check_len h0;have hHl:H.length=e.moves.length:=by omega
   have hH:∀l∈H,l.length=e.mats.toNat/\∀r∈l,FL 3 r:=fun l hl=>⟨by have:=(a3 l hl).1;omega,(a3 l hl).2⟩;refine⟨_,h_check e h H h0 hs a2 hHl hH (fun l hl x hx=>by have:=(g2 l hl).2 x hx;omega) (fun l hl=>by have:=(g2 l hl).1;omega) (by omega) (by omega) (by omega) (by omega) (by omega) (by omega) (by omega) (jgr h0) (check_purs' h0),fun hc=>⟨h0,H,⟨a2,hHl,hH⟩,?_⟩⟩;exact(hist_iff h0 hHl fun l hl=>(hH l hl).1).1 hc
 ·exact⟨1,h_check1 e h h0,fun h=>absurd h (by decide)⟩
def je4(H:List (List Rat)):Rat->List (Int×Int)->Option Rat
 | a,[]=>some a
 | a,p::r=>if 0<=p.1/\p.1<(H.length:Int)/\0<=p.2/\p.2<((H.getD p.1.toNat []).length:Int)then je4 H (a+(H.getD p.1.toNat []).getD p.2.toNat 0) r else none
def jk3:Option Rat->IV
 | some v=> .tup [frac v,.bool true]
 | none=> .tup [.agg [.int 0,.sl [],.int 0,.sl []],.bool false]
theorem h_mass{e:Evid}{h:List (List Raw)}{H:List (List Rat)}(ho:HistOf e h H)(ps:List (Int×Int))(hn:ps.length<=1000)(hHl:H.length<=100000):Ctr G.P 64 [hist h,.sl (ps.map fun p=>[.int p.1,.int p.2])] (· =jk3 (je4 H ((0:Int):Rat) ps)):=by
 have k0:Ctr G.P 79 [.int 0] (· =frac ((0:Int):Rat)):=jcg 0 (by omega);unfold hist;rw[ho.eq];refine ja3 [.cell 4 69,.tmp 5] Tryz.func64 ?_;simp only[go_sem];refine ja1 k0 ?_;simp only[go_sem];refine jaj [0,4,6,10,11,12] [6,4] (fun g:Nat×Rat=>⟨[(0,.im (.sl (H.map stC))),(4,.loc 4 4 0 0),(6,.loc 6 4 0 0),(10,.im (.sl (ps.map fun p=>[.int p.1,.int p.2]))),(11,.im (.int ps.length)),(12,.im (.int g.1))],[(6,4,[fc g.2]),(4,4,[[.int 0,.sl [],.int 0,.sl []]])],[]⟩)
  (fun g=>g.1<=ps.length/\je4 H ((0:Int):Rat) ps=je4 H g.2 (ps.drop g.1)/\FL (4+g.1*4) g.2) (fun g=>ps.length-g.1) (0,((0:Int):Rat)) ?_ ⟨zF _,rfl,jc4 (by omega)⟩ ?_
 ·simp only[zw,Int.natCast_zero,go_sem]
 intro⟨i,a⟩ ⟨hi,ha,hF⟩;dsimp only at hi ha hF;by_cases hp:(i:Int)<ps.length
 ·have hd:decide ((i:Int)<ps.length)=true:=zk hp;obtain⟨p,hx⟩:=jb9 hp;have h1:=ja6 (n:=(i:Int)+1) (by omega);rw[jg4 hx,je4]at ha;rcases d1:decide (p.1<0)with _ | _
  case true=>
   rw[zp (by have:=zJ d1;omega)]at ha;rw[ha];clear ha hF;simp only[hd,zq,hx,go_sem];refine jaf 39 ?_;simp only[hd,d1,jk3,go_sem]
  rcases d2:decide ((H.length:Int)<=p.1)with _ | _
  case true=>
   rw[zp (by have:=zJ d2;omega)]at ha;rw[ha];clear ha hF;simp only[hd,zq,hx,go_sem];refine jaf 39 ?_;simp only[hd,d1,d2,jk3,zw,go_sem]
  have b1:=zK d1;have b2:=zK d2;have p0:0<=p.1:=by omega
  obtain⟨l,hl⟩:=jev (l:=H) (i:=p.1.toNat) (by omega);have hlF:=ho.row l (zl hl);have hm:(H.map stC)[p.1.toNat]? =some (stC l):=by rw[zq,hl];rfl
  rw[getD_some hl]at ha;rcases d3:decide (p.2<0)with _ | _
  case true=>
   rw[zp (by have:=zJ d3;omega)]at ha;rw[ha];clear ha hF;unfold stC at hm;simp only[hd,zq,hx,go_sem];refine jaf 39 ?_;simp only[hd,d1,d2,d3,jk3,zw,go_sem]
  rcases d4:decide ((l.length:Int)<=p.2)with _ | _
  case true=>
   rw[zp (by have:=zJ d4;omega)]at ha;rw[ha];clear ha hF;unfold stC at*;simp only[hd,zq,hx,go_sem];refine jaf 39 ?_;simp only[hd,d1,d2,d3,d4,p0,hm,hl,jk3,zq,zw,go_sem]
  have b3:=zK d3;have b4:=zK d4;have p1:0<=p.2:=by omega
  obtain⟨f,hf⟩:=jev (l:=l) (i:=p.2.toNat) (by omega);rw[zm (by omega),getD_some hf]at ha;have hfF:=hlF.2 f (zl hf);have kR:=jqu (hfF.mono (by omega:3<=19000000000));have kA:=f_add (hF.mono (by omega:4+i*4<=19000000000)) (hfF.mono (by omega:3<=19000000000));unfold stC at*;simp only[hd,zq,hx,go_sem];refine jaf 39 ?_;simp only[hd,d1,d2,d3,d4,p0,p1,hl,hf,zq,zw,go_sem];refine ja5 kR (by decide) ?_;simp only[hd,go_sem];refine jan ?_;simp only[p0,p1,hl,hf,zq,go_sem];refine ja5 kA (by decide) ?_;simp only[go_sem];refine ja7 (i+1,a+f) ?_ ?_ ⟨?_,ha,(ji0 hF hfF).mono ?_⟩
  ·simp only[h1,Int.natCast_add,go_sem]
  ·show ps.length-(i+1)<ps.length-i;omega
  ·show i+1<=ps.length;omega
  ·show 4+i*4+3+1<=4+(i+1)*4;omega
 ·have hd:decide ((i:Int)<ps.length)=false:=za hp;rw[zV (by omega),je4]at ha;rw[ha];simp only[hd,jk3,go_sem]
end
section
open Go.Abs
open Go.LP (Rw RT tsum Sol Bds)
theorem floorR_eq(r:Rat):jsi r=r.floor:=by
 unfold jsi;rw[Rat.floor_def,yM _ (by omega)]
theorem intF_of{z:Int}(h1:0<=z)(h2:z<=9223372036854775807):intF z=z:=by
 unfold intF;rw[zm (by unfold fits;simp only[zu,zS];omega)]
theorem val3{n:Nat}(h:(dig n).length<=3):n<1152921504606846976:=by
 have h1:=jdr (jbn n);have h2:=jax n;have h3:(1048576:Int)^(dig n).length<=1048576^3:=by
  have:∀k:Nat,k<=3->(1048576:Int)^k<=1048576^3:=fun k hk=>by
   match k,hk with
   | 0,_=>decide
   | 1,_=>decide
   | 2,_=>decide
   | 3,_=>decide
  exact this _ h
 have h4:(1048576:Int)^3=1152921504606846976:=by decide
 omega
theorem FL3_le{r:Rat}(h:FL 3 r):r<=((1152921504606846976:Int):Rat):=by
 have h1:=val3 h.1;rw[Rat.le_iff,Rat.num_intCast,Rat.den_intCast];have h2:(1:Int)<=r.den:=by have:=r.den_pos;omega
 have h3:r.num<1152921504606846976:=by omega
 have h4:(1152921504606846976:Int)*1<=1152921504606846976*(r.den:Int):=qq h2 (by decide);rw[Int.natCast_one,jj];omega
theorem jqs{N:Nat}{x:Nat->Rat}{c:Int}(hx:∀k,k<N->x k<=(c:Rat)):∀{l:List Nat},(∀k∈l,k<N)->Go.LP.ksum l x<=(((l.length:Int)*c:Int):Rat)
 | [],_=>by
  have e:(((([]:List Nat).length:Int)*c:Int):Rat)=0:=by rw[List.length_nil];simp
  rw[e];exact Rat.le_refl
 | a::r,h=>by
  have h1:=jqs hx (l:=r) fun k hk=>h k (by simp[hk]);have h2:=hx a (h a (by simp));have e:((((a::r).length:Int)*c:Int):Rat)=(c:Rat)+(((r.length:Int)*c:Int):Rat):=by
   rw[<-jY,List.length_cons,Int.natCast_add,yp];congr 1;omega
  rw[e,Go.LP.ksum];grind
theorem jrj{e:Evid}{h:List (List Raw)}{H:List (List Rat)}(ho:HistOf e h H)(k:Nat):ptH e.mats.toNat H k<=((1152921504606846976:Int):Rat):=by
 have hz:(0:Rat)<=((1152921504606846976:Int):Rat):=by decide
 unfold ptH;rw[zN (l:=H)];cases hq:H[k/e.mats.toNat]? with
 | none=>simpa using hz
 | some l=>
  rw[Option.getD_some,zN];cases hr:l[k % e.mats.toNat]? with
  | none=>simpa using hz
  | some r=>exact FL3_le ((ho.row l (zl hq)).2 r (zl hr))
theorem len_lt{n:Nat}:∀{l:List Int} {lo:Int},l.Pairwise (· < ·)->(∀i∈l,lo<=i/\i<lo+(n:Int))->l.length<=n
 | [],_,_,_=>zF _
 | a::r,lo,hp,h=>by
  have h1:=yf.1 hp;have ha:=h a (by simp);cases n with
  | zero=>omega
  | succ n=>
   have:=len_lt (n:=n) (l:=r) (lo:=lo+1) h1.2 fun i hi=>by
    have h2:=h1.1 i hi;have h3:=h i (by simp[hi]);omega
   simp only[List.length_cons];omega
theorem fits_len{e:Evid}{b:Bat}(h:fitsF e b=true):b.mv.length<=e.moves.length:=by
 obtain⟨_,_,h2,_⟩:=jhq h;obtain⟨g1,g2,_⟩:=jl3 h2;exact len_lt (lo:=0) g2 fun i hi=>by have:=g1 i hi;omega
theorem certain_floor{e:Evid}{b:Bat}{n f:Int}{h:List (List Raw)}{H:List (List Rat)}(hc:CSay e b n f)(hf:fitsF e b=true)(h6:e.moves.length<=6)(ho:HistOf e h H)(hx:Sol (nV e) (rowsE e) (ptH e.mats.toNat H)):
  f=0/\∃lo hi,BSay e (jer b) (some (lo,hi))/\n=lo.floor/\0<=n/\n<=9223372036854775807/\lo<=wgt e (jer b) (ptH e.mats.toNat H):=by
 rcases hc.ok hf with ⟨_,_,h3⟩ | ⟨h1,lo,hi,h2,h3⟩
 ·exact absurd hx (h3 _)
 obtain⟨hok,hb,_,_⟩:=h2.inv;have hlt:∀k∈(jer b).map (pickK e.mats.toNat),k<nV e:=fun k hk=>by
  obtain⟨p,hp,rfl⟩:=qy.1 hk;exact jnr ((jis hok).2.1 p hp)
 have hlo:lo<=wgt e (jer b) (ptH e.mats.toNat H):=hb.low _ hx;have h0:(0:Rat)<=lo:=by
  obtain⟨z,hz,rfl⟩:=hb.low_at;exact Go.LP.ksum_nonneg hz.pos hlt
 have hup:=jqs (x:=ptH e.mats.toNat H) (c:=1152921504606846976) (N:=nV e) (fun k _=>jrj ho k) hlt;have hl:((jer b).map (pickK e.mats.toNat)).length<=6:=by
  unfold jer;rw[zw,zw];have:=fits_len hf;omega
 rw[floorR_eq]at h3;have f0:0<=lo.floor:=Rat.le_floor_iff.2 (by simpa using h0);have f1:lo.floor<=9223372036854775807:=by
  have a1:=jN (jN (Rat.floor_le lo) hlo) hup;have a2:=vd.1 a1;have:(((jer b).map (pickK e.mats.toNat)).length:Int)*1152921504606846976<=6*1152921504606846976:=qh (by omega) (by decide);omega
 rw[intF_of f0 f1]at h3;exact⟨h1,lo,hi,h2,h3,by omega,by omega,hlo⟩
end
section
open Go.Abs
open Go.LP (Rw RT tsum Sol Bds)
def massB(e:Evid)(x:Nat->Rat)(b:Bat):Rat:=if fitsF e b=true then wgt e (jer b) x else 0
structure CertL(e:Evid)(bs:List Bat)(cert:List Int):Prop where
 len:cert.length=bs.length
 at':∀(k:Nat) (b:Bat) (n:Int),bs[k]? =some b->cert[k]? =some n->∃m f,CSay e b m f/\n=(if f=0 then m else 0)
theorem stand_batch{p:Led}{cert:List Int}(h:jbh p=true)(hl:cert.length=p.bs.length){k:Nat}(hk:k<p.bs.length):stSum k (jd1 p cert) p.ps<=max 0 (cert.getD k 0):=by
 have hb:=jhm h;obtain⟨r1,r2⟩:=jqj k p.ps (left0 p cert) (by rw[jo1];exact hb);have h4:=jnl k p.ps (retGo (left0 p cert) p.ps) (by rw[r1,jo1];exact hb);have h3:=jkt (rk k) hb;rw[r2,js6 hk,zm (by omega)]at h4;have e2:jd1 p cert=jfi (retGo (left0 p cert) p.ps) p.ps:=by unfold jd1;rw[zm h]
 rw[e2];omega
section
variable{e:Evid}{h:List (List Raw)}{H:List (List Rat)}
theorem jq2{b:Bat}{n m f:Int}(hc:CSay e b m f)(hn:n=if f=0 then m else 0)(h6:e.moves.length<=6)(ho:HistOf e h H)(hx:Sol (nV e) (rowsE e) (ptH e.mats.toNat H)):
  0<=n/\n<=9223372036854775807/\(n:Rat)<=massB e (ptH e.mats.toNat H) b:=by
 unfold massB;rcases hf:fitsF e b with _ | _
 ·obtain⟨e1,e2⟩:=hc.bad hf;subst e1 e2;rw[zp (by decide)]at hn;subst hn;rw[zp (by decide)];exact⟨by omega,by omega,by decide⟩
 ·obtain⟨a1,lo,hi,a2,a3,a4,a5,a6⟩:=certain_floor hc hf h6 ho hx;rw[a1,zm rfl]at hn;rw[zm rfl,hn];refine⟨a4,a5,?_⟩;rw[a3];exact jN (Rat.floor_le lo) a6
end
theorem js7{N:Nat}{x:Nat->Rat}(hx:∀k,k<N->0<=x k):∀{l m:List Nat},l.Nodup->(∀k∈l,k∈m)->(∀k∈m,k<N)->Go.LP.ksum l x<=Go.LP.ksum m x
 | [],m,_,_,hm=>by
  have:=Go.LP.ksum_nonneg hx hm
  simpa [Go.LP.ksum]using this
 | a::l,m,hn,hs,hm=>by
  have h1:=qF.1 hn;have ha:=hs a (by simp);have hp:=List.perm_cons_erase ha;rw[Go.LP.ksum_perm hp,Go.LP.ksum,Go.LP.ksum];have h2:=js7 hx (l:=l) (m:=m.erase a) h1.2 (fun k hk=>by
   have hne:k≠a:=fun e=>h1.1 (e▸hk);exact(List.mem_erase_of_ne hne).2 (hs k (by simp[hk]))) (fun k hk=>hm k (List.mem_of_mem_erase hk))
  grind
end
section
open Go.Abs
open Go.LP (Rw RT tsum Sol Bds ksum)
section
variable{e:Evid}{h:List (List Raw)}{H:List (List Rat)}
theorem jpp(ho:HistOf e h H):∀(ps:List (Int×Int)) (a:Rat),(∀p∈ps,(0<=p.1/\p.1<(e.moves.length:Int))/\0<=p.2/\p.2<e.mats)->je4 H a ps=some (a+ksum (ps.map (pickK e.mats.toNat)) (ptH e.mats.toNat H))
 | [],a,_=>by
  rw[je4,zC,ksum,yV]
 | p::r,a,hp=>by
  obtain⟨⟨p1,p2⟩,p3,p4⟩:=hp p (by simp);have hl:=ho.len;have hlt:p.1.toNat<H.length:=by omega
  have hrow:H.getD p.1.toNat []=H[p.1.toNat]:=by rw[zN,ze hlt];rfl
  have hrl:=(ho.row _ (yG hlt)).1;rw[je4,zm ⟨p1,by omega,p3,by rw[hrow,hrl];omega⟩,jpp ho r _ fun q hq=>hp q (by simp[hq]),zr,ksum];have e1:ptH e.mats.toNat H (pickK e.mats.toNat p)=(H.getD p.1.toNat []).getD p.2.toNat 0:=pt_at p.1.toNat (by omega);rw[e1,Rat.add_assoc]
theorem jmq(ho:HistOf e h H)(hx:Sol (nV e) (rowsE e) (ptH e.mats.toNat H)):∀(ps:List (Int×Int)) (a v:Rat),0<=a->je4 H a ps=some v->0<=v
 | [],a,v,ha,hv=>by
  simp only[je4,z7]at hv;rw[<-hv];exact ha
 | p::r,a,v,ha,hv=>by
  rw[je4]at hv;split at hv
  ·rename_i hc;obtain⟨p1,p2,p3,p4⟩:=hc;refine jmq ho hx r _ v ?_ hv;have hlt:p.1.toNat<H.length:=by omega
   have hrow:H.getD p.1.toNat []=H[p.1.toNat]:=by rw[zN,ze hlt];rfl
   have hrl:=(ho.row _ (yG hlt)).1;rw[hrow,hrl]at p4;have hk:pickK e.mats.toNat p<nV e:=by
    have hl:=ho.len;unfold pickK nV;have h1:p.1.toNat+1<=e.moves.length:=by omega
    have h2:=qx e.mats.toNat h1;rw[jo]at h2;omega
   have h1:=hx.pos _ hk;have e1:ptH e.mats.toNat H (pickK e.mats.toNat p)=(H.getD p.1.toNat []).getD p.2.toNat 0:=pt_at p.1.toNat (by omega);rw[e1]at h1;grind
  ·cases hv
end
theorem jq3:∀(bs pre:List Bat),jhz pre bs=true->(∀a∈pre,∀b∈bs,overF a b=false)/\bs.Pairwise fun a b=>overF a b=false
 | [],_,_=>⟨(fun a _ b hb=>by cases hb),List.Pairwise.nil⟩
 | b::r,pre,h=>by
  rw[jhz,zu]at h;obtain⟨h1,h2⟩:=h;obtain⟨g1,g2⟩:=jq3 r (pre++[b]) h2;simp only[batOk,zu,ya,yK,yX]at h1;refine⟨fun a ha c hc=> ?_,yf.2 ⟨fun c hc=>g1 b (by simp) c hc,g2⟩⟩;rcases zW.1 hc with rfl | hc
  ·exact h1.2.2 a ha
  ·exact g1 a (by simp[ha]) c hc
def keysB(e:Evid)(b:Bat):List Nat:=(jer b).map (pickK e.mats.toNat)
theorem jpn(e:Evid)(x:Nat->Rat):∀bs:List Bat,(bs.map (massB e x)).foldr (· + ·) 0=ksum ((bs.filter (fitsF e)).flatMap (keysB e)) x
 | []=>by simp[ksum]
 | b::r=>by
  rw[zr,List.foldr_cons,jpn e x r];unfold massB;rcases hf:fitsF e b with _ | _
  ·rw[jK (by rw[hf];decide),zp (by decide),Rat.zero_add]
  ·rw[jJ (by rw[hf]),List.flatMap_cons,Go.LP.ksum_app,zm rfl];rfl
def soldL(e:Evid):List Int:=((List.range e.moves.length).map fun(i:Nat)=>(i:Int)).filter fun i=>buyF e i
theorem key_inj{e:Evid}{i j m:Int}(hm:0<=m/\m<e.mats)(hi:0<=i)(hj:0<=j)(h:pickK e.mats.toNat (i,m)=pickK e.mats.toNat (j,m)):i=j:=by
 unfold pickK at h;dsimp only at h;have h3:i.toNat*e.mats.toNat=j.toNat*e.mats.toNat:=by omega
 have h4:=wy (by omega) h3;omega
theorem sold_mem{e:Evid}{i:Int}:i∈soldL e↔(0<=i/\i<(e.moves.length:Int))/\buyF e i=true:=by
 unfold soldL;rw[y8,qy];constructor
 ·rintro⟨⟨k,hk,rfl⟩,h⟩;have:=qi.1 hk;exact⟨by omega,h⟩
 ·rintro⟨h1,h⟩;exact⟨⟨i.toNat,qi.2 (by omega),by omega⟩,h⟩
theorem mass_sold{e:Evid}{m:Int}{x:Nat->Rat}(hx:∀k,k<nV e->0<=x k)(hm:0<=m/\m<e.mats){bs:List Bat}(hp:bs.Pairwise fun a b=>overF a b=false)(hmat:∀b∈bs,b.mat=m):
  (bs.map (massB e x)).foldr (· + ·) 0<=ksum ((soldL e).map fun i=>pickK e.mats.toNat (i,m)) x:=by
 rw[jpn];have hmem:∀b∈bs.filter (fitsF e),∀k∈keysB e b,∃i,i∈b.mv/\k=pickK e.mats.toNat (i,m)/\(0<=i/\i<(e.moves.length:Int))/\buyF e i=true:=fun b hb k hk=>by
  obtain⟨hb1,hb2⟩:=y8.1 hb;obtain⟨p,hp,rfl⟩:=qy.1 hk;obtain⟨i,hi,rfl⟩:=qy.1 hp;obtain⟨_,_,h2,h3⟩:=jhq hb2;exact⟨i,hi,by rw[hmat b hb1],(jl3 h2).1 i hi,h3 i hi⟩
 refine js7 (N:=nV e) hx ?_ (fun k hk=> ?_) (fun k hk=> ?_)
 ·unfold List.Nodup;rw[List.pairwise_flatMap];refine⟨fun b hb=> ?_,?_⟩
  ·obtain⟨hb1,hb2⟩:=y8.1 hb;exact(okP_iff.1 (jrm hb2)).2.2
  ·refine(hp.filter _).imp_of_mem fun{a b} ha hb hov k hk k' hk' he=> ?_;obtain⟨i,hi,e1,e2,_⟩:=hmem a ha k hk;obtain⟨j,hj,e3,e4,_⟩:=hmem b hb k' hk';rw[e1,e3]at he;have:=key_inj hm e2.1 e4.1 he;subst this;have ma:=hmat a (y8.1 ha).1;have mb:=hmat b (y8.1 hb).1;unfold overF at hov;rw[ma,mb]at hov;simp only[decide_true,z8,yK,yX]at hov;have:=hov i hi;rw[List.contains_eq_mem,qm]at this;exact this hj
 ·obtain⟨b,hb,hk⟩:=jU.1 hk;obtain⟨i,_,e1,e2,e3⟩:=hmem b hb k hk;exact qy.2 ⟨i,sold_mem.2 ⟨e2,e3⟩,e1.symm⟩
 ·obtain⟨i,hi,rfl⟩:=qy.1 hk;obtain⟨h1,_⟩:=sold_mem.1 hi;refine jnr (p:=(i,m)) ?_;simp only[je0,zu,zS];omega
