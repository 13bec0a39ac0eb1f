/- A part of the proof. No further condition. -/
import Derived.Test.YtkcekimolppapaaGreatKS47
import Derived.Test.YtkcekimolppapaaGreatKS44
import Derived.Test.YtkcekimolppapaaGreatKS42
set_option linter.all false
set_option maxRecDepth 10000000
set_option maxHeartbeats 16000000
namespace Go.Proofs.YtkcekimolppapaaGreat
section
open Go.Abs
open Go.LP (Rw RT tsum Sol tsum_app)
def ptH(M:Nat)(H:List (List Rat))(k:Nat):Rat:=(H.getD (k/M) []).getD (k % M) 0
theorem pt_at{M:Nat}{H:List (List Rat)}(i:Nat){m:Nat}(hm:m<M):ptH M H (i*M+m)=(H.getD i []).getD m 0:=by
 unfold ptH;rw[jj i M,Nat.mul_add_div (by omega),jO hm,Nat.add_zero,wj,jp hm]
theorem getD_some{α:Type}{l:List α}{i:Nat}{x d:α}(h:l[i]? =some x):l.getD i d=x:=by rw[qi,h];rfl
theorem jfy{α:Type}{l:List α}{i:Nat}(h:i<l.length):∃x,l[i]? =some x:=⟨_,ze h⟩
theorem jp9(ts:List (Nat×Rat))(t:Nat×Rat)(x:Nat->Rat):tsum (ts++[t]) x=tsum ts x+t.2*x t.1:=by
 rw[tsum_app];show tsum ts x+(t.2*x t.1+0)=_;rw[yQ]
theorem jk9{M mv:Nat}{b own more:Int}{H:List (List Rat)}{l:List Rat}(hl:H[mv]? =some l)(hM:l.length=M):∀k,k<=M->tsum (sumT M mv b own more k) (ptH M H)=(b:Rat)*sumF (l.take k)+(if 0<=own/\own<(k:Int)then(more:Rat)*l.getD own.toNat 0 else 0)
 | 0,_=>by
  rw[zn (by omega)];show(0:Rat)=(b:Rat)*((0:Int):Rat)+0;rw[show((0:Int):Rat)=0 from rfl,Rat.mul_zero,yQ]
 | k+1,hk=>by
  have ih:=jk9 (b:=b) (own:=own) (more:=more) hl hM k (by omega);obtain⟨f,hf⟩:=jfy (l:=l) (i:=k) (by omega);have hx:ptH M H (mv*M+k)=f:=by rw[pt_at mv (by omega),getD_some hl,getD_some hf]
  have hs:tsum (sumT M mv b own more (k+1)) (ptH M H)=tsum (sumT M mv b own more k) (ptH M H)+((coF b own more k:Int):Rat)*f:=by
   rw[sumT];split
   ·rename_i h;rw[h,show((0:Int):Rat)=0 from rfl,Rat.zero_mul,yQ]
   ·rw[jp9,hx]
  rw[hs,ih,jpf hf];unfold coF;by_cases ho:(k:Int)=own
  ·have h1:own.toNat=k:=by omega
   rw[zn (by omega),zm ho,zm (by omega),h1,getD_some hf,wz];grind
  ·rw[zn ho];by_cases h2:0<=own/\own<(k:Int)
   ·rw[zm h2,zm (by omega)];grind
   ·rw[zn h2,zn (by omega)];grind
def flowS(M:Nat)(fr:Int)(mat:Nat)(ms:List Move)(x:Nat->Rat):Nat->Rat
 | 0=>0
 | i+1=>match ms[i]? with
  | some y=>flowS M fr mat ms x i+((sgnF fr y:Int):Rat)*x (i*M+mat)
  | none=>flowS M fr mat ms x i
theorem jmk{M:Nat}{fr:Int}{mat:Nat}{ms:List Move}{x:Nat->Rat}:∀i,tsum (jaj M fr mat ms i) x=flowS M fr mat ms x i
 | 0=>rfl
 | i+1=>by
  have ih:=jmk (M:=M) (fr:=fr) (mat:=mat) (ms:=ms) (x:=x) i;rw[jaj,flowS];cases ms[i]? with
  | none=>exact ih
  | some y=>
   dsimp only;split
   ·rename_i h;rw[ih,h,show((0:Int):Rat)=0 from rfl,Rat.zero_mul,yQ]
   ·rw[jp9,ih]
theorem jiv{α:Type}{l:List α}{i p:Nat}{v d:α}:(l.set i v).getD p d=if p=i/\i<l.length then v else l.getD p d:=by
 rw[qi,qi,jv];by_cases h:i=p
 ·subst h;rw[zm rfl];by_cases h2:i<l.length
  ·rw[zm h2,zm ⟨rfl,h2⟩];rfl
  ·rw[zn h2,zn (fun h=>h2 h.2),qG (by omega)]
 ·rw[zn h,zn (fun e=>h e.1.symm)]
def dl(fr to p:Nat)(f:Rat):Rat:=if p=fr then-f else if p=to then f else 0
theorem step_get{P n fr to m k p:Nat}{f:Rat}{T:List (List Rat)}(hT:Stk P n T)(h1:fr<P)(h2:to<P)(hne:fr≠to)(hm:m<n)(hp:p<P):
  ((stepS fr to k f T).getD p []).getD m 0=(T.getD p []).getD m 0+(if m=k then dl fr to p f else 0):=by
 have hr:∀q,q<P->(T.getD q []).length=n:=fun q hq=>hT.2 _ (jhs (by rw[hT.1];exact hq));have e1:(T.set fr ((T.getD fr []).set k ((T.getD fr []).getD k 0-f))).getD to []=T.getD to []:=by
  rw[jiv,zn (fun h=>hne h.1.symm)]
 unfold stepS;dsimp only;rw[e1,jiv,qa,hT.1];by_cases ht:p=to
 ·subst ht;have hd:dl fr p p f=f:=by unfold dl;rw[zn (fun e=>hne e.symm),zm rfl]
  rw[zm ⟨rfl,h2⟩,jiv,hr p hp,hd];by_cases hk:m=k
  ·subst hk;rw[zm ⟨rfl,hm⟩,zm rfl]
  ·rw[zn (fun h=>hk h.1),zn hk,yQ]
 ·rw[zn (fun h=>ht h.1),jiv,hT.1];by_cases hf:p=fr
  ·subst hf;have hd:dl p to p f= -f:=by unfold dl;rw[zm rfl]
   rw[zm ⟨rfl,h1⟩,jiv,hr p hp,hd];by_cases hk:m=k
   ·subst hk;rw[zm ⟨rfl,hm⟩,zm rfl];grind
   ·rw[zn (fun h=>hk h.1),zn hk,yQ]
  ·have hd:dl fr to p f=0:=by unfold dl;rw[zn hf,zn ht]
   rw[zn (fun h=>hf h.1),hd];split<;>rw[yQ]
theorem car_get{P n fr to m p:Nat}{l:List Rat}{S:List (List Rat)}(hS:Stk P n S)(h1:fr<P)(h2:to<P)(hne:fr≠to)(hm:m<n)(hp:p<P):∀k,((carN S fr to l k).getD p []).getD m 0=(S.getD p []).getD m 0+(if m<k then dl fr to p (l.getD m 0)else 0)
 | 0=>by rw[carN,zn (by omega),yQ]
 | k+1=>by
  rw[carN,step_get (hS.car h1 h2 k) h1 h2 hne hm hp,car_get hS h1 h2 hne hm hp k];by_cases hk:m=k
  ·subst hk;rw[zn (q7 _),zm rfl,zm (jr _),yQ]
  ·rw[zn hk,yQ];by_cases h3:m<k
   ·rw[zm h3,zm (by omega)]
   ·rw[zn h3,zn (by omega)]
section
variable{e:Evid}{H:List (List Rat)}
def S0(e:Evid):List (List Rat):=List.replicate e.places.length (List.replicate e.mats.toNat ((0:Int):Rat))
theorem S0_stk:Stk e.places.length e.mats.toNat (S0 e):=⟨by unfold S0;simp,fun r hr=>by rw[(y7.1 hr).2];simp⟩
theorem S0_get{p m:Nat}:((S0 e).getD p []).getD m 0=0:=by
 rcases zU p e.places.length with h | h
 ·rw[getD_some (l:=S0 e) (x:=List.replicate e.mats.toNat ((0:Int):Rat)) (by unfold S0;rw[qF,zm h])];rcases zU m e.mats.toNat with h2 | h2
  ·rw[getD_some (x:=((0:Int):Rat)) (by rw[qF,zm h2])];rfl
  ·rw[qi,qG (by simp;omega)];rfl
 ·rw[qi (l:=S0 e),qG (by unfold S0;simp;omega)];rfl
theorem move_at{x:Move}(h:moveF e x=true):((0<=x.fr/\x.fr<(e.places.length:Int))/\(0<=x.to/\x.to<(e.places.length:Int)))/\x.fr≠x.to:=by
 simp only[moveF,zD,jw,ql,joi]at h;exact⟨⟨h.1.1.1.1.1.1.1,h.1.1.1.1.1.1.2⟩,h.1.1.1.1.1.2⟩
theorem st_get(hm:∀x∈e.moves,moveF e x=true)(hH:H.length=e.moves.length)(hl:∀l∈H,l.length=e.mats.toNat){p m:Nat}(hp:p<e.places.length)(hmm:m<e.mats.toNat):∀i,i<=e.moves.length->
  Stk e.places.length e.mats.toNat (stN e.moves H e.mats.toNat (S0 e) i)/\((stN e.moves H e.mats.toNat (S0 e) i).getD p []).getD m 0=flowS e.mats.toNat (p:Int) m e.moves (ptH e.mats.toNat H) i
 | 0,_=>⟨S0_stk,S0_get⟩
 | i+1,hi=>by
  obtain⟨ih1,ih2⟩:=st_get hm hH hl hp hmm i (by omega);obtain⟨x,hx⟩:=jfy (l:=e.moves) (i:=i) (by omega);obtain⟨l,hli⟩:=jfy (l:=H) (i:=i) (by omega);obtain⟨⟨⟨a1,a2⟩,b1,b2⟩,hne⟩:=move_at (hm x (zk hx));have q1:x.fr.toNat<e.places.length:=by omega
  have q2:x.to.toNat<e.places.length:=by omega
  rw[jnw hx hli];refine⟨Stk.car ih1 q1 q2 _,?_⟩;rw[car_get ih1 q1 q2 (by omega) hmm hp,ih2,flowS,hx,zm hmm,pt_at i hmm,getD_some hli];dsimp only;refine qx _ ?_;by_cases h1:p=x.fr.toNat
  ·have e1:dl x.fr.toNat x.to.toNat p (l.getD m 0)= -l.getD m 0:=by unfold dl;rw[zm h1]
   have e2:sgnF (p:Int) x= -1:=by unfold sgnF;rw[zm (by omega)]
   rw[e1,e2,show((-1:Int):Rat)= -1 by decide];grind
  ·by_cases h2:p=x.to.toNat
   ·have e1:dl x.fr.toNat x.to.toNat p (l.getD m 0)=l.getD m 0:=by unfold dl;rw[zn h1,zm h2]
    have e2:sgnF (p:Int) x=1:=by unfold sgnF;rw[zn (by omega),zm (by omega)]
    rw[e1,e2,show((1:Int):Rat)=1 by decide];grind
   ·have e1:dl x.fr.toNat x.to.toNat p (l.getD m 0)=0:=by unfold dl;rw[zn h1,zn h2]
    have e2:sgnF (p:Int) x=0:=by unfold sgnF;rw[zn (by omega),zn (by omega)]
    rw[e1,e2,show((0:Int):Rat)=0 by decide,Rat.zero_mul]
def okAt(e:Evid)(H:List (List Rat))(k:Nat)(x:Move)(l:List Rat):Prop:=
 l.any negF=false/\jg2 ((e.places[x.fr.toNat]?.map Place.kind).getD 0) ((stN e.moves H e.mats.toNat (S0 e) k).getD x.fr.toNat []) x l=0/\jdd e x (sumF l)=true/\pureF e k l (sumF l)=true
theorem go_iff(hH:H.length=e.moves.length):∀(ms:List Move) (i:Nat),e.moves.drop i=ms->(jh0 e H (S0 e) i ms=0↔∀k x l,i<=k->e.moves[k]? =some x->H[k]? =some l->okAt e H k x l)
 | [],i,h=>by
  have hi:=List.drop_eq_nil_iff.1 h;refine⟨fun _ k x l hk hx=> ?_,fun _=>rfl⟩;rw[qG (by omega)]at hx;cases hx
 | x::ms,i,h=>by
  have hi:i<e.moves.length:=by
   rcases zU i e.moves.length with h1 | h1
   ·exact h1
   ·rw[qy h1]at h;cases h
  have hx:e.moves[i]? =some x:=by
   have:=qt (xs:=e.moves) (i:=i) (j:=0);rw[h]at this;simpa using this.symm
  obtain⟨l,hl⟩:=jfy (l:=H) (i:=i) (by omega);have ih:=go_iff hH ms (i+1) (by rw[<-je,h];rfl);have key:(∀k x l,i<=k->e.moves[k]? =some x->H[k]? =some l->okAt e H k x l)↔okAt e H i x l/\∀k x l,i+1<=k->e.moves[k]? =some x->H[k]? =some l->okAt e H k x l:=by
   refine⟨fun h=>⟨h i x l (zt _) hx hl,fun k y q hk=>h k y q (by omega)⟩,fun h k y q hk hy hq=> ?_⟩;by_cases e1:k=i
   ·subst e1;rw[hx]at hy;rw[hl]at hq;cases hy;cases hq;exact h.1
   ·exact h.2 k y q (by omega) hy hq
  rw[key,<-ih,jh0,hl];dsimp only;unfold okAt;generalize jg2 ((e.places[x.fr.toNat]?.map Place.kind).getD 0) ((stN e.moves H e.mats.toNat (S0 e) i).getD x.fr.toNat []) x l=T;generalize l.any negF=N;generalize jdd e x (sumF l)=W;generalize pureF e i l (sumF l)=P;generalize jh0 e H (S0 e) (i+1) ms=R;by_cases hT:T=0
  ·cases N<;>cases W<;>cases P<;>simp[hT]
  ·cases N<;>cases W<;>cases P<;>simp[hT]
theorem taken_iff{kind:Int}{a l:List Rat}{x:Move}{n:Nat}(ha:a.length=n)(hl:l.length=n):jg2 kind a x l=0↔kind=0\/((∀m,m<n->l.getD m 0<=a.getD m 0)/\(x.all=true->∀m,m<n->a.getD m 0<=l.getD m 0)):=by
 have gt:∀p:Rat×Rat,gtP p=true↔p.2<p.1:=fun p=>by
  rw[gtP,yG,<-jor (a:=p.1) (b:=p.2)];constructor
  ·intro h;omega
  ·intro h;unfold cmpR cmpI at h⊢;split at h
   ·omega
   ·split at h
    ·omega
    ·rename_i h1 h2;rw[zn h1,zn h2]
 have lt:∀p:Rat×Rat,ltP p=true↔p.1<p.2:=fun p=>by
  rw[ltP,yG,<-cmpR_neg (a:=p.1) (b:=p.2)];constructor
  ·intro h;omega
  ·intro h;unfold cmpR cmpI at h⊢;split at h
   ·rename_i h1;rw[zm h1]
   ·split at h<;>omega
 have zip:∀(f:Rat×Rat->Bool),(l.zip a).any f=true↔∃m,m<n/\f (l.getD m 0,a.getD m 0)=true:=fun f=>by
  rw[yx];constructor
  ·rintro⟨p,hp,hf⟩;obtain⟨m,hm,e⟩:=j4 hp;rw[wv,ha,hl]at hm;rw[List.getElem_zip]at e;refine⟨m,by omega,?_⟩;rw[getD_some (ze (by omega)),getD_some (ze (by omega)),e];exact hf
  ·rintro⟨m,hm,hf⟩;refine⟨(l.getD m 0,a.getD m 0),?_,hf⟩;rw[getD_some (ze (by omega)),getD_some (ze (by omega))];exact List.mem_iff_getElem.2 ⟨m,by rw[wv];omega,List.getElem_zip⟩
 have hg:(l.zip a).any gtP=true↔¬∀m,m<n->l.getD m 0<=a.getD m 0:=by
  rw[zip];constructor
  ·rintro⟨m,hm,h⟩ hh;have h1:=(gt _).1 h;have h2:=hh m hm;dsimp only at h1;grind
  ·intro h;rcases Classical.not_forall.1 h with ⟨m,hm⟩;rcases Classical.not_imp.1 hm with ⟨h1,h2⟩;exact⟨m,h1,(gt _).2 (by dsimp only;grind)⟩
 have hlt:(l.zip a).any ltP=true↔¬∀m,m<n->a.getD m 0<=l.getD m 0:=by
  rw[zip];constructor
  ·rintro⟨m,hm,h⟩ hh;have h1:=(lt _).1 h;have h2:=hh m hm;dsimp only at h1;grind
  ·intro h;rcases Classical.not_forall.1 h with ⟨m,hm⟩;rcases Classical.not_imp.1 hm with ⟨h1,h2⟩;exact⟨m,h1,(lt _).2 (by dsimp only;grind)⟩
 unfold jg2;by_cases hk:kind=0
 ·simp[hk]
 rw[zn hk];by_cases h1:∀m,m<n->l.getD m 0<=a.getD m 0
 ·rw[zn (fun h=>hg.1 h h1)];by_cases h2:∀m,m<n->a.getD m 0<=l.getD m 0
  ·have:(l.zip a).any ltP=false:=by
    rcases h:(l.zip a).any ltP with _ | _
    ·rfl
    ·exact absurd h2 (hlt.1 h)
   rw[this];exact⟨fun _=> .inr ⟨h1,fun _=>h2⟩,fun _=>rfl⟩
  ·rw[hlt.2 h2,qu];rcases hx:x.all with _ | _
   ·exact⟨fun _=> .inr ⟨h1,fun h=>(by cases h)⟩,fun _=>rfl⟩
   ·refine⟨fun h=>(by cases h),fun h=> ?_⟩;rcases h with h | h
    ·exact absurd h hk
    ·exact absurd (h.2 rfl) h2
 ·rw[zm (hg.2 h1)];refine⟨fun h=>(by cases h),fun h=> ?_⟩;rcases h with h | h
  ·exact absurd h hk
  ·exact absurd h.1 h1
end
end
section
open Go.Abs
open Go.LP (Rw RT tsum Sol tsum_app)
section
variable{e:Evid}{H:List (List Rat)}
theorem jns{l:List Rat}{M:Nat}(h:l.length=M):l.take M=l:=zu (by omega)
theorem jpj(hm:∀x∈e.moves,moveF e x=true)(hH:H.length=e.moves.length)(hl:∀l∈H,l.length=e.mats.toNat){k:Nat}{x:Move}{l:List Rat}(hx:e.moves[k]? =some x)(hk:H[k]? =some l):
  (∀w∈(if binF e x=true then []else jcd e.mats.toNat e.moves k x e.mats.toNat),w.sat (ptH e.mats.toNat H))↔
   jg2 ((e.places[x.fr.toNat]?.map Place.kind).getD 0) ((stN e.moves H e.mats.toNat (S0 e) k).getD x.fr.toNat []) x l=0:=by
 have hkl:k<e.moves.length:=by
  rcases zU k e.moves.length with h | h
  ·exact h
  ·rw[qG h]at hx;cases hx
 obtain⟨⟨⟨a1,a2⟩,b1,b2⟩,hne⟩:=move_at (hm x (zk hx));have q1:x.fr.toNat<e.places.length:=by omega
 obtain⟨pl,hpl⟩:=jfy q1;have hll:=hl l (zk hk);have hst:=fun{m:Nat} (hmm:m<e.mats.toNat)=>st_get hm hH hl q1 hmm k (by omega);by_cases hM:e.mats.toNat=0
 ·have e1:jcd e.mats.toNat e.moves k x e.mats.toNat=[]:=by rw[hM];rfl
  have e2:l=[]:=zO (by omega);rw[e1,e2];refine⟨fun _=> ?_,fun _ w hw=> ?_⟩
  ·unfold jg2;simp
  ·split at hw<;>cases hw
 have hlen:((stN e.moves H e.mats.toNat (S0 e) k).getD x.fr.toNat []).length=e.mats.toNat:=by
  have h:=(hst (m:=0) (by omega)).1;exact h.2 _ (jhs (by rw[h.1];exact q1))
 rw[taken_iff hlen hll,hpl];have hb:binF e x=true↔pl.kind=0:=by unfold binF;rw[hpl];exact yG
 show _↔pl.kind=0\/_;by_cases h0:pl.kind=0
 ·rw[zm (hb.2 h0)];exact⟨fun _=> .inl h0,fun _ w hw=>by cases hw⟩
 rw[zn (fun h=>h0 (hb.1 h))];have ht:∀m,m<e.mats.toNat->tsum (jaj e.mats.toNat x.fr m e.moves (k+1)) (ptH e.mats.toNat H)=((stN e.moves H e.mats.toNat (S0 e) k).getD x.fr.toNat []).getD m 0-l.getD m 0:=fun m hmm=>by
  have e1:((x.fr.toNat:Nat):Int)=x.fr:=by omega
  have e2:sgnF x.fr x= -1:=by unfold sgnF;rw[zm rfl]
  rw[jmk,flowS,hx,(hst hmm).2,e1,pt_at k hmm,getD_some hk];dsimp only;rw[e2,show((-1:Int):Rat)= -1 by decide];grind
 constructor
 ·intro h;refine .inr ⟨fun m hmm=> ?_,fun ha m hmm=> ?_⟩
  ·have h1:=(h _ (mem_stockR.2 ⟨m,hmm,rfl⟩)).1 (by dsimp only;split<;>decide);dsimp only at h1;rw[ht m hmm]at h1;grind
  ·have h1:=(h _ (mem_stockR.2 ⟨m,hmm,rfl⟩)).2 (by dsimp only;rw[zm ha];decide);dsimp only at h1;rw[ht m hmm]at h1;grind
 ·rintro(h | ⟨h1,h2⟩)
  ·exact absurd h h0
  intro w hw;obtain⟨m,hmm,rfl⟩:=mem_stockR.1 hw;have g1:=h1 m hmm;refine⟨fun _=> ?_,fun hk2=> ?_⟩
  ·dsimp only;rw[ht m hmm];grind
  ·dsimp only at hk2⊢;rw[ht m hmm];rcases ha:x.all with _ | _
   ·rw[ha]at hk2;exact absurd rfl hk2
   ·have g2:=h2 ha m hmm;grind
theorem jmj(hl:∀l∈H,l.length=e.mats.toNat){k:Nat}{x:Move}{l:List Rat}(hk:H[k]? =some l):(∀w∈jbp e e.mats.toNat k x,w.sat (ptH e.mats.toNat H))↔jdd e x (sumF l)=true:=by
 have hll:=hl l (zk hk);have ht:tsum (sumT e.mats.toNat k 1 (-1) 0 e.mats.toNat) (ptH e.mats.toNat H)=sumF l:=by
  rw[jk9 hk hll _ (zt _),jns hll,zn (by omega),show((1:Int):Rat)=1 by decide];grind
 have hle:∀a b:Rat,decide (cmpR a b<=0)=true↔a<=b:=fun a b=>by
  rw[yG];have:=(not_congr (jor (a:=a) (b:=b)));constructor
  ·intro h;have:=this.1 (by omega);grind
  ·intro h;have:=this.2 (by grind);omega
 unfold jbp jdd;by_cases hs:x.scale= -1
 ·rw[zm hs,zh hs];exact⟨fun _=>rfl,fun _ w hw=>by cases hw⟩
 rw[zn hs,zw hs,qP];cases ivlF e.certs e.recalls x.scale x.reading x.day with
 | none=>exact⟨fun _=>rfl,fun _ w hw=>by cases hw⟩
 | some p=>
  obtain⟨lo,hi⟩:=p;dsimp only;rw[zD,hle,hle];constructor
  ·intro h;have h1:=(h ⟨sumT e.mats.toNat k 1 (-1) 0 e.mats.toNat,0,lo⟩ (by simp)).1 (show(0:Int)≠1 by decide);have h2:=(h ⟨sumT e.mats.toNat k 1 (-1) 0 e.mats.toNat,1,hi⟩ (by simp)).2 (show(1:Int)≠0 by decide);dsimp only at h1 h2;rw[ht]at h1 h2;exact⟨h1,h2⟩
  ·rintro⟨h1,h2⟩ w hw;rcases zP.1 hw with rfl | hw
   ·exact⟨fun _=>by rw[ht];exact h1,fun h=>absurd rfl h⟩
   ·rw[zC.1 hw];exact⟨fun h=>absurd rfl h,fun _=>by rw[ht];exact h2⟩
theorem jsb(h0:jax e=0)(hl:∀l∈H,l.length=e.mats.toNat){k:Nat}{l:List Rat}(hk:H[k]? =some l):(∀w∈purR e.mats.toNat k e.purs,w.sat (ptH e.mats.toNat H))↔pureF e k l (sumF l)=true:=by
 have hll:=hl l (zk hk);unfold pureF purR;rw[List.all_eq_true];have key:∀p∈e.purs,((∀w∈pur1 e.mats.toNat k p,w.sat (ptH e.mats.toNat H))↔pureP k l (sumF l) p=true):=fun p hp=>by
  obtain⟨_,⟨m1,m2⟩,_⟩:=purF_iff.1 (jhw h0 p hp);obtain⟨f,hf⟩:=jfy (l:=l) (i:=p.mat.toNat) (by omega);unfold pur1 pureP;by_cases hm:p.move=(k:Int)
  ·rw[zm hm,zh hm,jT,qP];have t1:tsum (sumT e.mats.toNat k (-p.least) p.mat 1000 e.mats.toNat) (ptH e.mats.toNat H)=((1000:Int):Rat)*f-(p.least:Rat)*sumF l:=by
    rw[jk9 hk hll _ (zt _),jns hll,zm (by omega),getD_some hf,Rat.intCast_neg];grind
   have t2:tsum (sumT e.mats.toNat k p.most p.mat (-1000) e.mats.toNat) (ptH e.mats.toNat H)=(p.most:Rat)*sumF l-((1000:Int):Rat)*f:=by
    rw[jk9 hk hll _ (zt _),jns hll,zm (by omega),getD_some hf,Rat.intCast_neg];grind
   unfold keepF;rw[hf];dsimp only;rw[Bool.not_or,zD,jw,jw,ql,ql,cmpR_neg,jor];constructor
   ·intro h;have h1:=(h ⟨sumT e.mats.toNat k (-p.least) p.mat 1000 e.mats.toNat,0,0⟩ (by simp)).1 (show(0:Int)≠1 by decide);have h2:=(h ⟨sumT e.mats.toNat k p.most p.mat (-1000) e.mats.toNat,0,0⟩ (by simp)).1 (show(0:Int)≠1 by decide);dsimp only at h1 h2;rw[t1]at h1;rw[t2]at h2;exact⟨by grind,by grind⟩
   ·rintro⟨h1,h2⟩ w hw;rcases zP.1 hw with rfl | hw
    ·exact⟨fun _=>by rw[t1];dsimp only;grind,fun h=>absurd rfl h⟩
    ·rw[zC.1 hw];exact⟨fun _=>by rw[t2];dsimp only;grind,fun h=>absurd rfl h⟩
  ·rw[zn hm,zw hm];exact⟨fun _=>rfl,fun _ w hw=>by cases hw⟩
 constructor
 ·intro h p hp;exact(key p hp).1 fun w hw=>h w (jd.2 ⟨p,hp,hw⟩)
 ·intro h w hw;obtain⟨p,hp,hw⟩:=jd.1 hw;exact(key p hp).2 (h p hp) w hw
theorem joj(h0:jax e=0)(hH:H.length=e.moves.length)(hl:∀l∈H,l.length=e.mats.toNat):jh0 e H (S0 e) 0 e.moves=0↔Sol (e.moves.length*e.mats.toNat) (rowsE e) (ptH e.mats.toNat H):=by
 have hm:∀x∈e.moves,moveF e x=true:=jow (jbi h0).2.2.2.2.2.1;rw[go_iff hH e.moves 0 rfl];constructor
 ·intro h;refine⟨fun j hj=> ?_,fun w hw=> ?_⟩
  ·have hM:0<e.mats.toNat:=by
    rcases ye e.mats.toNat with h1 | h1
    ·rw[h1,Nat.mul_zero]at hj;exact absurd hj (yN _)
    ·exact h1
   have hk:j/e.mats.toNat<e.moves.length:=(Nat.div_lt_iff_lt_mul hM).2 hj;obtain⟨x,hx⟩:=jfy hk;obtain⟨l,hli⟩:=jfy (l:=H) (i:=j/e.mats.toNat) (by omega);obtain⟨f,hf⟩:=jfy (l:=l) (i:=j % e.mats.toNat) (by rw[hl l (zk hli)];exact jN _ hM);have h1:=(h _ x l (zH _) hx hli).1;unfold ptH;rw[getD_some hli,getD_some hf];rw[vv]at h1;have h2:=h1 f (zk hf);rw[negF,yG,sign_neg]at h2;grind
  ·obtain⟨k,x,hk,hx,hw⟩:=mem_rowsU.1 hw;obtain⟨l,hli⟩:=jfy (l:=H) (i:=k) (by omega);obtain⟨_,h2,h3,h4⟩:=h k x l (zH _) hx hli;unfold moveR at hw;simp only[qj]at hw;rcases hw with (hw | hw) | hw
   ·exact(jpj hm hH hl hx hli).2 h2 w hw
   ·exact(jmj hl hli).2 h3 w hw
   ·exact(jsb h0 hl hli).2 h4 w hw
 ·intro h k x l _ hx hli;have hkl:k<e.moves.length:=by
   rcases zU k e.moves.length with h | h
   ·exact h
   ·rw[qG h]at hx;cases hx
  have row:∀w∈moveR e e.mats.toNat k x,w.sat (ptH e.mats.toNat H):=fun w hw=>h.row w (mem_rowsU.2 ⟨k,x,hkl,hx,hw⟩);unfold moveR at row;refine⟨?_,(jpj hm hH hl hx hli).1 fun w hw=>row w (yz _ (yz _ hw)),(jmj hl hli).1 fun w hw=>row w (yz _ (y9 _ hw)),(jsb h0 hl hli).1 fun w hw=>row w (y9 _ hw)⟩;rw[vv];intro f hf;obtain⟨m,hm1,he⟩:=j4 hf;have hll:=hl l (zk hli);have h1:=h.pos (k*e.mats.toNat+m) (by
   have:(k+1)*e.mats.toNat<=e.moves.length*e.mats.toNat:=qw _ hkl;rw[jH]at this;omega)
  rw[pt_at k (by omega),getD_some hli,getD_some (ze hm1),he]at h1;rw[negF,yG,sign_neg];grind
end
end
section
open Go.Abs
attribute [local go_sem] Evid.iv Evid.c Move.c Place.c ints ic big frac fc Raw.c
theorem jpk{t b0 n:Nat}{bs:List Nat}{S:List (List Rat)}{R:Abs.Rows}(h:SubR (jbn t b0 bs S n) R):∀k x,Abs.look (jbn t b0 bs S n) k=some x->100000<=k/\Abs.look R k=some x:=by
 intro k x hk;refine⟨?_,h k x hk⟩;rcases zU k 100000 with h1 | h1
 ·rw[jc7 h1]at hk;cases hk
 ·exact h1
theorem h_takenH(b0 p n:Nat)(bs:List Nat)(e:Evid)(S:List (List Rat))(x:Move)(l a:List Rat)(pl:Place)(hnd:(b0::bs).Nodup)(hs:Stk p n S)(hbl:bs.length=p)(h0:0<=x.fr)(h0':x.fr<p)(hpl:e.places[x.fr.toNat]? =some pl)(ha:S[x.fr.toNat]? =some a)(hla:l.length<=a.length)(hl:l.length<=100000)
  (kl:∀r∈l,FL 19000000000 r) (ka:∀r∈a,FL 19000000000 r):
  CtrH G.P 78 [.im (.ref b0 36 1 p),.im e.iv,.im (.agg x.c),.im (fcs l)] (jbn 35 b0 bs S n)
   (fun r L'=>r= .im (.int (jg2 pl.kind a x l))/\L'=jbn 35 b0 bs S n):=by
 unfold fcs jg2;obtain⟨bf,hbf⟩:∃b,bs[x.fr.toNat]? =some b:=⟨_,ze (by omega)⟩;have hal:a.length=n:=hs.2 a (zk ha);have L0:=js8 (t:=35) (b0:=b0) (bs:=bs) (S:=S) (n:=n);have L1:=jr6 (t:=35) (n:=n) hnd hbf ha;have F1:=fun(d:Nat) (h:d<100000)=>jik (t:=35) (b0:=b0) (bs:=bs) (S:=S) (n:=n) h;have G1:=fun(d:Nat) (h:d<100000)=>jc7 (t:=35) (b0:=b0) (bs:=bs) (S:=S) (n:=n) h;have K1:=fun(d s:Nat) (es:List (List IV)) (h:d<100000)=>jkw (t:=35) (b0:=b0) (bs:=bs) (S:=S) (n:=n) (s:=s) (es:=es) h;rcases dk:decide (pl.kind=0)with _ | _
 ·rw[zn (zN dk)];refine jao [] [] [.tmp 8] Tryz.func78 ?_;unfold Evid.iv Evid.c;simp only[h0,za,hpl,dk,F1,K1,go_sem];refine jap [0,5,6,9,20,21,22] (fun i:Nat=>⟨[(0,.im (.ref b0 36 1 p)),(5,.loc 5 8 0 0),(6,.loc 6 6 0 0),(9,.im (.bool (((l.zip a).take i).any ltP))),(20,.im (.sl (l.map fc))),(21,.im (.int l.length)),(22,.im (.int i))],(6,6,[x.c])::(5,8,[e.c])::jbn 35 b0 bs S n,[]⟩)
   (fun i=>i<=l.length/\((l.zip a).take i).any gtP=false) (fun i=>l.length-i) 0 ?_ ?_ rfl ⟨zH _,rfl⟩ ?_
  ·simp only[Int.natCast_zero,go_sem]
  ·exact SubR.of_eq rfl
  ·intro i ⟨hi,hg⟩;by_cases hp:(i:Int)<l.length
   ·have hd:decide ((i:Int)<l.length)=true:=zh hp;obtain⟨f,hf⟩:=jbf hp;obtain⟨y,hy⟩:∃y,a[i]? =some y:=⟨_,ze (by omega)⟩;have hz:(l.zip a)[i]? =some (f,y):=by rw[List.getElem?_zip_eq_some];exact⟨hf,hy⟩
    have h1:=ja7 (n:=(i:Int)+1) (by omega);have hin:(i:Int)<n:=by omega
    have hc:=f_cmp (kl f (zk hf)) (ka y (zk hy));have t1:=jcu (f:=gtP) hz;have t2:=jcu (f:=ltP) hz;have e1:gtP (f,y)=decide (cmpR f y=1):=rfl;have e2:ltP (f,y)=decide (cmpR f y= -1):=rfl;generalize cmpR f y=c at*;simp only[frac,ints]at hc;rcases dg:decide (c=1)with _ | _
    ·rw[dg]at e1;rw[hg,e1,jS]at t1;rcases dl:decide (c= -1)with _ | _
     ·rw[dl]at e2;rw[e2,jS]at t2;simp only[hd,za,hf,F1,K1,go_sem];refine jae 10 ?_;simp only[h0,h0',hin,L0,L1,F1,G1,K1,outer,hbf,za,hy,go_sem];refine ja4 hc (by decide) ?_;simp only[dg,dl,go_sem];refine ja6 (i+1) ?_ ?_ rfl (by show l.length-(i+1)<l.length-i;omega) ⟨by omega,t1⟩
      ·simp only[h1,Int.natCast_add,t2,go_sem]
      ·exact jbq (by show Abs.look (_::_::jbn _ _ _ _ _) 11=none;rw[ja0 _ _ (by decide),ja0 _ _ (by decide),jc7 (by decide)]) (SubR.of_eq rfl)
     ·rw[dl]at e2;rw[e2,j8]at t2;simp only[hd,za,hf,F1,K1,go_sem];refine jae 10 ?_;simp only[h0,h0',hin,L0,L1,F1,G1,K1,outer,hbf,za,hy,go_sem];refine ja4 hc (by decide) ?_;simp only[dg,dl,go_sem];refine ja6 (i+1) ?_ ?_ rfl (by show l.length-(i+1)<l.length-i;omega) ⟨by omega,t1⟩
      ·simp only[h1,Int.natCast_add,t2,go_sem]
      ·exact jbq (by show Abs.look (_::_::jbn _ _ _ _ _) 11=none;rw[ja0 _ _ (by decide),ja0 _ _ (by decide),jc7 (by decide)]) (SubR.of_eq rfl)
    ·rw[dg]at e1;rw[jtm hz e1,zm rfl];simp only[hd,za,hf,F1,K1,go_sem];refine jae 10 ?_;simp only[h0,h0',hin,L0,L1,F1,G1,K1,outer,hbf,za,hy,go_sem];refine ja4 hc (by decide) ?_;simp only[dg,go_sem];refine jfl (jbn 35 b0 bs S n) (jpk ?_) ?_
     ·exact jbq (jc7 (by dsimp only;decide)) (jbq (jc7 (by dsimp only;decide)) (jbq (jc7 (by dsimp only;decide)) (SubR.of_eq rfl)))
     ·simp only[go_sem]
   ·have hd:decide ((i:Int)<l.length)=false:=zw hp;have hzl:(l.zip a).length<=i:=by rw[wv];omega
    rw[zu hzl]at hg⊢;rw[hg,zn yw];rcases hany:(l.zip a).any ltP with _ | _
    ·rw[qL,zn yw];simp only[hd,go_sem];refine jfl (jbn 35 b0 bs S n) (jpk ?_) ?_
     ·exact jbq (jc7 (by dsimp only;decide)) (jbq (jc7 (by dsimp only;decide)) (SubR.of_eq rfl))
     ·simp only[go_sem]
    ·rw[qu];rcases hall:x.all with _ | _
     ·rw[zn yw];simp only[hd,hall,go_sem];refine jfl (jbn 35 b0 bs S n) (jpk ?_) ?_
      ·exact jbq (jc7 (by dsimp only;decide)) (jbq (jc7 (by dsimp only;decide)) (SubR.of_eq rfl))
      ·simp only[go_sem]
     ·rw[zm rfl];simp only[hd,hall,go_sem];refine jfl (jbn 35 b0 bs S n) (jpk ?_) ?_
      ·exact jbq (jc7 (by dsimp only;decide)) (jbq (jc7 (by dsimp only;decide)) (SubR.of_eq rfl))
      ·simp only[go_sem]
 ·rw[zm (zJ dk)];refine jao [] [] [.tmp 8] Tryz.func78 ?_;unfold Evid.iv Evid.c;simp only[h0,za,hpl,dk,F1,K1,go_sem];refine jfl (jbn 35 b0 bs S n) (jpk ?_) ?_
  ·exact jbq (jc7 (by dsimp only;decide)) (jbq (jc7 (by dsimp only;decide)) (SubR.of_eq rfl))
  ·simp only[go_sem]
end
section
open Go.Abs
attribute [local go_sem] Evid.iv Evid.c Move.c Place.c ints ic big frac fc Raw.c
theorem Behind_pre{L L':Abs.Rows}:∀(pre:Abs.Rows),(∀p∈pre,Abs.look L p.1=none)->jev (pre++L) L L' (pre++L')
 | [],_=>fun _ _ h=> .inl h
 | (j,v)::pre,hp=>fun k x h=>by
  by_cases e:k=j
  ·subst e;rw[List.cons_append,ja2]at h⊢;exact .inr ⟨hp _ (zZ ..),h⟩
  ·rw[List.cons_append,ja0 _ _ e]at h⊢;exact Behind_pre pre (fun p h=>hp p (qq _ h)) k x h
theorem h_check{q:Nat}(e:Evid)(h:List (List Raw))(H:List (List Rat))(h0:jax e=0)(hs:jew e h=true)(hh:h.map rowC=H.map stC)(hHl:H.length=e.moves.length)
  (hH:∀l∈H,l.length=e.mats.toNat/\∀r∈l,FL q r) (hsz:∀l∈h,∀x∈l,x.l.length<=50000000000/\x.m.length<=50000000000) (hrow:∀l∈h,l.length<=100000) (hmv:e.moves.length<=1000) (hpl:e.places.length<=1000)
  (hm1:0<=e.mats) (hm2:e.mats<=100) (hce:e.certs.length<=100000) (hre:e.recalls.length<=100000) (hpe:e.purs.length<=100000) (hmove:∀x∈e.moves,(0<=x.fr/\x.fr<(e.places.length:Int))/\(0<=x.to/\x.to<(e.places.length:Int)))
  (hq:q<=100000000) (hqm:(q+q+2)*e.moves.length<=9000000000) (hqs:e.mats.toNat*(q+1)<=8000000000) (hpur:∀p∈e.purs,(0<=p.mat/\p.mat<e.mats)/\(-9223372036854775808<=p.least/\p.least<=9223372036854775807)/\(-9223372036854775808<=p.most/\p.most<=9223372036854775807)):
  Ctr G.P 30 [e.iv,hist h] (· = .int (jh0 e H (List.replicate e.places.length (List.replicate e.mats.toNat ((0:Int):Rat))) 0 e.moves)):=by
 have k1:=c21 e;rw[h0]at k1;have k2:=jt0 e h (by have:=qx List.length hh;simp at this;omega) hrow hsz;rw[hs]at k2;have k3:=h_none e hpl hm1 (by omega);unfold hist at k2⊢;rw[hh]at k2⊢;have hS0:Stk e.places.length e.mats.toNat (List.replicate e.places.length (List.replicate e.mats.toNat ((0:Int):Rat))):=⟨by simp,fun r hr=>by rw[(y7.1 hr).2];simp⟩;have hF0:∀r∈List.replicate e.places.length (List.replicate e.mats.toNat ((0:Int):Rat)),∀x∈r,FL 4 x:=fun r hr x hx=>by
  rw[(y7.1 hr).2]at hx;rw[(y7.1 hx).2];exact jc5 (by omega)
 have hst:=stN_ok hS0 hF0 hmove hH;generalize List.replicate e.places.length (List.replicate e.mats.toNat ((0:Int):Rat))=S0 at*;simp only[Evid.iv,Evid.c]at k1 k2 k3;refine jm1 (goodH [] []) _ _ [.tmp 4] Tryz.func30 rfl rfl (by decide+kernel) rfl ?_;unfold Evid.iv Evid.c;simp only[go_sem];refine ja1 k1 ?_;simp only[go_sem];refine ja1 k2 ?_;simp only[go_sem];refine jcz k3 (by decide) rfl (fun _ _ h=>by cases h) (fun _ _ h=>by cases h) ?_;rintro r L' ⟨b0,bs,rfl,hnd,hbl,rfl⟩ hfresh;refine⟨(2,8,[e.c])::jbn 35 b0 bs S0 e.mats.toNat,?_,?_⟩
 ·intro k x hk;by_cases e2:k=2
  ·subst e2;rw[ja2]at hk;exact .inr ⟨rfl,by rw[<-hk];exact ja2 _ _ _⟩
  ·rw[ja0 _ _ e2]at hk;exact .inl hk
 clear hfresh k1 k2 k3;have F1:=fun(S:List (List Rat)) (d:Nat) (h:d<100000)=>jik (t:=35) (b0:=b0) (bs:=bs) (S:=S) (n:=e.mats.toNat) h;have G1:=fun(S:List (List Rat)) (d:Nat) (h:d<100000)=>jc7 (t:=35) (b0:=b0) (bs:=bs) (S:=S) (n:=e.mats.toNat) h;have K1:=fun(S:List (List Rat)) (d s:Nat) (es:List (List IV)) (h:d<100000)=>jkw (t:=35) (b0:=b0) (bs:=bs) (S:=S) (n:=e.mats.toNat) (s:=s) (es:=es) h;simp only[go_sem];refine jap [1,2,5,20,21,22] (fun i:Nat=>⟨[(1,.im (.sl (H.map stC))),(2,.loc 2 8 0 0),(5,.im (.ref b0 36 1 e.places.length)),(20,.im (.sl (e.moves.map Move.c))),(21,.im (.int e.moves.length)),(22,.im (.int i))],
   (2,8,[e.c])::jbn 35 b0 bs (stN e.moves H e.mats.toNat S0 i) e.mats.toNat,[]⟩)
  (fun i=>i<=e.moves.length/\jh0 e H S0 0 e.moves=jh0 e H S0 i (e.moves.drop i)) (fun i=>e.moves.length-i) 0 ?_ ?_ rfl ⟨zH _,rfl⟩ ?_
 ·simp only[Int.natCast_zero,go_sem]
 ·exact SubR.of_eq rfl
 ·intro i ⟨hi,ha⟩;by_cases hp:(i:Int)<e.moves.length
  ·have hd:decide ((i:Int)<e.moves.length)=true:=zh hp;obtain⟨x,hx⟩:=jbf hp;obtain⟨l,hl⟩:∃l,H[i]? =some l:=⟨_,ze (by omega)⟩;have hiH:(i:Int)<H.length:=by omega
   have h1:=ja7 (n:=(i:Int)+1) (by omega);obtain⟨⟨hS1,hS2⟩,hl2⟩:=And.intro (hst i) (hH l (zk hl));obtain⟨⟨p1,p2⟩,p3,p4⟩:=hmove x (zk hx);obtain⟨hll,hlF⟩:=hl2;have hsucc:=jnw (n:=e.mats.toNat) (S:=S0) hx hl;obtain⟨pl,hpk⟩:∃pl,e.places[x.fr.toNat]? =some pl:=⟨_,ze (by omega)⟩;have hgo:jh0 e H S0 i (e.moves.drop i)=if l.any negF=true then 3 else if jg2 pl.kind ((stN e.moves H e.mats.toNat S0 i).getD x.fr.toNat []) x l≠0 then jg2 pl.kind ((stN e.moves H e.mats.toNat S0 i).getD x.fr.toNat []) x l
     else if jdd e x (sumF l)=false then 24 else if pureF e i l (sumF l)=false then 13 else jh0 e H S0 (i+1) (e.moves.drop (i+1)):=by
    rw[jqm hx,jh0,hl,hpk];rfl
   rw[hgo]at ha;clear hgo;generalize hS1e:stN e.moves H e.mats.toNat S0 (i+1)=S1 at*;generalize stN e.moves H e.mats.toNat S0 i=S at*;obtain⟨a,hat⟩:∃a,S[x.fr.toNat]? =some a:=⟨_,ze (by rw[hS1.1];omega)⟩;have hag:S.getD x.fr.toNat []=a:=by rw[qi,hat];rfl
   rw[hag]at ha;have hal:a.length=e.mats.toNat:=hS1.2 a (zk hat);have hqi:(q+q+2)*i<=(q+q+2)*e.moves.length:=Nat.mul_le_mul_left _ (by omega);have q1:=h_negative l (by omega) (fun r hr=>(hlF r hr).mono (by omega));have q2:=h_takenH b0 e.places.length e.mats.toNat bs e S x l a pl hnd hS1 hbl p1 p2 hpk hat (by omega) (by omega) (fun r hr=>(hlF r hr).mono (by omega)) (fun r hr=>(hS2 a (zk hat) r hr).mono (by omega));have q3:=h_sum l (by omega) (fun r hr=>(hlF r hr).mono (by omega));have hms:FL 9000000000 (sumF l):=(FL_sumF hlF).mono (by rw[hll];omega);have q4:=h_weighed e x (sumF l) (hms.mono (by omega)) hce hre;have q5:=h_pure e i l (sumF l) hpe hms (fun r hr=>(hlF r hr).mono (by omega)) (fun p hp=>⟨⟨(hpur p hp).1.1,by have:=(hpur p hp).1.2;omega⟩,(hpur p hp).2⟩);have q6:=h_carry b0 bs S x l e.places.length e.mats.toNat (4+(q+q+2)*i) q hnd hS1 hbl hpl (by omega) ⟨p1,p2⟩ ⟨p3,p4⟩ hll hlF (SL.of_all hS2) (by omega) (by omega);rw[<-hsucc]at q6;generalize jg2 pl.kind a x l=tk at*;generalize l.any negF=ng at*;generalize jdd e x (sumF l)=wt at*;generalize pureF e i l (sumF l)=pt at*;generalize sumF l=mass at*;unfold fcs at q1 q2 q3 q5 q6;simp only[frac,ints,Evid.iv,Evid.c,Move.c]at q1 q2 q3 q4 q5 q6;clear hst hsz hrow hmove hpur;simp only[hd,za,hx,hl,hiH,stC,F1,G1,K1,go_sem];refine ja1 q1 ?_
   simp only[hd,F1,G1,K1,go_sem];refine jc1 (fun c1=> ?_) (fun c1=> ?_)
   ·subst c1;rw[zm rfl]at ha;simp only[go_sem];refine jfm [] ?_;simp only[ha,go_sem]
   subst c1;rw[zn yw]at ha;simp only[F1,G1,K1,go_sem];refine jae 7 ?_;simp only[hd,za,hl,hiH,stC,F1,G1,K1,go_sem];refine jai q2 (by decide) rfl st_blks ?_ ?_
   ·exact jbq (by show Abs.look (jbn _ _ _ _ _) 7=none;rw[jc7 (by decide)]) (jbq (by show Abs.look (jbn _ _ _ _ _) 2=none;rw[jc7 (by decide)]) (SubR.of_eq rfl))
   rintro r L' ⟨rfl,rfl⟩ hfresh;clear hfresh;refine⟨(7,6,[x.c])::(2,8,[e.c])::jbn 35 b0 bs S e.mats.toNat,?_,?_⟩
   ·exact Behind_pre [(7,6,[x.c]),(2,8,[e.c])] (by
     intro p hp;rcases zP.1 hp with rfl | hp
     ·exact jc7 (by dsimp only;decide)
     ·rw[zC.1 hp];exact jc7 (by dsimp only;decide))
   simp only[F1,G1,K1,go_sem];refine jc1 (fun c2=> ?_) (fun c2=> ?_)
   case refine_2=>
    have c2':tk≠0:=zN c2;rw[zm c2']at ha;simp only[c2,go_sem];refine jfm [] ?_;simp only[ha,go_sem]
   have c2':¬tk≠0:=fun h=>h (zJ c2);rw[zn c2']at ha;simp only[c2,hd,za,hl,hiH,stC,F1,G1,K1,go_sem];refine ja1 q3 ?_;simp only[F1,G1,K1,go_sem];refine ja1 q4 ?_;simp only[F1,G1,K1,go_sem];refine jc1 (fun c3=> ?_) (fun c3=> ?_)
   case refine_2=>
    subst c3;rw[zm rfl]at ha;simp only[go_sem];refine jfm [] ?_;simp only[ha,go_sem]
   subst c3;rw[zn (by decide)]at ha;simp only[F1,G1,K1,go_sem];refine jae 10 ?_;simp only[hd,za,hl,hiH,stC,F1,G1,K1,go_sem];refine ja4 q5 (by decide) ?_;simp only[F1,G1,K1,go_sem];refine jc1 (fun c4=> ?_) (fun c4=> ?_)
   case refine_2=>
    subst c4;rw[zm rfl]at ha;simp only[go_sem];refine jfm [] ?_;simp only[ha,go_sem]
   subst c4;rw[zn (by decide)]at ha;simp only[F1,G1,K1,go_sem];refine jae 6 ?_;simp only[hd,za,hl,hiH,stC,F1,G1,K1,go_sem];refine jai q6 (by decide) rfl st_blks ?_ ?_
   ·exact jbq (by show Abs.look (jbn _ _ _ _ _) 9=none;rw[jc7 (by decide)]) (jbq (by show Abs.look (jbn _ _ _ _ _) 7=none;rw[jc7 (by decide)]) (jbq (by show Abs.look (jbn _ _ _ _ _) 2=none;rw[jc7 (by decide)]) (SubR.of_eq rfl)))
   rintro r L' ⟨rfl,rfl⟩ hfresh;clear hfresh;refine⟨(9,4,[fc mass])::(7,6,[x.c])::(2,8,[e.c])::jbn 35 b0 bs S1 e.mats.toNat,?_,?_⟩
   ·exact Behind_pre [(9,4,[fc mass]),(7,6,[x.c]),(2,8,[e.c])] (by
     intro p hp;rcases zP.1 hp with rfl | hp
     ·exact jc7 (by dsimp only;decide)
     ·rcases zP.1 hp with rfl | hp
      ·exact jc7 (by dsimp only;decide)
      ·rw[zC.1 hp];exact jc7 (by dsimp only;decide))
   simp only[F1,G1,K1,go_sem];refine ja6 (i+1) ?_ ?_ rfl (by omega) ⟨by omega,ha⟩
   ·simp only[h1,Int.natCast_add,go_sem]
   ·dsimp only;rw[hS1e];exact jbq (by show Abs.look (_::jbn _ _ _ _ _) 9=none;rw[ja0 _ _ (by decide),jc7 (by decide)]) (jbq (by show Abs.look (_::jbn _ _ _ _ _) 7=none;rw[ja0 _ _ (by decide),jc7 (by decide)]) (SubR.of_eq rfl))
  ·have hd:decide ((i:Int)<e.moves.length)=false:=zw hp;rw[qy (by omega),jh0]at ha;simp only[hd,go_sem];refine jfm [] ?_;simp only[ha,go_sem]
end
section
open Go.Abs
open Go.LP (Sol)
attribute [local go_sem] Evid.iv Evid.c Purity.c ints ic big frac fc
theorem jt2(e:Evid)(h:List (List Raw))(h0:jax e=0)(hs:jew e h=false)(hl:h.length<=100000)(hsz:∀l∈h,∀x∈l,x.l.length<=50000000000/\x.m.length<=50000000000)(hrow:∀l∈h,l.length<=100000):
  Ctr G.P 30 [e.iv,hist h] (· = .int 2):=by
 have k1:=c21 e;rw[h0]at k1;have k2:=jt0 e h hl hrow hsz;rw[hs]at k2;simp only[Evid.iv,Evid.c]at k1 k2;refine jm1 (goodH [] []) _ _ [.tmp 4] Tryz.func30 rfl rfl (by decide+kernel) rfl ?_;unfold Evid.iv Evid.c;simp only[go_sem];refine ja1 k1 ?_;simp only[go_sem];refine ja1 k2 ?_;simp only[go_sem];refine jfm [] ?_;simp only[go_sem]
structure HistOf(e:Evid)(h:List (List Raw))(H:List (List Rat)):Prop where
 eq:h.map rowC=H.map stC
 len:H.length=e.moves.length
 row:∀l∈H,l.length=e.mats.toNat/\∀r∈l,FL 3 r
def FewH(h:List (List Raw)):Prop:=h.length<=20/\∀l∈h,l.length<=10/\∀x∈l,x.l.length<=3/\x.m.length<=3
end
section
open Go.Abs
attribute [local go_sem] ints ic Raw.c rowC
def fewY(k:Int)(x:Raw):Bool:=decide ((x.l.length:Int)<=k)&&decide ((x.m.length:Int)<=k)
theorem t_few5y(x:Raw)(k:Int):Ctr G.P 97 [.agg x.c,.int k] (· = .bool (fewY k x)):=by
 refine ja5 [.tmp 4] Tryz.func97 ?_;unfold fewY;simp only[zq,go_sem]
 repeat' (first | (refine jc1 (fun hd=> ?_) (fun hd=> ?_)<;>simp only[*,go_sem]))
def okX(l:List Raw):Prop:=l.length<=8/\∀x∈l,x.l.length<=3/\x.m.length<=3
theorem few15_of{h:List (List Raw)}(h1:h.length<=14)(h2:∀l∈h,okX l):FewH h:=⟨by omega,fun l hl=>⟨by have:=(h2 l hl).1;omega,(h2 l hl).2⟩⟩
theorem t_few15(h:List (List Raw)):Ctr G.P 41 [hist h] (fun r=>∃z,r= .bool z/\(z=true->FewH h)):=by
 unfold hist;refine ja5 [.tmp 2] Tryz.func41 ?_;simp only[go_sem];refine jan [0,3] [] (fun i:Nat=>⟨[(0,.im (.sl (h.map rowC))),(3,.im (.int i))],[],[]⟩)
  (fun i=>i<=h.length/\i<=20/\∀l∈h.take i,okX l) (fun i=>h.length-i) 0 ?_ ⟨zH _,zH _,by simp⟩ ?_
 ·simp only[Int.natCast_zero,go_sem]
 intro i ⟨hi,h20,ha⟩;have fin:(h.length<=20->∀l∈h,okX l)->∃z,IV.bool (decide ((h.length:Int)<=14))= .bool z/\(z=true->FewH h):=fun hall=>⟨_,rfl,fun hz=>by
  have:=zJ hz;exact few15_of (by omega) (hall (by omega))⟩
 by_cases hp:(i:Int)<h.length
 ·have hd:decide ((i:Int)<h.length)=true:=zh hp;have hin:i<h.length:=by omega
  rcases d20:decide ((i:Int)<20)with _ | _
  ·have:=zN d20;simp only[hd,d20,zq,go_sem];exact fin fun h1=>by omega
  have b20:=zJ d20;obtain⟨l,hl⟩:=jbf hp;have h1:=ja7 (n:=(i:Int)+1) (by omega);rcases d8:decide (8<(l.length:Int))with _ | _
  case true=>
   simp only[hd,d20,d8,zq,za,hl,hp,hin,go_sem];exact⟨false,rfl,fun hz=>by cases hz⟩
  have l8:=zN d8;simp only[hd,d20,d8,zq,za,hl,hp,hin,go_sem];refine jan [0,3,4] [] (fun m:Nat=>⟨[(0,.im (.sl (h.map rowC))),(3,.im (.int i)),(4,.im (.int m))],[],[]⟩)
   (fun m=>m<=l.length/\∀x∈l.take m,x.l.length<=3/\x.m.length<=3) (fun m=>l.length-m) 0 ?_ ⟨zH _,by simp⟩ ?_
  ·simp only[Int.natCast_zero,go_sem]
  intro m ⟨hm,hb⟩;by_cases hq:(m:Int)<l.length
  ·have he:decide ((m:Int)<l.length)=true:=zh hq;have hml:m<l.length:=by omega
   obtain⟨x,hx⟩:=jbf hq;have k5:=t_few5y x 3;have h2:=ja7 (n:=(m:Int)+1) (by omega);unfold Raw.c at k5;rcases hf:fewY 3 x with _ | _
   ·rw[hf]at k5;simp only[he,zq,za,hl,hp,hin,hq,hml,hx,go_sem];refine ja1 k5 ?_;simp only[go_sem];exact⟨false,rfl,fun hz=>by cases hz⟩
   ·rw[hf]at k5;simp only[he,zq,za,hl,hp,hin,hq,hml,hx,go_sem];refine ja1 k5 ?_;simp only[go_sem];refine jab (m+1) ?_ ?_ ?_
    ·simp only[h2,Int.natCast_add,go_sem]
    ·show l.length-(m+1)<l.length-m;omega
    ·refine⟨by show m+1<=l.length;omega,fun y hy=> ?_⟩;rw[take_succ hx,qj,zC]at hy;rcases hy with hy | rfl
     ·exact hb y hy
     ·simp only[fewY,zD,zW]at hf;omega
  ·have he:decide ((m:Int)<l.length)=false:=zw hq;rw[zu (by omega)]at hb;simp only[he,zq,za,hl,hp,hin,go_sem];refine jab (i+1) ?_ ?_ ?_
   ·simp only[h1,Int.natCast_add,go_sem]
   ·show h.length-(i+1)<h.length-i;omega
   ·refine⟨by show i+1<=h.length;omega,by show i+1<=20;omega,fun y hy=> ?_⟩;rw[take_succ hl,qj,zC]at hy;rcases hy with hy | rfl
    ·exact ha y hy
    ·exact⟨by omega,hb⟩
 ·have hd:decide ((i:Int)<h.length)=false:=zw hp;rw[zu (by omega)]at ha;simp only[hd,zq,go_sem];exact fin fun _=>ha
end
section
open Go.Abs
open Go.LP (Sol)
attribute [local go_sem] ints ic Evid.c Evid.iv Place.c Move.c Cert.c Recall.c Purity.c setC
theorem su_hist{e:Evid}(S:List Int){h:List (List Raw)}(hf:FewH h)(h0:jax e=0):∃c c':Int,Ctr G.P 30 [e.iv,hist h] (· = .int c)/\Ctr G.P 30 [(offE S e).iv,hist h] (· = .int c')/\
  (c=0->c'=0/\posB e=true)/\(c'=0->posS e S=true):=by
 obtain⟨g1,g2⟩:=hf;have h0':=je3 (S:=S) h0;have hsh:jew (offE S e) h=jew e h:=by unfold jew;rw[off_len];rfl
 rcases hs:jew e h with _ | _
 ·exact⟨2,2,jt2 e h h0 hs (by omega) (fun l hl x hx=>by have:=(g2 l hl).2 x hx;omega) (fun l hl=>by have:=(g2 l hl).1;omega),
   jt2 (offE S e) h h0' (hsh.trans hs) (by omega) (fun l hl x hx=>by have:=(g2 l hl).2 x hx;omega) (fun l hl=>by have:=(g2 l hl).1;omega),fun h=>absurd h (by decide),fun h=>absurd h (by decide)⟩
 ·have hs':=hs;rw[jew,zD,zW]at hs';obtain⟨H,a1,a2,a3⟩:=hist_of hs'.2 (k:=3) (fun l hl x hx=>(g2 l hl).2 x hx);have hmt:=(jbi h0).2.1;have hlx:=jm5 h0;have hlx':=jm5 h0';have hHl:H.length=e.moves.length:=by omega
  have hHl':H.length=(offE S e).moves.length:=by rw[off_len];exact hHl
  have hH:∀l∈H,l.length=e.mats.toNat/\∀r∈l,FL 3 r:=fun l hl=>⟨by have:=(a3 l hl).1;omega,(a3 l hl).2⟩;have hm':(offE S e).mats=e.mats:=rfl;have hol:=off_len (S:=S) (e:=e);refine⟨_,_,h_check e h H h0 hs a2 hHl hH (fun l hl x hx=>by have:=(g2 l hl).2 x hx;omega) (fun l hl=>by have:=(g2 l hl).1;omega) (by omega) (by omega) (by omega) (by omega) (by omega) (by omega) (by omega) (ji9 h0) (by omega) (by omega) (by omega) (jm4 h0),
   h_check (offE S e) h H h0' (hsh.trans hs) a2 hHl' hH (fun l hl x hx=>by have:=(g2 l hl).2 x hx;omega) (fun l hl=>by have:=(g2 l hl).1;omega) (by omega) (by omega) (by omega) (by omega) (by omega) (by omega) (by omega) (ji9 h0') (by omega) (by omega) (by omega) (jm4 h0'),fun hc=> ?_,fun hc=> ?_⟩
  ·have hx:=(joj h0 hHl fun l hl=>(hH l hl).1).1 hc;refine⟨(joj h0' hHl' fun l hl=>(hH l hl).1).2 ?_,posB_iff.2 ⟨_,hx⟩⟩;rw[off_len];exact hx.sub rows_off_sub
  ·have hx:=(joj h0' hHl' fun l hl=>(hH l hl).1).1 hc;exact posB_iff.2 ⟨_,hx⟩
theorem w_truth(e:Evid)(S:List Int)(h:List (List Raw)):Ctr G.P 6 [e.iv,ints S,hist h] (· = .bool true):=by
 have k0:=jkb;have kl:=jii e;have kF:=t_few15 h;simp only[hist]at kF;have kc:=c21 e;rcases hl:jjy e with _ | _
 ·rw[hl]at kl;simp only[Evid.iv,Evid.c,hist]at kl⊢;refine ja5 [.tmp 6] Tryz.func6 ?_;simp only[go_sem];refine ja1 k0 ?_;simp only[go_sem];refine ja1 kl ?_;simp only[go_sem]
 rw[hl]at kl;by_cases hfew:FewH h
 case neg=>
  simp only[Evid.iv,Evid.c,hist]at kl⊢;generalize hck:jax e=z at*;refine ja5 [.tmp 6] Tryz.func6 ?_;simp only[go_sem];refine ja1 k0 ?_;simp only[go_sem];refine ja1 kl ?_;simp only[go_sem];refine jck kF ?_;rintro _ ⟨z',rfl,hz⟩;rcases z' with _ | _
  ·simp only[go_sem]
  ·exact absurd (hz rfl) hfew
 by_cases hc:jax e=0
 case neg=>
  generalize jax e=z at*;have hz:decide (z=0)=false:=zw hc;simp only[Evid.iv,Evid.c,hist]at kl kc⊢;refine ja5 [.tmp 6] Tryz.func6 ?_;simp only[go_sem];refine ja1 k0 ?_;simp only[go_sem];refine ja1 kl ?_;simp only[go_sem];refine jck kF ?_;rintro _ ⟨z',rfl,_⟩;rcases z' with _ | _
  ·simp only[go_sem]
  ·simp only[go_sem];refine ja1 kc ?_;simp only[hz,go_sem]
 rw[hc]at kc;by_cases h6:S.length<=6
 case neg=>
  have hz:decide (6<(S.length:Int))=true:=zh (by omega);simp only[Evid.iv,Evid.c,hist]at kl kc⊢;refine ja5 [.tmp 6] Tryz.func6 ?_;simp only[go_sem];refine ja1 k0 ?_;simp only[go_sem];refine ja1 kl ?_;simp only[go_sem];refine jck kF ?_;rintro _ ⟨z',rfl,_⟩;rcases z' with _ | _
  ·simp only[go_sem]
  ·simp only[go_sem];refine ja1 kc ?_;simp only[hz,zq,go_sem]
 have hz:decide (6<(S.length:Int))=false:=zw (by omega);obtain⟨hs,hm5⟩:=jgm hl hc;obtain⟨c,c',kh,kh',hcc,hcp⟩:=su_hist S hfew hc;have kw:=jea S hc (by omega);rcases d':decide (c'=0)with _ | _
 ·have d:decide (c=0)=false:=zw fun h=>zN d' (hcc h).1;simp only[Evid.iv,Evid.c,hist,ints]at kl kc kh kh' kw⊢;refine ja5 [.tmp 6] Tryz.func6 ?_;simp only[go_sem];refine ja1 k0 ?_;simp only[go_sem];refine ja1 kl ?_;simp only[go_sem];refine jck kF ?_;rintro _ ⟨z',rfl,_⟩;rcases z' with _ | _
  ·simp only[go_sem]
  ·simp only[go_sem];refine ja1 kc ?_;simp only[hz,zq,go_sem];refine ja1 kw ?_;simp only[go_sem];refine ja1 kh' ?_;simp only[d',go_sem];refine ja1 kh ?_;simp only[d,go_sem]
 have hpS:=hcp (zJ d');have kb:=jr5 hc hs (by omega);have kP:Ctr G.P 11 [(offE S e).iv] (· = .bool (posS e S)):=jfd (e:=offE S e) hs.off (je3 hc);rw[hpS]at kP;have kp:=jfd hs hc;rcases hp:posB e with _ | _
 ·obtain⟨j,hA⟩:=susp_ok hm5 hp;have d:decide (c=0)=false:=zw fun h=>by rw[(hcc h).2]at hp;cases hp
  have hle:=hA.least S hpS;have ku:=js7 S hc (by omega:e.moves.length<=12) (by omega);obtain⟨X0,hx0⟩:∃X0,(suspF e)[0]? =some X0:=⟨(suspF e)[0]'(qh.2 hA.ne),ze _⟩;have hl0:=(hA.each X0 (zk hx0)).1;have hg0:=jps hx0;have hne:=qh.2 hA.ne;generalize suspF e=A at*;have dn:decide ((A.length:Int)=0)=false:=zw (by omega);have z0:(0:Int)<A.length:=by omega
  generalize ((usedE e).filter fun s=>S.contains s).length=n at*;have d1:decide ((X0.length:Int)<=n)=true:=zh (by omega);unfold je7 at kb;simp only[Evid.iv,Evid.c,hist,ints]at kl kc kh kh' kw kb kP kp ku⊢;refine ja5 [.tmp 6] Tryz.func6 ?_;simp only[go_sem];refine ja1 k0 ?_;simp only[go_sem];refine ja1 kl ?_;simp only[go_sem];refine jck kF ?_;rintro _ ⟨z',rfl,_⟩;rcases z' with _ | _
  ·simp only[go_sem]
  ·simp only[go_sem];refine ja1 kc ?_;simp only[hz,zq,go_sem];refine ja1 kw ?_;simp only[go_sem];refine ja1 kh' ?_;simp only[d',go_sem];refine ja1 kb ?_;simp only[go_sem];refine ja1 kP ?_;simp only[dn,zq,go_sem];refine jae 18 ?_;simp only[z0,hg0,d1,d,zq,go_sem];refine ja4 ku (by decide) ?_;simp only[z0,hg0,d1,d,zq,go_sem];refine ja4 kh (by decide) ?_;simp only[z0,hg0,d1,d,zq,go_sem]
 ·have hA:suspF e=[]:=by unfold suspF;rw[hp,zm rfl]
  rw[hA]at kb;rw[hp]at kp;unfold je7 at kb;simp only[Evid.iv,Evid.c,hist,ints,zF]at kl kc kh kh' kw kb kP kp⊢;refine ja5 [.tmp 6] Tryz.func6 ?_;simp only[go_sem];refine ja1 k0 ?_;simp only[go_sem];refine ja1 kl ?_;simp only[go_sem];refine jck kF ?_;rintro _ ⟨z',rfl,_⟩;rcases z' with _ | _
  ·simp only[go_sem]
  ·simp only[go_sem];refine ja1 kc ?_;simp only[hz,zq,go_sem];refine ja1 kw ?_;simp only[go_sem];refine ja1 kh' ?_;simp only[d',go_sem];refine ja1 kb ?_;simp only[go_sem];refine ja1 kP ?_;simp only[List.length_nil,go_sem];refine ja1 kp ?_;simp only[List.length_nil,go_sem]
end
section
open Go.Abs
theorem fits_RawH{n:Nat}{xs:List IV}(h:Fits G n 35 xs):∃x:Raw,xs=x.c:=by
 obtain⟨s,l,t,m,rfl⟩:=fits_Frac h;exact⟨⟨s,l,t,m⟩,rfl⟩
theorem fitsA_histH{n:Nat}{y:IV}(h:FitsA G n 61 y):∃l:List (List Raw),y=hist l:=by
 obtain⟨l,e⟩:=jet rowC rfl (fun c hc=>by
  obtain⟨l,e⟩:=jet Raw.c rfl (fun _ hc=>fits_RawH hc) hc;exact⟨l,e⟩) (jln rfl h)
 cases e;exact⟨l,rfl⟩
