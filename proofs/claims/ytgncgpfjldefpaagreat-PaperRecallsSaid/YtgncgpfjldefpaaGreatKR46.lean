/- A part of the proof. No further condition. -/
import Derived.Test.YtgncgpfjldefpaaGreatKR45
set_option linter.all false
set_option maxRecDepth 10000000
set_option maxHeartbeats 16000000
namespace Go.Proofs.YtgncgpfjldefpaaGreat
section
open Go.Abs
open Go.LP (Rw RT tsum Sol tsum_app)
def ptH(M:Nat)(H:List (List Rat))(k:Nat):Rat:=(H.getD (k/M) []).getD (k % M) 0
theorem pt_at{M:Nat}{H:List (List Rat)}(i:Nat){m:Nat}(hm:m<M):ptH M H (i*M+m)=(H.getD i []).getD m 0:=by
 unfold ptH;rw[yU i M,Nat.mul_add_div (by omega),jJ hm,Nat.add_zero,vE,jg hm]
theorem getD_some{α:Type}{l:List α}{i:Nat}{x d:α}(h:l[i]? =some x):l.getD i d=x:=by rw[zS,h];rfl
theorem jfn{α:Type}{l:List α}{i:Nat}(h:i<l.length):∃x,l[i]? =some x:=⟨_,ze h⟩
theorem joa(ts:List (Nat×Rat))(t:Nat×Rat)(x:Nat->Rat):tsum (ts++[t]) x=tsum ts x+t.2*x t.1:=by
 rw[tsum_app];show tsum ts x+(t.2*x t.1+0)=_;rw[yT]
theorem jk0{M mv:Nat}{b own more:Int}{H:List (List Rat)}{l:List Rat}(hl:H[mv]? =some l)(hM:l.length=M):∀k,k<=M->tsum (sumT M mv b own more k) (ptH M H)=(b:Rat)*sumF (l.take k)+(if 0<=own/\own<(k:Int)then(more:Rat)*l.getD own.toNat 0 else 0)
 | 0,_=>by
  rw[zp (by omega)];show(0:Rat)=(b:Rat)*((0:Int):Rat)+0;rw[show((0:Int):Rat)=0 from rfl,Rat.mul_zero,yT]
 | k+1,hk=>by
  have ih:=jk0 (b:=b) (own:=own) (more:=more) hl hM k (by omega);obtain⟨f,hf⟩:=jfn (l:=l) (i:=k) (by omega);have hx:ptH M H (mv*M+k)=f:=by rw[pt_at mv (by omega),getD_some hl,getD_some hf]
  have hs:tsum (sumT M mv b own more (k+1)) (ptH M H)=tsum (sumT M mv b own more k) (ptH M H)+((coF b own more k:Int):Rat)*f:=by
   rw[sumT];split
   ·rename_i h;rw[h,show((0:Int):Rat)=0 from rfl,Rat.zero_mul,yT]
   ·rw[joa,hx]
  rw[hs,ih,jog hf];unfold coF;by_cases ho:(k:Int)=own
  ·have h1:own.toNat=k:=by omega
   rw[zp (by omega),zn ho,zn (by omega),h1,getD_some hf,vz];grind
  ·rw[zp ho];by_cases h2:0<=own/\own<(k:Int)
   ·rw[zn h2,zn (by omega)];grind
   ·rw[zp h2,zp (by omega)];grind
def flowS(M:Nat)(fr:Int)(mat:Nat)(ms:List Move)(x:Nat->Rat):Nat->Rat
 | 0=>0
 | i+1=>match ms[i]? with
  | some y=>flowS M fr mat ms x i+((sgnF fr y:Int):Rat)*x (i*M+mat)
  | none=>flowS M fr mat ms x i
theorem jlx{M:Nat}{fr:Int}{mat:Nat}{ms:List Move}{x:Nat->Rat}:∀i,tsum (jak M fr mat ms i) x=flowS M fr mat ms x i
 | 0=>rfl
 | i+1=>by
  have ih:=jlx (M:=M) (fr:=fr) (mat:=mat) (ms:=ms) (x:=x) i;rw[jak,flowS];cases ms[i]? with
  | none=>exact ih
  | some y=>
   dsimp only;split
   ·rename_i h;rw[ih,h,show((0:Int):Rat)=0 from rfl,Rat.zero_mul,yT]
   ·rw[joa,ih]
theorem jil{α:Type}{l:List α}{i p:Nat}{v d:α}:(l.set i v).getD p d=if p=i/\i<l.length then v else l.getD p d:=by
 rw[zS,zS,yK];by_cases h:i=p
 ·subst h;rw[zn rfl];by_cases h2:i<l.length
  ·rw[zn h2,zn ⟨rfl,h2⟩];rfl
  ·rw[zp h2,zp (fun h=>h2 h.2),qK (by omega)]
 ·rw[zp h,zp (fun e=>h e.1.symm)]
def dl(fr to p:Nat)(f:Rat):Rat:=if p=fr then-f else if p=to then f else 0
theorem step_get{P n fr to m k p:Nat}{f:Rat}{T:List (List Rat)}(hT:Stk P n T)(h1:fr<P)(h2:to<P)(hne:fr≠to)(hm:m<n)(hp:p<P):
  ((stepS fr to k f T).getD p []).getD m 0=(T.getD p []).getD m 0+(if m=k then dl fr to p f else 0):=by
 have hr:∀q,q<P->(T.getD q []).length=n:=fun q hq=>hT.2 _ (jhk (by rw[hT.1];exact hq));have e1:(T.set fr ((T.getD fr []).set k ((T.getD fr []).getD k 0-f))).getD to []=T.getD to []:=by
  rw[jil,zp (fun h=>hne h.1.symm)]
 unfold stepS;dsimp only;rw[e1,jil,zZ,hT.1];by_cases ht:p=to
 ·subst ht;have hd:dl fr p p f=f:=by unfold dl;rw[zp (fun e=>hne e.symm),zn rfl]
  rw[zn ⟨rfl,h2⟩,jil,hr p hp,hd];by_cases hk:m=k
  ·subst hk;rw[zn ⟨rfl,hm⟩,zn rfl]
  ·rw[zp (fun h=>hk h.1),zp hk,yT]
 ·rw[zp (fun h=>ht h.1),jil,hT.1];by_cases hf:p=fr
  ·subst hf;have hd:dl p to p f= -f:=by unfold dl;rw[zn rfl]
   rw[zn ⟨rfl,h1⟩,jil,hr p hp,hd];by_cases hk:m=k
   ·subst hk;rw[zn ⟨rfl,hm⟩,zn rfl];grind
   ·rw[zp (fun h=>hk h.1),zp hk,yT]
  ·have hd:dl fr to p f=0:=by unfold dl;rw[zp hf,zp ht]
   rw[zp (fun h=>hf h.1),hd];split<;>rw[yT]
theorem car_get{P n fr to m p:Nat}{l:List Rat}{S:List (List Rat)}(hS:Stk P n S)(h1:fr<P)(h2:to<P)(hne:fr≠to)(hm:m<n)(hp:p<P):∀k,((carN S fr to l k).getD p []).getD m 0=(S.getD p []).getD m 0+(if m<k then dl fr to p (l.getD m 0)else 0)
 | 0=>by rw[carN,zp (by omega),yT]
 | k+1=>by
  rw[carN,step_get (hS.car h1 h2 k) h1 h2 hne hm hp,car_get hS h1 h2 hne hm hp k];by_cases hk:m=k
  ·subst hk;rw[zp (qO _),zn rfl,zn (jh _),yT]
  ·rw[zp hk,yT];by_cases h3:m<k
   ·rw[zn h3,zn (by omega)]
   ·rw[zp h3,zp (by omega)]
section
variable{e:Evid}{H:List (List Rat)}
def S0(e:Evid):List (List Rat):=List.replicate e.places.length (List.replicate e.mats.toNat ((0:Int):Rat))
theorem S0_stk:Stk e.places.length e.mats.toNat (S0 e):=⟨by unfold S0;simp,fun r hr=>by rw[(jV.1 hr).2];simp⟩
theorem S0_get{p m:Nat}:((S0 e).getD p []).getD m 0=0:=by
 rcases zX p e.places.length with h | h
 ·rw[getD_some (l:=S0 e) (x:=List.replicate e.mats.toNat ((0:Int):Rat)) (by unfold S0;rw[qH,zn h])];rcases zX m e.mats.toNat with h2 | h2
  ·rw[getD_some (x:=((0:Int):Rat)) (by rw[qH,zn h2])];rfl
  ·rw[zS,qK (by simp;omega)];rfl
 ·rw[zS (l:=S0 e),qK (by unfold S0;simp;omega)];rfl
theorem move_at{x:Move}(h:moveF e x=true):((0<=x.fr/\x.fr<(e.places.length:Int))/\(0<=x.to/\x.to<(e.places.length:Int)))/\x.fr≠x.to:=by
 simp only[moveF,zB,yx,qi,jnk]at h;exact⟨⟨h.1.1.1.1.1.1.1,h.1.1.1.1.1.1.2⟩,h.1.1.1.1.1.2⟩
theorem st_get(hm:∀x∈e.moves,moveF e x=true)(hH:H.length=e.moves.length)(hl:∀l∈H,l.length=e.mats.toNat){p m:Nat}(hp:p<e.places.length)(hmm:m<e.mats.toNat):∀i,i<=e.moves.length->
  Stk e.places.length e.mats.toNat (stN e.moves H e.mats.toNat (S0 e) i)/\((stN e.moves H e.mats.toNat (S0 e) i).getD p []).getD m 0=flowS e.mats.toNat (p:Int) m e.moves (ptH e.mats.toNat H) i
 | 0,_=>⟨S0_stk,S0_get⟩
 | i+1,hi=>by
  obtain⟨ih1,ih2⟩:=st_get hm hH hl hp hmm i (by omega);obtain⟨x,hx⟩:=jfn (l:=e.moves) (i:=i) (by omega);obtain⟨l,hli⟩:=jfn (l:=H) (i:=i) (by omega);obtain⟨⟨⟨a1,a2⟩,b1,b2⟩,hne⟩:=move_at (hm x (zl hx));have q1:x.fr.toNat<e.places.length:=by omega
  have q2:x.to.toNat<e.places.length:=by omega
  rw[jn6 hx hli];refine⟨Stk.car ih1 q1 q2 _,?_⟩;rw[car_get ih1 q1 q2 (by omega) hmm hp,ih2,flowS,hx,zn hmm,pt_at i hmm,getD_some hli];dsimp only;refine qb _ ?_;by_cases h1:p=x.fr.toNat
  ·have e1:dl x.fr.toNat x.to.toNat p (l.getD m 0)= -l.getD m 0:=by unfold dl;rw[zn h1]
   have e2:sgnF (p:Int) x= -1:=by unfold sgnF;rw[zn (by omega)]
   rw[e1,e2,show((-1:Int):Rat)= -1 by decide];grind
  ·by_cases h2:p=x.to.toNat
   ·have e1:dl x.fr.toNat x.to.toNat p (l.getD m 0)=l.getD m 0:=by unfold dl;rw[zp h1,zn h2]
    have e2:sgnF (p:Int) x=1:=by unfold sgnF;rw[zp (by omega),zn (by omega)]
    rw[e1,e2,show((1:Int):Rat)=1 by decide];grind
   ·have e1:dl x.fr.toNat x.to.toNat p (l.getD m 0)=0:=by unfold dl;rw[zp h1,zp h2]
    have e2:sgnF (p:Int) x=0:=by unfold sgnF;rw[zp (by omega),zp (by omega)]
    rw[e1,e2,show((0:Int):Rat)=0 by decide,Rat.zero_mul]
def okAt(e:Evid)(H:List (List Rat))(k:Nat)(x:Move)(l:List Rat):Prop:=
 l.any negF=false/\jfr ((e.places[x.fr.toNat]?.map Place.kind).getD 0) ((stN e.moves H e.mats.toNat (S0 e) k).getD x.fr.toNat []) x l=0/\jda e x (sumF l)=true/\pureF e k l (sumF l)=true
theorem go_iff(hH:H.length=e.moves.length):∀(ms:List Move) (i:Nat),e.moves.drop i=ms->(jgv e H (S0 e) i ms=0↔∀k x l,i<=k->e.moves[k]? =some x->H[k]? =some l->okAt e H k x l)
 | [],i,h=>by
  have hi:=List.drop_eq_nil_iff.1 h;refine⟨fun _ k x l hk hx=> ?_,fun _=>rfl⟩;rw[qK (by omega)]at hx;cases hx
 | x::ms,i,h=>by
  have hi:i<e.moves.length:=by
   rcases zX i e.moves.length with h1 | h1
   ·exact h1
   ·rw[zY h1]at h;cases h
  have hx:e.moves[i]? =some x:=by
   have:=qU (xs:=e.moves) (i:=i) (j:=0);rw[h]at this;simpa using this.symm
  obtain⟨l,hl⟩:=jfn (l:=H) (i:=i) (by omega);have ih:=go_iff hH ms (i+1) (by rw[<-vw,h];rfl);have key:(∀k x l,i<=k->e.moves[k]? =some x->H[k]? =some l->okAt e H k x l)↔okAt e H i x l/\∀k x l,i+1<=k->e.moves[k]? =some x->H[k]? =some l->okAt e H k x l:=by
   refine⟨fun h=>⟨h i x l (zu _) hx hl,fun k y q hk=>h k y q (by omega)⟩,fun h k y q hk hy hq=> ?_⟩;by_cases e1:k=i
   ·subst e1;rw[hx]at hy;rw[hl]at hq;cases hy;cases hq;exact h.1
   ·exact h.2 k y q (by omega) hy hq
  rw[key,<-ih,jgv,hl];dsimp only;unfold okAt;generalize jfr ((e.places[x.fr.toNat]?.map Place.kind).getD 0) ((stN e.moves H e.mats.toNat (S0 e) i).getD x.fr.toNat []) x l=T;generalize l.any negF=N;generalize jda e x (sumF l)=W;generalize pureF e i l (sumF l)=P;generalize jgv e H (S0 e) (i+1) ms=R;by_cases hT:T=0
  ·cases N<;>cases W<;>cases P<;>simp[hT]
  ·cases N<;>cases W<;>cases P<;>simp[hT]
theorem taken_iff{kind:Int}{a l:List Rat}{x:Move}{n:Nat}(ha:a.length=n)(hl:l.length=n):jfr kind a x l=0↔kind=0\/((∀m,m<n->l.getD m 0<=a.getD m 0)/\(x.all=true->∀m,m<n->a.getD m 0<=l.getD m 0)):=by
 have gt:∀p:Rat×Rat,gtP p=true↔p.2<p.1:=fun p=>by
  rw[gtP,jw,<-jnt (a:=p.1) (b:=p.2)];constructor
  ·intro h;omega
  ·intro h;unfold cmpR cmpI at h⊢;split at h
   ·omega
   ·split at h
    ·omega
    ·rename_i h1 h2;rw[zp h1,zp h2]
 have lt:∀p:Rat×Rat,ltP p=true↔p.1<p.2:=fun p=>by
  rw[ltP,jw,<-cmpR_neg (a:=p.1) (b:=p.2)];constructor
  ·intro h;omega
  ·intro h;unfold cmpR cmpI at h⊢;split at h
   ·rename_i h1;rw[zn h1]
   ·split at h<;>omega
 have zip:∀(f:Rat×Rat->Bool),(l.zip a).any f=true↔∃m,m<n/\f (l.getD m 0,a.getD m 0)=true:=fun f=>by
  rw[jy];constructor
  ·rintro⟨p,hp,hf⟩;obtain⟨m,hm,e⟩:=jp hp;rw[vF,ha,hl]at hm;rw[List.getElem_zip]at e;refine⟨m,by omega,?_⟩;rw[getD_some (ze (by omega)),getD_some (ze (by omega)),e];exact hf
  ·rintro⟨m,hm,hf⟩;refine⟨(l.getD m 0,a.getD m 0),?_,hf⟩;rw[getD_some (ze (by omega)),getD_some (ze (by omega))];exact List.mem_iff_getElem.2 ⟨m,by rw[vF];omega,List.getElem_zip⟩
 have hg:(l.zip a).any gtP=true↔¬∀m,m<n->l.getD m 0<=a.getD m 0:=by
  rw[zip];constructor
  ·rintro⟨m,hm,h⟩ hh;have h1:=(gt _).1 h;have h2:=hh m hm;dsimp only at h1;grind
  ·intro h;rcases Classical.not_forall.1 h with ⟨m,hm⟩;rcases Classical.not_imp.1 hm with ⟨h1,h2⟩;exact⟨m,h1,(gt _).2 (by dsimp only;grind)⟩
 have hlt:(l.zip a).any ltP=true↔¬∀m,m<n->a.getD m 0<=l.getD m 0:=by
  rw[zip];constructor
  ·rintro⟨m,hm,h⟩ hh;have h1:=(lt _).1 h;have h2:=hh m hm;dsimp only at h1;grind
  ·intro h;rcases Classical.not_forall.1 h with ⟨m,hm⟩;rcases Classical.not_imp.1 hm with ⟨h1,h2⟩;exact⟨m,h1,(lt _).2 (by dsimp only;grind)⟩
 unfold jfr;by_cases hk:kind=0
 ·simp[hk]
 rw[zp hk];by_cases h1:∀m,m<n->l.getD m 0<=a.getD m 0
 ·rw[zp (fun h=>hg.1 h h1)];by_cases h2:∀m,m<n->a.getD m 0<=l.getD m 0
  ·have:(l.zip a).any ltP=false:=by
    rcases h:(l.zip a).any ltP with _ | _
    ·rfl
    ·exact absurd h2 (hlt.1 h)
   rw[this];exact⟨fun _=> .inr ⟨h1,fun _=>h2⟩,fun _=>rfl⟩
  ·rw[hlt.2 h2,qx];rcases hx:x.all with _ | _
   ·exact⟨fun _=> .inr ⟨h1,fun h=>(by cases h)⟩,fun _=>rfl⟩
   ·refine⟨fun h=>(by cases h),fun h=> ?_⟩;rcases h with h | h
    ·exact absurd h hk
    ·exact absurd (h.2 rfl) h2
 ·rw[zn (hg.2 h1)];refine⟨fun h=>(by cases h),fun h=> ?_⟩;rcases h with h | h
  ·exact absurd h hk
  ·exact absurd h.1 h1
end
end
section
open Go.Abs
open Go.LP (Rw RT tsum Sol tsum_app)
section
variable{e:Evid}{H:List (List Rat)}
theorem jn2{l:List Rat}{M:Nat}(h:l.length=M):l.take M=l:=zD (by omega)
theorem joi(hm:∀x∈e.moves,moveF e x=true)(hH:H.length=e.moves.length)(hl:∀l∈H,l.length=e.mats.toNat){k:Nat}{x:Move}{l:List Rat}(hx:e.moves[k]? =some x)(hk:H[k]? =some l):
  (∀w∈(if binF e x=true then []else je5 e.mats.toNat e.moves k x e.mats.toNat),w.sat (ptH e.mats.toNat H))↔
   jfr ((e.places[x.fr.toNat]?.map Place.kind).getD 0) ((stN e.moves H e.mats.toNat (S0 e) k).getD x.fr.toNat []) x l=0:=by
 have hkl:k<e.moves.length:=by
  rcases zX k e.moves.length with h | h
  ·exact h
  ·rw[qK h]at hx;cases hx
 obtain⟨⟨⟨a1,a2⟩,b1,b2⟩,hne⟩:=move_at (hm x (zl hx));have q1:x.fr.toNat<e.places.length:=by omega
 obtain⟨pl,hpl⟩:=jfn q1;have hll:=hl l (zl hk);have hst:=fun{m:Nat} (hmm:m<e.mats.toNat)=>st_get hm hH hl q1 hmm k (by omega);by_cases hM:e.mats.toNat=0
 ·have e1:je5 e.mats.toNat e.moves k x e.mats.toNat=[]:=by rw[hM];rfl
  have e2:l=[]:=zO (by omega);rw[e1,e2];refine⟨fun _=> ?_,fun _ w hw=> ?_⟩
  ·unfold jfr;simp
  ·split at hw<;>cases hw
 have hlen:((stN e.moves H e.mats.toNat (S0 e) k).getD x.fr.toNat []).length=e.mats.toNat:=by
  have h:=(hst (m:=0) (by omega)).1;exact h.2 _ (jhk (by rw[h.1];exact q1))
 rw[taken_iff hlen hll,hpl];have hb:binF e x=true↔pl.kind=0:=by unfold binF;rw[hpl];exact jw
 show _↔pl.kind=0\/_;by_cases h0:pl.kind=0
 ·rw[zn (hb.2 h0)];exact⟨fun _=> .inl h0,fun _ w hw=>by cases hw⟩
 rw[zp (fun h=>h0 (hb.1 h))];have ht:∀m,m<e.mats.toNat->tsum (jak e.mats.toNat x.fr m e.moves (k+1)) (ptH e.mats.toNat H)=((stN e.moves H e.mats.toNat (S0 e) k).getD x.fr.toNat []).getD m 0-l.getD m 0:=fun m hmm=>by
  have e1:((x.fr.toNat:Nat):Int)=x.fr:=by omega
  have e2:sgnF x.fr x= -1:=by unfold sgnF;rw[zn rfl]
  rw[jlx,flowS,hx,(hst hmm).2,e1,pt_at k hmm,getD_some hk];dsimp only;rw[e2,show((-1:Int):Rat)= -1 by decide];grind
 constructor
 ·intro h;refine .inr ⟨fun m hmm=> ?_,fun ha m hmm=> ?_⟩
  ·have h1:=(h _ (mem_stockR.2 ⟨m,hmm,rfl⟩)).1 (by dsimp only;split<;>decide);dsimp only at h1;rw[ht m hmm]at h1;grind
  ·have h1:=(h _ (mem_stockR.2 ⟨m,hmm,rfl⟩)).2 (by dsimp only;rw[zn ha];decide);dsimp only at h1;rw[ht m hmm]at h1;grind
 ·rintro(h | ⟨h1,h2⟩)
  ·exact absurd h h0
  intro w hw;obtain⟨m,hmm,rfl⟩:=mem_stockR.1 hw;have g1:=h1 m hmm;refine⟨fun _=> ?_,fun hk2=> ?_⟩
  ·dsimp only;rw[ht m hmm];grind
  ·dsimp only at hk2⊢;rw[ht m hmm];rcases ha:x.all with _ | _
   ·rw[ha]at hk2;exact absurd rfl hk2
   ·have g2:=h2 ha m hmm;grind
theorem jlw(hl:∀l∈H,l.length=e.mats.toNat){k:Nat}{x:Move}{l:List Rat}(hk:H[k]? =some l):(∀w∈jd6 e e.mats.toNat k x,w.sat (ptH e.mats.toNat H))↔jda e x (sumF l)=true:=by
 have hll:=hl l (zl hk);have ht:tsum (sumT e.mats.toNat k 1 (-1) 0 e.mats.toNat) (ptH e.mats.toNat H)=sumF l:=by
  rw[jk0 hk hll _ (zu _),jn2 hll,zp (by omega),show((1:Int):Rat)=1 by decide];grind
 have hle:∀a b:Rat,decide (cmpR a b<=0)=true↔a<=b:=fun a b=>by
  rw[jw];have:=(not_congr (jnt (a:=a) (b:=b)));constructor
  ·intro h;have:=this.1 (by omega);grind
  ·intro h;have:=this.2 (by grind);omega
 unfold jd6 jda;by_cases hs:x.scale= -1
 ·rw[zn hs,zk hs];exact⟨fun _=>rfl,fun _ w hw=>by cases hw⟩
 rw[zp hs,za hs,yq];cases ivlF e.certs e.recalls x.scale x.reading x.day with
 | none=>exact⟨fun _=>rfl,fun _ w hw=>by cases hw⟩
 | some p=>
  obtain⟨lo,hi⟩:=p;dsimp only;rw[zB,hle,hle];constructor
  ·intro h;have h1:=(h ⟨sumT e.mats.toNat k 1 (-1) 0 e.mats.toNat,0,lo⟩ (by simp)).1 (show(0:Int)≠1 by decide);have h2:=(h ⟨sumT e.mats.toNat k 1 (-1) 0 e.mats.toNat,1,hi⟩ (by simp)).2 (show(1:Int)≠0 by decide);dsimp only at h1 h2;rw[ht]at h1 h2;exact⟨h1,h2⟩
  ·rintro⟨h1,h2⟩ w hw;rcases zT.1 hw with rfl | hw
   ·exact⟨fun _=>by rw[ht];exact h1,fun h=>absurd rfl h⟩
   ·rw[zC.1 hw];exact⟨fun h=>absurd rfl h,fun _=>by rw[ht];exact h2⟩
theorem jqv(h0:jbe e=0)(hl:∀l∈H,l.length=e.mats.toNat){k:Nat}{l:List Rat}(hk:H[k]? =some l):(∀w∈purR e.mats.toNat k e.purs,w.sat (ptH e.mats.toNat H))↔pureF e k l (sumF l)=true:=by
 have hll:=hl l (zl hk);unfold pureF purR;rw[List.all_eq_true];have key:∀p∈e.purs,((∀w∈pur1 e.mats.toNat k p,w.sat (ptH e.mats.toNat H))↔pureP k l (sumF l) p=true):=fun p hp=>by
  obtain⟨_,⟨m1,m2⟩,_⟩:=purF_iff.1 (jhm h0 p hp);obtain⟨f,hf⟩:=jfn (l:=l) (i:=p.mat.toNat) (by omega);unfold pur1 pureP;by_cases hm:p.move=(k:Int)
  ·rw[zn hm,zk hm,js,yq];have t1:tsum (sumT e.mats.toNat k (-p.least) p.mat 1000 e.mats.toNat) (ptH e.mats.toNat H)=((1000:Int):Rat)*f-(p.least:Rat)*sumF l:=by
    rw[jk0 hk hll _ (zu _),jn2 hll,zn (by omega),getD_some hf,Rat.intCast_neg];grind
   have t2:tsum (sumT e.mats.toNat k p.most p.mat (-1000) e.mats.toNat) (ptH e.mats.toNat H)=(p.most:Rat)*sumF l-((1000:Int):Rat)*f:=by
    rw[jk0 hk hll _ (zu _),jn2 hll,zn (by omega),getD_some hf,Rat.intCast_neg];grind
   unfold keepF;rw[hf];dsimp only;rw[Bool.not_or,zB,yx,yx,qi,qi,cmpR_neg,jnt];constructor
   ·intro h;have h1:=(h ⟨sumT e.mats.toNat k (-p.least) p.mat 1000 e.mats.toNat,0,0⟩ (by simp)).1 (show(0:Int)≠1 by decide);have h2:=(h ⟨sumT e.mats.toNat k p.most p.mat (-1000) e.mats.toNat,0,0⟩ (by simp)).1 (show(0:Int)≠1 by decide);dsimp only at h1 h2;rw[t1]at h1;rw[t2]at h2;exact⟨by grind,by grind⟩
   ·rintro⟨h1,h2⟩ w hw;rcases zT.1 hw with rfl | hw
    ·exact⟨fun _=>by rw[t1];dsimp only;grind,fun h=>absurd rfl h⟩
    ·rw[zC.1 hw];exact⟨fun _=>by rw[t2];dsimp only;grind,fun h=>absurd rfl h⟩
  ·rw[zp hm,za hm];exact⟨fun _=>rfl,fun _ w hw=>by cases hw⟩
 constructor
 ·intro h p hp;exact(key p hp).1 fun w hw=>h w (ji.2 ⟨p,hp,hw⟩)
 ·intro h w hw;obtain⟨p,hp,hw⟩:=ji.1 hw;exact(key p hp).2 (h p hp) w hw
theorem hist_iff(h0:jbe e=0)(hH:H.length=e.moves.length)(hl:∀l∈H,l.length=e.mats.toNat):jgv e H (S0 e) 0 e.moves=0↔Sol (e.moves.length*e.mats.toNat) (rowsE e) (ptH e.mats.toNat H):=by
 have hm:∀x∈e.moves,moveF e x=true:=jny (jbt h0).2.2.2.2.2.1;rw[go_iff hH e.moves 0 rfl];constructor
 ·intro h;refine⟨fun j hj=> ?_,fun w hw=> ?_⟩
  ·have hM:0<e.mats.toNat:=by
    rcases yE e.mats.toNat with h1 | h1
    ·rw[h1,Nat.mul_zero]at hj;exact absurd hj (yS _)
    ·exact h1
   have hk:j/e.mats.toNat<e.moves.length:=(Nat.div_lt_iff_lt_mul hM).2 hj;obtain⟨x,hx⟩:=jfn hk;obtain⟨l,hli⟩:=jfn (l:=H) (i:=j/e.mats.toNat) (by omega);obtain⟨f,hf⟩:=jfn (l:=l) (i:=j % e.mats.toNat) (by rw[hl l (zl hli)];exact jI _ hM);have h1:=(h _ x l (zG _) hx hli).1;unfold ptH;rw[getD_some hli,getD_some hf];rw[yX]at h1;have h2:=h1 f (zl hf);rw[negF,jw,sign_neg]at h2;grind
  ·obtain⟨k,x,hk,hx,hw⟩:=mem_rowsU.1 hw;obtain⟨l,hli⟩:=jfn (l:=H) (i:=k) (by omega);obtain⟨_,h2,h3,h4⟩:=h k x l (zG _) hx hli;unfold moveR at hw;simp only[qu]at hw;rcases hw with (hw | hw) | hw
   ·exact(joi hm hH hl hx hli).2 h2 w hw
   ·exact(jlw hl hli).2 h3 w hw
   ·exact(jqv h0 hl hli).2 h4 w hw
 ·intro h k x l _ hx hli;have hkl:k<e.moves.length:=by
   rcases zX k e.moves.length with h | h
   ·exact h
   ·rw[qK h]at hx;cases hx
  have row:∀w∈moveR e e.mats.toNat k x,w.sat (ptH e.mats.toNat H):=fun w hw=>h.row w (mem_rowsU.2 ⟨k,x,hkl,hx,hw⟩);unfold moveR at row;refine⟨?_,(joi hm hH hl hx hli).1 fun w hw=>row w (yW _ (yW _ hw)),(jlw hl hli).1 fun w hw=>row w (yW _ (vy _ hw)),(jqv h0 hl hli).1 fun w hw=>row w (vy _ hw)⟩;rw[yX];intro f hf;obtain⟨m,hm1,he⟩:=jp hf;have hll:=hl l (zl hli);have h1:=h.pos (k*e.mats.toNat+m) (by
   have:(k+1)*e.mats.toNat<=e.moves.length*e.mats.toNat:=qv _ hkl;rw[jE]at this;omega)
  rw[pt_at k (by omega),getD_some hli,getD_some (ze hm1),he]at h1;rw[negF,jw,sign_neg];grind
end
end
section
open Go.Abs
attribute [local go_sem] Evid.iv Evid.c Move.c Place.c ints ic big frac fc Raw.c
theorem joj{t b0 n:Nat}{bs:List Nat}{S:List (List Rat)}{R:Abs.Rows}(h:SubR (jbr t b0 bs S n) R):∀k x,Abs.look (jbr t b0 bs S n) k=some x->100000<=k/\Abs.look R k=some x:=by
 intro k x hk;refine⟨?_,h k x hk⟩;rcases zX k 100000 with h1 | h1
 ·rw[jcb h1]at hk;cases hk
 ·exact h1
theorem h_takenH(b0 p n:Nat)(bs:List Nat)(e:Evid)(S:List (List Rat))(x:Move)(l a:List Rat)(pl:Place)(hnd:(b0::bs).Nodup)(hs:Stk p n S)(hbl:bs.length=p)(h0:0<=x.fr)(h0':x.fr<p)(hpl:e.places[x.fr.toNat]? =some pl)(ha:S[x.fr.toNat]? =some a)(hla:l.length<=a.length)(hl:l.length<=100000)
  (kl:∀r∈l,FL 19000000000 r) (ka:∀r∈a,FL 19000000000 r):
  CtrH G.P 47 [.im (.ref b0 91 1 p),.im e.iv,.im (.agg x.c),.im (fcs l)] (jbr 69 b0 bs S n)
   (fun r L'=>r= .im (.int (jfr pl.kind a x l))/\L'=jbr 69 b0 bs S n):=by
 unfold fcs jfr;obtain⟨bf,hbf⟩:∃b,bs[x.fr.toNat]? =some b:=⟨_,ze (by omega)⟩;have hal:a.length=n:=hs.2 a (zl ha);have L0:=jqq (t:=69) (b0:=b0) (bs:=bs) (S:=S) (n:=n);have L1:=jpp (t:=69) (n:=n) hnd hbf ha;have F1:=fun(d:Nat) (h:d<100000)=>ji9 (t:=69) (b0:=b0) (bs:=bs) (S:=S) (n:=n) h;have G1:=fun(d:Nat) (h:d<100000)=>jcb (t:=69) (b0:=b0) (bs:=bs) (S:=S) (n:=n) h;have K1:=fun(d s:Nat) (es:List (List IV)) (h:d<100000)=>jkg (t:=69) (b0:=b0) (bs:=bs) (S:=S) (n:=n) (s:=s) (es:=es) h;rcases dk:decide (pl.kind=0)with _ | _
 ·rw[zp (zK dk)];refine jan [] [] [.tmp 8] Tryz.func47 ?_;unfold Evid.iv Evid.c;simp only[h0,zq,hpl,dk,F1,K1,go_sem];refine jaz [0,5,6,9,20,21,22] (fun i:Nat=>⟨[(0,.im (.ref b0 91 1 p)),(5,.loc 5 8 0 0),(6,.loc 6 6 0 0),(9,.im (.bool (((l.zip a).take i).any ltP))),(20,.im (.sl (l.map fc))),(21,.im (.int l.length)),(22,.im (.int i))],(6,6,[x.c])::(5,8,[e.c])::jbr 69 b0 bs S n,[]⟩)
   (fun i=>i<=l.length/\((l.zip a).take i).any gtP=false) (fun i=>l.length-i) 0 ?_ ?_ rfl ⟨zG _,rfl⟩ ?_
  ·simp only[Int.natCast_zero,go_sem]
  ·exact SubR.of_eq rfl
  ·intro i ⟨hi,hg⟩;by_cases hp:(i:Int)<l.length
   ·have hd:decide ((i:Int)<l.length)=true:=zk hp;obtain⟨f,hf⟩:=jbq hp;obtain⟨y,hy⟩:∃y,a[i]? =some y:=⟨_,ze (by omega)⟩;have hz:(l.zip a)[i]? =some (f,y):=by rw[List.getElem?_zip_eq_some];exact⟨hf,hy⟩
    have h1:=ja9 (n:=(i:Int)+1) (by omega);have hin:(i:Int)<n:=by omega
    have hc:=f_cmp (kl f (zl hf)) (ka y (zl hy));have t1:=jci (f:=gtP) hz;have t2:=jci (f:=ltP) hz;have e1:gtP (f,y)=decide (cmpR f y=1):=rfl;have e2:ltP (f,y)=decide (cmpR f y= -1):=rfl;generalize cmpR f y=c at*;simp only[frac,ints]at hc;rcases dg:decide (c=1)with _ | _
    ·rw[dg]at e1;rw[hg,e1,Bool.or_false]at t1;rcases dl:decide (c= -1)with _ | _
     ·rw[dl]at e2;rw[e2,Bool.or_false]at t2;simp only[hd,zq,hf,F1,K1,go_sem];refine jai 10 ?_;simp only[h0,h0',hin,L0,L1,F1,G1,K1,outer,hbf,zq,hy,go_sem];refine ja6 hc (by decide) ?_;simp only[dg,dl,go_sem];refine jae (i+1) ?_ ?_ rfl (by show l.length-(i+1)<l.length-i;omega) ⟨by omega,t1⟩
      ·simp only[h1,Int.natCast_add,t2,go_sem]
      ·exact jbw (by show Abs.look (_::_::jbr _ _ _ _ _) 11=none;rw[ja0 _ _ (by decide),ja0 _ _ (by decide),jcb (by decide)]) (SubR.of_eq rfl)
     ·rw[dl]at e2;rw[e2,zP]at t2;simp only[hd,zq,hf,F1,K1,go_sem];refine jai 10 ?_;simp only[h0,h0',hin,L0,L1,F1,G1,K1,outer,hbf,zq,hy,go_sem];refine ja6 hc (by decide) ?_;simp only[dg,dl,go_sem];refine jae (i+1) ?_ ?_ rfl (by show l.length-(i+1)<l.length-i;omega) ⟨by omega,t1⟩
      ·simp only[h1,Int.natCast_add,t2,go_sem]
      ·exact jbw (by show Abs.look (_::_::jbr _ _ _ _ _) 11=none;rw[ja0 _ _ (by decide),ja0 _ _ (by decide),jcb (by decide)]) (SubR.of_eq rfl)
    ·rw[dg]at e1;rw[jjv hz e1,zn rfl];simp only[hd,zq,hf,F1,K1,go_sem];refine jai 10 ?_;simp only[h0,h0',hin,L0,L1,F1,G1,K1,outer,hbf,zq,hy,go_sem];refine ja6 hc (by decide) ?_;simp only[dg,go_sem];refine jgs (jbr 69 b0 bs S n) (joj ?_) ?_
     ·exact jbw (jcb (by dsimp only;decide)) (jbw (jcb (by dsimp only;decide)) (jbw (jcb (by dsimp only;decide)) (SubR.of_eq rfl)))
     ·simp only[go_sem]
   ·have hd:decide ((i:Int)<l.length)=false:=za hp;have hzl:(l.zip a).length<=i:=by rw[vF];omega
    rw[zD hzl]at hg⊢;rw[hg,zp qV];rcases hany:(l.zip a).any ltP with _ | _
    ·rw[qa,zp qV];simp only[hd,go_sem];refine jgs (jbr 69 b0 bs S n) (joj ?_) ?_
     ·exact jbw (jcb (by dsimp only;decide)) (jbw (jcb (by dsimp only;decide)) (SubR.of_eq rfl))
     ·simp only[go_sem]
    ·rw[qx];rcases hall:x.all with _ | _
     ·rw[zp qV];simp only[hd,hall,go_sem];refine jgs (jbr 69 b0 bs S n) (joj ?_) ?_
      ·exact jbw (jcb (by dsimp only;decide)) (jbw (jcb (by dsimp only;decide)) (SubR.of_eq rfl))
      ·simp only[go_sem]
     ·rw[zn rfl];simp only[hd,hall,go_sem];refine jgs (jbr 69 b0 bs S n) (joj ?_) ?_
      ·exact jbw (jcb (by dsimp only;decide)) (jbw (jcb (by dsimp only;decide)) (SubR.of_eq rfl))
      ·simp only[go_sem]
 ·rw[zn (zJ dk)];refine jan [] [] [.tmp 8] Tryz.func47 ?_;unfold Evid.iv Evid.c;simp only[h0,zq,hpl,dk,F1,K1,go_sem];refine jgs (jbr 69 b0 bs S n) (joj ?_) ?_
  ·exact jbw (jcb (by dsimp only;decide)) (jbw (jcb (by dsimp only;decide)) (SubR.of_eq rfl))
  ·simp only[go_sem]
end
section
open Go.Abs
attribute [local go_sem] Evid.iv Evid.c Move.c Place.c ints ic big frac fc Raw.c
theorem Behind_pre{L L':Abs.Rows}:∀(pre:Abs.Rows),(∀p∈pre,Abs.look L p.1=none)->jev (pre++L) L L' (pre++L')
 | [],_=>fun _ _ h=> .inl h
 | (j,v)::pre,hp=>fun k x h=>by
  by_cases e:k=j
  ·subst e;rw[List.cons_append,ja2]at h⊢;exact .inr ⟨hp _ (qj ..),h⟩
  ·rw[List.cons_append,ja0 _ _ e]at h⊢;exact Behind_pre pre (fun p h=>hp p (qw _ h)) k x h
theorem h_check(e:Evid)(h:List (List Raw))(H:List (List Rat))(h0:jbe e=0)(hs:jgb e h=true)(hh:h.map rowC=H.map stC)(hHl:H.length=e.moves.length)
  (hH:∀l∈H,l.length=e.mats.toNat/\∀r∈l,FL 3 r) (hsz:∀l∈h,∀x∈l,x.l.length<=50000000000/\x.m.length<=50000000000) (hrow:∀l∈h,l.length<=100000) (hmv:e.moves.length<=1000) (hpl:e.places.length<=1000)
  (hm1:0<=e.mats) (hm2:e.mats<=100) (hce:e.certs.length<=100000) (hre:e.recalls.length<=100000) (hpe:e.purs.length<=100000) (hmove:∀x∈e.moves,(0<=x.fr/\x.fr<(e.places.length:Int))/\(0<=x.to/\x.to<(e.places.length:Int)))
  (hpur:∀p∈e.purs,(0<=p.mat/\p.mat<e.mats)/\(-9223372036854775808<=p.least/\p.least<=9223372036854775807)/\(-9223372036854775808<=p.most/\p.most<=9223372036854775807)):
  Ctr G.P 19 [e.iv,hist h] (· = .int (jgv e H (List.replicate e.places.length (List.replicate e.mats.toNat ((0:Int):Rat))) 0 e.moves)):=by
 have k1:=c21 e;rw[h0]at k1;have k2:=jri e h (by have:=qb List.length hh;simp at this;omega) hrow hsz;rw[hs]at k2;have k3:=h_none e hpl hm1 (by omega);unfold hist at k2⊢;rw[hh]at k2⊢;have hS0:Stk e.places.length e.mats.toNat (List.replicate e.places.length (List.replicate e.mats.toNat ((0:Int):Rat))):=⟨by simp,fun r hr=>by rw[(jV.1 hr).2];simp⟩;have hF0:∀r∈List.replicate e.places.length (List.replicate e.mats.toNat ((0:Int):Rat)),∀x∈r,FL 4 x:=fun r hr x hx=>by
  rw[(jV.1 hr).2]at hx;rw[(jV.1 hx).2];exact jcc (by omega)
 have hst:=stN_ok hS0 hF0 hmove hH;generalize List.replicate e.places.length (List.replicate e.mats.toNat ((0:Int):Rat))=S0 at*;simp only[Evid.iv,Evid.c]at k1 k2 k3;refine jq4 (goodH [] []) _ _ [.tmp 4] Tryz.func19 rfl rfl (by decide+kernel) rfl ?_;unfold Evid.iv Evid.c;simp only[go_sem];refine ja1 k1 ?_;simp only[go_sem];refine ja1 k2 ?_;simp only[go_sem];refine jcx k3 (by decide) rfl (fun _ _ h=>by cases h) (fun _ _ h=>by cases h) ?_;rintro r L' ⟨b0,bs,rfl,hnd,hbl,rfl⟩ hfresh;refine⟨(2,8,[e.c])::jbr 69 b0 bs S0 e.mats.toNat,?_,?_⟩
 ·intro k x hk;by_cases e2:k=2
  ·subst e2;rw[ja2]at hk;exact .inr ⟨rfl,by rw[<-hk];exact ja2 _ _ _⟩
  ·rw[ja0 _ _ e2]at hk;exact .inl hk
 clear hfresh k1 k2 k3;have F1:=fun(S:List (List Rat)) (d:Nat) (h:d<100000)=>ji9 (t:=69) (b0:=b0) (bs:=bs) (S:=S) (n:=e.mats.toNat) h;have G1:=fun(S:List (List Rat)) (d:Nat) (h:d<100000)=>jcb (t:=69) (b0:=b0) (bs:=bs) (S:=S) (n:=e.mats.toNat) h;have K1:=fun(S:List (List Rat)) (d s:Nat) (es:List (List IV)) (h:d<100000)=>jkg (t:=69) (b0:=b0) (bs:=bs) (S:=S) (n:=e.mats.toNat) (s:=s) (es:=es) h;simp only[go_sem];refine jaz [1,2,5,20,21,22] (fun i:Nat=>⟨[(1,.im (.sl (H.map stC))),(2,.loc 2 8 0 0),(5,.im (.ref b0 91 1 e.places.length)),(20,.im (.sl (e.moves.map Move.c))),(21,.im (.int e.moves.length)),(22,.im (.int i))],
   (2,8,[e.c])::jbr 69 b0 bs (stN e.moves H e.mats.toNat S0 i) e.mats.toNat,[]⟩)
  (fun i=>i<=e.moves.length/\jgv e H S0 0 e.moves=jgv e H S0 i (e.moves.drop i)) (fun i=>e.moves.length-i) 0 ?_ ?_ rfl ⟨zG _,rfl⟩ ?_
 ·simp only[Int.natCast_zero,go_sem]
 ·exact SubR.of_eq rfl
 ·intro i ⟨hi,ha⟩;by_cases hp:(i:Int)<e.moves.length
  ·have hd:decide ((i:Int)<e.moves.length)=true:=zk hp;obtain⟨x,hx⟩:=jbq hp;obtain⟨l,hl⟩:∃l,H[i]? =some l:=⟨_,ze (by omega)⟩;have hiH:(i:Int)<H.length:=by omega
   have h1:=ja9 (n:=(i:Int)+1) (by omega);obtain⟨⟨hS1,hS2⟩,hl2⟩:=And.intro (hst i) (hH l (zl hl));obtain⟨⟨p1,p2⟩,p3,p4⟩:=hmove x (zl hx);obtain⟨hll,hlF⟩:=hl2;have hsucc:=jn6 (n:=e.mats.toNat) (S:=S0) hx hl;obtain⟨pl,hpk⟩:∃pl,e.places[x.fr.toNat]? =some pl:=⟨_,ze (by omega)⟩;have hgo:jgv e H S0 i (e.moves.drop i)=if l.any negF=true then 3 else if jfr pl.kind ((stN e.moves H e.mats.toNat S0 i).getD x.fr.toNat []) x l≠0 then jfr pl.kind ((stN e.moves H e.mats.toNat S0 i).getD x.fr.toNat []) x l
     else if jda e x (sumF l)=false then 24 else if pureF e i l (sumF l)=false then 13 else jgv e H S0 (i+1) (e.moves.drop (i+1)):=by
    rw[jh7 hx,jgv,hl,hpk];rfl
   rw[hgo]at ha;clear hgo;generalize hS1e:stN e.moves H e.mats.toNat S0 (i+1)=S1 at*;generalize stN e.moves H e.mats.toNat S0 i=S at*;obtain⟨a,hat⟩:∃a,S[x.fr.toNat]? =some a:=⟨_,ze (by rw[hS1.1];omega)⟩;have hag:S.getD x.fr.toNat []=a:=by rw[zS,hat];rfl
   rw[hag]at ha;have hal:a.length=e.mats.toNat:=hS1.2 a (zl hat);have q1:=h_negative l (by omega) (fun r hr=>(hlF r hr).mono (by omega));have q2:=h_takenH b0 e.places.length e.mats.toNat bs e S x l a pl hnd hS1 hbl p1 p2 hpk hat (by omega) (by omega) (fun r hr=>(hlF r hr).mono (by omega)) (fun r hr=>(hS2 a (zl hat) r hr).mono (by omega));have q3:=h_sum l (by omega) (fun r hr=>(hlF r hr).mono (by omega));have hms:FL 9000000000 (sumF l):=(FL_sumF hlF).mono (by omega);have q4:=h_weighed e x (sumF l) (hms.mono (by omega)) hce hre;have q5:=h_pure e i l (sumF l) hpe hms (fun r hr=>(hlF r hr).mono (by omega)) (fun p hp=>⟨⟨(hpur p hp).1.1,by have:=(hpur p hp).1.2;omega⟩,(hpur p hp).2⟩);have q6:=h_carry b0 bs S x l e.places.length e.mats.toNat (4+8*i) hnd hS1 hbl hpl (by omega) ⟨p1,p2⟩ ⟨p3,p4⟩ hll hlF (SL.of_all hS2) (by omega);rw[<-hsucc]at q6;generalize jfr pl.kind a x l=tk at*;generalize l.any negF=ng at*;generalize jda e x (sumF l)=wt at*;generalize pureF e i l (sumF l)=pt at*;generalize sumF l=mass at*;unfold fcs at q1 q2 q3 q5 q6;simp only[frac,ints,Evid.iv,Evid.c,Move.c]at q1 q2 q3 q4 q5 q6;clear hst hsz hrow hmove hpur;simp only[hd,zq,hx,hl,hiH,stC,F1,G1,K1,go_sem];refine ja1 q1 ?_;simp only[hd,F1,G1,K1,go_sem];refine jcm (fun c1=> ?_) (fun c1=> ?_)
   ·subst c1;rw[zn rfl]at ha;simp only[go_sem];refine ji4 [] ?_;simp only[ha,go_sem]
   subst c1;rw[zp qV]at ha;simp only[F1,G1,K1,go_sem];refine jai 7 ?_;simp only[hd,zq,hl,hiH,stC,F1,G1,K1,go_sem];refine jal q2 (by decide) rfl st_blks ?_ ?_
   ·exact jbw (by show Abs.look (jbr _ _ _ _ _) 7=none;rw[jcb (by decide)]) (jbw (by show Abs.look (jbr _ _ _ _ _) 2=none;rw[jcb (by decide)]) (SubR.of_eq rfl))
   rintro r L' ⟨rfl,rfl⟩ hfresh;clear hfresh;refine⟨(7,6,[x.c])::(2,8,[e.c])::jbr 69 b0 bs S e.mats.toNat,?_,?_⟩
   ·exact Behind_pre [(7,6,[x.c]),(2,8,[e.c])] (by
     intro p hp;rcases zT.1 hp with rfl | hp
     ·exact jcb (by dsimp only;decide)
     ·rw[zC.1 hp];exact jcb (by dsimp only;decide))
   simp only[F1,G1,K1,go_sem];refine jcm (fun c2=> ?_) (fun c2=> ?_)
   case refine_2=>
    have c2':tk≠0:=zK c2;rw[zn c2']at ha;simp only[c2,go_sem];refine ji4 [] ?_;simp only[ha,go_sem]
   have c2':¬tk≠0:=fun h=>h (zJ c2);rw[zp c2']at ha;simp only[c2,hd,zq,hl,hiH,stC,F1,G1,K1,go_sem];refine ja1 q3 ?_;simp only[F1,G1,K1,go_sem];refine ja1 q4 ?_;simp only[F1,G1,K1,go_sem];refine jcm (fun c3=> ?_) (fun c3=> ?_)
   case refine_2=>
    subst c3;rw[zn rfl]at ha;simp only[go_sem];refine ji4 [] ?_;simp only[ha,go_sem]
   subst c3;rw[zp (by decide)]at ha;simp only[F1,G1,K1,go_sem];refine jai 10 ?_;simp only[hd,zq,hl,hiH,stC,F1,G1,K1,go_sem];refine ja6 q5 (by decide) ?_;simp only[F1,G1,K1,go_sem];refine jcm (fun c4=> ?_) (fun c4=> ?_)
   case refine_2=>
    subst c4;rw[zn rfl]at ha;simp only[go_sem];refine ji4 [] ?_;simp only[ha,go_sem]
   subst c4;rw[zp (by decide)]at ha;simp only[F1,G1,K1,go_sem];refine jai 6 ?_;simp only[hd,zq,hl,hiH,stC,F1,G1,K1,go_sem];refine jal q6 (by decide) rfl st_blks ?_ ?_
   ·exact jbw (by show Abs.look (jbr _ _ _ _ _) 9=none;rw[jcb (by decide)]) (jbw (by show Abs.look (jbr _ _ _ _ _) 7=none;rw[jcb (by decide)]) (jbw (by show Abs.look (jbr _ _ _ _ _) 2=none;rw[jcb (by decide)]) (SubR.of_eq rfl)))
   rintro r L' ⟨rfl,rfl⟩ hfresh;clear hfresh;refine⟨(9,4,[fc mass])::(7,6,[x.c])::(2,8,[e.c])::jbr 69 b0 bs S1 e.mats.toNat,?_,?_⟩
   ·exact Behind_pre [(9,4,[fc mass]),(7,6,[x.c]),(2,8,[e.c])] (by
     intro p hp;rcases zT.1 hp with rfl | hp
     ·exact jcb (by dsimp only;decide)
     ·rcases zT.1 hp with rfl | hp
      ·exact jcb (by dsimp only;decide)
      ·rw[zC.1 hp];exact jcb (by dsimp only;decide))
   simp only[F1,G1,K1,go_sem];refine jae (i+1) ?_ ?_ rfl (by omega) ⟨by omega,ha⟩
   ·simp only[h1,Int.natCast_add,go_sem]
   ·dsimp only;rw[hS1e];exact jbw (by show Abs.look (_::jbr _ _ _ _ _) 9=none;rw[ja0 _ _ (by decide),jcb (by decide)]) (jbw (by show Abs.look (_::jbr _ _ _ _ _) 7=none;rw[ja0 _ _ (by decide),jcb (by decide)]) (SubR.of_eq rfl))
  ·have hd:decide ((i:Int)<e.moves.length)=false:=za hp;rw[zY (by omega),jgv]at ha;simp only[hd,go_sem];refine ji4 [] ?_;simp only[ha,go_sem]
end
section
open Go.Abs
open Go.LP (Sol)
attribute [local go_sem] Evid.iv Evid.c Purity.c ints ic big frac fc
theorem h_check2(e:Evid)(h:List (List Raw))(h0:jbe e=0)(hs:jgb e h=false)(hl:h.length<=100000)(hsz:∀l∈h,∀x∈l,x.l.length<=50000000000/\x.m.length<=50000000000)(hrow:∀l∈h,l.length<=100000):
  Ctr G.P 19 [e.iv,hist h] (· = .int 2):=by
 have k1:=c21 e;rw[h0]at k1;have k2:=jri e h hl hrow hsz;rw[hs]at k2;simp only[Evid.iv,Evid.c]at k1 k2;refine jq4 (goodH [] []) _ _ [.tmp 4] Tryz.func19 rfl rfl (by decide+kernel) rfl ?_;unfold Evid.iv Evid.c;simp only[go_sem];refine ja1 k1 ?_;simp only[go_sem];refine ja1 k2 ?_;simp only[go_sem];refine ji4 [] ?_;simp only[go_sem]
structure HistOf(e:Evid)(h:List (List Raw))(H:List (List Rat)):Prop where
 eq:h.map rowC=H.map stC
 len:H.length=e.moves.length
 row:∀l∈H,l.length=e.mats.toNat/\∀r∈l,FL 3 r
def FewH(h:List (List Raw)):Prop:=h.length<=20/\∀l∈h,l.length<=10/\∀x∈l,x.l.length<=3/\x.m.length<=3
theorem h_check1(e:Evid)(h:List (List Raw))(h0:jbe e≠0):Ctr G.P 19 [e.iv,hist h] (· = .int 1):=by
 have k1:=c21 e;have hd:decide (jbe e=0)=false:=za h0;generalize jbe e=ck at*;unfold hist;simp only[Evid.iv,Evid.c]at k1;refine jq4 (goodH [] []) _ _ [.tmp 4] Tryz.func19 rfl rfl (by decide+kernel) rfl ?_;unfold Evid.iv Evid.c;simp only[go_sem];refine ja1 k1 ?_;simp only[hd,go_sem];refine ji4 [] ?_;simp only[go_sem]
theorem h_says(e:Evid)(h:List (List Raw))(hf:FewH h):∃c:Int,Ctr G.P 19 [e.iv,hist h] (· = .int c)/\(c=0->jbe e=0/\∃H,HistOf e h H/\Sol (e.moves.length*e.mats.toNat) (rowsE e) (ptH e.mats.toNat H)):=by
 obtain⟨g1,g2⟩:=hf;by_cases h0:jbe e=0
 ·rcases hs:jgb e h with _ | _
  ·exact⟨2,h_check2 e h h0 hs (by omega) (fun l hl x hx=>by have:=(g2 l hl).2 x hx;omega) (fun l hl=>by have:=(g2 l hl).1;omega),fun h=>absurd h (by decide)⟩
  ·have hs':=hs;rw[jgb,zB,zU]at hs';obtain⟨H,a1,a2,a3⟩:=hist_of hs'.2 (k:=3) (fun l hl x hx=>(g2 l hl).2 x hx);have hmt:=(jbt h0).2.1;have hlx:=check_len h0;have hHl:H.length=e.moves.length:=by omega
   have hH:∀l∈H,l.length=e.mats.toNat/\∀r∈l,FL 3 r:=fun l hl=>⟨by have:=(a3 l hl).1;omega,(a3 l hl).2⟩;refine⟨_,h_check e h H h0 hs a2 hHl hH (fun l hl x hx=>by have:=(g2 l hl).2 x hx;omega) (fun l hl=>by have:=(g2 l hl).1;omega) (by omega) (by omega) (by omega) (by omega) (by omega) (by omega) (by omega) (ji0 h0) (check_purs' h0),fun hc=>⟨h0,H,⟨a2,hHl,hH⟩,?_⟩⟩;exact(hist_iff h0 hHl fun l hl=>(hH l hl).1).1 hc
 ·exact⟨1,h_check1 e h h0,fun h=>absurd h (by decide)⟩
end
section
open Go.Abs
open Go.LP (Rw RT tsum Sol Bds)
theorem floorR_eq(r:Rat):jrp r=r.floor:=by
 unfold jrp;rw[Rat.floor_def,yo _ (by omega)]
theorem intF_of{z:Int}(h1:0<=z)(h2:z<=9223372036854775807):intF z=z:=by
 unfold intF;rw[zn (by unfold fits;simp only[zB,zU];omega)]
theorem val3{n:Nat}(h:(dig n).length<=3):n<1152921504606846976:=by
 have h1:=jek (jc6 n);have h2:=jb7 n;have h3:(1048576:Int)^(dig n).length<=1048576^3:=by
  have:∀k:Nat,k<=3->(1048576:Int)^k<=1048576^3:=fun k hk=>by
   match k,hk with
   | 0,_=>decide
   | 1,_=>decide
   | 2,_=>decide
   | 3,_=>decide
  exact this _ h
 have h4:(1048576:Int)^3=1152921504606846976:=by decide
 omega
theorem FL3_le{r:Rat}(h:FL 3 r):r<=((1152921504606846976:Int):Rat):=by
 have h1:=val3 h.1;rw[Rat.le_iff,Rat.num_intCast,Rat.den_intCast];have h2:(1:Int)<=r.den:=by have:=r.den_pos;omega
 have h3:r.num<1152921504606846976:=by omega
 have h4:(1152921504606846976:Int)*1<=1152921504606846976*(r.den:Int):=qg h2 (by decide);rw[Int.natCast_one,je];omega
theorem ksum_le{N:Nat}{x:Nat->Rat}{c:Int}(hx:∀k,k<N->x k<=(c:Rat)):∀{l:List Nat},(∀k∈l,k<N)->Go.LP.ksum l x<=(((l.length:Int)*c:Int):Rat)
 | [],_=>by
  have e:(((([]:List Nat).length:Int)*c:Int):Rat)=0:=by rw[List.length_nil];simp
  rw[e];exact Rat.le_refl
 | a::r,h=>by
  have h1:=ksum_le hx (l:=r) fun k hk=>h k (by simp[hk]);have h2:=hx a (h a (by simp));have e:((((a::r).length:Int)*c:Int):Rat)=(c:Rat)+(((r.length:Int)*c:Int):Rat):=by
   rw[<-vz,List.length_cons,Int.natCast_add,yu];congr 1;omega
  rw[e,Go.LP.ksum];grind
theorem pt_small{e:Evid}{h:List (List Raw)}{H:List (List Rat)}(ho:HistOf e h H)(k:Nat):ptH e.mats.toNat H k<=((1152921504606846976:Int):Rat):=by
 have hz:(0:Rat)<=((1152921504606846976:Int):Rat):=by decide
 unfold ptH;rw[zS (l:=H)];cases hq:H[k/e.mats.toNat]? with
 | none=>simpa using hz
 | some l=>
  rw[Option.getD_some,zS];cases hr:l[k % e.mats.toNat]? with
  | none=>simpa using hz
  | some r=>exact FL3_le ((ho.row l (zl hq)).2 r (zl hr))
theorem len_lt{n:Nat}:∀{l:List Int} {lo:Int},l.Pairwise (· < ·)->(∀i∈l,lo<=i/\i<lo+(n:Int))->l.length<=n
 | [],_,_,_=>zG _
 | a::r,lo,hp,h=>by
  have h1:=yh.1 hp;have ha:=h a (by simp);cases n with
  | zero=>omega
  | succ n=>
   have:=len_lt (n:=n) (l:=r) (lo:=lo+1) h1.2 fun i hi=>by
    have h2:=h1.1 i hi;have h3:=h i (by simp[hi]);omega
   simp only[List.length_cons];omega
theorem fits_len{e:Evid}{b:Bat}(h:fitsF e b=true):b.mv.length<=e.moves.length:=by
 obtain⟨_,_,h2,_⟩:=jml h;obtain⟨g1,g2,_⟩:=jpr h2;exact len_lt (lo:=0) g2 fun i hi=>by have:=g1 i hi;omega
theorem jey{e:Evid}{b:Bat}{n f:Int}{h:List (List Raw)}{H:List (List Rat)}(hc:CSay e b n f)(hf:fitsF e b=true)(h6:e.moves.length<=6)(ho:HistOf e h H)(hx:Sol (nV e) (rowsE e) (ptH e.mats.toNat H)):
  f=0/\∃lo hi,BSay e (jfd b) (some (lo,hi))/\n=lo.floor/\0<=n/\n<=9223372036854775807/\lo<=wgt e (jfd b) (ptH e.mats.toNat H):=by
 rcases hc.ok hf with ⟨_,_,h3⟩ | ⟨h1,lo,hi,h2,h3⟩
 ·exact absurd hx (h3 _)
 obtain⟨hok,hb,_,_⟩:=h2.inv;have hlt:∀k∈(jfd b).map (pickK e.mats.toNat),k<nV e:=fun k hk=>by
  obtain⟨p,hp,rfl⟩:=qd.1 hk;exact pick_lt ((jig hok).2.1 p hp)
 have hlo:lo<=wgt e (jfd b) (ptH e.mats.toNat H):=hb.low _ hx;have h0:(0:Rat)<=lo:=by
  obtain⟨z,hz,rfl⟩:=hb.low_at;exact Go.LP.ksum_nonneg hz.pos hlt
 have hup:=ksum_le (x:=ptH e.mats.toNat H) (c:=1152921504606846976) (N:=nV e) (fun k _=>pt_small ho k) hlt;have hl:((jfd b).map (pickK e.mats.toNat)).length<=6:=by
  unfold jfd;rw[zh,zh];have:=fits_len hf;omega
 rw[floorR_eq]at h3;have f0:0<=lo.floor:=Rat.le_floor_iff.2 (by simpa using h0);have f1:lo.floor<=9223372036854775807:=by
  have a1:=Rat.le_trans (Rat.le_trans (Rat.floor_le lo) hlo) hup;have a2:=Rat.intCast_le_intCast.1 a1;have:(((jfd b).map (pickK e.mats.toNat)).length:Int)*1152921504606846976<=6*1152921504606846976:=qo (by omega) (by decide);omega
 rw[intF_of f0 f1]at h3;exact⟨h1,lo,hi,h2,h3,by omega,by omega,hlo⟩
theorem jp9{e e':Evid}{b:Bat}(h:jbe e=0)(h':jbe e'=0)(h1:e'.mats=e.mats)(h2:e'.moves=e.moves)(h3:e'.places=e.places):fitsF e' b=fitsF e b:=by
 have hb:∀i,buyF e' i=buyF e i:=fun i=>by unfold buyF;rw[h2,h3]
 unfold fitsF;rw[h,h',h1,h2];simp only[hb]
theorem recalls_more{e:Evid}{b:Bat}{r:Recall}{n f less g:Int}{h:List (List Raw)}{H:List (List Rat)}(c1:CSay e b n f)(c2:CSay {e with recalls:=e.recalls++[r]} b less g)(h6:e.moves.length<=6)(ho:HistOf e h H)
  (hx:Sol (nV e) (rowsE e) (ptH e.mats.toNat H)) (hc:jbe e=0) (hm:jbe {e with recalls:=e.recalls++[r]}=0):f=g/\less<=n:=by
 have hfs:fitsF {e with recalls:=e.recalls++[r]} b=fitsF e b:=jp9 hc hm rfl rfl rfl;rcases hf:fitsF e b with _ | _
 ·obtain⟨e1,e2⟩:=c1.bad hf;obtain⟨e3,e4⟩:=c2.bad (hfs.trans hf);exact⟨by rw[e2,e4],by omega⟩
 ·obtain⟨a1,lo,hi,a2,a3,_,_,_⟩:=jey c1 hf h6 ho hx;obtain⟨b1,lo',hi',b2,b3,_,_,_⟩:=jey (e:={e with recalls:=e.recalls++[r]}) c2 (hfs.trans hf) h6 ⟨ho.eq,ho.len,ho.row⟩ (hx.sub (jm5 e r));obtain⟨lo2,hi2,e1,e2,_⟩:=b2.wider a2 rfl hm rfl rfl (jm5 e r);injection e1 with e1;injection e1 with e1 _;subst e1;exact⟨by rw[a1,b1],by rw[a3,b3];exact Rat.floor_monotone e2⟩
theorem recalls_pure{e:Evid}{b:Bat}{y:Purity}{n f much g:Int}{h:List (List Raw)}{H H':List (List Rat)}(c1:CSay e b n f)(c2:CSay {e with purs:=e.purs++[y]} b much g)(h6:e.moves.length<=6)(ho:HistOf e h H)
  (hx:Sol (nV e) (rowsE e) (ptH e.mats.toNat H)) (hc:jbe e=0) (ho':HistOf {e with purs:=e.purs++[y]} h H') (hx':Sol (nV e) (rowsE {e with purs:=e.purs++[y]}) (ptH e.mats.toNat H')) (hm:jbe {e with purs:=e.purs++[y]}=0):f=g/\n<=much/\(f=0\/f=1):=by
 have hfs:fitsF {e with purs:=e.purs++[y]} b=fitsF e b:=jp9 hc hm rfl rfl rfl;rcases hf:fitsF e b with _ | _
 ·obtain⟨e1,e2⟩:=c1.bad hf;obtain⟨e3,e4⟩:=c2.bad (hfs.trans hf);exact⟨by rw[e2,e4],by omega,.inr e2⟩
 ·obtain⟨a1,lo,hi,a2,a3,_,_,_⟩:=jey c1 hf h6 ho hx;obtain⟨b1,lo',hi',b2,b3,_,_,_⟩:=jey (e:={e with purs:=e.purs++[y]}) c2 (hfs.trans hf) h6 ho' hx';obtain⟨lo2,hi2,e1,e2,_⟩:=a2.wider b2 rfl hc rfl rfl (rows_pure e y);injection e1 with e1;injection e1 with e1 _;subst e1;exact⟨by rw[a1,b1],by rw[a3,b3];exact Rat.floor_monotone e2,.inl a1⟩
end
section
open Go.Abs
attribute [local go_sem] ints ic Raw.c rowC
def fewY(k:Int)(x:Raw):Bool:=decide ((x.l.length:Int)<=k)&&decide ((x.m.length:Int)<=k)
theorem t_few5y(x:Raw)(k:Int):Ctr G.P 43 [.agg x.c,.int k] (· = .bool (fewY k x)):=by
 refine ja4 [.tmp 4] Tryz.func43 ?_;unfold fewY;simp only[zh,go_sem]
 repeat' (first | (refine jcm (fun hd=> ?_) (fun hd=> ?_)<;>simp only[*,go_sem]))
def okX(l:List Raw):Prop:=l.length<=8/\∀x∈l,x.l.length<=3/\x.m.length<=3
theorem few15_of{h:List (List Raw)}(h1:h.length<=14)(h2:∀l∈h,okX l):FewH h:=⟨by omega,fun l hl=>⟨by have:=(h2 l hl).1;omega,(h2 l hl).2⟩⟩
theorem t_few15(h:List (List Raw)):Ctr G.P 18 [hist h] (fun r=>∃z,r= .bool z/\(z=true->FewH h)):=by
 unfold hist;refine ja4 [.tmp 2] Tryz.func18 ?_;simp only[go_sem];refine jao [0,3] [] (fun i:Nat=>⟨[(0,.im (.sl (h.map rowC))),(3,.im (.int i))],[],[]⟩)
  (fun i=>i<=h.length/\i<=20/\∀l∈h.take i,okX l) (fun i=>h.length-i) 0 ?_ ⟨zG _,zG _,by simp⟩ ?_
 ·simp only[Int.natCast_zero,go_sem]
 intro i ⟨hi,h20,ha⟩;have fin:(h.length<=20->∀l∈h,okX l)->∃z,IV.bool (decide ((h.length:Int)<=14))= .bool z/\(z=true->FewH h):=fun hall=>⟨_,rfl,fun hz=>by
  have:=zJ hz;exact few15_of (by omega) (hall (by omega))⟩
 by_cases hp:(i:Int)<h.length
 ·have hd:decide ((i:Int)<h.length)=true:=zk hp;have hin:i<h.length:=by omega
  rcases d20:decide ((i:Int)<20)with _ | _
  ·have:=zK d20;simp only[hd,d20,zh,go_sem];exact fin fun h1=>by omega
  have b20:=zJ d20;obtain⟨l,hl⟩:=jbq hp;have h1:=ja9 (n:=(i:Int)+1) (by omega);rcases d8:decide (8<(l.length:Int))with _ | _
  case true=>
   simp only[hd,d20,d8,zh,zq,hl,hp,hin,go_sem];exact⟨false,rfl,fun hz=>by cases hz⟩
  have l8:=zK d8;simp only[hd,d20,d8,zh,zq,hl,hp,hin,go_sem];refine jao [0,3,4] [] (fun m:Nat=>⟨[(0,.im (.sl (h.map rowC))),(3,.im (.int i)),(4,.im (.int m))],[],[]⟩)
   (fun m=>m<=l.length/\∀x∈l.take m,x.l.length<=3/\x.m.length<=3) (fun m=>l.length-m) 0 ?_ ⟨zG _,by simp⟩ ?_
  ·simp only[Int.natCast_zero,go_sem]
  intro m ⟨hm,hb⟩;by_cases hq:(m:Int)<l.length
  ·have he:decide ((m:Int)<l.length)=true:=zk hq;have hml:m<l.length:=by omega
   obtain⟨x,hx⟩:=jbq hq;have k5:=t_few5y x 3;have h2:=ja9 (n:=(m:Int)+1) (by omega);unfold Raw.c at k5;rcases hf:fewY 3 x with _ | _
   ·rw[hf]at k5;simp only[he,zh,zq,hl,hp,hin,hq,hml,hx,go_sem];refine ja1 k5 ?_;simp only[go_sem];exact⟨false,rfl,fun hz=>by cases hz⟩
   ·rw[hf]at k5;simp only[he,zh,zq,hl,hp,hin,hq,hml,hx,go_sem];refine ja1 k5 ?_;simp only[go_sem];refine jad (m+1) ?_ ?_ ?_
    ·simp only[h2,Int.natCast_add,go_sem]
    ·show l.length-(m+1)<l.length-m;omega
    ·refine⟨by show m+1<=l.length;omega,fun y hy=> ?_⟩;rw[take_succ hx,qu,zC]at hy;rcases hy with hy | rfl
     ·exact hb y hy
     ·simp only[fewY,zB,zU]at hf;omega
  ·have he:decide ((m:Int)<l.length)=false:=za hq;rw[zD (by omega)]at hb;simp only[he,zh,zq,hl,hp,hin,go_sem];refine jad (i+1) ?_ ?_ ?_
   ·simp only[h1,Int.natCast_add,go_sem]
   ·show h.length-(i+1)<h.length-i;omega
   ·refine⟨by show i+1<=h.length;omega,by show i+1<=20;omega,fun y hy=> ?_⟩;rw[take_succ hl,qu,zC]at hy;rcases hy with hy | rfl
    ·exact ha y hy
    ·exact⟨by omega,hb⟩
 ·have hd:decide ((i:Int)<h.length)=false:=za hp;rw[zD (by omega)]at ha;simp only[hd,zh,go_sem];exact fin fun _=>ha
end
end Go.Proofs.YtgncgpfjldefpaaGreat
namespace Go.Abs
section
open Go.RowKit (Below)
section
variable{G:Ctx}
def LeW(s:St)[S:Hold St]:Prop:=St.Le s S.val
end
section
variable{G:Ctx}{N:Nat}{w0:Base}{w:World}{M0:Nat->Nat->Prop}{β:Nat->Option Nat}{st:St}{a:Act}
theorem Sim.rowsTo(h:Sim N w0 M0 β st a w)(R:Rows)(hk:∀k,(look R k).isSome=(look st.rows k).isSome)
  (hr:∀k s es,look R k=some (s,es)->∀b,β k=some b->RowRep w (Mo M0 β st) b s es):Sim N w0 M0 β ⟨st.fr,R,st.toks⟩ a w:=by
 have key:∀k,(∃s es,look R k=some (s,es))↔∃s es,look st.rows k=some (s,es):=fun k=>by
  have:=hk k;cases h1:look R k with
  | none=>cases h2:look st.rows k with
   | none=>simp
   | some q=>simp[h1,h2]at this
  | some p=>cases h2:look st.rows k with
   | none=>simp[h1,h2]at this
   | some q=>exact⟨fun _=>⟨q.1,q.2,rfl⟩,fun _=>⟨p.1,p.2,rfl⟩⟩
 have hless:∀b o,Mo M0 β ⟨st.fr,R,st.toks⟩ b o->Mo M0 β st b o:=fun b o hm=>by
  rcases hm with hm | ⟨k,s,es,hk',hb⟩ | hm
  ·exact .inl hm
  ·obtain⟨s2,es2,h2⟩:=(key k).1 ⟨s,es,hk'⟩;exact .inr (.inl ⟨k,s2,es2,h2,hb⟩)
  ·exact .inr (.inr hm)
 have hkp:=Kept.less w hless;refine⟨h.size,h.defers,h.below,h.m0,fun t=> ?_,fun k s es hk'=> ?_,h.toks,fun k k' b h1 h2=> ?_,fun k hk'=> ?_,fun k hN hN' hk'=> ?_,h.np,h.perm⟩
 ·exact(h.fr t).move (β':=β) (toks':=st.toks) hkp (fun _ _=>rfl) (fun _ _ _ _ hl=>hl) (fun _ _ _ _ _=>rfl) (Shp.refl _)
 ·obtain⟨s2,es2,h2⟩:=(key k).1 ⟨s,es,hk'⟩;obtain⟨b,g1,g2,_⟩:=h.rows k s2 es2 h2;exact⟨b,g1,g2,(hr k s es hk' b g1).move hkp rfl⟩
 ·exact h.inj k k' b (by simpa [hk]using h1) (by simpa [hk]using h2)
 ·exact h.excl k (by rw[<-hk];exact hk')
 ·exact h.nam k hN hN' (by rw[<-hk];exact hk')
def frzC(b s:Nat)(es:List (List IV))(c:List IV):List IV:=c.map (frz1 b s es)
def St.frzR(st:St)(b:Nat):St:=
 match look st.rows (hp b)with
 | some (s,es)=>⟨(st.frz b).fr,(st.frz b).rows.map fun p=>(p.1,p.2.1,p.2.2.map (frzC b s es)),(st.frz b).toks⟩
 | none=>st
theorem Sim.frzR(h:Sim N w0 M0 β st a w)(b:Nat):Sim N w0 M0 β (st.frzR b) a w:=by
 unfold St.frzR;split
 case h_2=>exact h
 case h_1 s es hd=>
  have h1:=h.frz b;obtain⟨b',hb',hb0,hrow⟩:=h.rows _ s es hd;rw[h.perm]at hb';cases hb';have htok:look st.toks (hp b)=none:=h.excl _ (jbh hd);have e0:st.frz b=⟨st.fr.map fun p=>(p.1,p.2.frz b s es),del st.rows (hp b),st.toks⟩:=by unfold St.frz;rw[hd]
  have hless:∀b' o,Mo M0 β (st.frz b) b' o->Mo M0 β st b' o:=fun b' o hm=>by rw[e0]at hm;exact jmw hm
  have hnm:∀o,¬Mo M0 β (st.frz b) b o:=by
   rw[e0];rintro o (hm | ⟨k,s',es',hk',hkb⟩ | ⟨k,s',n,hk',hkb,_⟩)
   ·exact hb0 (h.m0 b o hm)
   ·by_cases e:k=hp b
    ·subst e;simp[jaa]at hk'
    ·exact e (h.inj k (hp b) b (.inl (by simp only[ja8 _ e]at hk';simp[hk'])) (.inl (by simp[hd])) hkb (h.perm b))
   ·have:=h.inj k (hp b) b (.inr (by simp only at hk';simp[hk'])) (.inl (by simp[hd])) hkb (h.perm b);subst this;simp only at hk';rw[htok]at hk';cases hk'
  have hrow':=hrow.move (Kept.less w hless) rfl;have hlk:∀k,look ((st.frz b).rows.map fun p=>(p.1,p.2.1,p.2.2.map (frzC b s es))) k=(look (st.frz b).rows k).map fun q:Nat×List (List IV)=>(q.1,q.2.map (frzC b s es)):=fun k=>jgf _ (fun q:Nat×List (List IV)=>(q.1,q.2.map (frzC b s es))) k;refine h1.rowsTo _ (fun k=>by rw[hlk];cases look (st.frz b).rows k<;>rfl) fun k s2 es2 hk b2 hb2=> ?_;rw[hlk]at hk;obtain⟨⟨s3,es3⟩,g1,g2⟩:=z7.1 hk;cases g2;obtain⟨b3,q1,_,cur,T,q2,q3,q4⟩:=h1.rows k s3 es3 g1;rw[hb2]at q1;cases q1;refine⟨cur,T,q2,fun c hc=> ?_,fun i c j y hi hj=> ?_⟩
  ·obtain⟨c0,hc0,rfl⟩:=qd.1 hc;unfold frzC;rw[zh];exact q3 c0 hc0
  ·rw[zq]at hi;obtain⟨c0,hc0,rfl⟩:=z7.1 hi;unfold frzC at hj;rw[zq]at hj;obtain⟨y0,hy0,rfl⟩:=z7.1 hj;obtain⟨o1,u,o2,o3⟩:=q4 i c0 j y0 hc0 hy0;exact⟨by rw[jro];exact o1,u,o2,jnm hrow' hnm o3⟩
theorem Sim.frzRs(h:Sim N w0 M0 β st a w)(bs:List Nat):Sim N w0 M0 β (bs.foldl St.frzR st) a w:=by
 induction bs generalizing st with
 | nil=>exact h
 | cons b bs ih=>exact ih (h.frzR b)
theorem jk8{s S:St}(bs:List Nat)(L:List Nat)(hf:L.map (fun t=>(t,(bs.foldl St.frzR s).get t))=S.fr)(hr:SubR S.rows (bs.foldl St.frzR s).rows)(ht:S.toks=[]): @LeW s ⟨S⟩:=
 St.Le.trans (fun N w0 M0 β a w h=>⟨β,h.frzRs bs⟩) (St.sub_of L hf hr ht).le
end
section
variable{G:Ctx}
end
def tailN:Nat->Code->Code
 | 0,c=>c
 | n+1,.seq _ y=>tailN n y
 | _+1,c=>c
def putN:Nat->Code->Code->Code
 | 0,_,y=>y
 | n+1,.seq x c,y=> .seq x (putN n c y)
 | _+1,c,_=>c
theorem jgx:∀(j k:Nat) (c:Code),tailN k (tailN j c)=tailN (j+k) c
 | 0,k,c=>by rw[qD];rfl
 | j+1,k,c=>by
  cases c with
  | seq x y=>rw[show j+1+k=(j+k)+1 by omega];exact jgx j k y
  | _=>cases k<;>first | rfl | (rw[show j+1+(_+1)=(j+_+1)+1 by omega];rfl)
def jll(fn:Func):Code:=match fn.body with
 | some c=>c
 | none=> .skip
section
variable{G:Ctx}
theorem tail_go{fn:Func}{c:Code}(hb:fn.body=some c){k:Nat}{Q:Exit->St->Prop}{st:St}(h:awp G (tailN k c) Q st):awp G (tailN k (jll fn)) Q st:=by
 unfold jll;rw[hb];exact h
theorem jqr{fn:Func}{c:Code}(hb:fn.body=some c){k j:Nat}{y:Code}{Q:Exit->St->Prop}{st:St}(h:awp G (putN k (tailN j c) y) Q st):awp G (putN k (tailN j (jll fn)) y) Q st:=by
 unfold jll;rw[hb];exact h
end
attribute [go_sem] St.frzR frzC tailN putN
