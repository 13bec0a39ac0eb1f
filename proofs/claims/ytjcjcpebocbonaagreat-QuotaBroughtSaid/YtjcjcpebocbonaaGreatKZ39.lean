/- A part of the proof. No further condition. -/
import Derived.Test.YtjcjcpebocbonaaGreatKZ38
set_option linter.all false
set_option maxRecDepth 10000000
set_option maxHeartbeats 16000000
namespace Go.Proofs.YtjcjcpebocbonaaGreat
section
set_option maxRecDepth 1000000
open Go.Abs
open Go.LP (Rw RT tsum Sol tsum_app)
def ptH(M:Nat)(H:List (List Rat))(k:Nat):Rat:=(H.getD (k/M) []).getD (k % M) 0
theorem pt_at{M:Nat}{H:List (List Rat)}(i:Nat){m:Nat}(hm:m<M):ptH M H (i*M+m)=(H.getD i []).getD m 0:=by
 unfold ptH;rw[jv i M,Nat.mul_add_div (by omega),jY hm,Nat.add_zero,wm,jD hm]
theorem getD_some{α:Type}{l:List α}{i:Nat}{x d:α}(h:l[i]? =some x):l.getD i d=x:=by rw[zX,h];rfl
theorem jet{α:Type}{l:List α}{i:Nat}(h:i<l.length):∃x,l[i]? =some x:=⟨_,zw h⟩
theorem jpk(ts:List (Nat×Rat))(t:Nat×Rat)(x:Nat->Rat):tsum (ts++[t]) x=tsum ts x+t.2*x t.1:=by
 rw[tsum_app];show tsum ts x+(t.2*x t.1+0)=_;rw[yW]
theorem jkl{M mv:Nat}{b own more:Int}{H:List (List Rat)}{l:List Rat}(hl:H[mv]? =some l)(hM:l.length=M):∀k,k<=M->tsum (sumT M mv b own more k) (ptH M H)=(b:Rat)*sumF (l.take k)+(if 0<=own/\own<(k:Int)then(more:Rat)*l.getD own.toNat 0 else 0)
 | 0,_=>by
  rw[iNo];show(0:Rat)=(b:Rat)*((0:Int):Rat)+0;rw[show((0:Int):Rat)=0 from rfl,Rat.mul_zero,yW]
 | k+1,hk=>by
  have ih:=jkl (b:=b) (own:=own) (more:=more) hl hM k (by omega);obtain⟨f,hf⟩:=jet (l:=l) (i:=k) (by omega);have hx:ptH M H (mv*M+k)=f:=by rw[pt_at mv (by omega),getD_some hl,getD_some hf]
  have hs:tsum (sumT M mv b own more (k+1)) (ptH M H)=tsum (sumT M mv b own more k) (ptH M H)+((coF b own more k:Int):Rat)*f:=by
   rw[sumT];split
   ·rename_i h;rw[h,show((0:Int):Rat)=0 from rfl,vV,yW]
   ·rw[jpk,hx]
  rw[hs,ih,jpr hf];unfold coF;by_cases ho:(k:Int)=own
  ·have h1:own.toNat=k:=by omega
   rw[iNo,zh ho,iPo,h1,getD_some hf,vu];grind
  ·rw[zl ho];by_cases h2:0<=own/\own<(k:Int)
   ·rw[zh h2,iPo];grind
   ·rw[zl h2,iNo];grind
def flowS(M:Nat)(fr:Int)(mat:Nat)(ms:List Move)(x:Nat->Rat):Nat->Rat
 | 0=>0
 | i+1=>match ms[i]? with
  | some y=>flowS M fr mat ms x i+((sgnF fr y:Int):Rat)*x (i*M+mat)
  | none=>flowS M fr mat ms x i
theorem jmq{M:Nat}{fr:Int}{mat:Nat}{ms:List Move}{x:Nat->Rat}:∀i,tsum (jbj M fr mat ms i) x=flowS M fr mat ms x i
 | 0=>rfl
 | i+1=>by
  have ih:=jmq (M:=M) (fr:=fr) (mat:=mat) (ms:=ms) (x:=x) i;rw[jbj,flowS];cases ms[i]? with
  | none=>exact ih
  | some y=>
   dsimp only;split
   ·rename_i h;rw[ih,h,show((0:Int):Rat)=0 from rfl,vV,yW]
   ·rw[jpk,ih]
theorem jj1{α:Type}{l:List α}{i p:Nat}{v d:α}:(l.set i v).getD p d=if p=i/\i<l.length then v else l.getD p d:=by
 rw[zX,zX,jt];by_cases h:i=p
 ·subst h;rw[zh rfl];by_cases h2:i<l.length
  ·rw[zh h2,zh ⟨rfl,h2⟩];rfl
  ·rw[zl h2,zl (fun h=>h2 h.2),qo (by omega)]
 ·rw[zl h,zl (fun e=>h e.1.symm)]
def dl(fr to p:Nat)(f:Rat):Rat:=if p=fr then-f else if p=to then f else 0
theorem step_get{P n fr to m k p:Nat}{f:Rat}{T:List (List Rat)}(hT:Stk P n T)(h1:fr<P)(h2:to<P)(a1:fr≠to)(hm:m<n)(hp:p<P):
  ((stepS fr to k f T).getD p []).getD m 0=(T.getD p []).getD m 0+(if m=k then dl fr to p f else 0):=by
 have hr:∀q,q<P->(T.getD q []).length=n:=fun q hq=>hT.2 _ (mem_getD (by rw[hT.1];exact hq));have e1:(T.set fr ((T.getD fr []).set k ((T.getD fr []).getD k 0-f))).getD to []=T.getD to []:=by
  rw[jj1,zl (fun h=>a1 h.1.symm)]
 unfold stepS;dsimp only;rw[e1,jj1,qd,hT.1];by_cases ht:p=to
 ·subst ht;have hd:dl fr p p f=f:=by unfold dl;rw[zl (fun e=>a1 e.symm),zh rfl]
  rw[zh ⟨rfl,h2⟩,jj1,hr p hp,hd];by_cases hk:m=k
  ·subst hk;rw[zh ⟨rfl,hm⟩,zh rfl]
  ·rw[zl (fun h=>hk h.1),zl hk,yW]
 ·rw[zl (fun h=>ht h.1),jj1,hT.1];by_cases hf:p=fr
  ·subst hf;have hd:dl p to p f= -f:=by unfold dl;rw[zh rfl]
   rw[zh ⟨rfl,h1⟩,jj1,hr p hp,hd];by_cases hk:m=k
   ·subst hk;rw[zh ⟨rfl,hm⟩,zh rfl];grind
   ·rw[zl (fun h=>hk h.1),zl hk,yW]
  ·have hd:dl fr to p f=0:=by unfold dl;rw[zl hf,zl ht]
   rw[zl (fun h=>hf h.1),hd];split<;>rw[yW]
theorem car_get{P n fr to m p:Nat}{l:List Rat}{S:List (List Rat)}(hS:Stk P n S)(h1:fr<P)(h2:to<P)(a1:fr≠to)(hm:m<n)(hp:p<P):∀k,((carN S fr to l k).getD p []).getD m 0=(S.getD p []).getD m 0+(if m<k then dl fr to p (l.getD m 0)else 0)
 | 0=>by rw[carN,iNo,yW]
 | k+1=>by
  rw[carN,step_get (hS.car h1 h2 k) h1 h2 a1 hm hp,car_get hS h1 h2 a1 hm hp k];by_cases hk:m=k
  ·subst hk;rw[zl (q8 _),zh rfl,zh (jE _),yW]
  ·rw[zl hk,yW];by_cases h3:m<k
   ·rw[zh h3,iPo]
   ·rw[zl h3,iNo]
section
variable{e:Evid}{H:List (List Rat)}
def S0(e:Evid):List (List Rat):=List.replicate e.places.length (List.replicate e.mats.toNat ((0:Int):Rat))
theorem S0_stk:Stk e.places.length e.mats.toNat (S0 e):=⟨by unfold S0;simp,fun r hr=>by rw[(vv.1 hr).2];simp⟩
theorem S0_get{p m:Nat}:((S0 e).getD p []).getD m 0=0:=by
 rcases zT p e.places.length with h | h
 ·rw[getD_some (l:=S0 e) (x:=List.replicate e.mats.toNat ((0:Int):Rat)) (by unfold S0;rw[yi,zh h])];rcases zT m e.mats.toNat with h2 | h2
  ·rw[getD_some (x:=((0:Int):Rat)) (by rw[yi,zh h2])];rfl
  ·rw[zX,qo (by simp;omega)];rfl
 ·rw[zX (l:=S0 e),qo (by unfold S0;simp;omega)];rfl
theorem move_at{x:Move}(h:moveF e x=true):((0<=x.fr/\x.fr<(e.places.length:Int))/\(0<=x.to/\x.to<(e.places.length:Int)))/\x.fr≠x.to:=by
 simp only[moveF,zn,yR,qg,idx_iff]at h;exact⟨⟨h.1.1.1.1.1.1.1,h.1.1.1.1.1.1.2⟩,h.1.1.1.1.1.2⟩
theorem st_get(hm:∀x∈e.moves,moveF e x=true)(hH:H.length=e.moves.length)(hl:∀l∈H,l.length=e.mats.toNat){p m:Nat}(hp:p<e.places.length)(a6:m<e.mats.toNat):∀i,i<=e.moves.length->
  Stk e.places.length e.mats.toNat (stN e.moves H e.mats.toNat (S0 e) i)/\((stN e.moves H e.mats.toNat (S0 e) i).getD p []).getD m 0=flowS e.mats.toNat (p:Int) m e.moves (ptH e.mats.toNat H) i
 | 0,_=>⟨S0_stk,S0_get⟩
 | i+1,hi=>by
  obtain⟨a7,b0⟩:=st_get hm hH hl hp a6 i (by omega);obtain⟨x,hx⟩:=jet (l:=e.moves) (i:=i) (by omega);obtain⟨l,a8⟩:=jet (l:=H) (i:=i) (by omega);obtain⟨⟨⟨a1,a2⟩,b1,b2⟩,b3⟩:=move_at (hm x (zk hx));have q1:x.fr.toNat<e.places.length:=by omega
  have q2:x.to.toNat<e.places.length:=by omega
  rw[jo6 hx a8];refine⟨Stk.car a7 q1 q2 _,?_⟩;rw[car_get a7 q1 q2 (by omega) a6 hp,b0,flowS,hx,zh a6,pt_at i a6,getD_some a8];dsimp only;refine zS _ ?_;by_cases h1:p=x.fr.toNat
  ·have e1:dl x.fr.toNat x.to.toNat p (l.getD m 0)= -l.getD m 0:=by unfold dl;rw[zh h1]
   have e2:sgnF (p:Int) x= -1:=by unfold sgnF;rw[iPo]
   rw[e1,e2,show((-1:Int):Rat)= -1 by decide];grind
  ·by_cases h2:p=x.to.toNat
   ·have e1:dl x.fr.toNat x.to.toNat p (l.getD m 0)=l.getD m 0:=by unfold dl;rw[zl h1,zh h2]
    have e2:sgnF (p:Int) x=1:=by unfold sgnF;rw[iNo,iPo]
    rw[e1,e2,show((1:Int):Rat)=1 by decide];grind
   ·have e1:dl x.fr.toNat x.to.toNat p (l.getD m 0)=0:=by unfold dl;rw[zl h1,zl h2]
    have e2:sgnF (p:Int) x=0:=by unfold sgnF;rw[iNo,iNo]
    rw[e1,e2,show((0:Int):Rat)=0 by decide,vV]
def okAt(e:Evid)(H:List (List Rat))(k:Nat)(x:Move)(l:List Rat):Prop:=
 l.any negF=false/\jfy ((e.places[x.fr.toNat]?.map Place.kind).getD 0) ((stN e.moves H e.mats.toNat (S0 e) k).getD x.fr.toNat []) x l=0/\jda e x (sumF l)=true/\pureF e k l (sumF l)=true
theorem go_iff(hH:H.length=e.moves.length):∀(ms:List Move) (i:Nat),e.moves.drop i=ms->(jgy e H (S0 e) i ms=0↔∀k x l,i<=k->e.moves[k]? =some x->H[k]? =some l->okAt e H k x l)
 | [],i,h=>by
  have hi:=List.drop_eq_nil_iff.1 h;refine⟨fun _ k x l hk hx=> ?_,fun _=>rfl⟩;rw[qo (by omega)]at hx;cases hx
 | x::ms,i,h=>by
  have hi:i<e.moves.length:=by
   rcases zT i e.moves.length with h1 | h1
   ·exact h1
   ·rw[zZ h1]at h;cases h
  have hx:e.moves[i]? =some x:=by
   have:=qQ (xs:=e.moves) (i:=i) (j:=0);rw[h]at this;simpa using this.symm
  obtain⟨l,hl⟩:=jet (l:=H) (i:=i) (by omega);have ih:=go_iff hH ms (i+1) (by rw[<-vF,h];rfl);have key:(∀k x l,i<=k->e.moves[k]? =some x->H[k]? =some l->okAt e H k x l)↔okAt e H i x l/\∀k x l,i+1<=k->e.moves[k]? =some x->H[k]? =some l->okAt e H k x l:=by
   refine⟨fun h=>⟨h i x l (zu _) hx hl,fun k y q hk=>h k y q (by omega)⟩,fun h k y q hk hy hq=> ?_⟩;by_cases e1:k=i
   ·subst e1;rw[hx]at hy;rw[hl]at hq;cases hy;cases hq;exact h.1
   ·exact h.2 k y q (by omega) hy hq
  rw[key,<-ih,jgy,hl];dsimp only;unfold okAt;generalize jfy ((e.places[x.fr.toNat]?.map Place.kind).getD 0) ((stN e.moves H e.mats.toNat (S0 e) i).getD x.fr.toNat []) x l=T;generalize l.any negF=N;generalize jda e x (sumF l)=W;generalize pureF e i l (sumF l)=P;generalize jgy e H (S0 e) (i+1) ms=R;by_cases hT:T=0
  ·cases N<;>cases W<;>cases P<;>simp[hT]
  ·cases N<;>cases W<;>cases P<;>simp[hT]
theorem taken_iff{kind:Int}{a l:List Rat}{x:Move}{n:Nat}(ha:a.length=n)(hl:l.length=n):jfy kind a x l=0↔kind=0\/((∀m,m<n->l.getD m 0<=a.getD m 0)/\(x.all=true->∀m,m<n->a.getD m 0<=l.getD m 0)):=by
 have gt:∀p:Rat×Rat,gtP p=true↔p.2<p.1:=fun p=>by
  rw[gtP,jn,<-cmpR_pos (a:=p.1) (b:=p.2)];constructor
  ·intro h;omega
  ·intro h;unfold cmpR cmpI at h⊢;split at h
   ·omega
   ·split at h
    ·omega
    ·rename_i h1 h2;rw[zl h1,zl h2]
 have lt:∀p:Rat×Rat,ltP p=true↔p.1<p.2:=fun p=>by
  rw[ltP,jn,<-cmpR_neg (a:=p.1) (b:=p.2)];constructor
  ·intro h;omega
  ·intro h;unfold cmpR cmpI at h⊢;split at h
   ·rename_i h1;rw[zh h1]
   ·split at h<;>omega
 have zip:∀(f:Rat×Rat->Bool),(l.zip a).any f=true↔∃m,m<n/\f (l.getD m 0,a.getD m 0)=true:=fun f=>by
  rw[jk];constructor
  ·rintro⟨p,hp,hf⟩;obtain⟨m,hm,e⟩:=j9 hp;rw[wo,ha,hl]at hm;rw[List.getElem_zip]at e;refine⟨m,by omega,?_⟩;rw[getD_some (zw (by omega)),getD_some (zw (by omega)),e];exact hf
  ·rintro⟨m,hm,hf⟩;refine⟨(l.getD m 0,a.getD m 0),?_,hf⟩;rw[getD_some (zw (by omega)),getD_some (zw (by omega))];exact jw.2 ⟨m,by rw[wo];omega,List.getElem_zip⟩
 have hg:(l.zip a).any gtP=true↔¬∀m,m<n->l.getD m 0<=a.getD m 0:=by
  rw[zip];constructor
  ·rintro⟨m,hm,h⟩ hh;have h1:=(gt _).1 h;have h2:=hh m hm;dsimp only at h1;grind
  ·intro h;rcases Classical.not_forall.1 h with ⟨m,hm⟩;rcases Classical.not_imp.1 hm with ⟨h1,h2⟩;exact⟨m,h1,(gt _).2 (by dsimp only;grind)⟩
 have a1:(l.zip a).any ltP=true↔¬∀m,m<n->a.getD m 0<=l.getD m 0:=by
  rw[zip];constructor
  ·rintro⟨m,hm,h⟩ hh;have h1:=(lt _).1 h;have h2:=hh m hm;dsimp only at h1;grind
  ·intro h;rcases Classical.not_forall.1 h with ⟨m,hm⟩;rcases Classical.not_imp.1 hm with ⟨h1,h2⟩;exact⟨m,h1,(lt _).2 (by dsimp only;grind)⟩
 unfold jfy;by_cases hk:kind=0
 ·simp[hk]
 rw[zl hk];by_cases h1:∀m,m<n->l.getD m 0<=a.getD m 0
 ·rw[zl (fun h=>hg.1 h h1)];by_cases h2:∀m,m<n->a.getD m 0<=l.getD m 0
  ·have:(l.zip a).any ltP=false:=by
    rcases h:(l.zip a).any ltP with _ | _
    ·rfl
    ·exact absurd h2 (a1.1 h)
   rw[this];exact⟨fun _=> .inr ⟨h1,fun _=>h2⟩,fun _=>rfl⟩
  ·rw[a1.2 h2,qu];rcases hx:x.all with _ | _
   ·exact⟨fun _=> .inr ⟨h1,fun h=>(by cases h)⟩,fun _=>rfl⟩
   ·refine⟨fun h=>(by cases h),fun h=> ?_⟩;rcases h with h | h
    ·exact absurd h hk
    ·exact absurd (h.2 rfl) h2
 ·rw[zh (hg.2 h1)];refine⟨fun h=>(by cases h),fun h=> ?_⟩;rcases h with h | h
  ·exact absurd h hk
  ·exact absurd h.1 h1
end
end
section
set_option maxRecDepth 1000000
open Go.Abs
open Go.LP (Rw RT tsum Sol tsum_app)
section
variable{e:Evid}{H:List (List Rat)}
theorem jo0{l:List Rat}{M:Nat}(h:l.length=M):l.take M=l:=tLo
theorem jpu(hm:∀x∈e.moves,moveF e x=true)(hH:H.length=e.moves.length)(hl:∀l∈H,l.length=e.mats.toNat){k:Nat}{x:Move}{l:List Rat}(hx:e.moves[k]? =some x)(hk:H[k]? =some l):
  (∀w∈(if binF e x=true then []else jeu e.mats.toNat e.moves k x e.mats.toNat),w.sat (ptH e.mats.toNat H))↔
   jfy ((e.places[x.fr.toNat]?.map Place.kind).getD 0) ((stN e.moves H e.mats.toNat (S0 e) k).getD x.fr.toNat []) x l=0:=by
 have b5:k<e.moves.length:=by
  rcases zT k e.moves.length with h | h
  ·exact h
  ·rw[qo h]at hx;cases hx
 obtain⟨⟨⟨a1,a2⟩,b1,b2⟩,b4⟩:=move_at (hm x (zk hx));have q1:x.fr.toNat<e.places.length:=by omega
 obtain⟨pl,b0⟩:=jet q1;have b3:=hl l (zk hk);have a8:=fun{m:Nat} (a6:m<e.mats.toNat)=>st_get hm hH hl q1 a6 k (by omega);by_cases hM:e.mats.toNat=0
 ·have e1:jeu e.mats.toNat e.moves k x e.mats.toNat=[]:=by rw[hM];rfl
  have e2:l=[]:=zV (by omega);rw[e1,e2];refine⟨fun _=> ?_,fun _ w hw=> ?_⟩
  ·unfold jfy;simp
  ·split at hw<;>cases hw
 have hlen:((stN e.moves H e.mats.toNat (S0 e) k).getD x.fr.toNat []).length=e.mats.toNat:=by
  have h:=(a8 (m:=0) (by omega)).1;exact h.2 _ (mem_getD (by rw[h.1];exact q1))
 rw[taken_iff hlen b3,b0];have hb:binF e x=true↔pl.kind=0:=by unfold binF;rw[b0];exact jn
 show _↔pl.kind=0\/_;by_cases h0:pl.kind=0
 ·rw[zh (hb.2 h0)];exact⟨fun _=> .inl h0,fun _ w hw=>by cases hw⟩
 rw[zl (fun h=>h0 (hb.1 h))];have ht:∀m,m<e.mats.toNat->tsum (jbj e.mats.toNat x.fr m e.moves (k+1)) (ptH e.mats.toNat H)=((stN e.moves H e.mats.toNat (S0 e) k).getD x.fr.toNat []).getD m 0-l.getD m 0:=fun m a6=>by
  have e1:((x.fr.toNat:Nat):Int)=x.fr:=by omega
  have e2:sgnF x.fr x= -1:=by unfold sgnF;rw[zh rfl]
  rw[jmq,flowS,hx,(a8 a6).2,e1,pt_at k a6,getD_some hk];dsimp only;rw[e2,show((-1:Int):Rat)= -1 by decide];grind
 constructor
 ·intro h;refine .inr ⟨fun m a6=> ?_,fun ha m a6=> ?_⟩
  ·have h1:=(h _ (mem_stockR.2 ⟨m,a6,rfl⟩)).1 (by dsimp only;split<;>decide);dsimp only at h1;rw[ht m a6]at h1;grind
  ·have h1:=(h _ (mem_stockR.2 ⟨m,a6,rfl⟩)).2 (by dsimp only;rw[zh ha];decide);dsimp only at h1;rw[ht m a6]at h1;grind
 ·rintro(h | ⟨h1,h2⟩)
  ·exact absurd h h0
  intro w hw;obtain⟨m,a6,rfl⟩:=mem_stockR.1 hw;have g1:=h1 m a6;refine⟨fun _=> ?_,fun a7=> ?_⟩
  ·dsimp only;rw[ht m a6];grind
  ·dsimp only at a7⊢;rw[ht m a6];rcases ha:x.all with _ | _
   ·rw[ha]at a7;exact absurd rfl a7
   ·have g2:=h2 ha m a6;grind
theorem jmp(hl:∀l∈H,l.length=e.mats.toNat){k:Nat}{x:Move}{l:List Rat}(hk:H[k]? =some l):(∀w∈jd5 e e.mats.toNat k x,w.sat (ptH e.mats.toNat H))↔jda e x (sumF l)=true:=by
 have a1:=hl l (zk hk);have ht:tsum (sumT e.mats.toNat k 1 (-1) 0 e.mats.toNat) (ptH e.mats.toNat H)=sumF l:=by
  rw[jkl hk a1 _ (zu _),jo0 a1,iNo,show((1:Int):Rat)=1 by decide];grind
 have hle:∀a b:Rat,decide (cmpR a b<=0)=true↔a<=b:=fun a b=>by
  rw[jn];have:=(not_congr (cmpR_pos (a:=a) (b:=b)));constructor
  ·intro h;have:=this.1 (by omega);grind
  ·intro h;have:=this.2 (by grind);omega
 unfold jd5 jda;by_cases hs:x.scale= -1
 ·rw[zh hs,zp hs];exact⟨fun _=>rfl,fun _ w hw=>by cases hw⟩
 rw[zl hs,ze hs,yn];cases ivlF e.certs e.recalls x.scale x.reading x.day with
 | none=>exact⟨fun _=>rfl,fun _ w hw=>by cases hw⟩
 | some p=>
  obtain⟨lo,hi⟩:=p;dsimp only;rw[zn,hle,hle];constructor
  ·intro h;have h1:=(h ⟨sumT e.mats.toNat k 1 (-1) 0 e.mats.toNat,0,lo⟩ (by simp)).1 (show(0:Int)≠1 by decide);have h2:=(h ⟨sumT e.mats.toNat k 1 (-1) 0 e.mats.toNat,1,hi⟩ (by simp)).2 (show(1:Int)≠0 by decide);dsimp only at h1 h2;rw[ht]at h1 h2;exact⟨h1,h2⟩
  ·rintro⟨h1,h2⟩ w hw;rcases zL.1 hw with rfl | hw
   ·exact⟨fun _=>by rw[ht];exact h1,fun h=>absurd rfl h⟩
   ·rw[zE.1 hw];exact⟨fun h=>absurd rfl h,fun _=>by rw[ht];exact h2⟩
theorem jsa(h0:jbb e=0)(hl:∀l∈H,l.length=e.mats.toNat){k:Nat}{l:List Rat}(hk:H[k]? =some l):(∀w∈purR e.mats.toNat k e.purs,w.sat (ptH e.mats.toNat H))↔pureF e k l (sumF l)=true:=by
 have a1:=hl l (zk hk);unfold pureF purR;rw[List.all_eq_true];have key:∀p∈e.purs,((∀w∈pur1 e.mats.toNat k p,w.sat (ptH e.mats.toNat H))↔pureP k l (sumF l) p=true):=fun p hp=>by
  obtain⟨_,⟨m1,m2⟩,_⟩:=purF_iff.1 (ji0 h0 p hp);obtain⟨f,hf⟩:=jet (l:=l) (i:=p.mat.toNat) (by omega);unfold pur1 pureP;by_cases hm:p.move=(k:Int)
  ·rw[zh hm,zp hm,j3,yn];have t1:tsum (sumT e.mats.toNat k (-p.least) p.mat 1000 e.mats.toNat) (ptH e.mats.toNat H)=((1000:Int):Rat)*f-(p.least:Rat)*sumF l:=by
    rw[jkl hk a1 _ (zu _),jo0 a1,iPo,getD_some hf,Rat.intCast_neg];grind
   have t2:tsum (sumT e.mats.toNat k p.most p.mat (-1000) e.mats.toNat) (ptH e.mats.toNat H)=(p.most:Rat)*sumF l-((1000:Int):Rat)*f:=by
    rw[jkl hk a1 _ (zu _),jo0 a1,iPo,getD_some hf,Rat.intCast_neg];grind
   unfold keepF;rw[hf];dsimp only;rw[Bool.not_or,zn,yR,yR,qg,qg,cmpR_neg,cmpR_pos];constructor
   ·intro h;have h1:=(h ⟨sumT e.mats.toNat k (-p.least) p.mat 1000 e.mats.toNat,0,0⟩ (by simp)).1 (show(0:Int)≠1 by decide);have h2:=(h ⟨sumT e.mats.toNat k p.most p.mat (-1000) e.mats.toNat,0,0⟩ (by simp)).1 (show(0:Int)≠1 by decide);dsimp only at h1 h2;rw[t1]at h1;rw[t2]at h2;exact⟨by grind,by grind⟩
   ·rintro⟨h1,h2⟩ w hw;rcases zL.1 hw with rfl | hw
    ·exact⟨fun _=>by rw[t1];dsimp only;grind,fun h=>absurd rfl h⟩
    ·rw[zE.1 hw];exact⟨fun _=>by rw[t2];dsimp only;grind,fun h=>absurd rfl h⟩
  ·rw[zl hm,ze hm];exact⟨fun _=>rfl,fun _ w hw=>by cases hw⟩
 constructor
 ·intro h p hp;exact(key p hp).1 fun w hw=>h w (jh.2 ⟨p,hp,hw⟩)
 ·intro h w hw;obtain⟨p,hp,hw⟩:=jh.1 hw;exact(key p hp).2 (h p hp) w hw
theorem hist_iff(h0:jbb e=0)(hH:H.length=e.moves.length)(hl:∀l∈H,l.length=e.mats.toNat):jgy e H (S0 e) 0 e.moves=0↔Sol (e.moves.length*e.mats.toNat) (rowsE e) (ptH e.mats.toNat H):=by
 have hm:∀x∈e.moves,moveF e x=true:=jp8 (jay h0).2.2.2.2.2.1;rw[go_iff hH e.moves 0 rfl];constructor
 ·intro h;refine⟨fun j hj=> ?_,fun w hw=> ?_⟩
  ·have hM:0<e.mats.toNat:=by
    rcases yM e.mats.toNat with h1 | h1
    ·rw[h1,Nat.mul_zero]at hj;exact absurd hj (jy _)
    ·exact h1
   have hk:j/e.mats.toNat<e.moves.length:=(Nat.div_lt_iff_lt_mul hM).2 hj;obtain⟨x,hx⟩:=jet hk;obtain⟨l,a1⟩:=jet (l:=H) (i:=j/e.mats.toNat) (by omega);obtain⟨f,hf⟩:=jet (l:=l) (i:=j % e.mats.toNat) (by rw[hl l (zk a1)];exact jO _ hM);have h1:=(h _ x l (zG _) hx a1).1;unfold ptH;rw[getD_some a1,getD_some hf];rw[List.any_eq_false]at h1;have h2:=h1 f (zk hf);rw[negF,jn,sign_neg]at h2;grind
  ·obtain⟨k,x,hk,hx,hw⟩:=mem_rowsU.1 hw;obtain⟨l,a1⟩:=jet (l:=H) (i:=k) (by omega);obtain⟨_,h2,h3,h4⟩:=h k x l (zG _) hx a1;unfold moveR at hw;simp only[qk]at hw;rcases hw with (hw | hw) | hw
   ·exact(jpu hm hH hl hx a1).2 h2 w hw
   ·exact(jmp hl a1).2 h3 w hw
   ·exact(jsa h0 hl a1).2 h4 w hw
 ·intro h k x l _ hx a1;have a6:k<e.moves.length:=by
   rcases zT k e.moves.length with h | h
   ·exact h
   ·rw[qo h]at hx;cases hx
  have row:∀w∈moveR e e.mats.toNat k x,w.sat (ptH e.mats.toNat H):=fun w hw=>h.row w (mem_rowsU.2 ⟨k,x,a6,hx,hw⟩);unfold moveR at row;refine⟨?_,(jpu hm hH hl hx a1).1 fun w hw=>row w (jA _ (jA _ hw)),(jmp hl a1).1 fun w hw=>row w (jA _ (vA _ hw)),(jsa h0 hl a1).1 fun w hw=>row w (vA _ hw)⟩;rw[List.any_eq_false];intro f hf;obtain⟨m,a7,he⟩:=j9 hf;have a8:=hl l (zk a1);have h1:=h.pos (k*e.mats.toNat+m) (by
   have:(k+1)*e.mats.toNat<=e.moves.length*e.mats.toNat:=qj _ a6;rw[jo]at this;omega)
  rw[pt_at k (by omega),getD_some a1,getD_some (zw a7),he]at h1;rw[negF,jn,sign_neg];grind
end
end
section
set_option maxRecDepth 1000000
open Go.Abs
attribute [local go_sem] Evid.iv Evid.c Move.c Place.c ints ic big frac fc Raw.c
theorem jpv{t b0 n:Nat}{bs:List Nat}{S:List (List Rat)}{R:Abs.Rows}(h:SubR (jbk t b0 bs S n) R):∀k x,Abs.look (jbk t b0 bs S n) k=some x->100000<=k/\Abs.look R k=some x:=by
 intro k x hk;refine⟨?_,h k x hk⟩;rcases zT k 100000 with h1 | h1
 ·rw[jc4 h1]at hk;cases hk
 ·exact h1
theorem h_takenH(b0 p n:Nat)(bs:List Nat)(e:Evid)(S:List (List Rat))(x:Move)(l a:List Rat)(pl:Place)(b1:(b0::bs).Nodup)(hs:Stk p n S)(b3:bs.length=p)(h0:0<=x.fr)(a6:x.fr<p)(a7:e.places[x.fr.toNat]? =some pl)(ha:S[x.fr.toNat]? =some a)(b2:l.length<=a.length)(hl:l.length<=100000)
  (kl:∀r∈l,FL 19000000000 r) (ka:∀r∈a,FL 19000000000 r):
  CtrH G.P 34 [.im (.ref b0 72 1 p),.im e.iv,.im (.agg x.c),.im (fcs l)] (jbk 48 b0 bs S n)
   (fun r L'=>r= .im (.int (jfy pl.kind a x l))/\L'=jbk 48 b0 bs S n):=by
 unfold fcs jfy;obtain⟨bf,hbf⟩:∃b,bs[x.fr.toNat]? =some b:=⟨_,zw (by omega)⟩;have b4:a.length=n:=hs.2 a (zk ha);have L0:=js4 (t:=48) (b0:=b0) (bs:=bs) (S:=S) (n:=n);have L1:=jr9 (t:=48) (n:=n) b1 hbf ha;have F1:=fun(d:Nat) (h:d<100000)=>jim (t:=48) (b0:=b0) (bs:=bs) (S:=S) (n:=n) h;have G1:=fun(d:Nat) (h:d<100000)=>jc4 (t:=48) (b0:=b0) (bs:=bs) (S:=S) (n:=n) h;have K1:=fun(d s:Nat) (es:List (List IV)) (h:d<100000)=>jl2 (t:=48) (b0:=b0) (bs:=bs) (S:=S) (n:=n) (s:=s) (es:=es) h;rcases dk:decide (pl.kind=0)with _ | _
 ·rw[zl (zJ dk)];refine jap [] [] [.tmp 8] Tryz.func34 ?_;unfold Evid.iv Evid.c;simp only[h0,zq,a7,dk,F1,K1,go_sem];refine jar [0,5,6,9,20,21,22] (fun i:Nat=>⟨[(0,.im (.ref b0 72 1 p)),(5,.loc 5 8 0 0),(6,.loc 6 6 0 0),(9,.im (.bool (((l.zip a).take i).any ltP))),(20,.im (.sl (l.map fc))),(21,.im (.int l.length)),(22,.im (.int i))],(6,6,[x.c])::(5,8,[e.c])::jbk 48 b0 bs S n,[]⟩)
   (fun i=>i<=l.length/\((l.zip a).take i).any gtP=false) (fun i=>l.length-i) 0 ?_ ?_ rfl ⟨zG _,rfl⟩ ?_
  ·simp only[Int.natCast_zero,go_sem]
  ·exact ja5
  ·intro i ⟨hi,hg⟩;by_cases hp:(i:Int)<l.length
   ·have hd:decide ((i:Int)<l.length)=true:=zp hp;obtain⟨f,hf⟩:=jcf hp;obtain⟨y,hy⟩:∃y,a[i]? =some y:=⟨_,zw (by omega)⟩;have hz:(l.zip a)[i]? =some (f,y):=by rw[List.getElem?_zip_eq_some];exact⟨hf,hy⟩
    have h1:=ja8 ((i:Int)+1);have a1:(i:Int)<n:=by omega
    have hc:=f_cmp (kl f (zk hf)) (ka y (zk hy));have t1:=jf1 (f:=gtP) hz;have t2:=jf1 (f:=ltP) hz;have e1:gtP (f,y)=decide (cmpR f y=1):=rfl;have e2:ltP (f,y)=decide (cmpR f y= -1):=rfl;generalize cmpR f y=c at*;simp only[frac,ints]at hc;rcases dg:decide (c=1)with _ | _
    ·rw[dg]at e1;rw[hg,e1,Bool.or_false]at t1;rcases dl:decide (c= -1)with _ | _
     ·rw[dl]at e2;rw[e2,Bool.or_false]at t2;simp only[hd,zq,hf,F1,K1,go_sem];refine jaf 10 ?_;simp only[h0,a6,a1,L0,L1,F1,G1,K1,outer,hbf,zq,hy,go_sem];refine ja3 hc (by decide) ?_;simp only[dg,dl,go_sem];refine jac (i+1) ?_ ?_ rfl (by show l.length-(i+1)<l.length-i;omega) ⟨by omega,t1⟩
      ·simp only[h1,Int.natCast_add,t2,go_sem]
      ·exact jbo (by show Abs.look (_::_::jbk _ _ _ _ _) 11=none;rw[ja1 _ _ (by decide),ja1 _ _ (by decide),jc4 (by decide)]) ja5
     ·rw[dl]at e2;rw[e2,Bool.or_true]at t2;simp only[hd,zq,hf,F1,K1,go_sem];refine jaf 10 ?_;simp only[h0,a6,a1,L0,L1,F1,G1,K1,outer,hbf,zq,hy,go_sem];refine ja3 hc (by decide) ?_;simp only[dg,dl,go_sem];refine jac (i+1) ?_ ?_ rfl (by show l.length-(i+1)<l.length-i;omega) ⟨by omega,t1⟩
      ·simp only[h1,Int.natCast_add,t2,go_sem]
      ·exact jbo (by show Abs.look (_::_::jbk _ _ _ _ _) 11=none;rw[ja1 _ _ (by decide),ja1 _ _ (by decide),jc4 (by decide)]) ja5
    ·rw[dg]at e1;rw[any_at hz e1,zh rfl];simp only[hd,zq,hf,F1,K1,go_sem];refine jaf 10 ?_;simp only[h0,a6,a1,L0,L1,F1,G1,K1,outer,hbf,zq,hy,go_sem];refine ja3 hc (by decide) ?_;simp only[dg,go_sem];refine jgt (jbk 48 b0 bs S n) (jpv ?_) ?_
     ·exact jbo (jc4 (by dsimp only;decide)) (jbo (jc4 (by dsimp only;decide)) (jbo (jc4 (by dsimp only;decide)) ja5))
     ·simp only[go_sem]
   ·have hd:decide ((i:Int)<l.length)=false:=ze hp;have a8:(l.zip a).length<=i:=by rw[wo];omega
    rw[zY a8]at hg⊢;rw[hg,zl yx];rcases hany:(l.zip a).any ltP with _ | _
    ·rw[qZ,zl yx];simp only[hd,go_sem];refine jgt (jbk 48 b0 bs S n) (jpv ?_) ?_
     ·exact jbo (jc4 (by dsimp only;decide)) (jbo (jc4 (by dsimp only;decide)) ja5)
     ·simp only[go_sem]
    ·rw[qu];rcases hall:x.all with _ | _
     ·rw[zl yx];simp only[hd,hall,go_sem];refine jgt (jbk 48 b0 bs S n) (jpv ?_) ?_
      ·exact jbo (jc4 (by dsimp only;decide)) (jbo (jc4 (by dsimp only;decide)) ja5)
      ·simp only[go_sem]
     ·rw[zh rfl];simp only[hd,hall,go_sem];refine jgt (jbk 48 b0 bs S n) (jpv ?_) ?_
      ·exact jbo (jc4 (by dsimp only;decide)) (jbo (jc4 (by dsimp only;decide)) ja5)
      ·simp only[go_sem]
 ·rw[zh (zI dk)];refine jap [] [] [.tmp 8] Tryz.func34 ?_;unfold Evid.iv Evid.c;simp only[h0,zq,a7,dk,F1,K1,go_sem];refine jgt (jbk 48 b0 bs S n) (jpv ?_) ?_
  ·exact jbo (jc4 (by dsimp only;decide)) (jbo (jc4 (by dsimp only;decide)) ja5)
  ·simp only[go_sem]
end
section
set_option maxRecDepth 1000000
open Go.Abs
attribute [local go_sem] Evid.iv Evid.c Move.c Place.c ints ic big frac fc Raw.c
theorem Behind_pre{L L':Abs.Rows}:∀(pre:Abs.Rows),(∀p∈pre,Abs.look L p.1=none)->jfq (pre++L) L L' (pre++L')
 | [],_=>fun _ _ h=> .inl h
 | (j,v)::pre,hp=>fun k x h=>by
  by_cases e:k=j
  ·subst e;rw[List.cons_append,ja2]at h⊢;exact .inr ⟨hp _ (zU ..),h⟩
  ·rw[List.cons_append,ja1 _ _ e]at h⊢;exact Behind_pre pre (fun p h=>hp p (zW _ h)) k x h
theorem h_check{q:Nat}(e:Evid)(h:List (List Raw))(H:List (List Rat))(h0:jbb e=0)(hs:jgi e h=true)(hh:h.map rowC=H.map stC)(h5:H.length=e.moves.length)
  (hH:∀l∈H,l.length=e.mats.toNat/\∀r∈l,FL q r) (b6:∀l∈h,∀x∈l,x.l.length<=50000000000/\x.m.length<=50000000000) (b3:∀l∈h,l.length<=100000) (h2:e.moves.length<=1000) (b8:e.places.length<=1000)
  (e0:0<=e.mats) (h3:e.mats<=100) (e3:e.certs.length<=100000) (c8:e.recalls.length<=100000) (c9:e.purs.length<=100000) (a1:∀x∈e.moves,(0<=x.fr/\x.fr<(e.places.length:Int))/\(0<=x.to/\x.to<(e.places.length:Int)))
  (hq:q<=100000000) (e8:(q+q+2)*e.moves.length<=9000000000) (e7:e.mats.toNat*(q+1)<=8000000000) (a6:∀p∈e.purs,(0<=p.mat/\p.mat<e.mats)/\(-9223372036854775808<=p.least/\p.least<=9223372036854775807)/\(-9223372036854775808<=p.most/\p.most<=9223372036854775807)):
  Ctr G.P 10 [e.iv,hist h] (· = .int (jgy e H (List.replicate e.places.length (List.replicate e.mats.toNat ((0:Int):Rat))) 0 e.moves)):=by
 have k1:=c21 e;rw[h0]at k1;have k2:=jsy e h (by have:=zS List.length hh;simp at this;omega) b3 b6;rw[hs]at k2;have k3:=h_none e b8 e0 (by omega);unfold hist at k2⊢;rw[hh]at k2⊢;have e5:Stk e.places.length e.mats.toNat (List.replicate e.places.length (List.replicate e.mats.toNat ((0:Int):Rat))):=⟨by simp,fun r hr=>by rw[(vv.1 hr).2];simp⟩;have e6:∀r∈List.replicate e.places.length (List.replicate e.mats.toNat ((0:Int):Rat)),∀x∈r,FL 4 x:=fun r hr x hx=>by
  rw[(vv.1 hr).2]at hx;rw[(vv.1 hx).2];exact jbn (by omega)
 have b7:=stN_ok e5 e6 a1 hH;generalize List.replicate e.places.length (List.replicate e.mats.toNat ((0:Int):Rat))=S0 at*;simp only[Evid.iv,Evid.c]at k1 k2 k3;refine jp2 (goodH [] []) _ _ [.tmp 4] Tryz.func10 rfl rfl (by decide+kernel) rfl ?_;unfold Evid.iv Evid.c;simp only[go_sem];refine ja0 k1 ?_;simp only[go_sem];refine ja0 k2 ?_;simp only[go_sem];refine jcw k3 (by decide) rfl (fun _ _ h=>by cases h) (fun _ _ h=>by cases h) ?_;rintro r L' ⟨b0,bs,rfl,hnd,hbl,rfl⟩ hfresh;refine⟨(2,8,[e.c])::jbk 48 b0 bs S0 e.mats.toNat,?_,?_⟩
 ·intro k x hk;by_cases e2:k=2
  ·subst e2;rw[ja2]at hk;exact .inr ⟨rfl,by rw[<-hk];exact ja2 _ _ _⟩
  ·rw[ja1 _ _ e2]at hk;exact .inl hk
 clear hfresh k1 k2 k3;have F1:=fun(S:List (List Rat)) (d:Nat) (h:d<100000)=>jim (t:=48) (b0:=b0) (bs:=bs) (S:=S) (n:=e.mats.toNat) h;have G1:=fun(S:List (List Rat)) (d:Nat) (h:d<100000)=>jc4 (t:=48) (b0:=b0) (bs:=bs) (S:=S) (n:=e.mats.toNat) h;have K1:=fun(S:List (List Rat)) (d s:Nat) (es:List (List IV)) (h:d<100000)=>jl2 (t:=48) (b0:=b0) (bs:=bs) (S:=S) (n:=e.mats.toNat) (s:=s) (es:=es) h;simp only[go_sem];refine jar [1,2,5,20,21,22] (fun i:Nat=>⟨[(1,.im (.sl (H.map stC))),(2,.loc 2 8 0 0),(5,.im (.ref b0 72 1 e.places.length)),(20,.im (.sl (e.moves.map Move.c))),(21,.im (.int e.moves.length)),(22,.im (.int i))],
   (2,8,[e.c])::jbk 48 b0 bs (stN e.moves H e.mats.toNat S0 i) e.mats.toNat,[]⟩)
  (fun i=>i<=e.moves.length/\jgy e H S0 0 e.moves=jgy e H S0 i (e.moves.drop i)) (fun i=>e.moves.length-i) 0 ?_ ?_ rfl ⟨zG _,rfl⟩ ?_
 ·simp only[Int.natCast_zero,go_sem]
 ·exact ja5
 ·intro i ⟨hi,ha⟩;by_cases hp:(i:Int)<e.moves.length
  ·have hd:decide ((i:Int)<e.moves.length)=true:=zp hp;obtain⟨x,hx⟩:=jcf hp;obtain⟨l,hl⟩:∃l,H[i]? =some l:=⟨_,zw (by omega)⟩;have a8:(i:Int)<H.length:=by omega
   have h1:=ja8 ((i:Int)+1);obtain⟨⟨b1,c6⟩,e1⟩:=And.intro (b7 i) (hH l (zk hl));obtain⟨⟨p1,p2⟩,p3,p4⟩:=a1 x (zk hx);obtain⟨c0,a7⟩:=e1;have b4:=jo6 (n:=e.mats.toNat) (S:=S0) hx hl;obtain⟨pl,hpk⟩:∃pl,e.places[x.fr.toNat]? =some pl:=⟨_,zw (by omega)⟩;have c5:jgy e H S0 i (e.moves.drop i)=if l.any negF=true then 3 else if jfy pl.kind ((stN e.moves H e.mats.toNat S0 i).getD x.fr.toNat []) x l≠0 then jfy pl.kind ((stN e.moves H e.mats.toNat S0 i).getD x.fr.toNat []) x l
     else if jda e x (sumF l)=false then 24 else if pureF e i l (sumF l)=false then 13 else jgy e H S0 (i+1) (e.moves.drop (i+1)):=by
    rw[jm9 hx,jgy,hl,hpk];rfl
   rw[c5]at ha;clear c5;generalize c7:stN e.moves H e.mats.toNat S0 (i+1)=S1 at*;generalize stN e.moves H e.mats.toNat S0 i=S at*;obtain⟨a,hat⟩:∃a,S[x.fr.toNat]? =some a:=⟨_,zw (by rw[b1.1];omega)⟩;have e4:S.getD x.fr.toNat []=a:=by rw[zX,hat];rfl
   rw[e4]at ha;have h4:a.length=e.mats.toNat:=b1.2 a (zk hat);have e9:(q+q+2)*i<=(q+q+2)*e.moves.length:=Nat.mul_le_mul_left _ (by omega);have q1:=h_negative l (by omega) (fun r hr=>(a7 r hr).mono (by omega));have q2:=h_takenH b0 e.places.length e.mats.toNat bs e S x l a pl hnd b1 hbl p1 p2 hpk hat (by omega) (by omega) (fun r hr=>(a7 r hr).mono (by omega)) (fun r hr=>(c6 a (zk hat) r hr).mono (by omega));have q3:=h_sum l (by omega) (fun r hr=>(a7 r hr).mono (by omega));have b9:FL 9000000000 (sumF l):=(FL_sumF a7).mono (by rw[c0];omega);have q4:=h_weighed e x (sumF l) (b9.mono (by omega)) e3 c8;have q5:=h_pure e i l (sumF l) c9 b9 (fun r hr=>(a7 r hr).mono (by omega)) (fun p hp=>⟨⟨(a6 p hp).1.1,by have:=(a6 p hp).1.2;omega⟩,(a6 p hp).2⟩);have q6:=h_carry b0 bs S x l e.places.length e.mats.toNat (4+(q+q+2)*i) q hnd b1 hbl b8 (by omega) ⟨p1,p2⟩ ⟨p3,p4⟩ c0 a7 (SL.of_all c6) (by omega) (by omega);rw[<-b4]at q6;generalize jfy pl.kind a x l=tk at*;generalize l.any negF=ng at*;generalize jda e x (sumF l)=wt at*;generalize pureF e i l (sumF l)=pt at*;generalize sumF l=b2 at*;unfold fcs at q1 q2 q3 q5 q6;simp only[frac,ints,Evid.iv,Evid.c,Move.c]at q1 q2 q3 q4 q5 q6;clear b7 b6 b3 a1 a6;simp only[hd,zq,hx,hl,a8,stC,F1,G1,K1,go_sem];refine ja0 q1 ?_;simp only[hd,F1,G1,K1,go_sem]
   refine jc5 (fun c1=> ?_) (fun c1=> ?_)
   ·subst c1;rw[zh rfl]at ha;simp only[go_sem];refine jhj [] ?_;simp only[ha,go_sem]
   subst c1;rw[zl yx]at ha;simp only[F1,G1,K1,go_sem];refine jaf 7 ?_;simp only[hd,zq,hl,a8,stC,F1,G1,K1,go_sem];refine jaj q2 (by decide) rfl st_blks ?_ ?_
   ·exact jbo (by show Abs.look (jbk _ _ _ _ _) 7=none;rw[jc4 (by decide)]) (jbo (by show Abs.look (jbk _ _ _ _ _) 2=none;rw[jc4 (by decide)]) ja5)
   rintro r L' ⟨rfl,rfl⟩ hfresh;clear hfresh;refine⟨(7,6,[x.c])::(2,8,[e.c])::jbk 48 b0 bs S e.mats.toNat,?_,?_⟩
   ·exact Behind_pre [(7,6,[x.c]),(2,8,[e.c])] (by
     intro p hp;rcases zL.1 hp with rfl | hp
     ·exact jc4 (by dsimp only;decide)
     ·rw[zE.1 hp];exact jc4 (by dsimp only;decide))
   simp only[F1,G1,K1,go_sem];refine jc5 (fun c2=> ?_) (fun c2=> ?_)
   case refine_2=>
    have b5:tk≠0:=zJ c2;rw[zh b5]at ha;simp only[c2,go_sem];refine jhj [] ?_;simp only[ha,go_sem]
   have b5:¬tk≠0:=fun h=>h (zI c2);rw[zl b5]at ha;simp only[c2,hd,zq,hl,a8,stC,F1,G1,K1,go_sem];refine ja0 q3 ?_;simp only[F1,G1,K1,go_sem];refine ja0 q4 ?_;simp only[F1,G1,K1,go_sem];refine jc5 (fun c3=> ?_) (fun c3=> ?_)
   case refine_2=>
    subst c3;rw[zh rfl]at ha;simp only[go_sem];refine jhj [] ?_;simp only[ha,go_sem]
   subst c3;rw[zl (by decide)]at ha;simp only[F1,G1,K1,go_sem];refine jaf 10 ?_;simp only[hd,zq,hl,a8,stC,F1,G1,K1,go_sem];refine ja3 q5 (by decide) ?_;simp only[F1,G1,K1,go_sem];refine jc5 (fun c4=> ?_) (fun c4=> ?_)
   case refine_2=>
    subst c4;rw[zh rfl]at ha;simp only[go_sem];refine jhj [] ?_;simp only[ha,go_sem]
   subst c4;rw[zl (by decide)]at ha;simp only[F1,G1,K1,go_sem];refine jaf 6 ?_;simp only[hd,zq,hl,a8,stC,F1,G1,K1,go_sem];refine jaj q6 (by decide) rfl st_blks ?_ ?_
   ·exact jbo (by show Abs.look (jbk _ _ _ _ _) 9=none;rw[jc4 (by decide)]) (jbo (by show Abs.look (jbk _ _ _ _ _) 7=none;rw[jc4 (by decide)]) (jbo (by show Abs.look (jbk _ _ _ _ _) 2=none;rw[jc4 (by decide)]) ja5))
   rintro r L' ⟨rfl,rfl⟩ hfresh;clear hfresh;refine⟨(9,4,[fc b2])::(7,6,[x.c])::(2,8,[e.c])::jbk 48 b0 bs S1 e.mats.toNat,?_,?_⟩
   ·exact Behind_pre [(9,4,[fc b2]),(7,6,[x.c]),(2,8,[e.c])] (by
     intro p hp;rcases zL.1 hp with rfl | hp
     ·exact jc4 (by dsimp only;decide)
     ·rcases zL.1 hp with rfl | hp
      ·exact jc4 (by dsimp only;decide)
      ·rw[zE.1 hp];exact jc4 (by dsimp only;decide))
   simp only[F1,G1,K1,go_sem];refine jac (i+1) ?_ ?_ rfl (by omega) ⟨by omega,ha⟩
   ·simp only[h1,Int.natCast_add,go_sem]
   ·dsimp only;rw[c7];exact jbo (by show Abs.look (_::jbk _ _ _ _ _) 9=none;rw[ja1 _ _ (by decide),jc4 (by decide)]) (jbo (by show Abs.look (_::jbk _ _ _ _ _) 7=none;rw[ja1 _ _ (by decide),jc4 (by decide)]) ja5)
  ·have hd:decide ((i:Int)<e.moves.length)=false:=ze hp;rw[zZ (by omega),jgy]at ha;simp only[hd,go_sem];refine jhj [] ?_;simp only[ha,go_sem]
end
section
set_option maxRecDepth 1000000
open Go.Abs
open Go.LP (Sol)
attribute [local go_sem] Evid.iv Evid.c Purity.c ints ic big frac fc
theorem h_check2(e:Evid)(h:List (List Raw))(h0:jbb e=0)(hs:jgi e h=false)(hl:h.length<=100000)(a6:∀l∈h,∀x∈l,x.l.length<=50000000000/\x.m.length<=50000000000)(a1:∀l∈h,l.length<=100000):
  Ctr G.P 10 [e.iv,hist h] (· = .int 2):=by
 have k1:=c21 e;rw[h0]at k1;have k2:=jsy e h hl a1 a6;rw[hs]at k2;simp only[Evid.iv,Evid.c]at k1 k2;refine jp2 (goodH [] []) _ _ [.tmp 4] Tryz.func10 rfl rfl (by decide+kernel) rfl ?_;unfold Evid.iv Evid.c;simp only[go_sem];refine ja0 k1 ?_;simp only[go_sem];refine ja0 k2 ?_;simp only[go_sem];refine jhj [] ?_;simp only[go_sem]
structure HistOf(e:Evid)(h:List (List Raw))(H:List (List Rat)):Prop where
 eq:h.map rowC=H.map stC
 len:H.length=e.moves.length
 row:∀l∈H,l.length=e.mats.toNat/\∀r∈l,FL 3 r
def FewH(h:List (List Raw)):Prop:=h.length<=20/\∀l∈h,l.length<=10/\∀x∈l,x.l.length<=3/\x.m.length<=3
theorem h_check1(e:Evid)(h:List (List Raw))(h0:jbb e≠0):Ctr G.P 10 [e.iv,hist h] (· = .int 1):=by
 have k1:=c21 e;have hd:decide (jbb e=0)=false:=ze h0;generalize jbb e=ck at*;unfold hist;simp only[Evid.iv,Evid.c]at k1;refine jp2 (goodH [] []) _ _ [.tmp 4] Tryz.func10 rfl rfl (by decide+kernel) rfl ?_;unfold Evid.iv Evid.c;simp only[go_sem];refine ja0 k1 ?_;simp only[hd,go_sem];refine jhj [] ?_;simp only[go_sem]
theorem h_says(e:Evid)(h:List (List Raw))(hf:FewH h):∃c:Int,Ctr G.P 10 [e.iv,hist h] (· = .int c)/\(c=0->jbb e=0/\∃H,HistOf e h H/\Sol (e.moves.length*e.mats.toNat) (rowsE e) (ptH e.mats.toNat H)):=by
 obtain⟨g1,g2⟩:=hf;by_cases h0:jbb e=0
 ·rcases hs:jgi e h with _ | _
  ·exact⟨2,h_check2 e h h0 hs (by omega) (fun l hl x hx=>by have:=(g2 l hl).2 x hx;omega) (fun l hl=>by have:=(g2 l hl).1;omega),fun h=>absurd h (by decide)⟩
  ·have a7:=hs;rw[jgi,zn,zO]at a7;obtain⟨H,a1,a2,a3⟩:=hist_of a7.2 (k:=3) (fun l hl x hx=>(g2 l hl).2 x hx);have a8:=(jay h0).2.1;have b0:=check_len h0;have a6:H.length=e.moves.length:=by omega
   have hH:∀l∈H,l.length=e.mats.toNat/\∀r∈l,FL 3 r:=fun l hl=>⟨by have:=(a3 l hl).1;omega,(a3 l hl).2⟩;refine⟨_,h_check e h H h0 hs a2 a6 hH (fun l hl x hx=>by have:=(g2 l hl).2 x hx;omega) (fun l hl=>by have:=(g2 l hl).1;omega) (by omega) (by omega) (by omega) (by omega) (by omega) (by omega) (by omega) (jme h0) (by omega) (by omega) (by omega) (check_purs' h0),fun hc=>⟨h0,H,⟨a2,a6,hH⟩,?_⟩⟩;exact(hist_iff h0 a6 fun l hl=>(hH l hl).1).1 hc
 ·exact⟨1,h_check1 e h h0,fun h=>absurd h (by decide)⟩
def jg5(H:List (List Rat)):Rat->List (Int×Int)->Option Rat
 | a,[]=>some a
 | a,p::r=>if 0<=p.1/\p.1<(H.length:Int)/\0<=p.2/\p.2<((H.getD p.1.toNat []).length:Int)then jg5 H (a+(H.getD p.1.toNat []).getD p.2.toNat 0) r else none
def jlk:Option Rat->IV
 | some v=> .tup [frac v,.bool true]
 | none=> .tup [.agg [.int 0,.sl [],.int 0,.sl []],.bool false]
theorem h_mass{e:Evid}{h:List (List Raw)}{H:List (List Rat)}(ho:HistOf e h H)(ps:List (Int×Int))(hn:ps.length<=1000)(a7:H.length<=100000):Ctr G.P 13 [hist h,.sl (ps.map fun p=>[.int p.1,.int p.2])] (· =jlk (jg5 H ((0:Int):Rat) ps)):=by
 have k0:Ctr G.P 41 [.int 0] (· =frac ((0:Int):Rat)):=jcj 0 (by omega);unfold hist;rw[ho.eq];refine ja4 [.cell 4 48,.tmp 5] Tryz.func13 ?_;simp only[go_sem];refine ja0 k0 ?_;simp only[go_sem];refine jai [0,4,6,10,11,12] [6,4] (fun g:Nat×Rat=>⟨[(0,.im (.sl (H.map stC))),(4,.loc 4 4 0 0),(6,.loc 6 4 0 0),(10,.im (.sl (ps.map fun p=>[.int p.1,.int p.2]))),(11,.im (.int ps.length)),(12,.im (.int g.1))],[(6,4,[fc g.2]),(4,4,[[.int 0,.sl [],.int 0,.sl []]])],[]⟩)
  (fun g=>g.1<=ps.length/\jg5 H ((0:Int):Rat) ps=jg5 H g.2 (ps.drop g.1)/\FL (4+g.1*4) g.2) (fun g=>ps.length-g.1) (0,((0:Int):Rat)) ?_ ⟨zG _,rfl,jbn (by omega)⟩ ?_
 ·simp only[za,Int.natCast_zero,go_sem]
 intro⟨i,a⟩ ⟨hi,ha,hF⟩;dsimp only at hi ha hF;by_cases hp:(i:Int)<ps.length
 ·have hd:decide ((i:Int)<ps.length)=true:=zp hp;obtain⟨p,hx⟩:=jcf hp;have h1:=ja8 ((i:Int)+1);rw[jm9 hx,jg5]at ha;rcases d1:decide (p.1<0)with _ | _
  case true=>
   rw[zl (by have:=zI d1;omega)]at ha;rw[ha];clear ha hF;simp only[hd,zq,hx,go_sem];refine jaf 39 ?_;simp only[hd,d1,jlk,go_sem]
  rcases d2:decide ((H.length:Int)<=p.1)with _ | _
  case true=>
   rw[zl (by have:=zI d2;omega)]at ha;rw[ha];clear ha hF;simp only[hd,zq,hx,go_sem];refine jaf 39 ?_;simp only[hd,d1,d2,jlk,za,go_sem]
  have b1:=zJ d1;have b2:=zJ d2;have p0:0<=p.1:=by omega
  obtain⟨l,hl⟩:=jet (l:=H) (i:=p.1.toNat) (by omega);have a6:=ho.row l (zk hl);have hm:(H.map stC)[p.1.toNat]? =some (stC l):=by rw[zq,hl];rfl
  rw[getD_some hl]at ha;rcases d3:decide (p.2<0)with _ | _
  case true=>
   rw[zl (by have:=zI d3;omega)]at ha;rw[ha];clear ha hF;unfold stC at hm;simp only[hd,zq,hx,go_sem];refine jaf 39 ?_;simp only[hd,d1,d2,d3,jlk,za,go_sem]
  rcases d4:decide ((l.length:Int)<=p.2)with _ | _
  case true=>
   rw[zl (by have:=zI d4;omega)]at ha;rw[ha];clear ha hF;unfold stC at*;simp only[hd,zq,hx,go_sem];refine jaf 39 ?_;simp only[hd,d1,d2,d3,d4,p0,hm,hl,jlk,zq,za,go_sem]
  have b3:=zJ d3;have b4:=zJ d4;have p1:0<=p.2:=by omega
  obtain⟨f,hf⟩:=jet (l:=l) (i:=p.2.toNat) (by omega);rw[iPo,getD_some hf]at ha;have a1:=a6.2 f (zk hf);have kR:=jrg (a1.mono (by omega:3<=19000000000));have kA:=f_add (hF.mono (by omega:4+i*4<=19000000000)) (a1.mono (by omega:3<=19000000000));unfold stC at*;simp only[hd,zq,hx,go_sem];refine jaf 39 ?_;simp only[hd,d1,d2,d3,d4,p0,p1,hl,hf,zq,za,go_sem];refine ja3 kR (by decide) ?_;simp only[hd,go_sem];refine jah ?_;simp only[p0,p1,hl,hf,zq,go_sem];refine ja3 kA (by decide) ?_;simp only[go_sem];refine ja7 (i+1,a+f) ?_ ?_ ⟨?_,ha,(ji8 hF a1).mono ?_⟩
  ·simp only[h1,Int.natCast_add,go_sem]
  ·show ps.length-(i+1)<ps.length-i;omega
  ·show i+1<=ps.length;omega
  ·show 4+i*4+3+1<=4+(i+1)*4;omega
 ·have hd:decide ((i:Int)<ps.length)=false:=ze hp;rw[zZ (by omega),jg5]at ha;rw[ha];simp only[hd,jlk,go_sem]
end
section
set_option maxRecDepth 1000000
open Go.Abs
open Go.LP (Rw RT tsum Sol Bds)
theorem floorR_eq(r:Rat):jlv r=r.floor:=by
 unfold jlv;rw[Rat.floor_def,yI _ (by omega)]
theorem intF_of{z:Int}(h1:0<=z)(h2:z<=9223372036854775807):intF z=z:=by
 unfold intF;rw[zh (by unfold fits;simp only[zn,zO];omega)]
theorem val3{n:Nat}(h:(dig n).length<=3):n<1152921504606846976:=by
 have h1:=jdb (jbe n);have h2:=jaq n;have h3:(1048576:Int)^(dig n).length<=1048576^3:=by
  have:∀k:Nat,k<=3->(1048576:Int)^k<=1048576^3:=fun k hk=>by
   match k,hk with
   | 0,_=>decide
   | 1,_=>decide
   | 2,_=>decide
   | 3,_=>decide
  exact this _ h
 have h4:(1048576:Int)^3=1152921504606846976:=by decide
 omega
theorem FL3_le{r:Rat}(h:FL 3 r):r<=((1152921504606846976:Int):Rat):=by
 have h1:=val3 h.1;rw[Rat.le_iff,Rat.num_intCast,Rat.den_intCast];have h2:(1:Int)<=r.den:=by have:=r.den_pos;omega
 have h3:r.num<1152921504606846976:=by omega
 have h4:(1152921504606846976:Int)*1<=1152921504606846976*(r.den:Int):=qq h2 (by decide);rw[Int.natCast_one,jb];omega
theorem ksum_le{N:Nat}{x:Nat->Rat}{c:Int}(hx:∀k,k<N->x k<=(c:Rat)):∀{l:List Nat},(∀k∈l,k<N)->Go.LP.ksum l x<=(((l.length:Int)*c:Int):Rat)
 | [],_=>by
  have e:(((([]:List Nat).length:Int)*c:Int):Rat)=0:=by rw[List.length_nil];simp
  rw[e];exact Rat.le_refl
 | a::r,h=>by
  have h1:=ksum_le hx (l:=r) fun k hk=>h k (by simp[hk]);have h2:=hx a (h a (by simp));have e:((((a::r).length:Int)*c:Int):Rat)=(c:Rat)+(((r.length:Int)*c:Int):Rat):=by
   rw[<-vu,List.length_cons,Int.natCast_add,yp];congr 1;omega
  rw[e,Go.LP.ksum];grind
theorem pt_small{e:Evid}{h:List (List Raw)}{H:List (List Rat)}(ho:HistOf e h H)(k:Nat):ptH e.mats.toNat H k<=((1152921504606846976:Int):Rat):=by
 have hz:(0:Rat)<=((1152921504606846976:Int):Rat):=by decide
 unfold ptH;rw[zX (l:=H)];cases hq:H[k/e.mats.toNat]? with
 | none=>simpa using hz
 | some l=>
  rw[Option.getD_some,zX];cases hr:l[k % e.mats.toNat]? with
  | none=>simpa using hz
  | some r=>exact FL3_le ((ho.row l (zk hq)).2 r (zk hr))
end
section
set_option maxRecDepth 1000000
open Go.Abs
open Go.LP (Rw RT tsum Sol Bds)
structure CertL(e:Evid)(bs:List Bat)(cert:List Int):Prop where
 len:cert.length=bs.length
 at':∀(k:Nat) (b:Bat) (n:Int),bs[k]? =some b->cert[k]? =some n->∃m f,CSay e b m f/\n=(if f=0 then m else 0)
section
variable{e:Evid}{h:List (List Raw)}{H:List (List Rat)}
end
end
section
set_option maxRecDepth 1000000
open Go.Abs
open Go.LP (Rw RT tsum Sol Bds ksum)
section
variable{e:Evid}{h:List (List Raw)}{H:List (List Rat)}
theorem jqk(ho:HistOf e h H):∀(ps:List (Int×Int)) (a:Rat),(∀p∈ps,(0<=p.1/\p.1<(e.moves.length:Int))/\0<=p.2/\p.2<e.mats)->jg5 H a ps=some (a+ksum (ps.map (pickK e.mats.toNat)) (ptH e.mats.toNat H))
 | [],a,_=>by
  rw[jg5,zF,ksum,yW]
 | p::r,a,hp=>by
  obtain⟨⟨p1,p2⟩,p3,p4⟩:=hp p (by simp);have hl:=ho.len;have a6:p.1.toNat<H.length:=by omega
  have a1:H.getD p.1.toNat []=H[p.1.toNat]:=by rw[zX,zw a6];rfl
  have a7:=(ho.row _ (yN a6)).1;rw[jg5,zh ⟨p1,by omega,p3,by rw[a1,a7];omega⟩,jqk ho r _ fun q hq=>hp q (by simp[hq]),zt,ksum];have e1:ptH e.mats.toNat H (pickK e.mats.toNat p)=(H.getD p.1.toNat []).getD p.2.toNat 0:=pt_at p.1.toNat (by omega);rw[e1,Rat.add_assoc]
end
end
section
set_option maxRecDepth 1000000
open Go.Abs
open Go.LP (Rw RT tsum Sol Bds ksum)
attribute [local go_sem] ints ic Evid.c Evid.iv Bat.c Led.c
end
section
set_option maxRecDepth 1000000
open Go.Abs
open Go.LP (Rw RT tsum Sol Bds ksum)
theorem jqj{H:List (List Rat)}(hH:∀l∈H,∀r∈l,FL 3 r):∀(ps:List (Int×Int)) (a v:Rat) (k:Nat),FL k a->jg5 H a ps=some v->FL (k+4*ps.length) v
 | [],a,v,k,ha,hv=>by
  simp only[jg5,qa]at hv;rw[<-hv];exact ha
 | p::r,a,v,k,ha,hv=>by
  rw[jg5]at hv;split at hv
  ·rename_i hc;obtain⟨p1,p2,p3,p4⟩:=hc;have a7:p.1.toNat<H.length:=by omega
   have a6:H.getD p.1.toNat []=H[p.1.toNat]:=by rw[zX,zw a7];rfl
   rw[a6]at p4 hv;have a1:p.2.toNat<H[p.1.toNat].length:=by omega
   have a8:H[p.1.toNat].getD p.2.toNat 0=H[p.1.toNat][p.2.toNat]:=by rw[zX,zw a1];rfl
   rw[a8]at hv;have:=jqj hH r _ v (k+3+1) (ji8 ha (hH _ (yN a7) _ (yN a1))) hv;rw[List.length_cons];exact this.mono (by omega)
  ·cases hv
theorem div_one(s:Int):Rat.divInt s 1=(s:Rat):=yZ (s:Rat)
theorem cmp_le{s:Int}{v:Rat}(h:(s:Rat)<=v):decide (0<cmpR (Rat.divInt s 1) v)=false:=by
 rw[div_one];exact ze fun hc=>absurd (cmpR_pos.1 hc) (Rat.not_lt.2 h)
section
variable{e:Evid}{h:List (List Raw)}{H:List (List Rat)}
