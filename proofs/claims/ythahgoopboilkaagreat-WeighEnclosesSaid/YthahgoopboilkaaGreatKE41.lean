/- A part of the proof. No further condition. -/
import Derived.Test.YthahgoopboilkaaGreatKE40
import Derived.Test.YthahgoopboilkaaGreatKE39
set_option linter.all false
set_option maxRecDepth 10000000
set_option maxHeartbeats 16000000
namespace Go.Proofs.YthahgoopboilkaaGreat
section
open Go.Abs
open Go.LP (Rw RT tsum Sol tsum_app)
section
variable{e:Evid}{H:List (List Rat)}
theorem jnd{l:List Rat}{M:Nat}(h:l.length=M):l.take M=l:=zt (by omega)
theorem joy(hm:∀x∈e.moves,moveF e x=true)(hH:H.length=e.moves.length)(hl:∀l∈H,l.length=e.mats.toNat){k:Nat}{x:Move}{l:List Rat}(hx:e.moves[k]? =some x)(hk:H[k]? =some l):
  (∀w∈(if binF e x=true then []else jdr e.mats.toNat e.moves k x e.mats.toNat),w.sat (ptH e.mats.toNat H))↔
   jfr ((e.places[x.fr.toNat]?.map Place.kind).getD 0) ((stN e.moves H e.mats.toNat (S0 e) k).getD x.fr.toNat []) x l=0:=by
 have hkl:k<e.moves.length:=by
  rcases zT k e.moves.length with h | h
  ·exact h
  ·rw[qA h]at hx;cases hx
 obtain⟨⟨⟨a1,a2⟩,b1,b2⟩,hne⟩:=move_at (hm x (zk hx));have q1:x.fr.toNat<e.places.length:=by omega
 obtain⟨pl,hpl⟩:=jfo q1;have hll:=hl l (zk hk);have hst:=fun{m:Nat} (hmm:m<e.mats.toNat)=>st_get hm hH hl q1 hmm k (by omega);by_cases hM:e.mats.toNat=0
 ·have e1:jdr e.mats.toNat e.moves k x e.mats.toNat=[]:=by rw[hM];rfl
  have e2:l=[]:=zL (by omega);rw[e1,e2];refine⟨fun _=> ?_,fun _ w hw=> ?_⟩
  ·unfold jfr;simp
  ·split at hw<;>cases hw
 have hlen:((stN e.moves H e.mats.toNat (S0 e) k).getD x.fr.toNat []).length=e.mats.toNat:=by
  have h:=(hst (m:=0) (by omega)).1;exact h.2 _ (jha (by rw[h.1];exact q1))
 rw[taken_iff hlen hll,hpl];have hb:binF e x=true↔pl.kind=0:=by unfold binF;rw[hpl];exact qx
 show _↔pl.kind=0\/_;by_cases h0:pl.kind=0
 ·rw[zm (hb.2 h0)];exact⟨fun _=> .inl h0,fun _ w hw=>by cases hw⟩
 rw[zn (fun h=>h0 (hb.1 h))];have ht:∀m,m<e.mats.toNat->tsum (jah e.mats.toNat x.fr m e.moves (k+1)) (ptH e.mats.toNat H)=((stN e.moves H e.mats.toNat (S0 e) k).getD x.fr.toNat []).getD m 0-l.getD m 0:=fun m hmm=>by
  have e1:((x.fr.toNat:Nat):Int)=x.fr:=by omega
  have e2:sgnF x.fr x= -1:=by unfold sgnF;rw[zm rfl]
  rw[jm9,flowS,hx,(hst hmm).2,e1,pt_at k hmm,getD_some hk];dsimp only;rw[e2,show((-1:Int):Rat)= -1 by decide];grind
 constructor
 ·intro h;refine .inr ⟨fun m hmm=> ?_,fun ha m hmm=> ?_⟩
  ·have h1:=(h _ (mem_stockR.2 ⟨m,hmm,rfl⟩)).1 (by dsimp only;split<;>decide);dsimp only at h1;rw[ht m hmm]at h1;grind
  ·have h1:=(h _ (mem_stockR.2 ⟨m,hmm,rfl⟩)).2 (by dsimp only;rw[zm ha];decide);dsimp only at h1;rw[ht m hmm]at h1;grind
 ·rintro(h | ⟨h1,h2⟩)
  ·exact absurd h h0
  intro w hw;obtain⟨m,hmm,rfl⟩:=mem_stockR.1 hw;have g1:=h1 m hmm;refine⟨fun _=> ?_,fun hk2=> ?_⟩
  ·dsimp only;rw[ht m hmm];grind
  ·dsimp only at hk2⊢;rw[ht m hmm];rcases ha:x.all with _ | _
   ·rw[ha]at hk2;exact absurd rfl hk2
   ·have g2:=h2 ha m hmm;grind
theorem jm7(hl:∀l∈H,l.length=e.mats.toNat){k:Nat}{x:Move}{l:List Rat}(hk:H[k]? =some l):(∀w∈je3 e e.mats.toNat k x,w.sat (ptH e.mats.toNat H))↔jd6 e x (sumF l)=true:=by
 have hll:=hl l (zk hk);have ht:tsum (sumT e.mats.toNat k 1 (-1) 0 e.mats.toNat) (ptH e.mats.toNat H)=sumF l:=by
  rw[jk2 hk hll _ (zB _),jnd hll,zn (by omega),show((1:Int):Rat)=1 by decide];grind
 have hle:∀a b:Rat,decide (cmpR a b<=0)=true↔a<=b:=fun a b=>by
  rw[qx];have:=(not_congr (cmpR_pos (a:=a) (b:=b)));constructor
  ·intro h;have:=this.1 (by omega);grind
  ·intro h;have:=this.2 (by grind);omega
 unfold je3 jd6;by_cases hs:x.scale= -1
 ·rw[zm hs,za hs];exact⟨fun _=>rfl,fun _ w hw=>by cases hw⟩
 rw[zn hs,zq hs,yk];cases ivlF e.certs e.recalls x.scale x.reading x.day with
 | none=>exact⟨fun _=>rfl,fun _ w hw=>by cases hw⟩
 | some p=>
  obtain⟨lo,hi⟩:=p;dsimp only;rw[zr,hle,hle];constructor
  ·intro h;have h1:=(h ⟨sumT e.mats.toNat k 1 (-1) 0 e.mats.toNat,0,lo⟩ (by simp)).1 (show(0:Int)≠1 by decide);have h2:=(h ⟨sumT e.mats.toNat k 1 (-1) 0 e.mats.toNat,1,hi⟩ (by simp)).2 (show(1:Int)≠0 by decide);dsimp only at h1 h2;rw[ht]at h1 h2;exact⟨h1,h2⟩
  ·rintro⟨h1,h2⟩ w hw;rcases zS.1 hw with rfl | hw
   ·exact⟨fun _=>by rw[ht];exact h1,fun h=>absurd rfl h⟩
   ·rw[zF.1 hw];exact⟨fun h=>absurd rfl h,fun _=>by rw[ht];exact h2⟩
theorem jre(h0:jbl e=0)(hl:∀l∈H,l.length=e.mats.toNat){k:Nat}{l:List Rat}(hk:H[k]? =some l):(∀w∈purR e.mats.toNat k e.purs,w.sat (ptH e.mats.toNat H))↔pureF e k l (sumF l)=true:=by
 have hll:=hl l (zk hk);unfold pureF purR;rw[List.all_eq_true];have key:∀p∈e.purs,((∀w∈pur1 e.mats.toNat k p,w.sat (ptH e.mats.toNat H))↔pureP k l (sumF l) p=true):=fun p hp=>by
  obtain⟨_,⟨m1,m2⟩,_⟩:=purF_iff.1 (jhe h0 p hp);obtain⟨f,hf⟩:=jfo (l:=l) (i:=p.mat.toNat) (by omega);unfold pur1 pureP;by_cases hm:p.move=(k:Int)
  ·rw[zm hm,za hm,jL,yk];have t1:tsum (sumT e.mats.toNat k (-p.least) p.mat 1000 e.mats.toNat) (ptH e.mats.toNat H)=((1000:Int):Rat)*f-(p.least:Rat)*sumF l:=by
    rw[jk2 hk hll _ (zB _),jnd hll,zm (by omega),getD_some hf,Rat.intCast_neg];grind
   have t2:tsum (sumT e.mats.toNat k p.most p.mat (-1000) e.mats.toNat) (ptH e.mats.toNat H)=(p.most:Rat)*sumF l-((1000:Int):Rat)*f:=by
    rw[jk2 hk hll _ (zB _),jnd hll,zm (by omega),getD_some hf,Rat.intCast_neg];grind
   unfold keepF;rw[hf];dsimp only;rw[Bool.not_or,zr,yL,yL,qg,qg,cmpR_neg,cmpR_pos];constructor
   ·intro h;have h1:=(h ⟨sumT e.mats.toNat k (-p.least) p.mat 1000 e.mats.toNat,0,0⟩ (by simp)).1 (show(0:Int)≠1 by decide);have h2:=(h ⟨sumT e.mats.toNat k p.most p.mat (-1000) e.mats.toNat,0,0⟩ (by simp)).1 (show(0:Int)≠1 by decide);dsimp only at h1 h2;rw[t1]at h1;rw[t2]at h2;exact⟨by grind,by grind⟩
   ·rintro⟨h1,h2⟩ w hw;rcases zS.1 hw with rfl | hw
    ·exact⟨fun _=>by rw[t1];dsimp only;grind,fun h=>absurd rfl h⟩
    ·rw[zF.1 hw];exact⟨fun _=>by rw[t2];dsimp only;grind,fun h=>absurd rfl h⟩
  ·rw[zn hm,zq hm];exact⟨fun _=>rfl,fun _ w hw=>by cases hw⟩
 constructor
 ·intro h p hp;exact(key p hp).1 fun w hw=>h w (jJ.2 ⟨p,hp,hw⟩)
 ·intro h w hw;obtain⟨p,hp,hw⟩:=jJ.1 hw;exact(key p hp).2 (h p hp) w hw
theorem js2(h0:jbl e=0)(hH:H.length=e.moves.length)(hl:∀l∈H,l.length=e.mats.toNat):jgk e H (S0 e) 0 e.moves=0↔Sol (e.moves.length*e.mats.toNat) (rowsE e) (ptH e.mats.toNat H):=by
 have hm:∀x∈e.moves,moveF e x=true:=jo9 (jbk h0).2.2.2.2.2.1;rw[go_iff hH e.moves 0 rfl];constructor
 ·intro h;refine⟨fun j hj=> ?_,fun w hw=> ?_⟩
  ·have hM:0<e.mats.toNat:=by
    rcases yP e.mats.toNat with h1 | h1
    ·rw[h1,Nat.mul_zero]at hj;exact absurd hj (yC _)
    ·exact h1
   have hk:j/e.mats.toNat<e.moves.length:=(Nat.div_lt_iff_lt_mul hM).2 hj;obtain⟨x,hx⟩:=jfo hk;obtain⟨l,hli⟩:=jfo (l:=H) (i:=j/e.mats.toNat) (by omega);obtain⟨f,hf⟩:=jfo (l:=l) (i:=j % e.mats.toNat) (by rw[hl l (zk hli)];exact ju _ hM);have h1:=(h _ x l (zE _) hx hli).1;unfold ptH;rw[getD_some hli,getD_some hf];rw[List.any_eq_false]at h1;have h2:=h1 f (zk hf);rw[negF,qx,sign_neg]at h2;grind
  ·obtain⟨k,x,hk,hx,hw⟩:=mem_rowsU.1 hw;obtain⟨l,hli⟩:=jfo (l:=H) (i:=k) (by omega);obtain⟨_,h2,h3,h4⟩:=h k x l (zE _) hx hli;unfold moveR at hw;simp only[qu]at hw;rcases hw with (hw | hw) | hw
   ·exact(joy hm hH hl hx hli).2 h2 w hw
   ·exact(jm7 hl hli).2 h3 w hw
   ·exact(jre h0 hl hli).2 h4 w hw
 ·intro h k x l _ hx hli;have hkl:k<e.moves.length:=by
   rcases zT k e.moves.length with h | h
   ·exact h
   ·rw[qA h]at hx;cases hx
  have row:∀w∈moveR e e.mats.toNat k x,w.sat (ptH e.mats.toNat H):=fun w hw=>h.row w (mem_rowsU.2 ⟨k,x,hkl,hx,hw⟩);unfold moveR at row;refine⟨?_,(joy hm hH hl hx hli).1 fun w hw=>row w (ji _ (ji _ hw)),(jm7 hl hli).1 fun w hw=>row w (ji _ (va _ hw)),(jre h0 hl hli).1 fun w hw=>row w (va _ hw)⟩;rw[List.any_eq_false];intro f hf;obtain⟨m,hm1,he⟩:=jT hf;have hll:=hl l (zk hli);have h1:=h.pos (k*e.mats.toNat+m) (by
   have:(k+1)*e.mats.toNat<=e.moves.length*e.mats.toNat:=qy _ hkl;rw[yB]at this;omega)
  rw[pt_at k (by omega),getD_some hli,getD_some (zh hm1),he]at h1;rw[negF,qx,sign_neg];grind
end
end
section
open Go.Abs
open Go.LP (Sol)
attribute [local go_sem] Evid.c Evid.iv ints ic big frac zc
theorem ic_inj:∀{a b:List Int},a.map ic=b.map ic->a=b
 | [],[],_=>rfl
 | [],y::b,h=>by cases h
 | x::a,[],h=>by cases h
 | x::a,y::b,h=>by
  rw[zl,zl]at h;injection h with h1 h2;unfold ic at h1;injection h1 with h1 _;injection h1 with h1;injection h1 with _ h1;rw[h1,ic_inj h2]
theorem fc_inj{a b:Rat}(h:fc a=fc b):a=b:=by
 unfold fc at h;simp only[jd,IV.sc.injEq,IV.sl.injEq,Value.int.injEq,true_and,vV]at h;obtain⟨h1,h2,h3,h4⟩:=h;have q1:= @jjc a.num b.num;rw[za h1,za (ic_inj h2)]at q1;have q2:= @jjc (a.den:Int) (b.den:Int);rw[za h3,za (ic_inj h4)]at q2;have q3:=jqe a b;rw[<-q1,<-q2]at q3;exact zI q3.symm
section
variable{e:Evid}{h:List (List Raw)}{H:List (List Rat)}
theorem pick_mass(hs:jdg e h=true)(hh:h.map rowC=H.map stC){p:Int×Int}(hp:jdh e p=true):∃x,pickR h p=some x/\rawV x=ptH e.mats.toNat H (pickK e.mats.toNat p):=by
 obtain⟨a,b⟩:=p;simp only[jdh,zr,zK]at hp;rw[jdg,zr,zK,List.all_eq_true]at hs;obtain⟨n,rfl⟩:∃n:Nat,a=n:=⟨a.toNat,by omega⟩;obtain⟨m,rfl⟩:∃m:Nat,b=m:=⟨b.toNat,by omega⟩;have hn:n<h.length:=by omega
 have hl:h[n]? =some h[n]:=zh hn;generalize h[n]=l at hl;have hr:=hs.2 l (zk hl);rw[rowOk,zr,zK,List.all_eq_true]at hr;have hm:m<l.length:=by omega
 have hx:l[m]? =some l[m]:=zh hm;generalize l[m]=x at hx;have hxr:rwR x=true:=hr.2 x (zk hx);have e1:(h.map rowC)[n]? =some (rowC l):=by rw[ze,hl];rfl
 rw[hh,ze]at e1;obtain⟨L,hL,e2⟩:=zZ.1 e1;have e3:L.map fc=l.map Raw.c:=by
  unfold stC rowC at e2;injection e2 with e2 _;injection e2
 have e4:(l.map Raw.c)[m]? =some x.c:=by rw[ze,hx];rfl
 rw[<-e3,ze]at e4;obtain⟨r,hrr,e5⟩:=zZ.1 e4;refine⟨x,?_,?_⟩
 ·unfold pickR;rw[zm ⟨by omega,by omega⟩];dsimp only;rw[Int.toNat_natCast,hl];dsimp only;rw[Int.toNat_natCast,hx];dsimp only;rw[zm hxr]
 ·unfold pickK;dsimp only;rw[Int.toNat_natCast,Int.toNat_natCast,pt_at n (by omega),getD_some hL,getD_some hrr];exact fc_inj ((rawV_c hxr).1.symm.trans e5.symm)
theorem jnr(hs:jdg e h=true)(hh:h.map rowC=H.map stC):∀{ps:List (Int×Int)},(∀p∈ps,jdh e p=true)->jgs h ps=true/\massV h ps=wgt e ps (ptH e.mats.toNat H)
 | [],_=>⟨rfl,rfl⟩
 | p::ps,hp=>by
  obtain⟨h1,h2⟩:=jnr hs hh (ps:=ps) fun q hq=>hp q (zQ _ hq);obtain⟨x,hx,hv⟩:=pick_mass hs hh (hp p zN);refine⟨?_,?_⟩
  ·unfold jgs at*;rw[List.all_cons,hx,h1];rfl
  ·rw[massV,h2];unfold pickV;rw[hx];show rawV x+_=_;rw[hv];unfold wgt;rw[zl];rfl
end
end
section
open Go.Abs
attribute [local go_sem] Evid.iv Evid.c Move.c Place.c ints ic big frac fc Raw.c
theorem joz{t b0 n:Nat}{bs:List Nat}{S:List (List Rat)}{R:Abs.Rows}(h:SubR (jbi t b0 bs S n) R):∀k x,Abs.look (jbi t b0 bs S n) k=some x->100000<=k/\Abs.look R k=some x:=by
 intro k x hk;refine⟨?_,h k x hk⟩;rcases zT k 100000 with h1 | h1
 ·rw[jc6 h1]at hk;cases hk
 ·exact h1
theorem h_takenH(b0 p n:Nat)(bs:List Nat)(e:Evid)(S:List (List Rat))(x:Move)(l a:List Rat)(pl:Place)(hnd:(b0::bs).Nodup)(hs:Stk p n S)(hbl:bs.length=p)(h0:0<=x.fr)(h0':x.fr<p)(hpl:e.places[x.fr.toNat]? =some pl)(ha:S[x.fr.toNat]? =some a)(hla:l.length<=a.length)(hl:l.length<=100000)
  (kl:∀r∈l,FL 19000000000 r) (ka:∀r∈a,FL 19000000000 r):
  CtrH G.P 42 [.im (.ref b0 36 1 p),.im e.iv,.im (.agg x.c),.im (fcs l)] (jbi 35 b0 bs S n)
   (fun r L'=>r= .im (.int (jfr pl.kind a x l))/\L'=jbi 35 b0 bs S n):=by
 unfold fcs jfr;obtain⟨bf,hbf⟩:∃b,bs[x.fr.toNat]? =some b:=⟨_,zh (by omega)⟩;have hal:a.length=n:=hs.2 a (zk ha);have L0:=jrb (t:=35) (b0:=b0) (bs:=bs) (S:=S) (n:=n);have L1:=jqc (t:=35) (n:=n) hnd hbf ha;have F1:=fun(d:Nat) (h:d<100000)=>ji3 (t:=35) (b0:=b0) (bs:=bs) (S:=S) (n:=n) h;have G1:=fun(d:Nat) (h:d<100000)=>jc6 (t:=35) (b0:=b0) (bs:=bs) (S:=S) (n:=n) h;have K1:=fun(d s:Nat) (es:List (List IV)) (h:d<100000)=>jkk (t:=35) (b0:=b0) (bs:=bs) (S:=S) (n:=n) (s:=s) (es:=es) h;rcases dk:decide (pl.kind=0)with _ | _
 ·rw[zn (zJ dk)];refine jav [] [] [.tmp 8] Tryz.func42 ?_;unfold Evid.iv Evid.c;simp only[h0,ze,hpl,dk,F1,K1,go_sem];refine jaz [0,5,6,9,20,21,22] (fun i:Nat=>⟨[(0,.im (.ref b0 36 1 p)),(5,.loc 5 8 0 0),(6,.loc 6 6 0 0),(9,.im (.bool (((l.zip a).take i).any ltP))),(20,.im (.sl (l.map fc))),(21,.im (.int l.length)),(22,.im (.int i))],(6,6,[x.c])::(5,8,[e.c])::jbi 35 b0 bs S n,[]⟩)
   (fun i=>i<=l.length/\((l.zip a).take i).any gtP=false) (fun i=>l.length-i) 0 ?_ ?_ rfl ⟨zE _,rfl⟩ ?_
  ·simp only[Int.natCast_zero,go_sem]
  ·exact SubR.of_eq rfl
  ·intro i ⟨hi,hg⟩;by_cases hp:(i:Int)<l.length
   ·have hd:decide ((i:Int)<l.length)=true:=za hp;obtain⟨f,hf⟩:=jby hp;obtain⟨y,hy⟩:∃y,a[i]? =some y:=⟨_,zh (by omega)⟩;have hz:(l.zip a)[i]? =some (f,y):=by rw[List.getElem?_zip_eq_some];exact⟨hf,hy⟩
    have h1:=ja9 (n:=(i:Int)+1) (by omega);have hin:(i:Int)<n:=by omega
    have hc:=f_cmp (kl f (zk hf)) (ka y (zk hy));have t1:=jex (f:=gtP) hz;have t2:=jex (f:=ltP) hz;have e1:gtP (f,y)=decide (cmpR f y=1):=rfl;have e2:ltP (f,y)=decide (cmpR f y= -1):=rfl;generalize cmpR f y=c at*;simp only[frac,ints]at hc;rcases dg:decide (c=1)with _ | _
    ·rw[dg]at e1;rw[hg,e1,Bool.or_false]at t1;rcases dl:decide (c= -1)with _ | _
     ·rw[dl]at e2;rw[e2,Bool.or_false]at t2;simp only[hd,ze,hf,F1,K1,go_sem];refine jac 10 ?_;simp only[h0,h0',hin,L0,L1,F1,G1,K1,outer,hbf,ze,hy,go_sem];refine ja4 hc (by decide) ?_;simp only[dg,dl,go_sem];refine jaa (i+1) ?_ ?_ rfl (by show l.length-(i+1)<l.length-i;omega) ⟨by omega,t1⟩
      ·simp only[h1,Int.natCast_add,t2,go_sem]
      ·exact jbo (by show Abs.look (_::_::jbi _ _ _ _ _) 11=none;rw[ja0 _ _ (by decide),ja0 _ _ (by decide),jc6 (by decide)]) (SubR.of_eq rfl)
     ·rw[dl]at e2;rw[e2,Bool.or_true]at t2;simp only[hd,ze,hf,F1,K1,go_sem];refine jac 10 ?_;simp only[h0,h0',hin,L0,L1,F1,G1,K1,outer,hbf,ze,hy,go_sem];refine ja4 hc (by decide) ?_;simp only[dg,dl,go_sem];refine jaa (i+1) ?_ ?_ rfl (by show l.length-(i+1)<l.length-i;omega) ⟨by omega,t1⟩
      ·simp only[h1,Int.natCast_add,t2,go_sem]
      ·exact jbo (by show Abs.look (_::_::jbi _ _ _ _ _) 11=none;rw[ja0 _ _ (by decide),ja0 _ _ (by decide),jc6 (by decide)]) (SubR.of_eq rfl)
    ·rw[dg]at e1;rw[any_at hz e1,zm rfl];simp only[hd,ze,hf,F1,K1,go_sem];refine jac 10 ?_;simp only[h0,h0',hin,L0,L1,F1,G1,K1,outer,hbf,ze,hy,go_sem];refine ja4 hc (by decide) ?_;simp only[dg,go_sem];refine jgh (jbi 35 b0 bs S n) (joz ?_) ?_
     ·exact jbo (jc6 (by dsimp only;decide)) (jbo (jc6 (by dsimp only;decide)) (jbo (jc6 (by dsimp only;decide)) (SubR.of_eq rfl)))
     ·simp only[go_sem]
   ·have hd:decide ((i:Int)<l.length)=false:=zq hp;have hzl:(l.zip a).length<=i:=by rw[vS];omega
    rw[zt hzl]at hg⊢;rw[hg,zn yz];rcases hany:(l.zip a).any ltP with _ | _
    ·rw[qp,zn yz];simp only[hd,go_sem];refine jgh (jbi 35 b0 bs S n) (joz ?_) ?_
     ·exact jbo (jc6 (by dsimp only;decide)) (jbo (jc6 (by dsimp only;decide)) (SubR.of_eq rfl))
     ·simp only[go_sem]
    ·rw[qe];rcases hall:x.all with _ | _
     ·rw[zn yz];simp only[hd,hall,go_sem];refine jgh (jbi 35 b0 bs S n) (joz ?_) ?_
      ·exact jbo (jc6 (by dsimp only;decide)) (jbo (jc6 (by dsimp only;decide)) (SubR.of_eq rfl))
      ·simp only[go_sem]
     ·rw[zm rfl];simp only[hd,hall,go_sem];refine jgh (jbi 35 b0 bs S n) (joz ?_) ?_
      ·exact jbo (jc6 (by dsimp only;decide)) (jbo (jc6 (by dsimp only;decide)) (SubR.of_eq rfl))
      ·simp only[go_sem]
 ·rw[zm (zI dk)];refine jav [] [] [.tmp 8] Tryz.func42 ?_;unfold Evid.iv Evid.c;simp only[h0,ze,hpl,dk,F1,K1,go_sem];refine jgh (jbi 35 b0 bs S n) (joz ?_) ?_
  ·exact jbo (jc6 (by dsimp only;decide)) (jbo (jc6 (by dsimp only;decide)) (SubR.of_eq rfl))
  ·simp only[go_sem]
end
section
open Go.Abs
attribute [local go_sem] Evid.iv Evid.c Move.c Place.c ints ic big frac fc Raw.c
theorem Behind_pre{L L':Abs.Rows}:∀(pre:Abs.Rows),(∀p∈pre,Abs.look L p.1=none)->jfk (pre++L) L L' (pre++L')
 | [],_=>fun _ _ h=> .inl h
 | (j,v)::pre,hp=>fun k x h=>by
  by_cases e:k=j
  ·subst e;rw[List.cons_append,ja2]at h⊢;exact .inr ⟨hp _ (zN ..),h⟩
  ·rw[List.cons_append,ja0 _ _ e]at h⊢;exact Behind_pre pre (fun p h=>hp p (zQ _ h)) k x h
theorem h_check{q:Nat}(e:Evid)(h:List (List Raw))(H:List (List Rat))(h0:jbl e=0)(hs:jdg e h=true)(hh:h.map rowC=H.map stC)(hHl:H.length=e.moves.length)
  (hH:∀l∈H,l.length=e.mats.toNat/\∀r∈l,FL q r) (hsz:∀l∈h,∀x∈l,x.l.length<=50000000000/\x.m.length<=50000000000) (hrow:∀l∈h,l.length<=100000) (hmv:e.moves.length<=1000) (hpl:e.places.length<=1000)
  (hm1:0<=e.mats) (hm2:e.mats<=100) (hce:e.certs.length<=100000) (hre:e.recalls.length<=100000) (hpe:e.purs.length<=100000) (hmove:∀x∈e.moves,(0<=x.fr/\x.fr<(e.places.length:Int))/\(0<=x.to/\x.to<(e.places.length:Int)))
  (hq:q<=100000000) (hqm:(q+q+2)*e.moves.length<=9000000000) (hqs:e.mats.toNat*(q+1)<=8000000000) (hpur:∀p∈e.purs,(0<=p.mat/\p.mat<e.mats)/\(-9223372036854775808<=p.least/\p.least<=9223372036854775807)/\(-9223372036854775808<=p.most/\p.most<=9223372036854775807)):
  Ctr G.P 9 [e.iv,hist h] (· = .int (jgk e H (List.replicate e.places.length (List.replicate e.mats.toNat ((0:Int):Rat))) 0 e.moves)):=by
 have k1:=c21 e;rw[h0]at k1;have k2:=js3 e h (by have:=qd List.length hh;simp at this;omega) hrow hsz;rw[hs]at k2;have k3:=h_none e hpl hm1 (by omega);unfold hist at k2⊢;rw[hh]at k2⊢;have hS0:Stk e.places.length e.mats.toNat (List.replicate e.places.length (List.replicate e.mats.toNat ((0:Int):Rat))):=⟨by simp,fun r hr=>by rw[(jW.1 hr).2];simp⟩;have hF0:∀r∈List.replicate e.places.length (List.replicate e.mats.toNat ((0:Int):Rat)),∀x∈r,FL 4 x:=fun r hr x hx=>by
  rw[(jW.1 hr).2]at hx;rw[(jW.1 hx).2];exact jb3 (by omega)
 have hst:=stN_ok hS0 hF0 hmove hH;generalize List.replicate e.places.length (List.replicate e.mats.toNat ((0:Int):Rat))=S0 at*;simp only[Evid.iv,Evid.c]at k1 k2 k3;refine jo2 (goodH [] []) _ _ [.tmp 4] Tryz.func9 rfl rfl (by decide+kernel) rfl ?_;unfold Evid.iv Evid.c;simp only[go_sem];refine ja1 k1 ?_;simp only[go_sem];refine ja1 k2 ?_;simp only[go_sem];refine jd4 k3 (by decide) rfl (fun _ _ h=>by cases h) (fun _ _ h=>by cases h) ?_;rintro r L' ⟨b0,bs,rfl,hnd,hbl,rfl⟩ hfresh;refine⟨(2,8,[e.c])::jbi 35 b0 bs S0 e.mats.toNat,?_,?_⟩
 ·intro k x hk;by_cases e2:k=2
  ·subst e2;rw[ja2]at hk;exact .inr ⟨rfl,by rw[<-hk];exact ja2 _ _ _⟩
  ·rw[ja0 _ _ e2]at hk;exact .inl hk
 clear hfresh k1 k2 k3;have F1:=fun(S:List (List Rat)) (d:Nat) (h:d<100000)=>ji3 (t:=35) (b0:=b0) (bs:=bs) (S:=S) (n:=e.mats.toNat) h;have G1:=fun(S:List (List Rat)) (d:Nat) (h:d<100000)=>jc6 (t:=35) (b0:=b0) (bs:=bs) (S:=S) (n:=e.mats.toNat) h;have K1:=fun(S:List (List Rat)) (d s:Nat) (es:List (List IV)) (h:d<100000)=>jkk (t:=35) (b0:=b0) (bs:=bs) (S:=S) (n:=e.mats.toNat) (s:=s) (es:=es) h;simp only[go_sem];refine jaz [1,2,5,20,21,22] (fun i:Nat=>⟨[(1,.im (.sl (H.map stC))),(2,.loc 2 8 0 0),(5,.im (.ref b0 36 1 e.places.length)),(20,.im (.sl (e.moves.map Move.c))),(21,.im (.int e.moves.length)),(22,.im (.int i))],
   (2,8,[e.c])::jbi 35 b0 bs (stN e.moves H e.mats.toNat S0 i) e.mats.toNat,[]⟩)
  (fun i=>i<=e.moves.length/\jgk e H S0 0 e.moves=jgk e H S0 i (e.moves.drop i)) (fun i=>e.moves.length-i) 0 ?_ ?_ rfl ⟨zE _,rfl⟩ ?_
 ·simp only[Int.natCast_zero,go_sem]
 ·exact SubR.of_eq rfl
 ·intro i ⟨hi,ha⟩;by_cases hp:(i:Int)<e.moves.length
  ·have hd:decide ((i:Int)<e.moves.length)=true:=za hp;obtain⟨x,hx⟩:=jby hp;obtain⟨l,hl⟩:∃l,H[i]? =some l:=⟨_,zh (by omega)⟩;have hiH:(i:Int)<H.length:=by omega
   have h1:=ja9 (n:=(i:Int)+1) (by omega);obtain⟨⟨hS1,hS2⟩,hl2⟩:=And.intro (hst i) (hH l (zk hl));obtain⟨⟨p1,p2⟩,p3,p4⟩:=hmove x (zk hx);obtain⟨hll,hlF⟩:=hl2;have hsucc:=jng (n:=e.mats.toNat) (S:=S0) hx hl;obtain⟨pl,hpk⟩:∃pl,e.places[x.fr.toNat]? =some pl:=⟨_,zh (by omega)⟩;have hgo:jgk e H S0 i (e.moves.drop i)=if l.any negF=true then 3 else if jfr pl.kind ((stN e.moves H e.mats.toNat S0 i).getD x.fr.toNat []) x l≠0 then jfr pl.kind ((stN e.moves H e.mats.toNat S0 i).getD x.fr.toNat []) x l
     else if jd6 e x (sumF l)=false then 24 else if pureF e i l (sumF l)=false then 13 else jgk e H S0 (i+1) (e.moves.drop (i+1)):=by
    rw[jpv hx,jgk,hl,hpk];rfl
   rw[hgo]at ha;clear hgo;generalize hS1e:stN e.moves H e.mats.toNat S0 (i+1)=S1 at*;generalize stN e.moves H e.mats.toNat S0 i=S at*;obtain⟨a,hat⟩:∃a,S[x.fr.toNat]? =some a:=⟨_,zh (by rw[hS1.1];omega)⟩;have hag:S.getD x.fr.toNat []=a:=by rw[qo,hat];rfl
   rw[hag]at ha;have hal:a.length=e.mats.toNat:=hS1.2 a (zk hat);have hqi:(q+q+2)*i<=(q+q+2)*e.moves.length:=vg _ (by omega);have q1:=h_negative l (by omega) (fun r hr=>(hlF r hr).mono (by omega));have q2:=h_takenH b0 e.places.length e.mats.toNat bs e S x l a pl hnd hS1 hbl p1 p2 hpk hat (by omega) (by omega) (fun r hr=>(hlF r hr).mono (by omega)) (fun r hr=>(hS2 a (zk hat) r hr).mono (by omega));have q3:=h_sum l (by omega) (fun r hr=>(hlF r hr).mono (by omega));have hms:FL 9000000000 (sumF l):=(FL_sumF hlF).mono (by rw[hll];omega);have q4:=h_weighed e x (sumF l) (hms.mono (by omega)) hce hre;have q5:=h_pure e i l (sumF l) hpe hms (fun r hr=>(hlF r hr).mono (by omega)) (fun p hp=>⟨⟨(hpur p hp).1.1,by have:=(hpur p hp).1.2;omega⟩,(hpur p hp).2⟩);have q6:=h_carry b0 bs S x l e.places.length e.mats.toNat (4+(q+q+2)*i) q hnd hS1 hbl hpl (by omega) ⟨p1,p2⟩ ⟨p3,p4⟩ hll hlF (SL.of_all hS2) (by omega) (by omega);rw[<-hsucc]at q6;generalize jfr pl.kind a x l=tk at*;generalize l.any negF=ng at*;generalize jd6 e x (sumF l)=wt at*;generalize pureF e i l (sumF l)=pt at*;generalize sumF l=mass at*;unfold fcs at q1 q2 q3 q5 q6;simp only[frac,ints,Evid.iv,Evid.c,Move.c]at q1 q2 q3 q4 q5 q6;clear hst hsz hrow hmove hpur;simp only[hd,ze,hx,hl,hiH,stC,F1,G1,K1,go_sem];refine ja1 q1 ?_
   simp only[hd,F1,G1,K1,go_sem];refine jcq (fun c1=> ?_) (fun c1=> ?_)
   ·subst c1;rw[zm rfl]at ha;simp only[go_sem];refine jea [] ?_;simp only[ha,go_sem]
   subst c1;rw[zn yz]at ha;simp only[F1,G1,K1,go_sem];refine jac 7 ?_;simp only[hd,ze,hl,hiH,stC,F1,G1,K1,go_sem];refine jaj q2 (by decide) rfl st_blks ?_ ?_
   ·exact jbo (by show Abs.look (jbi _ _ _ _ _) 7=none;rw[jc6 (by decide)]) (jbo (by show Abs.look (jbi _ _ _ _ _) 2=none;rw[jc6 (by decide)]) (SubR.of_eq rfl))
   rintro r L' ⟨rfl,rfl⟩ hfresh;clear hfresh;refine⟨(7,6,[x.c])::(2,8,[e.c])::jbi 35 b0 bs S e.mats.toNat,?_,?_⟩
   ·exact Behind_pre [(7,6,[x.c]),(2,8,[e.c])] (by
     intro p hp;rcases zS.1 hp with rfl | hp
     ·exact jc6 (by dsimp only;decide)
     ·rw[zF.1 hp];exact jc6 (by dsimp only;decide))
   simp only[F1,G1,K1,go_sem];refine jcq (fun c2=> ?_) (fun c2=> ?_)
   case refine_2=>
    have c2':tk≠0:=zJ c2;rw[zm c2']at ha;simp only[c2,go_sem];refine jea [] ?_;simp only[ha,go_sem]
   have c2':¬tk≠0:=fun h=>h (zI c2);rw[zn c2']at ha;simp only[c2,hd,ze,hl,hiH,stC,F1,G1,K1,go_sem];refine ja1 q3 ?_;simp only[F1,G1,K1,go_sem];refine ja1 q4 ?_;simp only[F1,G1,K1,go_sem];refine jcq (fun c3=> ?_) (fun c3=> ?_)
   case refine_2=>
    subst c3;rw[zm rfl]at ha;simp only[go_sem];refine jea [] ?_;simp only[ha,go_sem]
   subst c3;rw[zn (by decide)]at ha;simp only[F1,G1,K1,go_sem];refine jac 10 ?_;simp only[hd,ze,hl,hiH,stC,F1,G1,K1,go_sem];refine ja4 q5 (by decide) ?_;simp only[F1,G1,K1,go_sem];refine jcq (fun c4=> ?_) (fun c4=> ?_)
   case refine_2=>
    subst c4;rw[zm rfl]at ha;simp only[go_sem];refine jea [] ?_;simp only[ha,go_sem]
   subst c4;rw[zn (by decide)]at ha;simp only[F1,G1,K1,go_sem];refine jac 6 ?_;simp only[hd,ze,hl,hiH,stC,F1,G1,K1,go_sem];refine jaj q6 (by decide) rfl st_blks ?_ ?_
   ·exact jbo (by show Abs.look (jbi _ _ _ _ _) 9=none;rw[jc6 (by decide)]) (jbo (by show Abs.look (jbi _ _ _ _ _) 7=none;rw[jc6 (by decide)]) (jbo (by show Abs.look (jbi _ _ _ _ _) 2=none;rw[jc6 (by decide)]) (SubR.of_eq rfl)))
   rintro r L' ⟨rfl,rfl⟩ hfresh;clear hfresh;refine⟨(9,4,[fc mass])::(7,6,[x.c])::(2,8,[e.c])::jbi 35 b0 bs S1 e.mats.toNat,?_,?_⟩
   ·exact Behind_pre [(9,4,[fc mass]),(7,6,[x.c]),(2,8,[e.c])] (by
     intro p hp;rcases zS.1 hp with rfl | hp
     ·exact jc6 (by dsimp only;decide)
     ·rcases zS.1 hp with rfl | hp
      ·exact jc6 (by dsimp only;decide)
      ·rw[zF.1 hp];exact jc6 (by dsimp only;decide))
   simp only[F1,G1,K1,go_sem];refine jaa (i+1) ?_ ?_ rfl (by omega) ⟨by omega,ha⟩
   ·simp only[h1,Int.natCast_add,go_sem]
   ·dsimp only;rw[hS1e];exact jbo (by show Abs.look (_::jbi _ _ _ _ _) 9=none;rw[ja0 _ _ (by decide),jc6 (by decide)]) (jbo (by show Abs.look (_::jbi _ _ _ _ _) 7=none;rw[ja0 _ _ (by decide),jc6 (by decide)]) (SubR.of_eq rfl))
  ·have hd:decide ((i:Int)<e.moves.length)=false:=zq hp;rw[qw (by omega),jgk]at ha;simp only[hd,go_sem];refine jea [] ?_;simp only[ha,go_sem]
end
section
open Go.Abs
open Go.LP (Sol)
attribute [local go_sem] Evid.iv Evid.c Purity.c ints ic big frac fc
theorem h_check2(e:Evid)(h:List (List Raw))(h0:jbl e=0)(hs:jdg e h=false)(hl:h.length<=100000)(hsz:∀l∈h,∀x∈l,x.l.length<=50000000000/\x.m.length<=50000000000)(hrow:∀l∈h,l.length<=100000):
  Ctr G.P 9 [e.iv,hist h] (· = .int 2):=by
 have k1:=c21 e;rw[h0]at k1;have k2:=js3 e h hl hrow hsz;rw[hs]at k2;simp only[Evid.iv,Evid.c]at k1 k2;refine jo2 (goodH [] []) _ _ [.tmp 4] Tryz.func9 rfl rfl (by decide+kernel) rfl ?_;unfold Evid.iv Evid.c;simp only[go_sem];refine ja1 k1 ?_;simp only[go_sem];refine ja1 k2 ?_;simp only[go_sem];refine jea [] ?_;simp only[go_sem]
structure HistOf(e:Evid)(h:List (List Raw))(H:List (List Rat)):Prop where
 eq:h.map rowC=H.map stC
 len:H.length=e.moves.length
 row:∀l∈H,l.length=e.mats.toNat/\∀r∈l,FL 3 r
theorem h_check1(e:Evid)(h:List (List Raw))(h0:jbl e≠0):Ctr G.P 9 [e.iv,hist h] (· = .int 1):=by
 have k1:=c21 e;have hd:decide (jbl e=0)=false:=zq h0;generalize jbl e=ck at*;unfold hist;simp only[Evid.iv,Evid.c]at k1;refine jo2 (goodH [] []) _ _ [.tmp 4] Tryz.func9 rfl rfl (by decide+kernel) rfl ?_;unfold Evid.iv Evid.c;simp only[go_sem];refine ja1 k1 ?_;simp only[hd,go_sem];refine jea [] ?_;simp only[go_sem]
end
section
open Go.Abs
open Go.LP (Sol)
attribute [local go_sem] Evid.c Evid.iv ints ic
theorem jja{n:Nat}{h:List (List Raw)}(hf:fewM n h=true):h.length<=n/\∀l∈h,l.length<=10/\∀x∈l,x.l.length<=3/\x.m.length<=3:=by
 rw[fewM,zr,zK]at hf;have hl:h.length<=n:=by omega
 refine⟨hl,fun l hll=> ?_⟩;have h1:=List.all_eq_true.1 hf.1 l (by rw[zt (by omega)];exact hll);rw[fewP,zr,zK]at h1;have h2:l.length<=10:=by omega
 refine⟨h2,fun x hx=> ?_⟩;have h3:=List.all_eq_true.1 h1.1 x (by rw[zt (by omega)];exact hx);rw[fewX,zr,zK,zK]at h3;omega
theorem enc_hist{e:Evid}{h:List (List Raw)}(h0:jbl e=0)(hm5:e.moves.length<=5)(hm2:e.mats<=2)(hf:fewM 5 h=true):∃ck:Int,Ctr G.P 9 [e.iv,hist h] (· = .int ck)/\
  (ck=0->∃H,jdg e h=true/\h.map rowC=H.map stC/\Sol (e.moves.length*e.mats.toNat) (rowsE e) (ptH e.mats.toNat H)):=by
 obtain⟨g1,g2⟩:=jja (n:=5) hf;rcases hs:jdg e h with _ | _
 ·exact⟨2,h_check2 e h h0 hs (by omega) (fun l hl x hx=>by have:=(g2 l hl).2 x hx;omega) (fun l hl=>by have:=(g2 l hl).1;omega),fun h=>absurd h (by decide)⟩
 ·have hs':=hs;rw[jdg,zr,zK]at hs';obtain⟨H,a1,a2,a3⟩:=hist_of hs'.2 (k:=3) (fun l hl x hx=>(g2 l hl).2 x hx);have hmt:=(jbk h0).2.1;have hlx:=jik h0;have hHl:H.length=e.moves.length:=by omega
  have hH:∀l∈H,l.length=e.mats.toNat/\∀r∈l,FL 3 r:=fun l hl=>⟨by have:=(a3 l hl).1;omega,(a3 l hl).2⟩;refine⟨_,h_check e h H h0 hs a2 hHl hH (fun l hl x hx=>by have:=(g2 l hl).2 x hx;omega) (fun l hl=>by have:=(g2 l hl).1;omega) (by omega) (by omega) (by omega) (by omega) (by omega) (by omega) (by omega) (jhs h0) (by omega) (by omega) (by omega) (jlt h0),fun hc=> ?_⟩;exact⟨H,rfl,a2,(js2 h0 hHl fun l hl=>(hH l hl).1).1 hc⟩
end
section
open Go.Abs
open Go.LP (Rw RT S tsum Sol ksum S_add S_congr jfj S_one je1 S_mul)
def endB(e:Evid)(x:Move):Bool:=decide (jic e x.to=5) || decide (jic e x.to=6)
def srcB(e:Evid)(x:Move):Bool:=decide (jic e x.fr=0)
def selB(e:Evid)(ends:Bool)(x:Move):Bool:=if ends=true then endB e x else srcB e x
def rowP(i:Nat):Nat->List (Int×Int)
 | 0=>[]
 | m+1=>rowP i m++[((i:Int),(m:Int))]
def jr4(e:Evid)(ends:Bool):Nat->List (Int×Int)
 | 0=>[]
 | i+1=>match e.moves[i]? with
  | some x=>jr4 e ends i++(if selB e ends x=true then rowP i e.mats.toNat else [])
  | none=>jr4 e ends i
section
variable{e:Evid}{x:Nat->Rat}{ends:Bool}
end
def plusF:List (Nat×Rat)->List (Nat×Rat)->List (Nat×Rat)
 | [],b=>b
 | a,[]=>a
 | (i,c)::a,(j,d)::b=>if i<j then(i,c)::plusF a ((j,d)::b)else if j<i then(j,d)::plusF ((i,c)::a) b else if c+d=0 then plusF a b else(i,c+d)::plusF a b
 termination_by a b=>a.length+b.length
end
section
open Go.Abs
open Go.LP (Rw RT tsum)
attribute [local go_sem] ints ic big frac fc rwC tmC
end
section
open Go.Abs
attribute [local go_sem] Evid.iv Evid.c Place.c Move.c Cert.c Recall.c Purity.c ints ic pickC
end
section
open Go.Abs
open Go.LP (Sol)
attribute [local go_sem] Evid.iv Evid.c Move.c ints ic big frac fc
def rawR(r:Rat):Raw:=⟨r.num.sign,dig r.num.natAbs,(r.den:Int).sign,dig (r.den:Int).natAbs⟩
def histR(H:List (List Rat)):List (List Raw):=H.map fun l=>l.map rawR
theorem jk3(H:List (List Rat)):(histR H).map rowC=H.map stC:=by
 unfold histR;rw[ya];refine yZ fun l _=> ?_;show [IV.sl ((l.map rawR).map Raw.c)]=[IV.sl (l.map fc)];rw[ya];rfl
structure Shaped(e:Evid)(H:List (List Rat))(q:Nat):Prop where
 len:H.length=e.moves.length
 row:∀l∈H,l.length=e.mats.toNat/\∀r∈l,FL q r
 qb:q<=100000000
 mv:(q+q+2)*e.moves.length<=9000000000
 mt:e.mats.toNat*(q+1)<=8000000000
section
variable{e:Evid}{H:List (List Rat)}{q:Nat}
theorem Shaped.ok(h:Shaped e H q)(h0:jbl e=0):jdg e (histR H)=true:=by
 unfold jdg histR;rw[zr,zK,zw,List.all_eq_true];refine⟨by rw[h.len],fun l hl=> ?_⟩;obtain⟨l',hl',rfl⟩:=qq.1 hl;unfold rowOk;have:=(jbk h0).2.1;rw[zr,zK,zw,(h.row l' hl').1,List.all_eq_true];refine⟨by omega,fun x hx=> ?_⟩;obtain⟨r,_,rfl⟩:=qq.1 hx;exact jj2 r
theorem Shaped.sz(h:Shaped e H q):∀l∈histR H,∀x∈l,x.l.length<=50000000000/\x.m.length<=50000000000:=fun l hl x hx=>by
 obtain⟨l',hl',rfl⟩:=qq.1 hl;obtain⟨r,hr,rfl⟩:=qq.1 hx;have h1:=((h.row l' hl').2 r hr).mono (show q<=50000000000 by have:=h.qb;omega);exact⟨h1.1,by have:=h1.2;rw[<-Int.natAbs_natCast r.den]at this;exact this⟩
theorem Shaped.rows(h:Shaped e H q)(h0:jbl e=0):∀l∈histR H,l.length<=100000:=fun l hl=>by
 obtain⟨l',hl',rfl⟩:=qq.1 hl;have:=jik h0;rw[zw,(h.row l' hl').1];omega
theorem Shaped.check(h:Shaped e H q)(h0:jbl e=0):∃c:Int,Ctr G.P 9 [e.iv,.sl (H.map stC)] (· = .int c)/\(c=0↔Sol (e.moves.length*e.mats.toNat) (rowsE e) (ptH e.mats.toNat H)):=by
 have hlx:=jik h0;have hmt:=(jbk h0).2.1;have k:=h_check e (histR H) H h0 (h.ok h0) (jk3 H) h.len h.row h.sz (h.rows h0) (by omega) (by omega) (by omega) (by omega) (by omega) (by omega) (by omega) (jhs h0) h.qb h.mv h.mt (jlt h0);unfold hist at k;rw[jk3]at k;exact⟨_,k,js2 h0 h.len fun l hl=>(h.row l hl).1⟩
