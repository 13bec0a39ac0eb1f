/- A part of the proof. No further condition. -/
import Derived.Test.YtkcekimolppapaaGreatKS41
import Derived.Test.YtkcekimolppapaaGreatKS42
set_option linter.all false
set_option maxRecDepth 10000000
set_option maxHeartbeats 16000000
namespace Go.Proofs.YtkcekimolppapaaGreat
section
open Go.Abs
open Go.LP (Rw RT tsum Sol Bds)
def recE(S:List Int)(e:Evid):Evid:={e with recalls:=e.recalls++S.map fun s=>⟨s,0⟩}
section
variable{e e':Evid}{S:List Int}{ps:List (Int×Int)}
theorem rec_any{sc day:Int}(hd:0<=day):((S.map fun s=>(⟨s,0⟩:Recall)).any (recF sc day))=S.contains sc:=by
 rw[jl,yx,qX];constructor
 ·rintro⟨x,hx,hr⟩;obtain⟨s,hs,rfl⟩:=z8.1 hx;simp only[recF,zD,zW]at hr;rw[<-hr.1];exact hs
 ·intro h;exact⟨⟨sc,0⟩,z8.2 ⟨sc,h,rfl⟩,by simp only[recF,zD,zW];exact⟨trivial,hd⟩⟩
theorem ivl_rece{sc rd day:Int}(hd:0<=day):ivlF (recE S e).certs (recE S e).recalls sc rd day=if S.contains sc=true then none else ivlF e.certs e.recalls sc rd day:=by
 unfold ivlF recE;dsimp only;rw[List.any_append,rec_any hd];cases S.contains sc with
 | true=>rw[j8,zm rfl,zm rfl];split<;>rfl
 | false=>rw[jS,zn (by decide:¬(false=true))]
theorem weight_rec{M k:Nat}{x:Move}(hd:0<=x.day):jbp (recE S e) M k x=if x.scale≠ -1/\S.contains x.scale=true then []else jbp e M k x:=by
 unfold jbp;by_cases h:x.scale= -1
 ·rw[zm h,zn fun hh=>hh.1 h,zm h]
 ·rw[zn h,zn h,ivl_rece hd];by_cases hS:S.contains x.scale=true
  ·rw[zm hS,zm ⟨h,hS⟩]
  ·rw[zn hS,zn fun hh=>hS hh.2]
theorem jny(hc:jax e=0):∀w,w∈rowsE (offE S e)↔w∈rowsE (recE S e):=fun w=>by
 obtain⟨_,_,_,_,_,h6,_⟩:=jbi hc;have key:∀k x,e.moves[k]? =some x->moveR (recE S e) e.mats.toNat k x=(if binF e x=true then []else jcd e.mats.toNat e.moves k x e.mats.toNat)++(if x.scale≠ -1/\S.contains x.scale=true then []else jbp e e.mats.toNat k x)++purR e.mats.toNat k e.purs:=fun k x hx=>by
  unfold moveR;rw[weight_rec (days_ge h6 x (zk hx))];rfl
 rw[mem_off];unfold rowsE;rw[mem_rowsU];constructor
 ·rintro⟨k,x,h1,h2,h3⟩;exact⟨k,x,h1,h2,by rw[show(recE S e).mats=e.mats from rfl,key k x h2];exact h3⟩
 ·rintro⟨k,x,h1,h2,h3⟩;rw[show(recE S e).mats=e.mats from rfl,key k x h2]at h3;exact⟨k,x,h1,h2,h3⟩
theorem jo7(h:okP e ps=true)(hc:jax e'=0)(h1:e'.mats=e.mats)(h2:e'.moves.length=e.moves.length):okP e' ps=true:=by
 obtain⟨_,g2,g3⟩:=okP_iff.1 h;refine okP_iff.2 ⟨hc,fun p hp=> ?_,by rw[h1];exact g3⟩;have:=g2 p hp;unfold je8 at this⊢;rw[h1,h2];exact this
theorem nV_len(h1:e'.mats=e.mats)(h2:e'.moves.length=e.moves.length):nV e'=nV e:=by unfold nV;rw[h1,h2]
theorem okP_same(hc:jax e=0)(hc':jax e'=0)(h1:e'.mats=e.mats)(h2:e'.moves.length=e.moves.length):okP e' ps=okP e ps:=by
 rw[jl];exact⟨fun h=>jo7 h hc h1.symm h2.symm,fun h=>jo7 h hc' h1 h2⟩
theorem BSay.alike{b b':Option (Rat×Option Rat)}(h:BSay e ps b)(h':BSay e' ps b')(hc:jax e=0)(hc':jax e'=0)(h1:e'.mats=e.mats)(h2:e'.moves.length=e.moves.length)(hr:∀w,w∈rowsE e↔w∈rowsE e'):b=b':=by
 have hN:=nV_len h1 h2;cases b' with
 | none=>
  cases b with
  | none=>rfl
  | some p=>
   obtain⟨lo,hi⟩:=p;obtain⟨g1,g2,_⟩:=h.inv;obtain⟨x,hx,_⟩:=g2.low_at;obtain⟨lo',hi',e1,_⟩:=h'.get (jo7 g1 hc' h1 h2) ⟨x,by rw[hN];exact hx.sub fun w hw=>(hr w).2 hw⟩;cases e1
 | some p=>
  obtain⟨lo',hi'⟩:=p;obtain⟨g1,g2',_⟩:=h'.inv;rw[wgt_to h1,hN]at g2';obtain⟨x,hx,_⟩:=g2'.low_at;obtain⟨lo,hi,rfl,g2,_⟩:=h.get (jo7 g1 hc h1.symm h2.symm) ⟨x,hx.sub fun w hw=>(hr w).1 hw⟩;obtain⟨e1,e2⟩:=g2.uniq g2' hr;rw[e1,e2]
theorem RSay.alike{r r':List IV}{f f':Int}{b b':Option (Rat×Option Rat)}(h:RSay e ps r f b)(h':RSay e' ps r' f' b')(hc:jax e=0)(hc':jax e'=0)(h1:e'.mats=e.mats)(h2:e'.moves.length=e.moves.length)(hr:∀w,w∈rowsE e↔w∈rowsE e'):b=b'/\f=f':=by
 have hb:=h.say.alike h'.say hc hc' h1 h2 hr;subst hb;refine⟨rfl,?_⟩;have hk:=okP_same (ps:=ps) hc hc' h1 h2;cases b with
 | some p=>
  have e1:f=0:=zJ h.flag;have e2:f'=0:=zJ h'.flag;rw[e1,e2]
 | none=>
  have a1:=(h.zero rfl).2;have a2:=(h'.zero rfl).2;have b1:=h.arg;have b2:=h'.arg;rw[hk]at b2;rcases a1 with a1 | a1<;>rcases a2 with a2 | a2
  ·rw[a1,a2]
  ·have:=b2.2 (b1.1 a1);omega
  ·have:=b1.2 (b2.1 a2);omega
  ·rw[a1,a2]
theorem posB_rec(hc:jax e=0):posB (recE S e)=posS e S:=by
 rw[jl,posB_iff,posS_iff];unfold Pos;constructor
 ·rintro⟨x,hx⟩;exact⟨x,hx.sub fun w hw=>(jny hc w).1 hw⟩
 ·rintro⟨x,hx⟩;exact⟨x,hx.sub fun w hw=>(jny hc w).2 hw⟩
end
end
end Go.Proofs.YtkcekimolppapaaGreat
namespace Go.Abs
section
section
variable{G:Ctx}{N:Nat}{w0:Base}{w:World}{M0:Nat->Nat->Prop}{β:Nat->Option Nat}{st:St}{a:Act}
def St.emR(st:St):St:=⟨st.fr,st.rows.map fun p=>(p.1,p.2.1,p.2.2.map (List.map emp1)),st.toks⟩
theorem Sim.emR(h:Sim N w0 M0 β st a w):Sim N w0 M0 β st.emR a w:=by
 have hlk:∀k,look (st.rows.map fun p=>(p.1,p.2.1,p.2.2.map (List.map emp1))) k=(look st.rows k).map fun q:Nat×List (List IV)=>(q.1,q.2.map (List.map emp1)):=fun k=>jf2 _ (fun q:Nat×List (List IV)=>(q.1,q.2.map (List.map emp1))) k;refine h.rowsTo _ (fun k=>by rw[hlk];cases look st.rows k<;>rfl) fun k s2 es2 hk b2 hb2=> ?_;rw[hlk]at hk;obtain⟨⟨s3,es3⟩,g1,g2⟩:=zQ.1 hk;cases g2;obtain⟨b3,q1,_,cur,T,q2,q3,q4⟩:=h.rows k s3 es3 g1;rw[hb2]at q1;cases q1;refine⟨cur,T,q2,fun c hc=> ?_,fun i c j y hi hj=> ?_⟩
 ·obtain⟨c0,hc0,rfl⟩:=z8.1 hc;rw[zq];exact q3 c0 hc0
 ·rw[za]at hi;obtain⟨c0,hc0,rfl⟩:=zQ.1 hi;rw[za]at hj;obtain⟨y0,hy0,rfl⟩:=zQ.1 hj;obtain⟨o1,u,o2,o3⟩:=q4 i c0 j y0 hc0 hy0;exact⟨by rw[jtb];exact o1,u,o2,jo1 o3⟩
theorem le_emR{s S:St}(L:List Nat)(hf:L.map (fun t=>(t,s.get t))=S.fr)(hr:SubR S.rows s.emR.rows)(ht:S.toks=[]):St.Le s S:=
 St.Le.trans (fun N w0 M0 β a w h=>⟨β,h.emR⟩) (St.sub_of (s:=s.emR) L hf hr ht).le
end
section
variable{G:Ctx}{kp:Bool}
theorem SpOne_appendG(ops:List Oper)(K:St->Prop)(l:List Oper)(d:Tmp)(azz:Array Operand)(ts:Array TypeId)(ty:TypeId)(pos:String)(af:Array Edge)(j:Nat)(want:Bool)(s2:OT)(Rs:Rows)(st:St):
  SpOne G kp ops K l (some ⟨some d,.call ⟨.builtin .append,azz,ts⟩,ty,pos,af,some (j,want)⟩) s2 Rs st=(jd2 st ops j=some (some want)/\SpOne G kp ops K l (some ⟨some d,.call ⟨.builtin .append,azz,ts⟩,ty,pos,af,.none⟩) s2 Rs st):=
 propext ⟨fun h=>⟨h.1,trivial,h.2⟩,fun h=>⟨h.1,h.2.2⟩⟩
end
attribute [go_sem] SpOne_appendG
end
end Go.Abs
namespace Go.Proofs.YtkcekimolppapaaGreat
section
open Go.Abs
open Go.LP (Rw RT tsum Sol Bds)
attribute [local go_sem] ints ic Evid.c Evid.iv Purity.c Recall.c
def RL(S:List Int)(e:Evid)(i:Nat):List (List IV):=e.recalls.map Recall.c++(S.take i).map fun s=>[.int s,.int 0]
section
variable{S:List Int}{e:Evid}{i:Nat}
theorem RL_zero:RL S e 0=e.recalls.map Recall.c:=by unfold RL;rw[List.take_zero,zF,zX]
theorem RL_succ{s:Int}(h:S[i]? =some s):RL S e (i+1)=RL S e i++[[.int s,.int 0]]:=by
 unfold RL;rw[take_succ h,qf,zS];rfl
theorem RL_len(h:i<=S.length):(RL S e i).length=e.recalls.length+i:=by
 unfold RL;rw[zG,zq,zq,zY];omega
theorem RL_full:RL S e S.length=(recE S e).recalls.map Recall.c:=by
 unfold RL recE;rw[qe,qf,yR];rfl
end
def RQ(e:Evid)(c:IV):List IV:=[.int e.mats,.int e.houses,.int e.scales,.sl (e.places.map Place.c),.sl (e.moves.map Move.c),.sl (e.certs.map Cert.c),c,.sl (e.purs.map Purity.c)]
def SR(S:List Int)(mo:Int)(pk:List IV)(e:Evid)(c:List IV)(L:Abs.Rows):St:=⟨[(1,.im (.sl (S.map ic))),(2,.im (.int mo)),(4,.loc 4 8 0 0),(7,.loc 7 2 0 0),(9,.im (.bool true)),(10,.loc 10 8 0 0)],(10,8,[c])::(7,2,[pk])::(4,8,[e.c])::L,[]⟩
structure RQok(e:Evid)(S:List Int)(i:Nat)(X:Nat)(L:Abs.Rows):Prop where
 blk:blks L
 row:e.recalls.length+i≠0->Abs.look L (hp X)=some (2,RL S e i)
section
variable{S:List Int}{mo:Int}{p q:Int}{e:Evid}
theorem rc_A0(hpl:e.recalls.map Recall.c=[]){Q:Exit->St->Prop}(h:SemC (GH [37,53,68,71] [999999]) Tryz.f5.ntmps (tailN 5 (jdg Tryz.f5)) Q (SR S mo [.int p,.int q] e (RQ e .emp) [])):
  SemC (GH [37,53,68,71] [999999]) Tryz.f5.ntmps (tailN 4 (jdg Tryz.f5)) Q (SR S mo [.int p,.int q] e e.c []):=by
 refine SemC.seq (y:=tailN 5 (jdg Tryz.f5)) ?_;refine SemC.list (goodH [37,53,68,71] [999999]) (by decide+kernel) ?_;unfold SR at h⊢;refine⟨rfl,.inl ?_⟩;simp only[go_sem];refine⟨rfl,.inl ?_⟩;simp only[go_sem];refine⟨rfl,.inl ?_⟩;simp only[hpl,go_sem];refine⟨rfl,.inr (jpp (e:=86) rfl rfl rfl (by decide) (by decide) (by decide) ?_)⟩;refine⟨rfl,.inl ?_⟩;simp only[go_sem];refine⟨rfl,.inl ?_⟩;simp only[go_sem];refine SemC.le (St.sub_of [1,2,4,7,9,10] ?_ (SubR.of_eq ?_) rfl).le h
 ·simp only[go_sem]
 ·simp only[RQ,hpl,go_sem]
theorem rc_A(hr:e.recalls.length<=1000)(hne:e.recalls.map Recall.c≠[]){P:Exit->St->Prop}(hP:∀s X L,RQok e S 0 X L->St.Le s (SR S mo [.int p,.int q] e (RQ e (sl0 X 86 2 e.recalls.length)) L)->P .normal s):
  awp (GH [37,53,68,71] [999999]) (putN 1 (tailN 4 (jdg Tryz.f5)) .skip) P (SR S mo [.int p,.int q] e e.c []):=by
 unfold SR at*;rcases hpl:e.recalls.map Recall.c with _ | ⟨y0,yr⟩
 ·have hl:e.recalls.length=0:=by rw[<-zq (f:=Recall.c),hpl];rfl
  exact absurd hpl hne
 ·have hl:e.recalls.length=(y0::yr).length:=by rw[<-zq (f:=Recall.c),hpl]
  have hn:e.recalls.length≠0:=by rw[hl];exact qk _
  have h2:∀c∈y0::yr,c.length=2:=fun c hc=>by
   rw[<-hpl]at hc;obtain⟨z,_,rfl⟩:=z8.1 hc;rfl
  refine jh5 rfl ?_;simp only[hpl,go_sem];refine And.intro h2 (And.intro (by rw[List.length_cons]at hl;omega) (je5 (fun X hX=> ?_)));clear hX;have hpb:∀k:Nat,k<100000->(k !=hp X)=true:=fun k hk=>by simp only[z7,ne_eq];exact hp_ne hk
  simp only[go_sem];refine hP _ X [(hp X,2,y0::yr)] ⟨jad jaq,fun _=>by rw[RL_zero,hpl];exact ja2 _ _ _⟩ ?_;rw[jak hn,hl];refine(St.sub_of [1,2,4,7,9,10] ?_ ?_ rfl).le
  ·simp only[go_sem]
  ·unfold RQ;refine jag ?_ (jag ?_ (jag ?_ (jag (ja2 _ _ _) jac)))
   ·rw[ja0 _ _ (hp_ne (by decide))];rfl
   ·rw[ja0 _ _ (hp_ne (by decide)),ja0 _ _ (by decide)];rfl
   ·rw[ja0 _ _ (hp_ne (by decide)),ja0 _ _ (by decide),ja0 _ _ (by decide),<-hpl];rfl
theorem rc_B(hr:e.recalls.length<=1000)(hS:S.length<=1000){X:Nat}{L:Abs.Rows}(hq:RQok e S 0 X L){P:Exit->St->Prop}(hP:∀s,St.Le s (SR S mo [.int p,.int q] e (recE S e).c [])->P .normal s):
  awp (GH [37,53,68,71] [999999]) (putN 1 (tailN 5 (jdg Tryz.f5)) .skip) P (SR S mo [.int p,.int q] e (RQ e (sl0 X 86 2 e.recalls.length)) L):=by
 unfold SR at*;refine jh5 rfl ?_;simp only[go_sem];refine jap [1,2,4,7,9,10,11] (fun g:(Nat×Nat)×Abs.Rows=>⟨[(1,.im (.sl (S.map ic))),(2,.im (.int mo)),(4,.loc 4 8 0 0),(7,.loc 7 2 0 0),(9,.im (.bool true)),(10,.loc 10 8 0 0),(11,.im (.int g.1.1))],
   (10,8,[RQ e (sl0 g.1.2 86 2 (e.recalls.length+g.1.1))])::(7,2,[[.int p,.int q]])::(4,8,[e.c])::g.2,[]⟩)
  (fun g=>g.1.1<=S.length/\RQok e S g.1.1 g.1.2 g.2) (fun g=>S.length-g.1.1) ((0,X),L) ?_ ?_ rfl ⟨zH _,hq⟩ ?_
 ·simp only[Int.natCast_zero,go_sem]
 ·exact SubR.of_eq (by simp only[RQ,Nat.add_zero,go_sem])
 clear hq;rintro⟨⟨i,X⟩,L⟩ ⟨hi,hq⟩;dsimp only at hi hq⊢;have hb:=hq.blk;have F1:=bF hb;have K1:=bK hb;have G1:=bN hb;unfold RQ;by_cases hp':(i:Int)<S.length
 ·have hd:decide ((i:Int)<S.length)=true:=zh hp';obtain⟨s,hx⟩:=jbf hp';have h1:=ja7 (n:=(i:Int)+1) (by omega);have hg:=jnz hx;have hi0:(0:Int)<=i:=by omega
  have hsu:=RL_succ (e:=e) hx;have hti:=RL_len (S:=S) (e:=e) (i:=i) hi;by_cases hn:e.recalls.length+i=0
  ·have hnil:RL S e i=[]:=qM.1 (by omega);rw[show sl0 X 86 2 (e.recalls.length+i)= .emp by rw[hn];rfl];simp only[hd,zq,F1,G1,K1,go_sem];refine jae 8 ?_;simp only[hp',hg,Int.toNat_natCast,zq,hi0,F1,G1,K1,go_sem];refine And.intro (fun c hc=>by rw[zC.1 hc];rfl) (je5 (fun Y hY=> ?_));have lY:Abs.look L (hp Y)=none:=by
    simp only[ja0 _ _ (hp_ne (n:=4) (b:=Y) (by decide)).symm,ja0 _ _ (hp_ne (n:=7) (b:=Y) (by decide)).symm,ja0 _ _ (hp_ne (n:=10) (b:=Y) (by decide)).symm]at hY;exact hY
   clear hY;simp only[F1,G1,K1,go_sem];refine ja6 ((i+1,Y),(hp Y,2,[[.int s,.int 0]])::L) ?_ ?_ rfl (by dsimp only;omega) ⟨by dsimp only;omega,jad hb,fun _=> ?_⟩
   ·simp only[h1,Int.natCast_add,go_sem]
   ·dsimp only;rw[<-yB,jak (qk _),hn];refine jag ?_ (jag ?_ (jag ?_ (jag (ja2 _ _ _) (jbw lY (jbw (G1 10 (by decide)) (jbw (G1 7 (by decide)) (jbw (G1 4 (by decide)) (SubR.refl _))))))))
    ·rw[ja0 _ _ (hp_ne (by decide)),ja2]
    ·rw[ja0 _ _ (hp_ne (by decide)),ja0 _ _ (by decide),ja2]
    ·rw[ja0 _ _ (hp_ne (by decide)),ja0 _ _ (by decide),ja0 _ _ (by decide)];rfl
   ·dsimp only;rw[ja2,hsu,hnil];rfl
  ·rw[jak hn];have hX':=hq.row hn;simp only[hd,zq,F1,G1,K1,go_sem];refine jae 8 ?_;simp only[hp',hg,Int.toNat_natCast,zq,hi0,hX',hti,F1,G1,K1,go_sem];refine And.intro (fun c hc=>by rw[zC.1 hc];rfl) (And.intro (zt _) (And.intro (by omega) (jj7 (fun Y hY=> ?_))));obtain⟨Q,hQe⟩:∃Q,Abs.del L (hp X)=Q:=⟨_,rfl⟩;have bQ:blks Q:=hQe▸jbo hb;have hQf:List.filter (fun p=>p.1 !=hp X) L=Q:=hQe;have lY:Abs.look Q (hp Y)=none:=by
    rw[jaf (hp_ne (by decide)),jaf (hp_ne (by decide)),jaf (hp_ne (by decide)),hQe,ja0 _ _ (hp_ne (by decide)).symm,ja0 _ _ (hp_ne (by decide)).symm,ja0 _ _ (hp_ne (by decide)).symm]at hY;exact hY
   clear hY;have bn:∀k:Nat,k<100000->(k !=hp X)=true:=fun k hk=>by simp only[z7,ne_eq];exact hp_ne hk
   have F2:=bF bQ;have K2:=bK bQ;have G2:=bN bQ;have htt:List.take (e.recalls.length+i) (RL S e i)=RL S e i:=zu (by omega);simp only[F2,G2,K2,bn,hQf,htt,go_sem];refine ja6 ((i+1,Y),(hp Y,2,RL S e i++[[.int s,.int 0]])::Q) ?_ ?_ rfl (by dsimp only;omega) ⟨by dsimp only;omega,jad bQ,fun _=> ?_⟩
   ·simp only[h1,Int.natCast_add,go_sem]
   ·dsimp only;rw[<-yB,jak (qk _)];refine jag ?_ (jag ?_ (jag ?_ (jag (ja2 _ _ _) (jbw lY (jbw (G2 10 (by decide)) (jbw (G2 7 (by decide)) (jbw (G2 4 (by decide)) (SubR.refl _))))))))
    ·rw[ja0 _ _ (hp_ne (by decide)),ja2]
    ·rw[ja0 _ _ (hp_ne (by decide)),ja0 _ _ (by decide),ja2]
    ·rw[ja0 _ _ (hp_ne (by decide)),ja0 _ _ (by decide),ja0 _ _ (by decide)];rfl
   ·dsimp only;rw[ja2,hsu]
 ·have hd:decide ((i:Int)<S.length)=false:=zw hp';have e1:i=S.length:=by omega
  subst e1;have hfull:=RL_full (S:=S) (e:=e);by_cases hn:e.recalls.length+S.length=0
  ·have hnil:(recE S e).recalls.map Recall.c=[]:=by rw[<-hfull];exact qM.1 (by rw[RL_len (zt _)];exact hn)
   rw[hn,jb8];simp only[hd,zq,F1,G1,K1,go_sem];refine hP _ (le_emR [1,2,4,7,9,10] ?_ ?_ rfl)
   ·simp only[go_sem]
   ·show SubR ((10,8,[[.int e.mats,.int e.houses,.int e.scales,.sl (e.places.map Place.c),.sl (e.moves.map Move.c),.sl (e.certs.map Cert.c),.sl ((recE S e).recalls.map Recall.c),.sl (e.purs.map Purity.c)]])::(7,2,[[.int p,.int q]])::(4,8,[e.c])::[]) _;rw[hnil];exact jag rfl (jag rfl (jag rfl jac))
  ·rw[jak hn];have hX':=hq.row hn;have hlen:=RL_len (S:=S) (e:=e) (zt S.length);have htk:List.take (e.recalls.length+S.length) (RL S e S.length)=RL S e S.length:=zu (by omega);have hle:e.recalls.length+S.length<=(RL S e S.length).length:=by omega
   rw[hfull]at hX' htk hle;simp only[hd,zq,F1,G1,K1,go_sem];have bn:∀k:Nat,k<100000->(k !=hp X)=true:=fun k hk=>by simp only[z7,ne_eq];exact hp_ne hk
   refine hP _ (DoneR_of [X] [1,2,4,7,9,10] ?_ ?_ rfl)
   ·simp only[hX',bn,go_sem]
   ·have hle2:e.recalls.length+S.length<=(recE S e).recalls.length:=by rw[zq]at hle;exact hle
    simp only[hX',bn,htk,hle2,zq,go_sem];exact jag rfl (jag rfl (jag rfl jac))
end
end
section
open Go.Abs
open Go.LP (Rw RT tsum Sol Bds)
attribute [local go_sem] ints ic Evid.c Evid.iv Purity.c Recall.c Place.c Move.c Cert.c
theorem t_same15{a:Rat}(ha:FL 19000000000 a):Ctr G.P 40 [.sl [fc a],.sl [fc a]] (· = .bool true):=by
 have kg:=g_self ha;simp only[frac,ints]at kg;unfold fc;refine ja5 [.tmp 4] Tryz.func40 ?_;simp only[go_sem];refine jan [0,1,5] [] (fun i:Nat=>⟨[(0,.im (.sl [fc a])),(1,.im (.sl [fc a])),(5,.im (.int i))],[],[]⟩) (fun i=>i<=1) (fun i=>1-i) 0 ?_ (zH _) ?_
 ·simp only[Int.natCast_zero,fc,go_sem]
 intro i hi;unfold fc;rcases i with _ | i
 ·simp only[Int.natCast_zero,go_sem];refine jae 10 ?_;simp only[go_sem];refine ja4 kg (by decide) ?_;simp only[go_sem];refine jab 1 ?_ (by omega) (by omega);have w1:IntKind.i64.wrap 1=1:=ja7 (by omega);simp only[Int.natCast_one,fc,w1,go_sem]
 ·have:i=0:=by omega
  subst this;simp only[go_sem]
theorem jp7{e:Evid}{es:List (List IV)}{y:IV}{Y n:Nat}(kw:Ctr G.P 39 [e.iv,.sl es] (· =y))(hn:es.length=n):
  CtrH G.P 39 [.im e.iv,.im (.ref Y 3 1 n)] [(hp Y,1,es)] (fun x L'=>x= .im y/\L'=[]):=by
 subst hn;refine(jtf kw [e.iv,.ref Y 3 1 es.length] [Y] [(hp Y,1,es)] ?_).mono fun r L' ⟨z,h1,h2,h3⟩=>⟨by rw[h1,h2],h3⟩;have ht:List.take es.length es=es:=qe;simp only[Evid.iv,Evid.c,zB,zF,jd9 (ja2 _ _ _),jf3,frz3,frz2,frz1,emp2,emp1,zt,jk,qm,ht]
def SDr(S:List Int)(mo:Int)(pk:List IV)(e:Evid)(z:Bool):St:=⟨[(1,.im (.sl (S.map ic))),(2,.im (.int mo)),(4,.loc 4 8 0 0),(7,.loc 7 2 0 0),(9,.im (.bool true)),(10,.loc 10 8 0 0),(12,.loc 12 8 0 0),(13,.im (.bool z))],[(12,8,[(offE S e).c]),(10,8,[(recE S e).c]),(7,2,[pk]),(4,8,[e.c])],[]⟩
section
variable{S:List Int}{mo:Int}{p q:Int}{e:Evid}
theorem posS_more(h:posS e S=true):posS e (S++[mo])=true:=posS_iff.2 ((posS_iff.1 h).mono fun x _ _ hc=>by
 rw[qX]at hc⊢;exact yz _ hc)
theorem rc_D0{P:Exit->St->Prop}(hP:∀s,St.Le s (SDr S mo [.int p,.int q] e false)->P .normal s):
  awp (GH [37,53,68,71] [999999]) (putN 1 (tailN 9 (jdg Tryz.f5)) .skip) P (SDr S mo [.int p,.int q] e false):=by
 unfold SDr at*;refine jh5 rfl ?_;simp only[go_sem];refine jgx [false,false,false,false,false,false,false,false,false,false,false,false,false] .fin [(4,8,[e.c])] (by decide+kernel) (jag rfl jac) ?_;simp only[go_sem];refine hP _ (St.sub_of [1,2,4,7,9,10,12,13] ?_ (SubR.of_eq ?_) rfl).le
 ·simp only[go_sem]
 ·simp only[go_sem]
theorem rc_D1(hc:jax e=0)(hs:SmallE e)(hS:S.length<=1000)(hpS:posS e S=true){P:Exit->St->Prop}(hP:∀s,St.Le s (SDr S mo [.int p,.int q] e true)->P .normal s):
  awp (GH [37,53,68,71] [999999]) (putN 1 (tailN 9 (jdg Tryz.f5)) .skip) P (SDr S mo [.int p,.int q] e true):=by
 have hl1:(S++[mo]).length=S.length+1:=by rw[zG];rfl
 have kw:=jea (S++[mo]) hc (by rw[hl1];omega);have kq:Ctr G.P 11 [(offE (S++[mo]) e).iv] (· = .bool (posS e (S++[mo]))):=jfd (e:=offE (S++[mo]) e) hs.off (je3 hc);rw[posS_more hpS]at kq;have hpl:(S++[mo]).map ic=S.map ic++[[.int mo]]:=by rw[qf];rfl
 simp only[ints,hpl,ic]at kw;unfold SDr at*;refine jh5 rfl ?_;simp only[go_sem];refine jgx [false,false,false,false,false,true,false,false,true,true] (.alt 5 (.alt 8 (.alt 9 .fin .none) .none) .none) [(4,8,[e.c])] (by decide+kernel) (jag rfl jac) ?_;rcases hSl:S.map ic with _ | ⟨y0,yr⟩
 ·rw[hSl]at kw;have kz:=fun Y:Nat=>jp7 (Y:=Y) kw (n:=1) rfl;simp only[Evid.iv,Evid.c,List.nil_append]at kz kq;simp only[hSl,zF,go_sem];refine And.intro (jag rfl jac) (And.intro (fun c hc=>by rw[zC.1 hc];rfl) (jez (fun Y hYn=> ?_)));refine And.intro (jag (by rw[ja0 _ _ (hp_ne (by decide))];rfl) jac) ?_;simp only[go_sem];refine jbc (kz Y) (by decide) rfl (jad jaq) (jay _ jac) ?_;rintro _ _ ⟨rfl,rfl⟩ _;refine⟨_,jdw hYn,?_⟩;simp only[go_sem];refine And.intro (jag rfl jac) ?_;refine ja1 kq ?_;simp only[go_sem];refine hP _ (St.sub_of [1,2,4,7,9,10,12,13] ?_ (SubR.of_eq ?_) rfl).le
  ·simp only[hSl,go_sem]
  ·simp only[go_sem]
 ·have hyl:yr.length+1=S.length:=by rw[<-zq (f:=ic),hSl];rfl
  have hy1:∀c∈y0::yr,c.length=1:=fun c hc=>by rw[<-hSl]at hc;obtain⟨z,_,rfl⟩:=z8.1 hc;rfl
  have ht:List.take (yr.length+1) (y0::yr)=y0::yr:=zu (by rw[List.length_cons];exact zt _);rw[hSl]at kw;have kz:=fun Y:Nat=>jp7 (Y:=Y) kw (n:=yr.length+1+1) (by rw[zG];rfl);simp only[Evid.iv,Evid.c]at kz kq;simp only[hSl,go_sem];refine And.intro hy1 (And.intro (by omega) (jez (fun X hX=> ?_)));have h4:(12 !=hp X)=true/\(10 !=hp X)=true/\(7 !=hp X)=true/\(4 !=hp X)=true:=by
   simp only[z7,ne_eq];exact⟨hp_ne (by decide),hp_ne (by decide),hp_ne (by decide),hp_ne (by decide)⟩
  refine And.intro (jag (by rw[ja0 _ _ (hp_ne (by decide))];rfl) jac) ?_;simp only[ht,List.length_cons,go_sem];refine And.intro (fun c hc=>by rw[zC.1 hc];rfl) (And.intro (zt _) (And.intro (by omega) (je6 (fun Y hY=> ?_))));have hdel:∀(v:Nat×List (List IV)) (R:Abs.Rows),Abs.del ((hp X,v)::R) (hp X)=Abs.del R (hp X):=fun v R=>by unfold Abs.del;rw[jF (by simp)]
  rw[hdel,jaf (hp_ne (by decide)),jaf (hp_ne (by decide)),jaf (hp_ne (by decide)),jaf (hp_ne (by decide))]at hY;have hYn:=hY;simp only[h4,ht,go_sem];refine And.intro (jag (by rw[ja0 _ _ (hp_ne (by decide))];rfl) jac) ?_;refine jbc (kz Y) (by decide) rfl (jad jaq) (jay _ jac) ?_;rintro _ _ ⟨rfl,rfl⟩ _;refine⟨_,jdw hYn,?_⟩;simp only[go_sem];refine And.intro (jag rfl jac) ?_;refine ja1 kq ?_;simp only[go_sem];refine hP _ (St.sub_of [1,2,4,7,9,10,12,13] ?_ (SubR.of_eq ?_) rfl).le
  ·simp only[hSl,go_sem]
  ·simp only[go_sem]
end
end
section
open Go.Abs
open Go.LP (Rw RT tsum Sol Bds)
attribute [local go_sem] ints ic big frac fc zc Evid.c Evid.iv Purity.c Recall.c Place.c Move.c Cert.c pickC
theorem w_recalls(e:Evid)(S:List Int)(mo p q:Int):Ctr G.P 5 [e.iv,ints S,.int mo,.agg [.int p,.int q]] (· = .bool true):=by
 have k0:=jkb;have kl:=jii e;have kc:=c21 e;rcases hl:jjy e with _ | _
 ·rw[hl]at kl;simp only[Evid.iv,Evid.c]at kl;refine ja5 [.tmp 8] Tryz.func5 ?_;simp only[go_sem];refine ja1 k0 ?_;simp only[go_sem];refine ja1 kl ?_;simp only[go_sem]
 rw[hl]at kl;by_cases hc:jax e=0
 case neg=>
  generalize jax e=z at*;have hz:decide (z=0)=false:=zw hc;simp only[Evid.iv,Evid.c]at kl kc;refine ja5 [.tmp 8] Tryz.func5 ?_;simp only[go_sem];refine ja1 k0 ?_;simp only[go_sem];refine ja1 kl ?_;simp only[go_sem];refine ja1 kc ?_;simp only[hz,go_sem]
 rw[hc]at kc;by_cases h4:S.length<=4
 case neg=>
  have hz:decide (4<(S.length:Int))=true:=zh (by omega);simp only[Evid.iv,Evid.c]at kl kc;refine ja5 [.tmp 8] Tryz.func5 ?_;simp only[go_sem];refine ja1 k0 ?_;simp only[go_sem];refine ja1 kl ?_;simp only[go_sem];refine ja1 kc ?_;simp only[hz,zq,go_sem]
 have hz:decide (4<(S.length:Int))=false:=zw (by omega);obtain⟨hs,hm5⟩:=jgm hl hc;have hr:e.recalls.length<=1000:=by have:=jm5 hc;omega
 have kw:=jea S hc (by omega);have kcl:=c21 (offE S e);rw[je3 hc]at kcl;have kpl:Ctr G.P 11 [(offE S e).iv] (· = .bool (posS e S)):=jfd (e:=offE S e) hs.off (je3 hc);have kcr:=c21 (recE S e);have fin:∀{Q:Exit->St->Prop},(∀s,s.get 8= .im (.bool true)->Q .ret s)->awp (GH [37,53,68,71] [999999]) (tailN 10 (jdg Tryz.f5)) Q (SDr S mo [.int p,.int q] e (posS e S)):=fun{Q} hQ=>by
  clear kl kc k0 kw kcl kpl;by_cases hcr:jax (recE S e)=0
  case neg=>
   generalize jax (recE S e)=z at*;have hz:decide (z=0)=false:=zw hcr;unfold SDr;simp only[Evid.iv,Evid.c]at kcr;refine jkr rfl ?_;simp only[go_sem];refine ja1 kcr ?_;simp only[hz,go_sem];exact hQ _ rfl
  have hsr:SmallE (recE S e):=⟨hs.mv,hs.mt,hs.pu⟩;have kpr:=jfd hsr hcr;rw[posB_rec hc]at kpr;rw[hcr]at kcr;obtain⟨r1,f1,b1,s1,kR1⟩:=jr0 (e:=offE S e) (ps:=[(p,q)]) hs.off (by show 1<=10000;omega);have kL1:=w_least s1 kR1;obtain⟨r2,f2,b2,s2,kR2⟩:=jr0 (e:=recE S e) (ps:=[(p,q)]) hsr (by show 1<=10000;omega);have kL2:=w_least s2 kR2;obtain⟨rfl,rfl⟩:=s1.alike s2 (je3 hc) hcr rfl (off_len.symm) (jny hc);have hfl:=s1.flag;have hsay:=s1.say;clear kR1 kR2 s1 s2 hsr hcr;generalize posS e S=z at*;have hzz:decide (z=z)=true:=zh rfl;cases b1 with
  | none=>
   change Ctr G.P _ _ (· = .tup [.agg zc,.int f1])at kL1 kL2;have hf:decide (f1=0)=false:=hfl;have hff:decide (f1=f1)=true:=zh rfl;simp only[Evid.iv,Evid.c,zB,zF,pickC,zc]at kcr kL1 kL2 kpr;unfold SDr;refine jkr rfl ?_;simp only[go_sem];refine ja1 kcr ?_;simp only[go_sem];refine ja1 kL1 ?_;simp only[go_sem];refine ja1 kL2 ?_;simp only[go_sem];refine ja1 kpr ?_;rcases z with _ | _
   ·simp only[hf,hff,go_sem];exact hQ _ rfl
   ·simp only[hf,hff,go_sem];exact hQ _ rfl
  | some pr=>
   obtain⟨lo,hi⟩:=pr;change Ctr G.P _ _ (· = .tup [frac lo,.int 0])at kL1 kL2;have hfl:FL 4000000000 lo:=by
    cases hsay with
    | some _ _ _ _ h=>exact h
   have kS:=t_same15 (hfl.mono (by omega:4000000000<=19000000000));simp only[Evid.iv,Evid.c,zB,zF,pickC,frac,fc,ints]at kcr kL1 kL2 kpr kS;unfold SDr;refine jkr rfl ?_;simp only[go_sem];refine ja1 kcr ?_;simp only[go_sem];refine ja1 kL1 ?_;simp only[go_sem];refine ja1 kL2 ?_;simp only[go_sem];refine ja1 kpr ?_;rcases z with _ | _
   ·simp only[go_sem];refine ja1 kS ?_;simp only[go_sem];exact hQ _ rfl
   ·simp only[go_sem];refine ja1 kS ?_;simp only[go_sem];exact hQ _ rfl
 refine ctrX_of (c:=tailN 0 (jdg Tryz.f5)) (t:=8) (goodH [37,53,68,71] [999999]) Tryz.func5 rfl (by decide+kernel) (qW rfl) rfl ?_;have key:∀X L,RQok e S 0 X L->SemC (GH [37,53,68,71] [999999]) Tryz.f5.ntmps (tailN 5 (jdg Tryz.f5)) (fun e s=>match e with | .normal=>s.get 8= .im (.bool true) | .ret=>s.get 8= .im (.bool true) | _=>False) (SR S mo [.int p,.int q] e (RQ e (sl0 X 86 2 e.recalls.length)) L):=fun X L hq=>by
  refine SemC.cuts (goodH [37,53,68,71] [999999]) (SR S mo [.int p,.int q] e (recE S e).c []) 1 rfl (by decide+kernel) (rc_B hr (by omega) hq fun s hs=>hs) ?_;rw[jdf];refine SemC.cuts (goodH [37,53,68,71] [999999]) (SDr S mo [.int p,.int q] e (posS e S)) 3 rfl (by decide+kernel) ?_ ?_
  ·simp only[Evid.iv,Evid.c,ints]at kw kcl kpl;unfold SR SDr;refine jh5 rfl ?_;simp only[go_sem];refine ja1 kw ?_;simp only[go_sem];refine ja1 kcl ?_;simp only[go_sem];refine ja1 kpl ?_;simp only[go_sem];refine jhk [1,2,4,7,9,10,12,13] ?_ (SubR.of_eq ?_) rfl
   ·simp only[go_sem]
   ·simp only[go_sem]
  rw[jdf];refine SemC.cuts (goodH [37,53,68,71] [999999]) (SDr S mo [.int p,.int q] e (posS e S)) 1 rfl (by decide+kernel) ?_ ?_
  ·rcases hpS:posS e S with _ | _
   ·exact rc_D0 fun s hs=>hs
   ·exact rc_D1 hc hs (by omega) hpS fun s hs=>hs
  rw[jdf];refine SemC.awp (goodH [37,53,68,71] [999999]) (by decide+kernel) ?_;exact fin fun s h=>h
 refine SemC.cuts (goodH [37,53,68,71] [999999]) (SR S mo [.int p,.int q] e e.c []) 4 rfl (by decide+kernel) ?_ ?_
 ·simp only[Evid.iv,Evid.c]at kl kc⊢;unfold SR;refine jh5 rfl ?_;simp only[go_sem];refine ja1 k0 ?_;simp only[go_sem];refine ja1 kl ?_;simp only[go_sem];refine ja1 kc ?_;simp only[hz,zq,go_sem];refine jhk [1,2,4,7,9,10] ?_ (SubR.of_eq ?_) rfl
  ·simp only[go_sem]
  ·simp only[go_sem]
 rw[jdf];by_cases hpl:e.recalls.map Recall.c=[]
 ·have hl0:e.recalls.length=0:=by rw[<-zq (f:=Recall.c),hpl];rfl
  have:=key 0 [] ⟨jaq,fun h=>absurd hl0 h⟩;rw[hl0,jb8]at this;exact rc_A0 hpl this
 ·refine SemC.cutsF (goodH [37,53,68,71] [999999]) (ι:=Nat×Abs.Rows) (fun i=>SR S mo [.int p,.int q] e (RQ e (sl0 i.1 86 2 e.recalls.length)) i.2) (fun i=>RQok e S 0 i.1 i.2) 1 rfl (by decide+kernel) (rc_A hr hpl fun s X L h1 h2=>⟨(X,L),h1,h2⟩) ?_;rintro⟨X,L⟩ hq;rw[jdf];exact key X L hq
end
section
open Go.Abs
theorem fits_Pick:∀{n:Nat} {xs:List IV},Fits G n 83 xs->∃p:Int×Int,xs=pickC p
 | 0,_,h=>h.elim
 | n+1,xs,h=>by
  unfold Fits at h;have hk:(G.ti 83).kind= .st [(0,3),(1,3)]:=rfl;rw[hk]at h;obtain⟨hl,hf⟩:=h;have hl:xs.length=2:=hl
  match xs,hl with
  | [x0,x1],_=>
   have h0:Fits G n 3 [x0]:=hf (0,3) (by simp);obtain⟨i0,e0⟩:=jbg rfl h0;cases e0;have h1:Fits G n 3 [x1]:=hf (1,3) (by simp);obtain⟨i1,e1⟩:=jbg rfl h1;cases e1;exact⟨(i0,i1),rfl⟩
