/- A part of the proof. No further condition. -/
import Derived.Test.YtdhlmmoicchgpaaGreatKU45
import Derived.ChangeArms
import Derived.DataReads
import Derived.Deep.Slices
import Derived.ProofKit
import Derived.Carry
set_option linter.all false
set_option maxRecDepth 10000000
set_option maxHeartbeats 16000000
namespace Go.Proofs.YtdhlmmoicchgpaaGreat
section
open Go.Abs
attribute [local go_sem] Evid.iv Evid.c ints ic
def St.e2(s:St):St:=⟨s.fr.map fun p=>(p.1,AVe p.2),s.rows,s.toks⟩
theorem look_e2:∀(l:List (Nat×AV)) (t:Nat),Abs.look (l.map fun p=>(p.1,AVe p.2)) t=(Abs.look l t).map AVe
 | [],_=>rfl
 | p::l,t=>by
  obtain⟨k,v⟩:=p;by_cases e:t=k
  ·subst e;rw[zk,ja1,ja1];rfl
  ·rw[zk,ja0 _ _ e,ja0 _ _ e,look_e2 l t]
theorem St.get_e2(s:St)(t:Nat):(St.e2 s).get t=AVe (s.get t):=by
 show(Abs.look _ t).getD AV.und=_;unfold St.e2;rw[look_e2];unfold Abs.St.get;cases Abs.look s.fr t<;>rfl
theorem St.le_e2(s:St):Abs.St.Le s (St.e2 s):=by
 intro N w0 M0 β a w h;refine⟨β,h.size,h.defers,h.below,h.m0,fun t=> ?_,h.rows,h.toks,h.inj,h.excl,h.nam,h.np,h.perm⟩;rw[St.get_e2];have hv:=h.fr t;generalize s.get t=x at hv;cases x with
 | im y=>exact jjl hv
 | _=>exact hv
attribute [go_sem] St.e2 AVe emp2 emp1
theorem Behind_mid{L L1:Abs.Rows}{d:Nat}{v:Nat×List (List IV)}:jdv ((d,v)::L) [] L1 ((d,v)::(L1++L)):=fun k x hk=>by
 by_cases e:k=d
 ·subst e;rw[ja1]at hk;exact .inr ⟨rfl,by rw[ja1];exact hk⟩
 ·rw[ja0 _ _ e,jhz]at hk;cases h:Abs.look L1 k with
  | some y=>rw[h]at hk;exact .inl hk
  | none=>rw[h]at hk;exact .inr ⟨rfl,by rw[ja0 _ _ e];exact hk⟩
theorem Behind_left{L L1 L':Abs.Rows}{d:Nat}{v:Nat×List (List IV)}(hd:Abs.look L d=none)(hj:∀k,(Abs.look L1 k).isSome->Abs.look L k=none):jdv ((d,v)::(L1++L)) L L' ((d,v)::L1):=fun k x hk=>by
 by_cases e:k=d
 ·subst e;rw[ja1]at hk;exact .inr ⟨hd,by rw[ja1];exact hk⟩
 ·rw[ja0 _ _ e]at hk;exact .inr ⟨hj k (by rw[hk];rfl),by rw[ja0 _ _ e,jhz,hk];rfl⟩
theorem SubR_right{L L1:Abs.Rows}(hj:∀k,(Abs.look L1 k).isSome->Abs.look L k=none):SubR L (L1++L):=fun k x hk=>by
 rw[jhz];cases h:Abs.look L1 k with
 | some y=>have:=hj k (by rw[h];rfl);rw[this]at hk;cases hk
 | none=>exact hk
theorem Behind_one'{L L':Abs.Rows}{d:Nat}{v:Nat×List (List IV)}(hd:Abs.look L d=none):jdv ((d,v)::L) L L' [(d,v)]:=fun k x hk=>by
 by_cases e:k=d
 ·subst e;rw[ja1]at hk;exact .inr ⟨hd,by rw[ja1];exact hk⟩
 ·rw[ja0 _ _ e]at hk;cases hk
section
variable{xs:List Stp}{a:List (Int×Int)}{ec:Evid}{Qc:List (List (Int×Int))}
def Sa(A:Nat)(ec:Evid)(Qc:List (List (Int×Int)))(L:Abs.Rows)(i:Nat×Abs.Rows):St:=⟨[(9,.im (.bool true)),(10,.im (.pr A 11 0 0)),(12,.im (.sl (Qc.map qC))),(16,.loc 16 8 0 0),(17,.im (.pr i.1 11 0 0)),(18,.im (.int 0))],(16,8,[ec.c])::(i.2++L),[]⟩
noncomputable def S4(ec:Evid)(Qc:List (List (Int×Int))):St:=⟨[(9,.im (.bool true)),(12,.im (.sl (Qc.map qC))),(16,.loc 16 8 0 0),(19,.im (.sl (bL ec Qc)))],[(16,8,[ec.c])],[]⟩
theorem k_again(hG:Good ec Qc 2):CtrH G.P 8 [.im ec.iv,.im (.sl (Qc.map qC))] [] (fun r L'=>∃V,r= .im (.tup [.pr V 11 0 0,.int 0])/\HasW L' V ec Qc):=by
 have kK:=c21 ec;rw[hG.right]at kK;have hA:=hG.ask (by omega);have k:=u_new (e:=ec) (qs:=Qc) (f:=fB ec) (p:=posF ec) (jkp hG.right) kK (by have:=hG.few;omega) (fun q hq=>by have:=hG.short q hq;omega) (jfm ec) (u_pos hA.small) (fun q hq=>u_bd hA.small (hA.short q hq));refine k.mono fun r L' h=> ?_;rcases h with ⟨h1,_⟩ | ⟨_,A,Q,B,h1,h2⟩
 ·rw[List.all_eq_true.2 hG.ok]at h1;cases h1
 ·exact⟨A,h1,Q,B,h2⟩
def Sb(A:Nat)(ec:Evid)(Qc:List (List (Int×Int)))(L:Abs.Rows):St:=⟨[(9,.im (.bool true)),(10,.im (.pr A 11 0 0)),(12,.im (.sl (Qc.map qC))),(16,.loc 16 8 0 0)],(16,8,[ec.c])::L,[]⟩
theorem le_frz1{fr fr':List (Nat×AV)}{R R':Abs.Rows}{X s:Nat}{es:List (List IV)}(hl:Abs.look R (hp X)=some (s,es))(hf:fr.map (fun p=>(p.1,p.2.frz X s es))=fr')(hd:Abs.del R (hp X)=R'):Abs.St.Le ⟨fr,R,[]⟩ ⟨fr',R',[]⟩:=by
 subst hf hd;intro N w0 M0 β a w h;have h2:=h.frz X;unfold Abs.St.frz at h2;dsimp only at h2;rw[hl]at h2;exact⟨β,h2⟩
theorem le_frzS{A X:Nat}{L:Abs.Rows}(hf1:List.filter (fun p=>p.1 !=hp X) L=L)(hf2:List.take Qc.length (Qc.map qC)=Qc.map qC):
  Abs.St.Le ⟨[(9,.im (.bool true)),(10,.im (.pr A 11 0 0)),(12,.im (.ref X 31 1 Qc.length)),(16,.loc 16 8 0 0)],(16,8,[ec.c])::(hp X,1,Qc.map qC)::L,[]⟩ (Sb A ec Qc L):=by
 have h12:AV.frz X 1 (Qc.map qC) (.im (.ref X 31 1 Qc.length))= .im (.sl (Qc.map qC)):=by
  show AV.im (if X=X/\1=1/\Qc.length<=(Qc.map qC).length then .sl ((Qc.map qC).take Qc.length)else _)=_;rw[zp ⟨rfl,rfl,by rw[zq];exact zn _⟩,hf2]
 have h16:AV.frz X 1 (Qc.map qC) (.loc 16 8 0 0)= .loc 16 8 0 0:=by
  show(if 16=hp X then AV.und else .loc 16 8 0 0)=_;exact zu (hp_ne (by decide))
 have hd2:Abs.del ((hp X,1,Qc.map qC)::L) (hp X)=L:=by
  unfold Abs.del;rw[qR,zu (by simp),hf1]
 have hd:Abs.del ((16,8,[ec.c])::(hp X,1,Qc.map qC)::L) (hp X)=(16,8,[ec.c])::L:=by
  rw[jap (hp_ne (by decide)),hd2]
 have hl:Abs.look ((16,8,[ec.c])::(hp X,1,Qc.map qC)::L) (hp X)=some (1,Qc.map qC):=by rw[ja0 _ _ (hp_ne (by decide)).symm,ja1]
 exact le_frz1 hl (by simp only[zk,zt,h12,h16];rfl) hd
theorem us_4a{P:Exit->St->Prop}{A X:Nat}{L:Abs.Rows}(h:P3 A xs Qc ec (X,L))(hN:∀s,St.Le s (Sb A ec Qc L)->P .normal s):
  awp (GH [62,93] []) (putN 1 (tailN 7 (jd8 Tryz.f3)) .skip) P (S2 xs a A Qc (X,L)):=by
 obtain⟨hW,hG,hD⟩:=h;dsimp only at hW hD;have kE:=CtrH.pr (u_evid hW (jkp hG.right));have F1:=bF hW.blk;have K1:=bK hW.blk;have G1:=bN hW.blk;have n16:(16 !=hp X)=true:=by simp only[zW,ne_eq];exact hp_ne (by decide)
 refine jht rfl ?_
 as_aux_lemma=>
  unfold S2;by_cases hn0:Qc.length=0
  ·have hnil:Qc=[]:=zB hn0;have hz:sl0 X 31 1 Qc.length= .emp:=by rw[hn0];rfl
   have hrow:rowX X (Qc.map qC) L=L:=by rw[hnil];rfl
   dsimp only;rw[hrow,hz];simp only[go_sem];refine ja9 kE (by decide) rfl hW.blk (SubR.refl L) ?_;rintro _ L0 ⟨rfl,hL0⟩-;obtain rfl:=hL0.symm;refine⟨_,jao,?_⟩;simp only[F1,K1,G1,go_sem];refine hN _ ((St.le_e2 _).trans (jfe [9,10,12,16] ?_ (SubR.refl _) rfl));unfold Sb;rw[hnil];simp only[go_sem]
  ·have hz:=jab (b:=X) (e:=31) (s:=1) hn0;have hne:Qc.map qC≠[]:=fun h=>hn0 (by rw[zX.1 h];rfl);have hrow:rowX X (Qc.map qC) L=(hp X,1,Qc.map qC)::L:=zu hne;have hf1:List.filter (fun p=>p.1 !=hp X) L=L:=jd5 (hD hne);have hf2:List.take Qc.length (Qc.map qC)=Qc.map qC:=zr (by rw[zq];exact zn _);have hsb:=jg4 hD;have hbh:=jdp (L':=L) hD;rw[hrow]at hsb hbh;dsimp only;rw[hrow,hz];simp only[go_sem];refine ja9 kE (by decide) rfl hW.blk hsb ?_;rintro _ L0 ⟨rfl,hL0⟩-;obtain rfl:=hL0.symm;refine⟨_,hbh,?_⟩;simp only[F1,K1,G1,go_sem];refine hN _ (Abs.St.Le.trans (jfe (S:=⟨[(9,.im (.bool true)),(10,.im (.pr A 11 0 0)),(12,.im (.ref X 31 1 Qc.length)),(16,.loc 16 8 0 0)],(16,8,[ec.c])::(hp X,1,Qc.map qC)::L,[]⟩) [9,10,12,16] ?_ (SubR.refl _) rfl) (le_frzS hf1 hf2));simp only[go_sem]
theorem us_4c{P:Exit->St->Prop}{A:Nat}{L:Abs.Rows}(hW:HasW L A ec Qc)(hG:Good ec Qc 2)(hN:∀V L1 s,HasW L1 V ec Qc->(∀k,(Abs.look L1 k).isSome->Abs.look L k=none)->St.Le s (Sa A ec Qc L (V,L1))->P .normal s):
  awp (GH [62,93] []) (putN 1 (tailN 8 (jd8 Tryz.f3)) .skip) P (Sb A ec Qc L):=by
 have kN:=k_again hG;have F1:=bF hW.blk;have K1:=bK hW.blk;have G1:=bN hW.blk;refine jht rfl ?_
 as_aux_lemma=>
  unfold Sb;simp only[F1,K1,G1,go_sem];refine jbv kN (by decide) rfl jaq jaf ?_;rintro _ L1 ⟨V,rfl,hV⟩ hfr;have hj:∀k,(Abs.look L1 k).isSome->Abs.look L k=none:=fun k hk=>by
   have h2:=(hfr k hk).resolve_left (by simp[Abs.look]);by_cases e:k=16
   ·subst e;exact G1 16 (by decide)
   ·simp only[F1,K1,G1,go_sem]at h2
    rwa [zu e]at h2
  clear hfr;have bM:blks (L1++L):=jjr hV.blk hW.blk;have F2:=fun(d:Nat) (h:d<100000)=>jdg (L:=L1++L) (d:=d) bM h;have K2:=fun(d s:Nat) (es:List (List IV)) (h:d<100000)=>jiz (L:=L1++L) (d:=d) (s:=s) (es:=es) bM h;have G2:=fun(d:Nat) (h:d<100000)=>jb2 (L:=L1++L) (d:=d) bM h;refine⟨(16,8,[ec.c])::(L1++L),?_,?_⟩
  ·exact Behind_mid
  simp only[F2,K2,G2,go_sem];refine hN V L1 _ hV hj (jfe [9,10,12,16,17,18] ?_ (SubR.refl _) rfl);simp only[go_sem];rfl
end
end
section
open Go.Abs
attribute [local go_sem] Evid.iv Evid.c ints ic
section
variable{ec:Evid}{Qc:List (List (Int×Int))}
theorem be_dec:decide (bE ec=0)=posF ec:=by
 unfold bE;cases posF ec<;>simp
theorem us_4b{P:Exit->St->Prop}{A V:Nat}{L L1:Abs.Rows}(hW:HasW L A ec Qc)(hG:Good ec Qc 2)(hV:HasW L1 V ec Qc)(hj:∀k,(Abs.look L1 k).isSome->Abs.look L k=none)(hN:∀s,St.Le s (S4 ec Qc)->P .normal s):
  awp (GH [62,93] []) (putN 4 (tailN 9 (jd8 Tryz.f3)) .skip) P (Sa A ec Qc L (V,L1)):=by
 have hA:=hG.ask (by omega);have kK:=c21 ec;rw[hG.right]at kK;have kP:=u_pos hA.small;have kR:=CtrH.pr (jjk hW hA);have kR2:=CtrH.pr (jjk hV hA);have kS:=u_sbl hA;have d0:=be_dec (ec:=ec);have lB:=bl_len (e:=ec) (qs:=Qc);have G1:=bN hW.blk;have bM:blks (L1++L):=jjr hV.blk hW.blk;have F2:=fun(d:Nat) (h:d<100000)=>jdg (L:=L1++L) (d:=d) bM h;have K2:=fun(d s:Nat) (es:List (List IV)) (h:d<100000)=>jiz (L:=L1++L) (d:=d) (s:=s) (es:=es) bM h;have G2:=fun(d:Nat) (h:d<100000)=>jb2 (L:=L1++L) (d:=d) bM h;have F3:=bF hV.blk;have K3:=bK hV.blk;have G3:=bN hV.blk;have hsR:=ja3 (x:=(8,[ec.c])) (show(16:Nat)<100000 by decide) hW.blk (SubR_right hj);have hsV:=ja3 (x:=(8,[ec.c])) (show(16:Nat)<100000 by decide) hV.blk (SubR.refl L1);obtain⟨bs,hbs⟩:∃bs,bs=bL ec Qc:=⟨_,rfl⟩;obtain⟨be,hbe⟩:∃be,be=bE ec:=⟨_,rfl⟩;rw[<-hbs]at kR kR2 kS lB;rw[<-hbe]at kR kR2 d0;refine jht rfl ?_
 as_aux_lemma=>
  unfold Sa;dsimp only;simp only[F2,K2,G2,go_sem];refine ja2 kK ?_;simp only[F2,K2,G2,go_sem];refine ja9 kR (by decide) rfl hW.blk hsR ?_;rintro _ L2 ⟨rfl,hW2⟩-;refine⟨_,Behind_left (G1 16 (by decide)) hj,?_⟩;simp only[F3,K3,G3,go_sem];refine ja9 kR2 (by decide) rfl hV.blk hsV ?_;rintro _ L3 ⟨rfl,hV3⟩-;refine⟨_,Behind_one' (G3 16 (by decide)),?_⟩;cases hps:posF ec with
  | false=>
   rw[hps]at kP d0 lB;simp only[d0,yU,zq,go_sem];refine ja2 kP ?_;simp only[d0,yU,zq,go_sem];refine ja2 kS ?_;simp only[d0,yU,zq,go_sem];refine hN _ (jfe [9,12,16,19] ?_ (SubR.refl _) rfl);rw[hbs];rfl
  | true=>
   rw[hps,zp rfl]at lB;rw[hps]at kP d0;have d1:decide ((bs.length:Int)=Qc.length)=true:=ze (by rw[lB]);simp only[d0,d1,yU,zq,go_sem];refine ja2 kP ?_;simp only[d0,d1,yU,zq,go_sem];refine ja2 kS ?_;simp only[d0,d1,yU,zq,go_sem];refine hN _ (jfe [9,12,16,19] ?_ (SubR.refl _) rfl);rw[hbs];rfl
end
end
section
open Go.Abs
attribute [local go_sem] Evid.iv Evid.c ints ic
section
variable{e ec:Evid}{qs Qc:List (List (Int×Int))}{xs:List Stp}{a:List (Int×Int)}
theorem us_5{P:Exit->St->Prop}(hG:Good ec Qc 2)(hR:∀s,s.get 8= .im (.bool true)->P .ret s):
  awp (GH [62,93] []) (tailN 13 (jd8 Tryz.f3)) P (S4 ec Qc):=by
 have hA:=hG.ask (by omega);have hfew:=hG.few;refine tail_go rfl ?_
 as_aux_lemma=>
  unfold S4;cases hps:posF ec with
  | false=>
   have hb:bL ec Qc=[]:=by unfold bL;rw[hps];rfl
   rw[hb];simp only[go_sem];refine jax [9,19,23] (fun g:Unit=>⟨[(9,.im (.bool true)),(19,.im (.sl [])),(23,.im (.int 0))],[],[]⟩) (fun _=>True) (fun _=>0) () ?_ jaf rfl trivial ?_
   ·simp only[go_sem]
   rintro _ _;simp only[go_sem];exact hR _ rfl
  | true=>
   have hb:bL ec Qc=Qc.map (fB ec):=by unfold bL;rw[hps];rfl
   rw[hb];simp only[go_sem];refine jax [9,12,16,19,23] (fun i:Nat=>⟨[(9,.im (.bool true)),(12,.im (.sl (Qc.map qC))),(16,.loc 16 8 0 0),(19,.im (.sl (Qc.map (fB ec)))),(23,.im (.int i))],[(16,8,[ec.c])],[]⟩) (fun i=>i<=Qc.length) (fun i=>Qc.length-i) 0 ?_ (SubR.refl _) rfl (zI _) ?_
   ·simp only[Int.natCast_zero,go_sem]
   intro i hi;by_cases hkl:(i:Int)<Qc.length
   ·have hd:decide ((i:Int)<Qc.length)=true:=ze hkl;obtain⟨q,hq⟩:=jce hkl;have hqm:=zG hq;have h1:=jaa (n:=(i:Int)+1) (by omega);obtain⟨r,f,b,hS,kR⟩:=jmc hA.small (hA.short q hqm);have hbe:=bO_of hS.say;obtain⟨p,e1,f1⟩:=hA.some hqm hps;have hbp:b=some p:=by rw[<-hbe];exact e1
    have hf0:f=0:=by
     have:=hS.flag;rw[hbp]at this;exact zK this
    have kS:=jps f1 f1;rw[ze rfl]at kS;have kB:=hS.bnd;rw[hbp]at kB;have hfb:fB ec q=bB (some p):=by unfold fB;rw[e1]
    obtain⟨g1,g2,g3,g4,g5,g6,g7,g8,g9,g10,e2⟩:=jn7 (some p);rw[e2]at kS kB hfb;obtain⟨k1,a1,c1,b1,d1,P1,Y1,Z1,k2,a2,c2,b2,d2,P2,Y2,Z2,rfl⟩:=hS.shape;subst hf0;clear hS hbe hbp e1 e2 f1;simp only[hd,zq,go_sem];refine jas ?_;simp only[hd,zq,za,hq,qC,go_sem];refine ja4 kR (by decide) ?_;simp only[go_sem];refine jah 12 ?_;simp only[zq,za,hq,hfb,go_sem];refine ja4 kB (by decide) ?_;simp only[zq,za,hq,hfb,go_sem];refine ja4 kS (by decide) ?_;simp only[go_sem];refine ja8 (i+1) ?_ ?_ rfl (by show Qc.length-(i+1)<Qc.length-i;omega) (by show i+1<=Qc.length;omega)
    ·simp only[h1,Int.natCast_add,go_sem]
    ·exact jar rfl (SubR.refl _)
   ·have hd:decide ((i:Int)<Qc.length)=false:=zw hkl;simp only[hd,zq,go_sem];exact hR _ rfl
theorem sem_one{G:Ctx}{N:Nat}{Q:Exit->St->Prop}{st:St}{c x y:Code}(hs:isSeq 1 c=true)(hp:putN 1 c .skip= .seq x y)(h:SemC G N x (fun e s=>match e with | .normal=>SemC G N (tailN 1 c) Q s | e=>Q e s) st):SemC G N c Q st:=by
 cases c with
 | seq a b=>
  injection hp with h1 _;subst h1;exact SemC.seq h
 | _=>cases hs
theorem us_2n{Q:Exit->St->Prop}{A:Nat}{L:Abs.Rows}(h:∀X,SemC (GH [62,93] []) Tryz.f3.ntmps (tailN 6 (jd8 Tryz.f3)) Q (S2 xs a A [] (X,L))):SemC (GH [62,93] []) Tryz.f3.ntmps (tailN 5 (jd8 Tryz.f3)) Q (S1 [] xs a (A,L)):=by
 refine sem_one rfl rfl ?_;rw[jd7];have h0:=h 0;generalize tailN (5+1) (jd8 Tryz.f3)=c at*;refine SemC.list (goodH [62,93] []) (by decide+kernel) ?_;unfold S1;refine⟨rfl,.inl ?_⟩;simp only[go_sem];refine⟨rfl,.inl ?_⟩;simp only[go_sem];refine⟨rfl,.inr (jgm (e:=31) rfl rfl rfl (by decide) (by decide) (by decide) ?_)⟩;refine⟨rfl,.inl ?_⟩;simp only[go_sem];refine SemC.le ((St.le_em _).trans (jfe [2,3,9,10,12] ?_ ?_ rfl)) h0
 ·simp only[go_sem];rfl
 ·show SubR (rowX 0 [] L) L;exact SubR.of_eq (zp rfl)
end
theorem u_scratch(e:Evid)(qs:List (List (Int×Int)))(xs:List Stp)(a:List (Int×Int)):Ctr G.P 3 [e.iv,.sl (qs.map qC),.sl (xs.map Stp.cl),.sl (a.map pickC)] (· = .bool true):=by
 refine ctrX_of (c:=tailN 0 (jd8 Tryz.f3)) (t:=8) (goodH [62,93] []) Tryz.func3 rfl (by decide+kernel) (qG rfl) rfl ?_;refine SemC.cutsF (goodH [62,93] []) (S1 qs xs a) (P1 e qs xs a) 5 rfl (by decide+kernel) (us_1 (fun i s h1 h2=>⟨i,h1,h2⟩) (fun s h=>h)) ?_;rintro⟨A,L⟩ ⟨hW,hG,hx,ha,hq⟩;dsimp only at hW;rw[jd7];have main:∀X,Dj X (qs.map qC) L->SemC (GH [62,93] []) Tryz.f3.ntmps (tailN 6 (jd8 Tryz.f3)) (fun e s=>match e with | .normal=>s.get 8= .im (.bool true) | .ret=>s.get 8= .im (.bool true) | _=>False) (S2 xs a A qs (X,L)):=by
  intro X hD;refine SemC.cutsF (goodH [62,93] []) (fun i:(Nat×Abs.Rows)×Evid×List (List (Int×Int))=>S2 xs a A i.2.2 i.1) (fun i=>P3 A xs i.2.2 i.2.1 i.1) 1 rfl (by decide+kernel) (us_3 hW hG hD hx ha hq fun X L ec Qc s h1 h2=>⟨((X,L),ec,Qc),h1,h2⟩) ?_;rintro⟨⟨X,L⟩,ec,Qc⟩ h3;dsimp only at h3⊢;rw[jd7];refine SemC.cuts (goodH [62,93] []) (Sb A ec Qc L) 1 rfl (by decide+kernel) (us_4a h3 fun s h=>h) ?_;rw[jd7];obtain⟨hW3,hG3,_⟩:=h3;refine SemC.cutsF (goodH [62,93] []) (Sa A ec Qc L) (fun i=>HasW i.2 i.1 ec Qc/\∀k,(Abs.look i.2 k).isSome->Abs.look L k=none) 1 rfl (by decide+kernel) (us_4c hW3 hG3 fun V L1 s h1 h2 h3=>⟨(V,L1),⟨h1,h2⟩,h3⟩) ?_;rintro⟨V,L1⟩ ⟨hV,hj⟩;rw[jd7];refine SemC.cuts (goodH [62,93] []) (S4 ec Qc) 4 rfl (by decide+kernel) (us_4b hW3 hG3 hV hj fun s h=>h) ?_;rw[jd7];exact SemC.awp (goodH [62,93] []) (by decide+kernel) (us_5 hG3 fun s h=>h)
 by_cases hn:qs=[]
 ·subst hn;exact us_2n fun X=>main X fun h=>absurd rfl h
 ·refine SemC.cutsF (goodH [62,93] []) (fun X:Nat=>S2 xs a A qs (X,L)) (fun X=>Dj X (qs.map qC) L) 1 rfl (by decide+kernel) (us_2 hn hq fun X s h1 h2=>⟨X,h1,h2⟩) ?_;intro X hD;rw[jd7];exact main X hD
end
end Go.Proofs.YtdhlmmoicchgpaaGreat
namespace Go.Abs
section
open Go.RowKit (Below)
def tileB(G:Ctx):Nat->List (Nat×TypeId)->Nat->Bool
 | k,[],n=>k==n
 | k,(o,t)::r,n=>o==k&&tileB G (k+(G.ti t).size) r n
def opens(G:Ctx):Nat->TypeId->Bool
 | 0,_=>false
 | n+1,t=>(G.ti t).size !=0&&match(G.ti t).kind with
  | .it _ | .bl | .str=>(G.ti t).size==1
  | .sl e=>(G.ti t).size==1&&opens G n e
  | .st fs=>tileB G 0 fs (G.ti t).size&&fs.all fun p=>opens G n p.2
  | _=>false
def Fits(G:Ctx):Nat->TypeId->List IV->Prop
 | 0,_,_=>False
 | n+1,t,xs=>match(G.ti t).kind with
  | .it k=>∃i,xs=[.sc (.int k i)]/\(Lit.int k i).wf=true
  | .bl=>∃b,xs=[.sc (.bool b)]
  | .str=>∃s:ByteArray,xs=[.sc (.string s)]/\s.size<=maxLen
  | .sl e=>∃es,xs=[.sl es]/\es.length<=maxLen/\∀c∈es,Fits G n e c
  | .st fs=>xs.length=(G.ti t).size/\∀p∈fs,Fits G n p.2 ((xs.drop p.1).take (G.ti p.2).size)
  | _=>False
theorem jo2{α:Type}{R:Nat->α->Prop}:∀n,(∀i,i<n->∃x,R i x)->∃l:List α,l.length=n/\∀i x,l[i]? =some x->R i x
 | 0,_=>⟨[],rfl,fun i x h=>by simp at h⟩
 | n+1,h=>by
  obtain⟨l,hl,hR⟩:=jo2 n fun i hi=>h i (by omega);obtain⟨x,hx⟩:=h n (by omega);refine⟨l++[x],by simp[hl],fun i y hy=> ?_⟩;rcases zR i l.length with hi | hi
  ·rw[zM hi]at hy;exact hR i y hy
  ·rw[zQ hi]at hy;have hi':i=l.length:=by
    have:=(zC.1 hy).1;simp at this;omega
   subst hi';simp at hy;subst hy;rw[hl];exact hx
theorem RepL.append{w:World}{M:Nat->Nat->Prop}{xs ys:List IV}{us vs:List Value}(h:RepL w M xs us)(h':RepL w M ys vs):RepL w M (xs++ys) (us++vs):=by
 refine⟨by simp[h.1,h'.1],fun k x v hx hv=> ?_⟩;rcases zR k xs.length with hk | hk
 ·rw[zM hk]at hx;rw[zM (by rw[<-h.1];exact hk)]at hv;exact h.2 k x v hx hv
 ·rw[zQ hk]at hx;rw[zQ (by rw[<-h.1];exact hk),<-h.1]at hv;exact h'.2 _ x v hx hv
section
variable{G:Ctx}{H:Type}{enc:TypeId×Value->H}{w:World}{base:Nat}{spare:Nat->Bool}{held:Bool}
abbrev NoM:Nat->Nat->Prop:=fun _ _=>False
theorem jiy(hG:G.Ok){t:TypeId}(h:(G.ti t).size≠0):G.P.cellsOf t=(G.ti t).size:=by
 obtain⟨i,z,hi,hs,_⟩:=hG.info h;simp[Program.cellsOf,hi,hs]
theorem jmo(hG:G.Ok):∀(n m:Nat) (t:TypeId) (cs:List Value) (x:DataW H×List MemPlace),opens G n t=true->DataW.trod enc G.P w base spare held m t cs=some x->
  ∃xs,RepL w NoM xs cs/\(∀y∈xs,y.one=true)/\xs.length=(G.ti t).size/\Fits G n t xs
 | 0,_,_,_,_,ho,_=>by simp[opens]at ho
 | n+1,m,t,cs,x,ho,h=>by
  unfold opens at ho;simp only[zE,zW,ne_eq]at ho;obtain⟨h0,ho⟩:=ho;have one:∀{v:Value} {y:IV},Rep w NoM y v->y.one=true->Fits G (n+1) t [y]->(G.ti t).size=1->cs=[v]->
    ∃xs,RepL w NoM xs cs/\(∀y∈xs,y.one=true)/\xs.length=(G.ti t).size/\Fits G (n+1) t xs:=by
   intro v y h1 h2 h3 h4 h5;subst h5;exact⟨[y],RepL.cons h1 RepL.nil,by simpa using h2,h4.symm,h3⟩
  split at ho
  ·rename_i k hk;obtain⟨i,rfl,_,hwf⟩:=DataW.trod_int (hG.it h0 hk) h;exact one (.sc _ rfl) rfl (by unfold Fits;rw[hk];exact⟨i,rfl,hwf⟩) (by simpa using ho) rfl
  ·rename_i hk;obtain⟨b,rfl,rfl⟩:=DataW.trod_bool (hG.bl h0 hk) h;exact one (.sc _ rfl) rfl (by unfold Fits;rw[hk];exact⟨b,rfl⟩) (by simpa using ho) rfl
  ·rename_i hk;obtain⟨s,rfl,_,hwf⟩:=DataW.trod_string (hG.str h0 hk) h;exact one (.sc _ rfl) rfl (by unfold Fits;rw[hk];exact⟨s,rfl,hwf⟩) (by simpa using ho) rfl
  ·rename_i e hk;simp only[zE,yB]at ho;obtain⟨h1,ho⟩:=ho;rcases DataW.trod_slice (hG.sl h0 hk) h with ⟨rfl,_⟩ | ⟨a,len,cap,elems,rest,m',rfl,rfl,_,_,hlc,hcm,hel,hat,_⟩
   ·exact one (.nil _ _) rfl (by unfold Fits;rw[hk];exact⟨[],rfl,zI _,by simp⟩) h1 rfl
   ·have he0:(G.ti e).size≠0:=by
     cases n with
     | zero=>simp[opens]at ho
     | succ n=>
      unfold opens at ho;simp only[zE,zW,ne_eq]at ho;exact ho.1
    rw[jiy hG he0]at hat;have hex:∀i,i<len->∃p:List IV×List Value,w.cells? base (a.add (i*(G.ti e).size)) (G.ti e).size=some p.2/\RepL w NoM p.1 p.2/\(∀y∈p.1,y.one=true)/\p.1.length=(G.ti e).size/\Fits G n e p.1:=by
     intro i hi;have h3:=hat i hi;rw[zl (by omega)]at h3;obtain⟨cs',h4,h5⟩:=Option.bind_eq_some_iff.1 h3;obtain⟨xs,h6,h7,h8,h9⟩:=jmo hG n _ e cs' _ ho h5;exact⟨⟨xs,cs'⟩,h4,h6,h7,h8,h9⟩
    obtain⟨l,hl,hR⟩:=jo2 len hex;have hmap:∀(i:Nat) c,(l.map (·.1))[i]? =some c->∃us,w.cells? base (a.add (i*(G.ti e).size)) (G.ti e).size=some us/\RepL w NoM c us/\(∀y∈c,y.one=true)/\c.length=(G.ti e).size/\Fits G n e c:=by
     intro i c hc;rw[za]at hc;obtain⟨p,hp,rfl⟩:=zS.1 hc;obtain⟨h3,h4,h5,h6,h7⟩:=hR i p hp;exact⟨p.2,h3,h4,h5,h6,h7⟩
    have hlen:(l.map (·.1)).length=len:=by simpa using hl
    have hfit:Fits G (n+1) t [.sl (l.map (·.1))]:=by
     unfold Fits;rw[hk];refine⟨_,rfl,by omega,fun c hc=> ?_⟩;obtain⟨i,hi⟩:=qM hc;obtain⟨_,_,_,_,_,h7⟩:=hmap i c hi;exact h7
    refine one (y:= .sl (l.map (·.1))) ?_ rfl hfit h1 rfl;by_cases hz:len=0
    ·subst hz;have:l=[]:=zB hl;subst this;exact .nil _ _
    ·have hlist:∀i c j y,(l.map (·.1))[i]? =some c->c[j]? =some y->∃u,w.cell? (a.add (i*(G.ti e).size+j))=some u/\Rep w NoM y u/\y.one=true:=by
      intro i c j y hi hj;obtain⟨us,h3,h4,h5,h6,_⟩:=hmap i c hi;have hjl:=(zC.1 hj).1;obtain⟨_,h7,h8⟩:=World.cells?_some h3;have hu:us[j]? =some (us[j]'(by omega)):=zl (by omega);refine⟨_,?_,h4.2 j y _ hj hu,h5 y (zG hj)⟩;have:=h8 j (by omega);rw[Go.Deep.add_add]at this;rw[this,hu]
     have hsp:a=⟨a.block,a.off,none⟩:=by
      have hg:(l.map (·.1))[0]? =some ((l.map (·.1))[0]'(by omega)):=zl (by omega);obtain⟨us,_,_,_,h6,_⟩:=hmap 0 _ hg;have hg2:((l.map (·.1))[0]'(by omega))[0]? =some (((l.map (·.1))[0]'(by omega))[0]'(by omega)):=zl (by omega);obtain⟨u,h3,_⟩:=hlist 0 _ 0 _ hg hg2;simp[Addr.add]at h3;have:=World.cell?_spot h3;cases a;simp_all
     have hadd:∀k,a.add k=⟨a.block,a.off+k,none⟩:=fun k=>by
      obtain⟨b,o,sp⟩:=a;cases hsp;unfold Addr.add;split
      ·rename_i hk0;subst hk0;rfl
      ·rfl
     have hgo:∀(i:Nat) c (j:Nat) y,(l.map (·.1))[i]? =some c->c[j]? =some y->w.cell? ⟨a.block,a.off+i*(G.ti e).size+j,none⟩=some ((w.cell? ⟨a.block,a.off+i*(G.ti e).size+j,none⟩).getD undef)/\
       y.one=true/\Rep w NoM y ((w.cell? ⟨a.block,a.off+i*(G.ti e).size+j,none⟩).getD undef):=by
      intro i c j y hi hj;obtain⟨u,h3,h4,h5⟩:=hlist i c j y hi hj;rw[hadd,<-jb]at h3;rw[h3];exact⟨rfl,h5,h4⟩
     have:=Rep.sl (w:=w) (M:=NoM) (l.map (·.1)) (G.ti e).size a.block a.off cap (fun i j=>(w.cell? ⟨a.block,a.off+i*(G.ti e).size+j,none⟩).getD undef)
      (by intro hn;rw[hn]at hlen;simp at hlen;omega)
      (fun c hc=>by obtain⟨i,hi⟩:=qM hc;obtain⟨_,_,_,_,h6,_⟩:=hmap i c hi;exact h6)
      (by omega)
      (fun i c j y hi hj=>⟨(hgo i c j y hi hj).2.1,(hgo i c j y hi hj).1,fun h=>h⟩)
      (fun i c j y hi hj=>(hgo i c j y hi hj).2.2)
     rw[hlen,<-hsp]at this;exact this
  ·rename_i fs hk;simp only[zE]at ho;obtain⟨ht,ho⟩:=ho;obtain⟨gs,hu,hgs⟩:=hG.st h0 hk;obtain⟨xs,m',rfl,_,hcl,hxl,hat⟩:=DataW.trod_struct hu h;rw[jiy hG h0]at hcl;have hfield:∀p∈fs,∃ys,RepL w NoM ys ((cs.drop p.1).take (G.ti p.2).size)/\(∀y∈ys,y.one=true)/\ys.length=(G.ti p.2).size/\Fits G n p.2 ys:=by
    intro p hp;obtain⟨i,hi⟩:=qM hp;rw[<-hgs,za]at hi;obtain⟨f,hf,rfl⟩:=zS.1 hi;have hf':gs[i]? =some f:=by simpa using hf
    have h3:=hat i f hf';have hil:i<gs.size:=(zH.1 hf').1;rw[zl (by omega)]at h3;have hof:=List.all_eq_true.1 ho _ hp;have hs0:(G.ti f.type).size≠0:=by
     cases n with
     | zero=>simp[opens]at hof
     | succ n=>
      simp only[]at hof;unfold opens at hof;simp only[zE,zW,ne_eq]at hof;exact hof.1
    rw[jiy hG hs0]at h3;exact jmo hG n _ _ _ _ hof h3
   have build:∀(r:List (Nat×TypeId)) (k:Nat),(∀p∈r,p∈fs)->tileB G k r (G.ti t).size=true->k<=cs.length->∃zs,RepL w NoM zs (cs.drop k)/\(∀y∈zs,y.one=true)/\
     ∀p∈r,k<=p.1/\Fits G n p.2 ((zs.drop (p.1-k)).take (G.ti p.2).size):=by
    intro r
    induction r with
    | nil=>
     intro k _ htl _;simp only[tileB,yB]at htl;refine⟨[],?_,by simp,by simp⟩;rw[qq (by omega)];exact RepL.nil
    | cons p r ih=>
     obtain⟨o,u⟩:=p;intro k hm htl hkl;simp only[tileB,zE,yB]at htl;obtain⟨rfl,htl⟩:=htl;obtain⟨ys,h3,h4,h5,h6⟩:=hfield (o,u) (hm _ (z7 ..));have hle:o+(G.ti u).size<=cs.length:=by
      have:=h3.1;simp at this h5;omega
     obtain⟨zs,h7,h8,h9⟩:=ih _ (fun p hp=>hm p (qz _ hp)) htl hle;refine⟨ys++zs,?_,?_,?_⟩
     ·have:=h3.append h7;rw[<-vt,yG]at this;exact this
     ·intro y hy;rcases qr.1 hy with h | h
      ·exact h4 y h
      ·exact h8 y h
     ·intro p hp;rcases zO.1 hp with rfl | hp
      ·refine⟨zn _,?_⟩;simp only[Nat.sub_self,yE];rw[<-h5]
       simpa using h6
      ·obtain⟨h10,h11⟩:=h9 p hp;refine⟨by omega,?_⟩;rw[List.drop_append,qq (by simp at h5;omega),List.nil_append];have e:p.1-o-ys.length=p.1-(o+(G.ti u).size):=by simp at h5;omega
       rw[e];exact h11
   obtain⟨zs,h7,h8,h9⟩:=build fs 0 (fun _ h=>h) ht (zI _);rw[yE]at h7;refine⟨zs,h7,h8,by rw[h7.1,hcl],?_⟩;unfold Fits;rw[hk];exact⟨by rw[h7.1,hcl],fun p hp=>by simpa using (h9 p hp).2⟩
  ·cases ho
end
end
section
open Go.RowKit (Below)
open Go.ChangeShapes Go.WideShapes
def FitsA(G:Ctx)(n:Nat)(t:TypeId)(y:IV):Prop:=
 if aggK (G.ti t).kind=true then ∃xs,y= .agg xs/\Fits G n t xs else Fits G n t [y]
def FitsL(G:Ctx)(n:Nat):List TypeId->List IV->Prop
 | [],[]=>True
 | t::ts,y::ys=>FitsA G n t y/\FitsL G n ts ys
 | _,_=>False
section
variable{G:Ctx}{H:Type}{enc:TypeId×Value->H}{w:World}{base:Nat}{spare:Nat->Bool}{held:Bool}{r:Reach}{b0 n:Nat}
theorem opens_ne{t:TypeId}(h:opens G n t=true):(G.ti t).size≠0:=by
 cases n with
 | zero=>simp[opens]at h
 | succ n=>
  unfold opens at h;simp only[zE,zW,ne_eq]at h;exact h.1
theorem open_arg(hG:G.Ok){t:TypeId}{v:Value}{d:DataW H}{p:List MemPlace}(ho:opens G n t=true)(hv:Value.okWide G.P w r b0 t v)(h:DataW.Trod enc G.P w base spare held t v d p):
  ∃y,Rep w NoM y v/\FitsA G n t y:=by
 obtain⟨m,hm⟩:=h;have h0:=opens_ne ho;obtain⟨xs,h1,h2,h3,h4⟩:=jmo hG n m t _ _ ho hm;have single:v.cells= #[v]->aggK (G.ti t).kind=false->∃y,Rep w NoM y v/\FitsA G n t y:=by
  intro hc hk;rw[hc]at h1;obtain⟨hl,hr⟩:=h1
  match xs,hl with
  | [y],_=>
   refine⟨y,hr 0 y v rfl rfl,?_⟩;unfold FitsA;rw[hk];exact h4
 have ho':=ho;cases n with
 | zero=>simp[opens]at ho
 | succ n=>
  unfold opens at ho';simp only[zE]at ho';obtain⟨_,ho'⟩:=ho';split at ho'
  ·rename_i k hk;obtain⟨i,rfl⟩:=okWide_int (hG.it h0 hk) hv;exact single rfl (by rw[hk];rfl)
  ·rename_i hk;obtain⟨i,rfl⟩:=okWide_bool (hG.bl h0 hk) hv;exact single rfl (by rw[hk];rfl)
  ·rename_i hk;obtain⟨i,rfl⟩:=okWide_string (hG.str h0 hk) hv;exact single rfl (by rw[hk];rfl)
  ·rename_i e hk;obtain⟨a,l,c,rfl⟩:=okWide_slice (hG.sl h0 hk) hv;exact single rfl (by rw[hk];rfl)
  ·rename_i fs hk;obtain⟨gs,hu,_⟩:=hG.st h0 hk;obtain⟨cs,rfl,_⟩:=okWide_struct hu hv;refine⟨.agg xs,RepL.agg (by simpa [Value.cells]using h1) h2,?_⟩;unfold FitsA;rw[zp (by rw[hk];rfl)];exact⟨xs,rfl,h4⟩
  ·cases ho'
theorem jo6(hG:G.Ok):∀{ts:List TypeId} {vs:List Value} {ds:List (DataW H)} {p:List MemPlace},(∀t∈ts,opens G n t=true)->
  (∀(j:Nat) t v,ts[j]? =some t->vs[j]? =some v->Value.okWide G.P w r b0 t v)->DataW.TrodAll enc G.P w base spare held ts vs ds p->∃ys,RepL w NoM ys vs/\FitsL G n ts ys
 | [],[],[],_,_,_,_=>⟨[],RepL.nil,trivial⟩
 | t::ts,v::vs,d::ds,_,ho,hv,⟨_,_,h1,h2,_⟩=>by
  obtain⟨y,h3,h4⟩:=open_arg hG (ho t (z7 ..)) (hv 0 t v rfl rfl) h1;obtain⟨ys,h5,h6⟩:=jo6 hG (fun t ht=>ho t (qz _ ht)) (fun j t v hj hk=>hv (j+1) t v (by simpa using hj) (by simpa using hk)) h2;exact⟨y::ys,RepL.cons h3 h5,h4,h6⟩
theorem jon{P:Program}(hl:laidOutB P=true){W W':World}(hb:Below W.heap.size W W'):∀{ts:List TypeId} {vs:List Value} {ds:List (DataW H)} {ps:List MemPlace},
  (∀t∈ts,P.readableRec t=true/\t<P.types.size)->DataW.TrodAll enc P W 0 (fun _=>true) true ts vs ds ps->(∀x∈ps,x.block<W.heap.size)->
  DataW.TrodAll enc P W' 0 (fun b=>decide (b<W.heap.size)) true ts vs ds ps
 | [],[],[],_,_,h,_=>h
 | t::ts,v::vs,d::ds,_,ht,⟨p,q,h1,h2,e⟩,hlt=>by
  subst e;obtain⟨h3,h4⟩:=ht t (z7 ..);exact⟨p,q,Go.RowKit.Below.trod hl h3 h4 h1 hb (fun x hx=>hlt x (List.mem_append_left _ hx)),
   jon hl hb (fun t h=>ht t (qz _ h)) h2 (fun x hx=>hlt x (List.mem_append_right _ hx)),rfl⟩
theorem jjx{P:Program}:∀{ts:List TypeId} {vs:List Value} {ds:List (DataW H)} {ps:List MemPlace},DataW.TrodAll enc P w base spare held ts vs ds ps->ds.length=ts.length
 | [],[],[],_,_=>rfl
 | _::_,_::_,_::_,_,⟨_,_,_,h2,_⟩=>by simp[jjx h2]
theorem law_calls(hG:G.Good)(hl:laidOutB G.P=true){f:FuncId}{fn:Func}{s:ChangeSpec}{tb:TypeId}(n:Nat)(ts:List TypeId)
  (hp:fn.params.toList=ts) (hrt:fn.resultTypes.toList=[tb]) (hsz:fn.resultTypes.size=1) (htb:G.P.underlying tb=some .bool)
  (hts:(ts.all fun t=>opens G n t&&G.P.readableRec t&&decide (t<G.P.types.size))=true)
  (hvars:s.vars=[]) (hspec:∀ds:List (DataW H),ds.length=ts.length->s.fn H ds={results:=[.lit (.bool true)],args:=ds})
  (hc:∀ys,FitsL G n ts ys->Ctr G.P f ys (· = .bool true)) {W:World} {args:Array Value} {ds gs:List (DataW H)} {before:List MemPlace}
  (hval:∀(j:Nat) t v,fn.params[j]? =some t->args[j]? =some v->Value.okWide G.P W .any b0 t v) (hW:DataW.Whole enc G.P fn.params.toList s.vars false W args.toList ds gs before):
  Calls G.P f args W fun e W'=>∃v,e= .returned v/\s.post enc G.P fn false true false false W args v W':=by
 have hts':∀t∈ts,opens G n t=true/\G.P.readableRec t=true/\t<G.P.types.size:=fun t ht=>by
  have:=List.all_eq_true.1 hts t ht;simp only[zE,zP]at this;exact⟨this.1.1,this.1.2,this.2⟩
 have hW0:=hW;obtain⟨p,q,hA,hV,hpq,hfz,hnd⟩:=hW;rw[hvars]at hV;obtain⟨rfl,rfl⟩:=trodVars_none hV;rw[hp]at hA;obtain⟨ys,h1,h2⟩:=jo6 hG.ok (fun t ht=>(hts' t ht).1) (fun j t v hj hk=>hval j t v (by rw[<-qh,hp];exact hj) (by rw[<-qh];exact hk)) hA;have hcall:=hc ys h2 W NoM args.toList (fun b o h=>h.elim) h1;rw[Array.toArray_toList]at hcall;refine hcall.mono fun e W' ⟨r,v,hr,he,hv,hb⟩=> ?_;subst hr;obtain rfl:=Rep.sc_inv hv;refine⟨_,he,?_⟩;have hsp:=hspec ds (jjx hA);have hlt:∀x∈before,x.block<W.heap.size:=fun x hx=>hW0.lt x hx;refine⟨ds,[],before,[],p,[],hW0,?_,?_,?_,World.keptBut_mono (fun p hp=>⟨hp,?_⟩) (hb.frame (· ∈before)),fun h=>by cases h⟩
 ·rw[hrt,hsz,qw,hsp];exact trodAll_mk1 (Go.RowKit.shut_bool htb _)
 ·rw[qw,hsp,hp];exact jon hl hb (fun t ht=>(hts' t ht).2) hA (fun x hx=>hlt x (by rw[hpq];simpa using hx))
 ·rw[qw,hsp,hvars];rfl
 ·rw[hpq,qw]at hp;exact .inr (.inl hp)
end
end
end Go.Abs
namespace Go.Proofs.YtdhlmmoicchgpaaGreat
section
open Go.Abs
theorem jbl{t:TypeId}(hk:(G.ti t).kind= .it .i64):∀{n:Nat} {xs:List IV},Fits G n t xs->∃i,xs=[.int i]
 | 0,_,h=>h.elim
 | n+1,xs,h=>by
  unfold Fits at h;rw[hk]at h;obtain⟨i,rfl,_⟩:=h;exact⟨i,rfl⟩
theorem fits_bool{t:TypeId}(hk:(G.ti t).kind= .bl):∀{n:Nat} {xs:List IV},Fits G n t xs->∃i,xs=[.bool i]
 | 0,_,h=>h.elim
 | n+1,xs,h=>by
  unfold Fits at h;rw[hk]at h;exact h
theorem list_of{α:Type}{f:α->List IV}:∀{es:List (List IV)},(∀c∈es,∃p,c=f p)->∃l:List α,es=l.map f
 | [],_=>⟨[],rfl⟩
 | c::es,h=>by
  obtain⟨p,rfl⟩:=h c (z7 ..);obtain⟨l,rfl⟩:=list_of fun c hc=>h c (qz _ hc);exact⟨p::l,rfl⟩
theorem je4{α:Type}(f:α->List IV){t e:TypeId}(hk:(G.ti t).kind= .sl e)(hf:∀{n:Nat} (c:List IV),Fits G n e c->∃p,c=f p):∀{n:Nat} {xs:List IV},Fits G n t xs->∃l:List α,xs=[.sl (l.map f)]
 | 0,_,h=>h.elim
 | n+1,xs,h=>by
  unfold Fits at h;rw[hk]at h;obtain⟨es,rfl,_,h⟩:=h;obtain⟨l,rfl⟩:=list_of fun c hc=>hf c (h c hc);exact⟨l,rfl⟩
theorem fits_st{t:TypeId}{fs:List (Nat×TypeId)}(hk:(G.ti t).kind= .st fs):∀{n:Nat} {xs:List IV},Fits G n t xs->xs.length=(G.ti t).size/\∃m,∀p∈fs,Fits G m p.2 ((xs.drop p.1).take (G.ti p.2).size)
 | 0,_,h=>h.elim
 | n+1,xs,h=>by
  unfold Fits at h;rw[hk]at h;exact⟨h.1,n,h.2⟩
theorem fitsA_struct{t:TypeId}{n:Nat}{y:IV}(hk:aggK (G.ti t).kind=true)(h:FitsA G n t y):∃xs,y= .agg xs/\Fits G n t xs:=by
 unfold FitsA at h
 rwa [zp hk]at h
theorem jko{t:TypeId}{n:Nat}{y:IV}(hk:aggK (G.ti t).kind=false)(h:FitsA G n t y):Fits G n t [y]:=by
 unfold FitsA at h
 rwa [zu (by rw[hk];simp)]at h
theorem of_len2{α:Type}:∀{l:List α},l.length=2->∃x0 x1,l=[x0,x1]
 | [x0,x1],_=>⟨x0,x1,rfl⟩
theorem of_len3{α:Type}:∀{l:List α},l.length=3->∃x0 x1 x2,l=[x0,x1,x2]
 | [x0,x1,x2],_=>⟨x0,x1,x2,rfl⟩
theorem of_len4{α:Type}:∀{l:List α},l.length=4->∃x0 x1 x2 x3,l=[x0,x1,x2,x3]
 | [x0,x1,x2,x3],_=>⟨x0,x1,x2,x3,rfl⟩
theorem jh5{n:Nat}{t:TypeId}{ts:List TypeId}:∀{ys:List IV},FitsL G n (t::ts) ys->∃y ys',ys=y::ys'/\FitsA G n t y/\FitsL G n ts ys'
 | y::ys',h=>⟨y,ys',rfl,h⟩
theorem fitsL_nil{n:Nat}:∀{ys:List IV},FitsL G n [] ys->ys=[]
 | [],_=>rfl
end
section
open Go.Abs
theorem of_len6{α:Type}:∀{l:List α},l.length=6->∃x0 x1 x2 x3 x4 x5,l=[x0,x1,x2,x3,x4,x5]
 | [x0,x1,x2,x3,x4,x5],_=>⟨x0,x1,x2,x3,x4,x5,rfl⟩
theorem of_len8{α:Type}:∀{l:List α},l.length=8->∃x0 x1 x2 x3 x4 x5 x6 x7,l=[x0,x1,x2,x3,x4,x5,x6,x7]
 | [x0,x1,x2,x3,x4,x5,x6,x7],_=>⟨x0,x1,x2,x3,x4,x5,x6,x7,rfl⟩
theorem fits_Place:∀{n:Nat} {xs:List IV},Fits G n 82 xs->∃p:Place,xs=p.c
 | 0,_,h=>h.elim
 | n+1,xs,h=>by
  unfold Fits at h;have hk:(G.ti 82).kind= .st [(0,3),(1,3),(2,3)]:=rfl;rw[hk]at h;obtain⟨hl,hf⟩:=h;have hl:xs.length=3:=hl;obtain⟨x0,x1,x2,rfl⟩:=of_len3 hl;have h0:Fits G n 3 [x0]:=hf (0,3) (by simp);obtain⟨i0,e0⟩:=jbl rfl h0;cases e0;have h1:Fits G n 3 [x1]:=hf (1,3) (by simp);obtain⟨i1,e1⟩:=jbl rfl h1;cases e1;have h2:Fits G n 3 [x2]:=hf (2,3) (by simp);obtain⟨i2,e2⟩:=jbl rfl h2;cases e2;exact⟨⟨i0,i1,i2⟩,rfl⟩
theorem jof:∀{n:Nat} {xs:List IV},Fits G n 44 xs->∃p:Move,xs=p.c
 | 0,_,h=>h.elim
 | n+1,xs,h=>by
  unfold Fits at h;have hk:(G.ti 44).kind= .st [(0,3),(1,3),(2,3),(3,3),(4,3),(5,4)]:=rfl;rw[hk]at h;obtain⟨hl,hf⟩:=h;have hl:xs.length=6:=hl;obtain⟨x0,x1,x2,x3,x4,x5,rfl⟩:=of_len6 hl;have h0:Fits G n 3 [x0]:=hf (0,3) (by simp);obtain⟨i0,e0⟩:=jbl rfl h0;cases e0;have h1:Fits G n 3 [x1]:=hf (1,3) (by simp);obtain⟨i1,e1⟩:=jbl rfl h1;cases e1;have h2:Fits G n 3 [x2]:=hf (2,3) (by simp);obtain⟨i2,e2⟩:=jbl rfl h2;cases e2;have h3:Fits G n 3 [x3]:=hf (3,3) (by simp);obtain⟨i3,e3⟩:=jbl rfl h3;cases e3;have h4:Fits G n 3 [x4]:=hf (4,3) (by simp);obtain⟨i4,e4⟩:=jbl rfl h4;cases e4;have h5:Fits G n 4 [x5]:=hf (5,4) (by simp);obtain⟨i5,e5⟩:=fits_bool rfl h5;cases e5;exact⟨⟨i0,i1,i2,i3,i4,i5⟩,rfl⟩
theorem jog:∀{n:Nat} {xs:List IV},Fits G n 46 xs->∃p:Cert,xs=p.c
 | 0,_,h=>h.elim
 | n+1,xs,h=>by
  unfold Fits at h;have hk:(G.ti 46).kind= .st [(0,3),(1,3),(2,3),(3,3),(4,3),(5,3)]:=rfl;rw[hk]at h;obtain⟨hl,hf⟩:=h;have hl:xs.length=6:=hl;obtain⟨x0,x1,x2,x3,x4,x5,rfl⟩:=of_len6 hl;have h0:Fits G n 3 [x0]:=hf (0,3) (by simp);obtain⟨i0,e0⟩:=jbl rfl h0;cases e0;have h1:Fits G n 3 [x1]:=hf (1,3) (by simp);obtain⟨i1,e1⟩:=jbl rfl h1;cases e1;have h2:Fits G n 3 [x2]:=hf (2,3) (by simp);obtain⟨i2,e2⟩:=jbl rfl h2;cases e2;have h3:Fits G n 3 [x3]:=hf (3,3) (by simp);obtain⟨i3,e3⟩:=jbl rfl h3;cases e3;have h4:Fits G n 3 [x4]:=hf (4,3) (by simp);obtain⟨i4,e4⟩:=jbl rfl h4;cases e4;have h5:Fits G n 3 [x5]:=hf (5,3) (by simp);obtain⟨i5,e5⟩:=jbl rfl h5;cases e5;exact⟨⟨i0,i1,i2,i3,i4,i5⟩,rfl⟩
theorem jkm:∀{n:Nat} {xs:List IV},Fits G n 48 xs->∃p:Recall,xs=p.c
 | 0,_,h=>h.elim
 | n+1,xs,h=>by
  unfold Fits at h;have hk:(G.ti 48).kind= .st [(0,3),(1,3)]:=rfl;rw[hk]at h;obtain⟨hl,hf⟩:=h;have hl:xs.length=2:=hl;obtain⟨x0,x1,rfl⟩:=of_len2 hl;have h0:Fits G n 3 [x0]:=hf (0,3) (by simp);obtain⟨i0,e0⟩:=jbl rfl h0;cases e0;have h1:Fits G n 3 [x1]:=hf (1,3) (by simp);obtain⟨i1,e1⟩:=jbl rfl h1;cases e1;exact⟨⟨i0,i1⟩,rfl⟩
theorem jkn:∀{n:Nat} {xs:List IV},Fits G n 50 xs->∃p:Purity,xs=p.c
 | 0,_,h=>h.elim
 | n+1,xs,h=>by
  unfold Fits at h;have hk:(G.ti 50).kind= .st [(0,3),(1,3),(2,3),(3,3)]:=rfl;rw[hk]at h;obtain⟨hl,hf⟩:=h;have hl:xs.length=4:=hl;obtain⟨x0,x1,x2,x3,rfl⟩:=of_len4 hl;have h0:Fits G n 3 [x0]:=hf (0,3) (by simp);obtain⟨i0,e0⟩:=jbl rfl h0;cases e0;have h1:Fits G n 3 [x1]:=hf (1,3) (by simp);obtain⟨i1,e1⟩:=jbl rfl h1;cases e1;have h2:Fits G n 3 [x2]:=hf (2,3) (by simp);obtain⟨i2,e2⟩:=jbl rfl h2;cases e2;have h3:Fits G n 3 [x3]:=hf (3,3) (by simp);obtain⟨i3,e3⟩:=jbl rfl h3;cases e3;exact⟨⟨i0,i1,i2,i3⟩,rfl⟩
theorem fits_Evid:∀{n:Nat} {xs:List IV},Fits G n 28 xs->∃p:Evid,xs=p.c
 | 0,_,h=>h.elim
 | n+1,xs,h=>by
  unfold Fits at h;have hk:(G.ti 28).kind= .st [(0,3),(1,3),(2,3),(3,22),(4,23),(5,24),(6,25),(7,26)]:=rfl;rw[hk]at h;obtain⟨hl,hf⟩:=h;have hl:xs.length=8:=hl;obtain⟨x0,x1,x2,x3,x4,x5,x6,x7,rfl⟩:=of_len8 hl;have h0:Fits G n 3 [x0]:=hf (0,3) (by simp);obtain⟨i0,e0⟩:=jbl rfl h0;cases e0;have h1:Fits G n 3 [x1]:=hf (1,3) (by simp);obtain⟨i1,e1⟩:=jbl rfl h1;cases e1;have h2:Fits G n 3 [x2]:=hf (2,3) (by simp);obtain⟨i2,e2⟩:=jbl rfl h2;cases e2;have h3:Fits G n 22 [x3]:=hf (3,22) (by simp);obtain⟨i3,e3⟩:=je4 Place.c rfl (fun c hc=>fits_Place hc) h3;cases e3;have h4:Fits G n 23 [x4]:=hf (4,23) (by simp);obtain⟨i4,e4⟩:=je4 Move.c rfl (fun c hc=>jof hc) h4;cases e4;have h5:Fits G n 24 [x5]:=hf (5,24) (by simp);obtain⟨i5,e5⟩:=je4 Cert.c rfl (fun c hc=>jog hc) h5;cases e5;have h6:Fits G n 25 [x6]:=hf (6,25) (by simp);obtain⟨i6,e6⟩:=je4 Recall.c rfl (fun c hc=>jkm hc) h6;cases e6;have h7:Fits G n 26 [x7]:=hf (7,26) (by simp);obtain⟨i7,e7⟩:=je4 Purity.c rfl (fun c hc=>jkn hc) h7;cases e7;exact⟨⟨i0,i1,i2,i3,i4,i5,i6,i7⟩,rfl⟩
theorem fitsA_Evid{n:Nat}{y:IV}(h:FitsA G n 28 y):∃e:Evid,y=e.iv:=by
 obtain⟨_,rfl,g⟩:=fitsA_struct rfl h;obtain⟨e,rfl⟩:=fits_Evid g;exact⟨e,rfl⟩
end
section
open Go.Abs
theorem joe:∀{n:Nat} {xs:List IV},Fits G n 84 xs->∃p:Int×Int,xs=pickC p
 | 0,_,h=>h.elim
 | n+1,xs,h=>by
  unfold Fits at h;have hk:(G.ti 84).kind= .st [(0,3),(1,3)]:=rfl;rw[hk]at h;obtain⟨hl,hf⟩:=h;have hl:xs.length=2:=hl
  match xs,hl with
  | [x0,x1],_=>
   have h0:Fits G n 3 [x0]:=hf (0,3) (by simp);obtain⟨i0,e0⟩:=jbl rfl h0;cases e0;have h1:Fits G n 3 [x1]:=hf (1,3) (by simp);obtain⟨i1,e1⟩:=jbl rfl h1;cases e1;exact⟨(i0,i1),rfl⟩
theorem fitsA_picks{n:Nat}{y:IV}(h:FitsA G n 31 y):∃l:List (Int×Int),y= .sl (l.map pickC):=by
 obtain⟨l,e⟩:=je4 pickC rfl (fun _ hc=>joe hc) (jko rfl h);cases e;exact⟨l,rfl⟩
end
section
open Go.Abs
theorem ol19{α:Type}:∀{l:List α},l.length=19->∃x0 x1 x2 x3 x4 x5 x6 x7 x8 x9 y0 y1 y2 y3 y4 y5 y6 y7 y8,l=[x0,x1,x2,x3,x4,x5,x6,x7,x8,x9,y0,y1,y2,y3,y4,y5,y6,y7,y8]
 | [x0,x1,x2,x3,x4,x5,x6,x7,x8,x9,y0,y1,y2,y3,y4,y5,y6,y7,y8],_=>⟨x0,x1,x2,x3,x4,x5,x6,x7,x8,x9,y0,y1,y2,y3,y4,y5,y6,y7,y8,rfl⟩
theorem fits_Stp{n:Nat}{xs:List IV}(h:Fits G n 52 xs):∃x:Stp,xs=x.cl:=by
 obtain⟨hl,m,hf⟩:=fits_st (t:=52) (fs:=[(0,3),(1,44),(7,46),(13,48),(15,50)]) rfl h;obtain⟨x0,x1,x2,x3,x4,x5,x6,x7,x8,x9,y0,y1,y2,y3,y4,y5,y6,y7,y8,rfl⟩:=ol19 (show xs.length=19 from hl);have h0:Fits G m 3 [x0]:=hf (0,3) (by simp);obtain⟨i0,e0⟩:=jbl rfl h0;cases e0;have h1:Fits G m 44 [x1,x2,x3,x4,x5,x6]:=hf (1,44) (by simp);obtain⟨i1,e1⟩:=jof h1;have h2:Fits G m 46 [x7,x8,x9,y0,y1,y2]:=hf (7,46) (by simp);obtain⟨i2,e2⟩:=jog h2;have h3:Fits G m 48 [y3,y4]:=hf (13,48) (by simp);obtain⟨i3,e3⟩:=jkm h3;have h4:Fits G m 50 [y5,y6,y7,y8]:=hf (15,50) (by simp);obtain⟨i4,e4⟩:=jkn h4;refine⟨⟨i0,i1,i2,i3,i4⟩,?_⟩;unfold Stp.cl;dsimp only;rw[<-e1,<-e2,<-e3,<-e4];rfl
theorem fitsA_steps{n:Nat}{y:IV}(h:FitsA G n 30 y):∃l:List Stp,y= .sl (l.map Stp.cl):=by
 obtain⟨l,e⟩:=je4 Stp.cl rfl (fun _ hc=>fits_Stp hc) (jko rfl h);cases e;exact⟨l,rfl⟩
theorem fitsA_qs{n:Nat}{y:IV}(h:FitsA G n 29 y):∃l:List (List (Int×Int)),y= .sl (l.map qC):=by
 obtain⟨l,e⟩:=je4 qC rfl (fun _ hc=>je4 pickC rfl (fun _ hc=>joe hc) hc) (jko rfl h);cases e;exact⟨l,rfl⟩
