/- A part of the proof. No further condition. -/
import Derived.Test.YtjcjcpebocbonaaGreatKY25
set_option linter.all false
set_option maxRecDepth 10000000
set_option maxHeartbeats 16000000
namespace Go.Proofs.YtjcjcpebocbonaaGreat
section
set_option maxRecDepth 1000000
open Go.Abs
open Go.LP (Rw RT tsum)
attribute [local go_sem] ints ic big frac fc rwC tmC Evid.c Place.c Move.c Cert.c Recall.c Purity.c
theorem jpm{M:Nat}{fr:Int}{mat:Nat}{ms:List Move}:∀k,(jbj M fr mat ms k).length<=k
 | 0=>zu _
 | k+1=>by
  have:=jpm (M:=M) (fr:=fr) (mat:=mat) (ms:=ms) k;rw[jbj];split
  ·split
   ·omega
   ·rw[zB,List.length_singleton];omega
  ·omega
theorem jg3{M:Nat}{ms:List Move}{mv:Nat}{x:Move}:∀k,(jev M ms mv x k).length=k
 | 0=>rfl
 | k+1=>by rw[jev,zB,jg3 k];rfl
section
variable{L:Abs.Rows}{nm:MN}{e:Evid}{ws:List Rw}{os:List (List IV)}{M:Nat}
theorem e_stock(h:HasM L nm e ws os)(hM:e.mats=(M:Int))(mv:Nat)(x:Move)(hx:e.moves[mv]? =some x)(hm:mv<=200)(k4:M<=6)(hl:ws.length<=5000)(l3:e.moves.length<=200)(k3:binF e x=false):
  CtrH G.P 134 [.loc (hp nm.d) 10 0 0,.im (.int mv)] L (fun r L'=>r= .im (.tup [])/\∃(c9:MN) (e4:List (List IV)),c9.d=nm.d/\HasM L' c9 e (ws++jev M e.moves mv x M) e4):=by
 have hb:=h.blk;have F1:=bB hb;have c0:=h.hd;simp only[Evid.c,hM]at c0;have h8:(mv:Int)<e.moves.length:=by have:=(zr.1 hx).1;omega
 have h0:(0:Int)<=mv:=by omega
 obtain⟨kd,hkd⟩:∃kd:Int,kd=if x.all=true then 2 else 0:=⟨_,rfl⟩
 rcases hal:x.all with _ | _
 all_goals
  refine jap [66] [75] [] Tryz.func134 ?_;simp only[c0,hM,h8,h0,hx,hal,zq,zw,Int.toNat_natCast,F1,go_sem];have b6:=hkd;rw[hal]at hkd;simp only[yc,qt,qD]at hkd;refine jar [0,1,4,5,25,26] (fun g:(Nat×MN×List (List IV))×Abs.Rows=>⟨[(0,.loc (hp nm.d) 10 0 0),(1,.im (.int mv)),(4,.loc 4 6 0 0),(5,.im (.int kd)),(25,.im (.int M)),(26,.im (.int g.1.1))],(4,6,[x.c])::g.2,[]⟩)
   (fun g=>g.1.1<=M/\g.1.2.1.d=nm.d/\HasM g.2 g.1.2.1 e (ws++jev M e.moves mv x g.1.1) g.1.2.2) (fun g=>M-g.1.1) ((0,nm,os),L) ?_ ?_ rfl ⟨zG _,rfl,by show HasM L nm e (ws++[]) os;rw[qu];exact h⟩ ?_
  ·simp only[hkd,hal,Int.natCast_zero,go_sem]
  ·simp only[hal,go_sem];exact ja5
  clear F1 c0 hb h;rintro⟨⟨i,e5,e3⟩,R⟩ ⟨hi,b5,hR⟩;dsimp only at hi b5 hR;have bR:=hR.blk;have F1:=bB bR;have c0:=hR.hd;rw[b5]at c0;simp only[Evid.c,hM]at c0;rcases zU i M with hlti | hlti
  ·have c5:decide ((i:Int)<M)=true:=dTo;have e1:=ja8 ((i:Int)+1);have h6:=ja8 ((mv:Int)+1);have h4:(mv:Int)+1<=e.moves.length:=by omega
   have k7:(mv:Int)+1=((mv+1:Nat):Int):=rfl;have h5:((e.moves.map Move.c).all fun c=>c.length==6)=true:=List.all_eq_true.2 fun c hc=>by
    obtain⟨z,_,rfl⟩:=z8.1 hc;rfl
   have h7:(0:Int)<=(mv:Int)+1:=by omega
   have h3:((mv:Int)+1).toNat=mv+1:=by omega
   have h9:(List.take (mv+1) (e.moves.map Move.c)).length=mv+1:=by rw[qb,zw];omega
   simp only[c5,c0,h6,h4,h5,h7,h3,h9,Nat.sub_zero,zw,F1,go_sem];refine jar [0,1,4,5,6,7,25,26,36,37,38] (fun g:(Nat×Nat)×Abs.Rows=>⟨[(0,.loc (hp nm.d) 10 0 0),(1,.im (.int mv)),(4,.loc 4 6 0 0),(5,.im (.int kd)),(6,.im (.int i)),(7,sA g.1.2 (jbj M x.fr i e.moves g.1.1).length),(25,.im (.int M)),(26,.im (.int i)),(36,.im (.sl (List.take (mv+1) (e.moves.map Move.c)))),(37,.im (.int ((mv+1:Nat):Int))),(38,.im (.int g.1.1))],(4,6,[x.c])::g.2,[]⟩)
    (fun g=>g.1.1<=mv+1/\blks g.2/\SubR R g.2/\NEWT R g.2 g.1.2 (jbj M x.fr i e.moves g.1.1)) (fun g=>mv+1-g.1.1) ((0,0),R) ?_ ?_ rfl ⟨zG _,bR,SubR.refl _,fun h=>absurd rfl h⟩ ?_
   ·have hz:=jer (A:=0) (show(jbj M x.fr i e.moves 0).length=0 from rfl);simp only[hkd,hal,Int.natCast_zero,hz,Int.natCast_add,go_sem]
   ·exact ja5
   rintro⟨⟨k,A⟩,R2⟩ ⟨hk,a1,a7,b7⟩;dsimp only at hk a1 a7 b7;have F2:=bB a1;rcases zU k (mv+1)with hltk | hltk
   ·have hd:decide ((k:Int)<(mv+1:Nat))=true:=dTo;obtain⟨y,hyk⟩:∃y,e.moves[k]? =some y:=⟨_,za (by omega)⟩;have hy:(List.take (mv+1) (e.moves.map Move.c))[k]? =some y.c:=by rw[qy,ze hltk,zq,hyk];rfl
    have h1:=ja8 ((k:Int)+1);have kv:=e_var (hR.sub a1 a7) hM k i (by omega) (by omega) k4;rw[b5]at kv;have k2:(decide (y.fr=x.fr)=false/\decide (y.to=x.fr)=false/\sgnF x.fr y=0)\/(decide (y.fr=x.fr)=false/\decide (y.to=x.fr)=true/\sgnF x.fr y=1)\/(decide (y.fr=x.fr)=true/\decide (y.fr=x.fr)=true/\sgnF x.fr y= -1):=by
     unfold sgnF;by_cases h1:y.fr=x.fr
     ·simp[h1]
     ·by_cases h2:y.to=x.fr<;>simp[h1,h2]
    rcases k2 with ⟨b4,b2,h0⟩ | ⟨b4,b2,a8⟩ | ⟨b4,b2,a8⟩
    ·have b3:jbj M x.fr i e.moves (k+1)=jbj M x.fr i e.moves k:=by rw[jbj,hyk];dsimp only;rw[ze h0]
     rcases(Decidable.em ((jbj M x.fr i e.moves k).length=0)).imp (jer (A:=A)) (je7 (A:=A))with a6 | a6
     all_goals
      simp only[hd,hy,b4,b2,a6,F2,go_sem];refine jac ((k+1,A),R2) ?_ ?_ rfl (by show mv+1-(k+1)<mv+1-k;omega) ⟨by dsimp only;omega,a1,a7,by dsimp only;rw[b3];exact b7⟩
      ·simp only[h1,b3,a6,Int.natCast_add,go_sem]
      ·show SubR ((4,6,[x.c])::R2) ((9,6,[y.c])::(4,6,[x.c])::R2);refine jaw ?_ ja5;rw[ja1 _ _ (by dsimp only;decide)];exact jax a1 (by dsimp only;decide)
    all_goals
     obtain⟨q,hq⟩:∃q:Rat,((sgnF x.fr y:Int):Rat)=q:=⟨_,rfl⟩;have b1:jbj M x.fr i e.moves (k+1)=jbj M x.fr i e.moves k++[(k*M+i,q)]:=by rw[jbj,hyk];dsimp only;rw[zl (by rw[a8];decide),hq]
     have kI:=jcj (sgnF x.fr y) (by rw[a8];omega);rw[hq,a8]at kI;simp only[frac,ints]at kI;by_cases hn:(jbj M x.fr i e.moves k).length=0
     ·have a6:=jer (A:=A) hn;have b0:jbj M x.fr i e.moves k=[]:=zX hn;simp only[hd,hy,b4,b2,F2,a6,go_sem];refine jaj kv (by decide) (by simp only[zt,zE,jb3];rfl) a1 (ja6 (by decide) a1 (ja6 (by decide) a1 (SubR.refl _))) ?_;rintro _ L1 ⟨rfl,hL1⟩ _;subst hL1;refine⟨(9,6,[y.c])::(4,6,[x.c])::L1,jbg [_,_] (jd5 a1 (by simp)),?_⟩;simp only[F2,go_sem];refine ja0 kI ?_;simp only[F2,go_sem];refine And.intro (fun c' c6=>by rw[zF.1 c6];rfl) ?_;unfold NewP NewH;intro X hX;have e0:Abs.look L1 (hp X)=none:=by
       have h2:Abs.look ((9,6,[y.c])::(4,6,[x.c])::L1) (hp X)=none:=hX;rw[jae,jae]at h2;exact h2
      clear hX;have lX:Abs.look R (hp X)=none:=by
       cases e9:Abs.look R (hp X)with
       | none=>rfl
       | some z=>rw[a7 _ _ e9]at e0;cases e0
      have c4:(jbj M x.fr i e.moves (k+1)).length=1:=by rw[b1,b0];rfl
      have hs1:=je7 (A:=X) (n:=1) (by omega);simp only[F2,go_sem];refine jac ((k+1,X),(hp X,5,[tmC (k*M+i,q)])::L1) ?_ ?_ rfl (by show mv+1-(k+1)<mv+1-k;omega) ⟨by dsimp only;omega,jao a1,jaw lX a7,?_⟩
      ·simp only[h1,c4,hs1,Int.natCast_add,go_sem]
      ·show SubR ((4,6,[x.c])::(hp X,5,[tmC (k*M+i,q)])::L1) ((hp X,5,[tmC (k*M+i,q)])::(9,6,[y.c])::(4,6,[x.c])::L1);refine jc2 ?_ (jbi _ (ja6 (by decide) a1 (ja6 (by decide) a1 (SubR.refl _))));rw[jcz,ja1 _ _ (by decide),ja2]
      ·dsimp only;rw[b1];refine NEWT.app ?_ lX;rw[ja2,b0];rfl
     ·have a6:=je7 (A:=A) hn;obtain⟨c3,b8⟩:=b7 hn;have b9:List.take (jbj M x.fr i e.moves k).length ((jbj M x.fr i e.moves k).map tmC)=(jbj M x.fr i e.moves k).map tmC:=zZ (by rw[zw];exact zu _);have k8:=jpm (M:=M) (fr:=x.fr) (mat:=i) (ms:=e.moves) k;have k5:(9 !=hp A)=true/\(4 !=hp A)=true:=by
       simp only[qh,ne_eq];exact⟨hp_ne (by decide),hp_ne (by decide)⟩
      simp only[hd,hy,b4,b2,F2,a6,go_sem];refine jaj kv (by decide) (by simp only[zt,zE,jb3];rfl) a1 (ja6 (by decide) a1 (ja6 (by decide) a1 (SubR.refl _))) ?_;rintro _ L1 ⟨rfl,hL1⟩ _;subst hL1;refine⟨(9,6,[y.c])::(4,6,[x.c])::L1,jbg [_,_] (jd5 a1 (by simp)),?_⟩;simp only[F2,go_sem];refine ja0 kI ?_;obtain⟨Q,hQe⟩:∃Q,Abs.del L1 (hp A)=Q:=⟨_,rfl⟩;have c7:List.filter (fun p=>p.1 !=hp A) L1=Q:=hQe;have bQ:blks Q:=hQe▸jch a1;have F3:=bB bQ;simp only[c3,b9,zw,F2,go_sem];refine And.intro (fun c' c6=>by rw[zF.1 c6];rfl) (And.intro (zu _) (And.intro (by omega) ?_));unfold GrowP GrowH;intro X hX;have e7:Abs.look Q (hp X)=none:=by
       have h2:Abs.look (Abs.del ((9,6,[y.c])::(4,6,[x.c])::L1) (hp A)) (hp X)=none:=hX;rw[jat (hp_ne (by decide)),jat (hp_ne (by decide)),jae,jae,hQe]at h2;exact h2
      clear hX;obtain⟨lS,lX⟩:=jmk (v:=(5,(jbj M x.fr i e.moves k).map tmC++[tmC (k*M+i,q)])) a7 b8 (X:=X) (by rw[hQe];exact e7);rw[hQe]at lS;have c4:(jbj M x.fr i e.moves (k+1)).length=(jbj M x.fr i e.moves k).length+1:=by rw[b1,zB];rfl
      have hs1:=je7 (A:=X) (n:=(jbj M x.fr i e.moves k).length+1) (yM _);simp only[c7,k5,F2,F3,go_sem];refine jac ((k+1,X),(hp X,5,(jbj M x.fr i e.moves k).map tmC++[tmC (k*M+i,q)])::Q) ?_ ?_ rfl (by show mv+1-(k+1)<mv+1-k;omega) ⟨by dsimp only;omega,jao bQ,lS,?_⟩
      ·simp only[h1,c4,hs1,Int.natCast_add,go_sem]
      ·show SubR ((4,6,[x.c])::(hp X,5,(jbj M x.fr i e.moves k).map tmC++[tmC (k*M+i,q)])::Q) ((hp X,5,(jbj M x.fr i e.moves k).map tmC++[tmC (k*M+i,q)])::(9,6,[y.c])::(4,6,[x.c])::Q);refine jc2 ?_ (jbi _ (ja6 (by decide) bQ (ja6 (by decide) bQ (SubR.refl _))));rw[jcz,ja1 _ _ (by decide),ja2]
      ·dsimp only;rw[b1];exact NEWT.app (ja2 _ _ _) lX
   have hd:decide ((k:Int)<(mv+1:Nat))=false:=dFo;have k0:k=mv+1:=by omega
   subst k0;have ka:=e_add hR ⟨jbj M x.fr i e.moves (mv+1),kd,0⟩ 0 mv i (-1) (by
    rw[zB];have:=jg3 (M:=M) (ms:=e.moves) (mv:=mv) (x:=x) i;omega) (OgOk.stock hM hx k3 hlti b6)
   have e8:((0:Int):Rat)=0:=rfl;have o1:=jcj 0 (by omega);rw[e8]at o1;simp only[frac,ints]at ka o1;have e2:=hR.hd;rw[b5]at ka e2;by_cases hn:(jbj M x.fr i e.moves (mv+1)).length=0
   ·have a6:=jer (A:=A) hn;have b0:jbj M x.fr i e.moves (mv+1)=[]:=zX hn;simp only[hd,a6,F2,go_sem];refine ja0 o1 ?_;simp only[a6,F2,go_sem];refine jaj ka (by decide) (by simp only[zt,zE,jb3,b0];rfl) bR (ja6 (by decide) bR a7) ?_;rintro _ L4 ⟨rfl,nm4,hn4,hM4⟩ _;refine⟨(4,6,[x.c])::L4,jbg [_] (jd5 bR (by simp)),?_⟩;have c8:=hM4.blk;have F5:=bB c8;simp only[F5,go_sem];refine jac ((i+1,nm4,_),L4) ?_ ja5 rfl (by show M-(i+1)<M-i;omega) ⟨hlti,hn4,by dsimp only;rw[jev,<-b6,<-qe];exact hM4⟩;simp only[e1,Int.natCast_add,go_sem]
   ·obtain⟨c3,b8⟩:=b7 hn;have a6:=je7 (A:=A) hn;have b9:List.take (jbj M x.fr i e.moves (mv+1)).length ((jbj M x.fr i e.moves (mv+1)).map tmC)=(jbj M x.fr i e.moves (mv+1)).map tmC:=zZ (by rw[zw];exact zu _);have e6:¬nm.d=A:=fun e=>by have h1:=e2;rw[e,b8]at h1;cases h1
    have k6:(4 !=hp A)=true:=by simp only[qh,ne_eq];exact hp_ne (by decide)
    obtain⟨Q,hQe⟩:∃Q,Abs.del R2 (hp A)=Q:=⟨_,rfl⟩;have c7:List.filter (fun p=>p.1 !=hp A) R2=Q:=hQe;have bQ:blks Q:=hQe▸jch a1;have sQ:=hQe▸jj6 a7 b8;have F3:=bB bQ;simp only[hd,a6,F2,go_sem];refine ja0 o1 ?_;simp only[a6,c3,e6,c7,b9,zu,k6,F2,F3,go_sem];refine jaj ka (by decide) (by simp only[zt,zE,jb3];rfl) bR (ja6 (by decide) bR sQ) ?_;rintro _ L4 ⟨rfl,nm4,hn4,hM4⟩ _;refine⟨(4,6,[x.c])::L4,jbg [_] (jd5 bR (by simp)),?_⟩;have c8:=hM4.blk;have F5:=bB c8;simp only[F5,go_sem];refine jac ((i+1,nm4,_),L4) ?_ ja5 rfl (by show M-(i+1)<M-i;omega) ⟨hlti,hn4,by dsimp only;rw[jev,<-b6,<-qe];exact hM4⟩;simp only[e1,Int.natCast_add,go_sem]
  have c5:decide ((i:Int)<M)=false:=dFo;have k1:i=M:=by omega
  subst k1;simp only[c5,go_sem];refine jbl ?_;simp only[go_sem];exact⟨e5,e3,b5,hR.sub jf0 (jmj bR (ja6 (by decide) bR (SubR.refl _)))⟩
