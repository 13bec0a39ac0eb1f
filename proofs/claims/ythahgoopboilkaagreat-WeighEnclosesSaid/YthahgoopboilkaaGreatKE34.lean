/- A part of the proof. No further condition. -/
import Derived.Test.YthahgoopboilkaaGreatKE33
set_option linter.all false
set_option maxRecDepth 10000000
set_option maxHeartbeats 16000000
namespace Go.Proofs.YthahgoopboilkaaGreat
section
open Go.Abs
open Go.LP (Rw RT tsum)
attribute [local go_sem] ints ic big frac fc rwC tmC Evid.c Place.c Move.c Cert.c Recall.c Purity.c
theorem jgo{M:Nat}{fr:Int}{mat:Nat}{ms:List Move}:∀k,(jah M fr mat ms k).length<=k
 | 0=>zB _
 | k+1=>by
  have:=jgo (M:=M) (fr:=fr) (mat:=mat) (ms:=ms) k;rw[jah];split
  ·split
   ·omega
   ·rw[zH,List.length_singleton];omega
  ·omega
theorem jf0{M:Nat}{ms:List Move}{mv:Nat}{x:Move}:∀k,(jdr M ms mv x k).length=k
 | 0=>rfl
 | k+1=>by rw[jdr,zH,jf0 k];rfl
section
variable{L:Abs.Rows}{nm:MN}{e:Evid}{ws:List Rw}{os:List (List IV)}{M:Nat}
theorem e_stock(h:HasM L nm e ws os)(hM:e.mats=(M:Int))(mv:Nat)(x:Move)(hx:e.moves[mv]? =some x)(hm:mv<=200)(hM6:M<=6)(hl:ws.length<=5000)(l3:e.moves.length<=200)(hbf:binF e x=false):
  CtrH G.P 123 [.loc (hp nm.d) 10 0 0,.im (.int mv)] L (fun r L'=>r= .im (.tup [])/\∃(nm':MN) (os':List (List IV)),nm'.d=nm.d/\HasM L' nm' e (ws++jdr M e.moves mv x M) os'):=by
 have hb:=h.blk;have F1:=bF hb;have K1:=bK hb;have G1:=bN hb;have c0:=h.hd;simp only[Evid.c,hM]at c0;have hlt:(mv:Int)<e.moves.length:=by have:=(zu.1 hx).1;omega
 have h0:(0:Int)<=mv:=by omega
 obtain⟨kd,hkd⟩:∃kd:Int,kd=if x.all=true then 2 else 0:=⟨_,rfl⟩
 rcases hal:x.all with _ | _
 ·refine jav [66] [75] [] Tryz.func123 ?_;simp only[c0,hM,hlt,h0,hx,hal,ze,zw,Int.toNat_natCast,F1,K1,G1,go_sem];have hkd0:=hkd;have hkd:kd=0:=by rw[hkd,hal];rfl
  refine jaz [0,1,4,5,25,26] (fun g:(Nat×MN×List (List IV))×Abs.Rows=>⟨[(0,.loc (hp nm.d) 10 0 0),(1,.im (.int mv)),(4,.loc 4 6 0 0),(5,.im (.int kd)),(25,.im (.int M)),(26,.im (.int g.1.1))],(4,6,[x.c])::g.2,[]⟩)
   (fun g=>g.1.1<=M/\g.1.2.1.d=nm.d/\HasM g.2 g.1.2.1 e (ws++jdr M e.moves mv x g.1.1) g.1.2.2) (fun g=>M-g.1.1) ((0,nm,os),L) ?_ ?_ rfl ⟨zE _,rfl,by show HasM L nm e (ws++[]) os;rw[qr];exact h⟩ ?_
  ·simp only[hkd,hal,Int.natCast_zero,go_sem]
  ·simp only[hal,go_sem];exact SubR.of_eq rfl
  clear F1 K1 G1 c0 hb h;rintro⟨⟨i,nm1,os1⟩,R⟩ ⟨hi,hnd,hR⟩;dsimp only at hi hnd hR;have bR:=hR.blk;have F1:=bF bR;have K1:=bK bR;have G1:=bN bR;have c0:=hR.hd;rw[hnd]at c0;simp only[Evid.c,hM]at c0;rcases zT i M with hlti | hlti
  ·have hdi:decide ((i:Int)<M)=true:=za (by omega);have hi1:=ja9 (n:=(i:Int)+1) (by omega);have hm1:=ja9 (n:=(mv:Int)+1) (by omega);have hms:(mv:Int)+1<=e.moves.length:=by omega
   have hms':(mv:Int)+1=((mv+1:Nat):Int):=rfl;have hma:((e.moves.map Move.c).all fun c=>c.length==6)=true:=List.all_eq_true.2 fun c hc=>by
    obtain⟨z,_,rfl⟩:=qq.1 hc;rfl
   have hm0:(0:Int)<=(mv:Int)+1:=by omega
   have hmt:((mv:Int)+1).toNat=mv+1:=by omega
   have hln:(List.take (mv+1) (e.moves.map Move.c)).length=mv+1:=by rw[qi,zw];omega
   simp only[hdi,c0,hm1,hms,hma,hm0,hmt,hln,Nat.sub_zero,zw,F1,K1,G1,go_sem];refine jaz [0,1,4,5,6,7,25,26,36,37,38] (fun g:(Nat×Nat)×Abs.Rows=>⟨[(0,.loc (hp nm.d) 10 0 0),(1,.im (.int mv)),(4,.loc 4 6 0 0),(5,.im (.int kd)),(6,.im (.int i)),(7,sA g.1.2 (jah M x.fr i e.moves g.1.1).length),(25,.im (.int M)),(26,.im (.int i)),(36,.im (.sl (List.take (mv+1) (e.moves.map Move.c)))),(37,.im (.int ((mv+1:Nat):Int))),(38,.im (.int g.1.1))],(4,6,[x.c])::g.2,[]⟩)
    (fun g=>g.1.1<=mv+1/\blks g.2/\SubR R g.2/\NEWT R g.2 g.1.2 (jah M x.fr i e.moves g.1.1)) (fun g=>mv+1-g.1.1) ((0,0),R) ?_ ?_ rfl ⟨zE _,bR,SubR.refl _,fun h=>absurd rfl h⟩ ?_
   ·have hz:=jd1 (A:=0) (show(jah M x.fr i e.moves 0).length=0 from rfl);simp only[hkd,hal,Int.natCast_zero,hz,Int.natCast_add,go_sem]
   ·exact SubR.of_eq rfl
   rintro⟨⟨k,A⟩,R2⟩ ⟨hk,bR2,sR2,nR2⟩;dsimp only at hk bR2 sR2 nR2;have F2:=bF bR2;have K2:=bK bR2;have G2:=bN bR2;rcases zT k (mv+1)with hltk | hltk
   ·have hd:decide ((k:Int)<(mv+1:Nat))=true:=za (by omega);obtain⟨y,hyk⟩:∃y,e.moves[k]? =some y:=⟨_,zh (by omega)⟩;have hy:(List.take (mv+1) (e.moves.map Move.c))[k]? =some y.c:=by rw[qa,zm hltk,ze,hyk];rfl
    have h1:=ja9 (n:=(k:Int)+1) (by omega);have kv:=e_var (hR.sub bR2 sR2) hM k i (by omega) (by omega) hM6;rw[hnd]at kv;rcases hsf:decide (y.fr=x.fr)with _ | _
    ·rcases hst:decide (y.to=x.fr)with _ | _
     ·have hsgn:sgnF x.fr y=0:=by unfold sgnF;rw[zn (zJ hsf),zn (zJ hst)]
      have hskip:jah M x.fr i e.moves (k+1)=jah M x.fr i e.moves k:=by rw[jah,hyk];dsimp only;rw[zm hsgn]
      by_cases hn:(jah M x.fr i e.moves k).length=0
      ·have hs0:=jd1 (A:=A) hn;simp only[hd,hy,hsf,hst,hs0,F2,K2,G2,go_sem];refine jaa ((k+1,A),R2) ?_ ?_ rfl (by show mv+1-(k+1)<mv+1-k;omega) ⟨by dsimp only;omega,bR2,sR2,by dsimp only;rw[hskip];exact nR2⟩
       ·simp only[h1,hskip,hs0,Int.natCast_add,go_sem]
       ·show SubR ((4,6,[x.c])::R2) ((9,6,[y.c])::(4,6,[x.c])::R2);refine jas ?_ (SubR.of_eq rfl);rw[ja0 _ _ (by dsimp only;decide)];exact jay bR2 (by dsimp only;decide)
      ·have hs0:=jcn (A:=A) hn;simp only[hd,hy,hsf,hst,hs0,F2,K2,G2,go_sem];refine jaa ((k+1,A),R2) ?_ ?_ rfl (by show mv+1-(k+1)<mv+1-k;omega) ⟨by dsimp only;omega,bR2,sR2,by dsimp only;rw[hskip];exact nR2⟩
       ·simp only[h1,hskip,hs0,Int.natCast_add,go_sem]
       ·show SubR ((4,6,[x.c])::R2) ((9,6,[y.c])::(4,6,[x.c])::R2);refine jas ?_ (SubR.of_eq rfl);rw[ja0 _ _ (by dsimp only;decide)];exact jay bR2 (by dsimp only;decide)
     ·have hsgn:sgnF x.fr y=1:=by unfold sgnF;rw[zn (zJ hsf),zm (zI hst)]
      have hadd:jah M x.fr i e.moves (k+1)=jah M x.fr i e.moves k++[(k*M+i,(((1:Int)):Rat))]:=by rw[jah,hyk];dsimp only;rw[hsgn,zn (by decide)]
      have kI:=jbt 1 (by omega);simp only[frac,ints]at kI;by_cases hn:(jah M x.fr i e.moves k).length=0
      ·have hs0:=jd1 (A:=A) hn;have hnil:jah M x.fr i e.moves k=[]:=zL hn;simp only[hd,hy,hsf,hst,F2,K2,G2,hs0,go_sem];refine jaj kv (by decide) (by simp only[zl,zC,jaw];rfl) bR2 (ja3 (by decide) bR2 (ja3 (by decide) bR2 (SubR.refl _))) ?_;rintro _ L1 ⟨rfl,hL1⟩ _;subst hL1;refine⟨(9,6,[y.c])::(4,6,[x.c])::L1,jap [_,_] (jbe bR2 (by simp)),?_⟩;simp only[F2,K2,G2,go_sem];refine ja1 kI ?_;simp only[F2,K2,G2,go_sem];refine And.intro (fun c' hc'=>by rw[zF.1 hc'];rfl) ?_;unfold NewP NewH;intro X hX;have lX1:Abs.look L1 (hp X)=none:=by
        have h2:Abs.look ((9,6,[y.c])::(4,6,[x.c])::L1) (hp X)=none:=hX;rw[ja0 _ _ (hp_ne (by decide)).symm,ja0 _ _ (hp_ne (by decide)).symm]at h2;exact h2
       clear hX;have lX:Abs.look R (hp X)=none:=by
        cases hx':Abs.look R (hp X)with
        | none=>rfl
        | some z=>rw[sR2 _ _ hx']at lX1;cases lX1
       have hl1:(jah M x.fr i e.moves (k+1)).length=1:=by rw[hadd,hnil];rfl
       have hs1:=jcn (A:=X) (n:=1) (by omega);simp only[F2,K2,G2,go_sem];refine jaa ((k+1,X),(hp X,5,[tmC (k*M+i,(((1:Int)):Rat))])::L1) ?_ ?_ rfl (by show mv+1-(k+1)<mv+1-k;omega) ⟨by dsimp only;omega,jat bR2,jas lX sR2,?_⟩
       ·simp only[h1,hl1,hs1,Int.natCast_add,go_sem]
       ·show SubR ((4,6,[x.c])::(hp X,5,[tmC (k*M+i,(((1:Int)):Rat))])::L1) ((hp X,5,[tmC (k*M+i,(((1:Int)):Rat))])::(9,6,[y.c])::(4,6,[x.c])::L1);refine jb5 ?_ (jb4 _ (ja3 (by decide) bR2 (ja3 (by decide) bR2 (SubR.refl _))));rw[ja0 _ _ (hp_ne (by decide)),ja0 _ _ (by decide),ja2]
       ·dsimp only;rw[hadd];refine NEWT.app ?_ lX;rw[ja2,hnil];rfl
      ·have hs0:=jcn (A:=A) hn;obtain⟨hrA,hLA⟩:=nR2 hn;have htk:List.take (jah M x.fr i e.moves k).length ((jah M x.fr i e.moves k).map tmC)=(jah M x.fr i e.moves k).map tmC:=zt (by rw[zw];exact zB _);have hlk:=jgo (M:=M) (fr:=x.fr) (mat:=i) (ms:=e.moves) k;have bn9:(9 !=hp A)=true/\(4 !=hp A)=true:=by
        simp only[qk,ne_eq];exact⟨hp_ne (by decide),hp_ne (by decide)⟩
       simp only[hd,hy,hsf,hst,F2,K2,G2,hs0,go_sem];refine jaj kv (by decide) (by simp only[zl,zC,jaw];rfl) bR2 (ja3 (by decide) bR2 (ja3 (by decide) bR2 (SubR.refl _))) ?_;rintro _ L1 ⟨rfl,hL1⟩ _;subst hL1;refine⟨(9,6,[y.c])::(4,6,[x.c])::L1,jap [_,_] (jbe bR2 (by simp)),?_⟩;simp only[F2,K2,G2,go_sem];refine ja1 kI ?_;obtain⟨Q,hQe⟩:∃Q,Abs.del L1 (hp A)=Q:=⟨_,rfl⟩;have hQf:List.filter (fun p=>p.1 !=hp A) L1=Q:=hQe;have bQ:blks Q:=hQe▸jbx bR2;have F3:=bF bQ;have K3:=bK bQ;have G3:=bN bQ;simp only[hrA,htk,zw,F2,K2,G2,go_sem];refine And.intro (fun c' hc'=>by rw[zF.1 hc'];rfl) (And.intro (zB _) (And.intro (by omega) ?_));unfold GrowP GrowH;intro X hX;have lXQ:Abs.look Q (hp X)=none:=by
        have h2:Abs.look (Abs.del ((9,6,[y.c])::(4,6,[x.c])::L1) (hp A)) (hp X)=none:=hX;rw[jam (hp_ne (by decide)),jam (hp_ne (by decide)),ja0 _ _ (hp_ne (by decide)).symm,ja0 _ _ (hp_ne (by decide)).symm,hQe]at h2;exact h2
       clear hX;obtain⟨lS,lX⟩:=jg1 (v:=(5,(jah M x.fr i e.moves k).map tmC++[tmC (k*M+i,(((1:Int)):Rat))])) sR2 hLA (X:=X) (by rw[hQe];exact lXQ);rw[hQe]at lS;have hl1:(jah M x.fr i e.moves (k+1)).length=(jah M x.fr i e.moves k).length+1:=by rw[hadd,zH];rfl
       have hs1:=jcn (A:=X) (n:=(jah M x.fr i e.moves k).length+1) (yy _);simp only[hQf,bn9,F2,K2,G2,F3,K3,G3,go_sem];refine jaa ((k+1,X),(hp X,5,(jah M x.fr i e.moves k).map tmC++[tmC (k*M+i,(((1:Int)):Rat))])::Q) ?_ ?_ rfl (by show mv+1-(k+1)<mv+1-k;omega) ⟨by dsimp only;omega,jat bQ,lS,?_⟩
       ·simp only[h1,hl1,hs1,Int.natCast_add,go_sem]
       ·show SubR ((4,6,[x.c])::(hp X,5,(jah M x.fr i e.moves k).map tmC++[tmC (k*M+i,(((1:Int)):Rat))])::Q) ((hp X,5,(jah M x.fr i e.moves k).map tmC++[tmC (k*M+i,(((1:Int)):Rat))])::(9,6,[y.c])::(4,6,[x.c])::Q);refine jb5 ?_ (jb4 _ (ja3 (by decide) bQ (ja3 (by decide) bQ (SubR.refl _))));rw[ja0 _ _ (hp_ne (by decide)),ja0 _ _ (by decide),ja2]
       ·dsimp only;rw[hadd];exact NEWT.app (ja2 _ _ _) lX
    ·have hsgn:sgnF x.fr y= -1:=by unfold sgnF;rw[zm (zI hsf)]
     have hadd:jah M x.fr i e.moves (k+1)=jah M x.fr i e.moves k++[(k*M+i,((((-1):Int)):Rat))]:=by rw[jah,hyk];dsimp only;rw[hsgn,zn (by decide)]
     have kI:=jbt (-1) (by omega);simp only[frac,ints]at kI;by_cases hn:(jah M x.fr i e.moves k).length=0
     ·have hs0:=jd1 (A:=A) hn;have hnil:jah M x.fr i e.moves k=[]:=zL hn;simp only[hd,hy,hsf,F2,K2,G2,hs0,go_sem];refine jaj kv (by decide) (by simp only[zl,zC,jaw];rfl) bR2 (ja3 (by decide) bR2 (ja3 (by decide) bR2 (SubR.refl _))) ?_;rintro _ L1 ⟨rfl,hL1⟩ _;subst hL1;refine⟨(9,6,[y.c])::(4,6,[x.c])::L1,jap [_,_] (jbe bR2 (by simp)),?_⟩;simp only[F2,K2,G2,go_sem];refine ja1 kI ?_;simp only[F2,K2,G2,go_sem];refine And.intro (fun c' hc'=>by rw[zF.1 hc'];rfl) ?_;unfold NewP NewH;intro X hX;have lX1:Abs.look L1 (hp X)=none:=by
       have h2:Abs.look ((9,6,[y.c])::(4,6,[x.c])::L1) (hp X)=none:=hX;rw[ja0 _ _ (hp_ne (by decide)).symm,ja0 _ _ (hp_ne (by decide)).symm]at h2;exact h2
      clear hX;have lX:Abs.look R (hp X)=none:=by
       cases hx':Abs.look R (hp X)with
       | none=>rfl
       | some z=>rw[sR2 _ _ hx']at lX1;cases lX1
      have hl1:(jah M x.fr i e.moves (k+1)).length=1:=by rw[hadd,hnil];rfl
      have hs1:=jcn (A:=X) (n:=1) (by omega);simp only[F2,K2,G2,go_sem];refine jaa ((k+1,X),(hp X,5,[tmC (k*M+i,((((-1):Int)):Rat))])::L1) ?_ ?_ rfl (by show mv+1-(k+1)<mv+1-k;omega) ⟨by dsimp only;omega,jat bR2,jas lX sR2,?_⟩
      ·simp only[h1,hl1,hs1,Int.natCast_add,go_sem]
      ·show SubR ((4,6,[x.c])::(hp X,5,[tmC (k*M+i,((((-1):Int)):Rat))])::L1) ((hp X,5,[tmC (k*M+i,((((-1):Int)):Rat))])::(9,6,[y.c])::(4,6,[x.c])::L1);refine jb5 ?_ (jb4 _ (ja3 (by decide) bR2 (ja3 (by decide) bR2 (SubR.refl _))));rw[ja0 _ _ (hp_ne (by decide)),ja0 _ _ (by decide),ja2]
      ·dsimp only;rw[hadd];refine NEWT.app ?_ lX;rw[ja2,hnil];rfl
     ·have hs0:=jcn (A:=A) hn;obtain⟨hrA,hLA⟩:=nR2 hn;have htk:List.take (jah M x.fr i e.moves k).length ((jah M x.fr i e.moves k).map tmC)=(jah M x.fr i e.moves k).map tmC:=zt (by rw[zw];exact zB _);have hlk:=jgo (M:=M) (fr:=x.fr) (mat:=i) (ms:=e.moves) k;have bn9:(9 !=hp A)=true/\(4 !=hp A)=true:=by
       simp only[qk,ne_eq];exact⟨hp_ne (by decide),hp_ne (by decide)⟩
      simp only[hd,hy,hsf,F2,K2,G2,hs0,go_sem];refine jaj kv (by decide) (by simp only[zl,zC,jaw];rfl) bR2 (ja3 (by decide) bR2 (ja3 (by decide) bR2 (SubR.refl _))) ?_;rintro _ L1 ⟨rfl,hL1⟩ _;subst hL1;refine⟨(9,6,[y.c])::(4,6,[x.c])::L1,jap [_,_] (jbe bR2 (by simp)),?_⟩;simp only[F2,K2,G2,go_sem];refine ja1 kI ?_;obtain⟨Q,hQe⟩:∃Q,Abs.del L1 (hp A)=Q:=⟨_,rfl⟩;have hQf:List.filter (fun p=>p.1 !=hp A) L1=Q:=hQe;have bQ:blks Q:=hQe▸jbx bR2;have F3:=bF bQ;have K3:=bK bQ;have G3:=bN bQ;simp only[hrA,htk,zw,F2,K2,G2,go_sem];refine And.intro (fun c' hc'=>by rw[zF.1 hc'];rfl) (And.intro (zB _) (And.intro (by omega) ?_));unfold GrowP GrowH;intro X hX;have lXQ:Abs.look Q (hp X)=none:=by
       have h2:Abs.look (Abs.del ((9,6,[y.c])::(4,6,[x.c])::L1) (hp A)) (hp X)=none:=hX;rw[jam (hp_ne (by decide)),jam (hp_ne (by decide)),ja0 _ _ (hp_ne (by decide)).symm,ja0 _ _ (hp_ne (by decide)).symm,hQe]at h2;exact h2
      clear hX;obtain⟨lS,lX⟩:=jg1 (v:=(5,(jah M x.fr i e.moves k).map tmC++[tmC (k*M+i,((((-1):Int)):Rat))])) sR2 hLA (X:=X) (by rw[hQe];exact lXQ);rw[hQe]at lS;have hl1:(jah M x.fr i e.moves (k+1)).length=(jah M x.fr i e.moves k).length+1:=by rw[hadd,zH];rfl
      have hs1:=jcn (A:=X) (n:=(jah M x.fr i e.moves k).length+1) (yy _);simp only[hQf,bn9,F2,K2,G2,F3,K3,G3,go_sem];refine jaa ((k+1,X),(hp X,5,(jah M x.fr i e.moves k).map tmC++[tmC (k*M+i,((((-1):Int)):Rat))])::Q) ?_ ?_ rfl (by show mv+1-(k+1)<mv+1-k;omega) ⟨by dsimp only;omega,jat bQ,lS,?_⟩
      ·simp only[h1,hl1,hs1,Int.natCast_add,go_sem]
      ·show SubR ((4,6,[x.c])::(hp X,5,(jah M x.fr i e.moves k).map tmC++[tmC (k*M+i,((((-1):Int)):Rat))])::Q) ((hp X,5,(jah M x.fr i e.moves k).map tmC++[tmC (k*M+i,((((-1):Int)):Rat))])::(9,6,[y.c])::(4,6,[x.c])::Q);refine jb5 ?_ (jb4 _ (ja3 (by decide) bQ (ja3 (by decide) bQ (SubR.refl _))));rw[ja0 _ _ (hp_ne (by decide)),ja0 _ _ (by decide),ja2]
      ·dsimp only;rw[hadd];exact NEWT.app (ja2 _ _ _) lX
   have hd:decide ((k:Int)<(mv+1:Nat))=false:=zq (by omega);have hkm:k=mv+1:=by omega
   subst hkm;have ka:=e_add hR ⟨jah M x.fr i e.moves (mv+1),kd,0⟩ 0 mv i (-1) (by
    rw[zH];have:=jf0 (M:=M) (ms:=e.moves) (mv:=mv) (x:=x) i;omega) (OgOk.stock hM hx hbf hlti hkd0)
   have hz0:((0:Int):Rat)=0:=rfl;have o1:=jbt 0 (by omega);rw[hz0]at o1;simp only[frac,ints]at ka o1;have hdd:=hR.hd;rw[hnd]at ka hdd;by_cases hn:(jah M x.fr i e.moves (mv+1)).length=0
   ·have hs0:=jd1 (A:=A) hn;have hnil:jah M x.fr i e.moves (mv+1)=[]:=zL hn;simp only[hd,hs0,F2,K2,G2,go_sem];refine ja1 o1 ?_;simp only[hs0,F2,K2,G2,go_sem];refine jaj ka (by decide) (by simp only[zl,zC,jaw,hnil];rfl) bR (ja3 (by decide) bR sR2) ?_;rintro _ L4 ⟨rfl,nm4,hn4,hM4⟩ _;refine⟨(4,6,[x.c])::L4,jap [_] (jbe bR (by simp)),?_⟩;have bL4:=hM4.blk;have F5:=bF bL4;have G5:=bN bL4;have K5:=bK bL4;simp only[F5,G5,K5,go_sem];refine jaa ((i+1,nm4,_),L4) ?_ (SubR.of_eq rfl) rfl (by show M-(i+1)<M-i;omega) ⟨hlti,hn4,by dsimp only;rw[jdr,<-hkd0,<-qv];exact hM4⟩;simp only[hi1,Int.natCast_add,go_sem]
   ·obtain⟨hrA,hLA⟩:=nR2 hn;have hs0:=jcn (A:=A) hn;have htk:List.take (jah M x.fr i e.moves (mv+1)).length ((jah M x.fr i e.moves (mv+1)).map tmC)=(jah M x.fr i e.moves (mv+1)).map tmC:=zt (by rw[zw];exact zB _);have ndA:¬nm.d=A:=fun e=>by have h1:=hdd;rw[e,hLA]at h1;cases h1
    have bn4:(4 !=hp A)=true:=by simp only[qk,ne_eq];exact hp_ne (by decide)
    obtain⟨Q,hQe⟩:∃Q,Abs.del R2 (hp A)=Q:=⟨_,rfl⟩;have hQf:List.filter (fun p=>p.1 !=hp A) R2=Q:=hQe;have bQ:blks Q:=hQe▸jbx bR2;have sQ:=hQe▸jgg sR2 hLA;have F3:=bF bQ;have K3:=bK bQ;have G3:=bN bQ;simp only[hd,hs0,F2,K2,G2,go_sem];refine ja1 o1 ?_;simp only[hs0,hrA,ndA,hQf,htk,zB,bn4,F2,K2,G2,F3,K3,G3,go_sem];refine jaj ka (by decide) (by simp only[zl,zC,jaw];rfl) bR (ja3 (by decide) bR sQ) ?_;rintro _ L4 ⟨rfl,nm4,hn4,hM4⟩ _;refine⟨(4,6,[x.c])::L4,jap [_] (jbe bR (by simp)),?_⟩;have bL4:=hM4.blk;have F5:=bF bL4;have G5:=bN bL4;have K5:=bK bL4;simp only[F5,G5,K5,go_sem];refine jaa ((i+1,nm4,_),L4) ?_ (SubR.of_eq rfl) rfl (by show M-(i+1)<M-i;omega) ⟨hlti,hn4,by dsimp only;rw[jdr,<-hkd0,<-qv];exact hM4⟩;simp only[hi1,Int.natCast_add,go_sem]
  have hdi:decide ((i:Int)<M)=false:=zq (by omega);have hiM:i=M:=by omega
  subst hiM;simp only[hdi,go_sem];refine jbg ?_;simp only[go_sem];exact⟨nm1,os1,hnd,hR.sub jee (jjg bR (ja3 (by decide) bR (SubR.refl _)))⟩
 ·refine jav [66] [75] [] Tryz.func123 ?_;simp only[c0,hM,hlt,h0,hx,hal,ze,zw,Int.toNat_natCast,F1,K1,G1,go_sem];have hkd0:=hkd;have hkd:kd=2:=by rw[hkd,hal];rfl
  refine jaz [0,1,4,5,25,26] (fun g:(Nat×MN×List (List IV))×Abs.Rows=>⟨[(0,.loc (hp nm.d) 10 0 0),(1,.im (.int mv)),(4,.loc 4 6 0 0),(5,.im (.int kd)),(25,.im (.int M)),(26,.im (.int g.1.1))],(4,6,[x.c])::g.2,[]⟩)
   (fun g=>g.1.1<=M/\g.1.2.1.d=nm.d/\HasM g.2 g.1.2.1 e (ws++jdr M e.moves mv x g.1.1) g.1.2.2) (fun g=>M-g.1.1) ((0,nm,os),L) ?_ ?_ rfl ⟨zE _,rfl,by show HasM L nm e (ws++[]) os;rw[qr];exact h⟩ ?_
  ·simp only[hkd,hal,Int.natCast_zero,go_sem]
  ·simp only[hal,go_sem];exact SubR.of_eq rfl
  clear F1 K1 G1 c0 hb h;rintro⟨⟨i,nm1,os1⟩,R⟩ ⟨hi,hnd,hR⟩;dsimp only at hi hnd hR;have bR:=hR.blk;have F1:=bF bR;have K1:=bK bR;have G1:=bN bR;have c0:=hR.hd;rw[hnd]at c0;simp only[Evid.c,hM]at c0;rcases zT i M with hlti | hlti
  ·have hdi:decide ((i:Int)<M)=true:=za (by omega);have hi1:=ja9 (n:=(i:Int)+1) (by omega);have hm1:=ja9 (n:=(mv:Int)+1) (by omega);have hms:(mv:Int)+1<=e.moves.length:=by omega
   have hms':(mv:Int)+1=((mv+1:Nat):Int):=rfl;have hma:((e.moves.map Move.c).all fun c=>c.length==6)=true:=List.all_eq_true.2 fun c hc=>by
    obtain⟨z,_,rfl⟩:=qq.1 hc;rfl
   have hm0:(0:Int)<=(mv:Int)+1:=by omega
   have hmt:((mv:Int)+1).toNat=mv+1:=by omega
   have hln:(List.take (mv+1) (e.moves.map Move.c)).length=mv+1:=by rw[qi,zw];omega
   simp only[hdi,c0,hm1,hms,hma,hm0,hmt,hln,Nat.sub_zero,zw,F1,K1,G1,go_sem];refine jaz [0,1,4,5,6,7,25,26,36,37,38] (fun g:(Nat×Nat)×Abs.Rows=>⟨[(0,.loc (hp nm.d) 10 0 0),(1,.im (.int mv)),(4,.loc 4 6 0 0),(5,.im (.int kd)),(6,.im (.int i)),(7,sA g.1.2 (jah M x.fr i e.moves g.1.1).length),(25,.im (.int M)),(26,.im (.int i)),(36,.im (.sl (List.take (mv+1) (e.moves.map Move.c)))),(37,.im (.int ((mv+1:Nat):Int))),(38,.im (.int g.1.1))],(4,6,[x.c])::g.2,[]⟩)
    (fun g=>g.1.1<=mv+1/\blks g.2/\SubR R g.2/\NEWT R g.2 g.1.2 (jah M x.fr i e.moves g.1.1)) (fun g=>mv+1-g.1.1) ((0,0),R) ?_ ?_ rfl ⟨zE _,bR,SubR.refl _,fun h=>absurd rfl h⟩ ?_
   ·have hz:=jd1 (A:=0) (show(jah M x.fr i e.moves 0).length=0 from rfl);simp only[hkd,hal,Int.natCast_zero,hz,Int.natCast_add,go_sem]
   ·exact SubR.of_eq rfl
   rintro⟨⟨k,A⟩,R2⟩ ⟨hk,bR2,sR2,nR2⟩;dsimp only at hk bR2 sR2 nR2;have F2:=bF bR2;have K2:=bK bR2;have G2:=bN bR2;rcases zT k (mv+1)with hltk | hltk
   ·have hd:decide ((k:Int)<(mv+1:Nat))=true:=za (by omega);obtain⟨y,hyk⟩:∃y,e.moves[k]? =some y:=⟨_,zh (by omega)⟩;have hy:(List.take (mv+1) (e.moves.map Move.c))[k]? =some y.c:=by rw[qa,zm hltk,ze,hyk];rfl
    have h1:=ja9 (n:=(k:Int)+1) (by omega);have kv:=e_var (hR.sub bR2 sR2) hM k i (by omega) (by omega) hM6;rw[hnd]at kv;rcases hsf:decide (y.fr=x.fr)with _ | _
    ·rcases hst:decide (y.to=x.fr)with _ | _
     ·have hsgn:sgnF x.fr y=0:=by unfold sgnF;rw[zn (zJ hsf),zn (zJ hst)]
      have hskip:jah M x.fr i e.moves (k+1)=jah M x.fr i e.moves k:=by rw[jah,hyk];dsimp only;rw[zm hsgn]
      by_cases hn:(jah M x.fr i e.moves k).length=0
      ·have hs0:=jd1 (A:=A) hn;simp only[hd,hy,hsf,hst,hs0,F2,K2,G2,go_sem];refine jaa ((k+1,A),R2) ?_ ?_ rfl (by show mv+1-(k+1)<mv+1-k;omega) ⟨by dsimp only;omega,bR2,sR2,by dsimp only;rw[hskip];exact nR2⟩
       ·simp only[h1,hskip,hs0,Int.natCast_add,go_sem]
       ·show SubR ((4,6,[x.c])::R2) ((9,6,[y.c])::(4,6,[x.c])::R2);refine jas ?_ (SubR.of_eq rfl);rw[ja0 _ _ (by dsimp only;decide)];exact jay bR2 (by dsimp only;decide)
      ·have hs0:=jcn (A:=A) hn;simp only[hd,hy,hsf,hst,hs0,F2,K2,G2,go_sem];refine jaa ((k+1,A),R2) ?_ ?_ rfl (by show mv+1-(k+1)<mv+1-k;omega) ⟨by dsimp only;omega,bR2,sR2,by dsimp only;rw[hskip];exact nR2⟩
       ·simp only[h1,hskip,hs0,Int.natCast_add,go_sem]
       ·show SubR ((4,6,[x.c])::R2) ((9,6,[y.c])::(4,6,[x.c])::R2);refine jas ?_ (SubR.of_eq rfl);rw[ja0 _ _ (by dsimp only;decide)];exact jay bR2 (by dsimp only;decide)
     ·have hsgn:sgnF x.fr y=1:=by unfold sgnF;rw[zn (zJ hsf),zm (zI hst)]
      have hadd:jah M x.fr i e.moves (k+1)=jah M x.fr i e.moves k++[(k*M+i,(((1:Int)):Rat))]:=by rw[jah,hyk];dsimp only;rw[hsgn,zn (by decide)]
      have kI:=jbt 1 (by omega);simp only[frac,ints]at kI;by_cases hn:(jah M x.fr i e.moves k).length=0
      ·have hs0:=jd1 (A:=A) hn;have hnil:jah M x.fr i e.moves k=[]:=zL hn;simp only[hd,hy,hsf,hst,F2,K2,G2,hs0,go_sem];refine jaj kv (by decide) (by simp only[zl,zC,jaw];rfl) bR2 (ja3 (by decide) bR2 (ja3 (by decide) bR2 (SubR.refl _))) ?_;rintro _ L1 ⟨rfl,hL1⟩ _;subst hL1;refine⟨(9,6,[y.c])::(4,6,[x.c])::L1,jap [_,_] (jbe bR2 (by simp)),?_⟩;simp only[F2,K2,G2,go_sem];refine ja1 kI ?_;simp only[F2,K2,G2,go_sem];refine And.intro (fun c' hc'=>by rw[zF.1 hc'];rfl) ?_;unfold NewP NewH;intro X hX;have lX1:Abs.look L1 (hp X)=none:=by
        have h2:Abs.look ((9,6,[y.c])::(4,6,[x.c])::L1) (hp X)=none:=hX;rw[ja0 _ _ (hp_ne (by decide)).symm,ja0 _ _ (hp_ne (by decide)).symm]at h2;exact h2
       clear hX;have lX:Abs.look R (hp X)=none:=by
        cases hx':Abs.look R (hp X)with
        | none=>rfl
        | some z=>rw[sR2 _ _ hx']at lX1;cases lX1
       have hl1:(jah M x.fr i e.moves (k+1)).length=1:=by rw[hadd,hnil];rfl
       have hs1:=jcn (A:=X) (n:=1) (by omega);simp only[F2,K2,G2,go_sem];refine jaa ((k+1,X),(hp X,5,[tmC (k*M+i,(((1:Int)):Rat))])::L1) ?_ ?_ rfl (by show mv+1-(k+1)<mv+1-k;omega) ⟨by dsimp only;omega,jat bR2,jas lX sR2,?_⟩
       ·simp only[h1,hl1,hs1,Int.natCast_add,go_sem]
       ·show SubR ((4,6,[x.c])::(hp X,5,[tmC (k*M+i,(((1:Int)):Rat))])::L1) ((hp X,5,[tmC (k*M+i,(((1:Int)):Rat))])::(9,6,[y.c])::(4,6,[x.c])::L1);refine jb5 ?_ (jb4 _ (ja3 (by decide) bR2 (ja3 (by decide) bR2 (SubR.refl _))));rw[ja0 _ _ (hp_ne (by decide)),ja0 _ _ (by decide),ja2]
       ·dsimp only;rw[hadd];refine NEWT.app ?_ lX;rw[ja2,hnil];rfl
      ·have hs0:=jcn (A:=A) hn;obtain⟨hrA,hLA⟩:=nR2 hn;have htk:List.take (jah M x.fr i e.moves k).length ((jah M x.fr i e.moves k).map tmC)=(jah M x.fr i e.moves k).map tmC:=zt (by rw[zw];exact zB _);have hlk:=jgo (M:=M) (fr:=x.fr) (mat:=i) (ms:=e.moves) k;have bn9:(9 !=hp A)=true/\(4 !=hp A)=true:=by
        simp only[qk,ne_eq];exact⟨hp_ne (by decide),hp_ne (by decide)⟩
       simp only[hd,hy,hsf,hst,F2,K2,G2,hs0,go_sem];refine jaj kv (by decide) (by simp only[zl,zC,jaw];rfl) bR2 (ja3 (by decide) bR2 (ja3 (by decide) bR2 (SubR.refl _))) ?_;rintro _ L1 ⟨rfl,hL1⟩ _;subst hL1;refine⟨(9,6,[y.c])::(4,6,[x.c])::L1,jap [_,_] (jbe bR2 (by simp)),?_⟩;simp only[F2,K2,G2,go_sem];refine ja1 kI ?_;obtain⟨Q,hQe⟩:∃Q,Abs.del L1 (hp A)=Q:=⟨_,rfl⟩;have hQf:List.filter (fun p=>p.1 !=hp A) L1=Q:=hQe;have bQ:blks Q:=hQe▸jbx bR2;have F3:=bF bQ;have K3:=bK bQ;have G3:=bN bQ;simp only[hrA,htk,zw,F2,K2,G2,go_sem];refine And.intro (fun c' hc'=>by rw[zF.1 hc'];rfl) (And.intro (zB _) (And.intro (by omega) ?_));unfold GrowP GrowH;intro X hX;have lXQ:Abs.look Q (hp X)=none:=by
        have h2:Abs.look (Abs.del ((9,6,[y.c])::(4,6,[x.c])::L1) (hp A)) (hp X)=none:=hX;rw[jam (hp_ne (by decide)),jam (hp_ne (by decide)),ja0 _ _ (hp_ne (by decide)).symm,ja0 _ _ (hp_ne (by decide)).symm,hQe]at h2;exact h2
       clear hX;obtain⟨lS,lX⟩:=jg1 (v:=(5,(jah M x.fr i e.moves k).map tmC++[tmC (k*M+i,(((1:Int)):Rat))])) sR2 hLA (X:=X) (by rw[hQe];exact lXQ);rw[hQe]at lS;have hl1:(jah M x.fr i e.moves (k+1)).length=(jah M x.fr i e.moves k).length+1:=by rw[hadd,zH];rfl
       have hs1:=jcn (A:=X) (n:=(jah M x.fr i e.moves k).length+1) (yy _);simp only[hQf,bn9,F2,K2,G2,F3,K3,G3,go_sem];refine jaa ((k+1,X),(hp X,5,(jah M x.fr i e.moves k).map tmC++[tmC (k*M+i,(((1:Int)):Rat))])::Q) ?_ ?_ rfl (by show mv+1-(k+1)<mv+1-k;omega) ⟨by dsimp only;omega,jat bQ,lS,?_⟩
       ·simp only[h1,hl1,hs1,Int.natCast_add,go_sem]
       ·show SubR ((4,6,[x.c])::(hp X,5,(jah M x.fr i e.moves k).map tmC++[tmC (k*M+i,(((1:Int)):Rat))])::Q) ((hp X,5,(jah M x.fr i e.moves k).map tmC++[tmC (k*M+i,(((1:Int)):Rat))])::(9,6,[y.c])::(4,6,[x.c])::Q);refine jb5 ?_ (jb4 _ (ja3 (by decide) bQ (ja3 (by decide) bQ (SubR.refl _))));rw[ja0 _ _ (hp_ne (by decide)),ja0 _ _ (by decide),ja2]
       ·dsimp only;rw[hadd];exact NEWT.app (ja2 _ _ _) lX
    ·have hsgn:sgnF x.fr y= -1:=by unfold sgnF;rw[zm (zI hsf)]
     have hadd:jah M x.fr i e.moves (k+1)=jah M x.fr i e.moves k++[(k*M+i,((((-1):Int)):Rat))]:=by rw[jah,hyk];dsimp only;rw[hsgn,zn (by decide)]
     have kI:=jbt (-1) (by omega);simp only[frac,ints]at kI;by_cases hn:(jah M x.fr i e.moves k).length=0
     ·have hs0:=jd1 (A:=A) hn;have hnil:jah M x.fr i e.moves k=[]:=zL hn;simp only[hd,hy,hsf,F2,K2,G2,hs0,go_sem];refine jaj kv (by decide) (by simp only[zl,zC,jaw];rfl) bR2 (ja3 (by decide) bR2 (ja3 (by decide) bR2 (SubR.refl _))) ?_;rintro _ L1 ⟨rfl,hL1⟩ _;subst hL1;refine⟨(9,6,[y.c])::(4,6,[x.c])::L1,jap [_,_] (jbe bR2 (by simp)),?_⟩;simp only[F2,K2,G2,go_sem];refine ja1 kI ?_;simp only[F2,K2,G2,go_sem];refine And.intro (fun c' hc'=>by rw[zF.1 hc'];rfl) ?_;unfold NewP NewH;intro X hX;have lX1:Abs.look L1 (hp X)=none:=by
       have h2:Abs.look ((9,6,[y.c])::(4,6,[x.c])::L1) (hp X)=none:=hX;rw[ja0 _ _ (hp_ne (by decide)).symm,ja0 _ _ (hp_ne (by decide)).symm]at h2;exact h2
      clear hX;have lX:Abs.look R (hp X)=none:=by
       cases hx':Abs.look R (hp X)with
       | none=>rfl
       | some z=>rw[sR2 _ _ hx']at lX1;cases lX1
      have hl1:(jah M x.fr i e.moves (k+1)).length=1:=by rw[hadd,hnil];rfl
      have hs1:=jcn (A:=X) (n:=1) (by omega);simp only[F2,K2,G2,go_sem];refine jaa ((k+1,X),(hp X,5,[tmC (k*M+i,((((-1):Int)):Rat))])::L1) ?_ ?_ rfl (by show mv+1-(k+1)<mv+1-k;omega) ⟨by dsimp only;omega,jat bR2,jas lX sR2,?_⟩
      ·simp only[h1,hl1,hs1,Int.natCast_add,go_sem]
      ·show SubR ((4,6,[x.c])::(hp X,5,[tmC (k*M+i,((((-1):Int)):Rat))])::L1) ((hp X,5,[tmC (k*M+i,((((-1):Int)):Rat))])::(9,6,[y.c])::(4,6,[x.c])::L1);refine jb5 ?_ (jb4 _ (ja3 (by decide) bR2 (ja3 (by decide) bR2 (SubR.refl _))));rw[ja0 _ _ (hp_ne (by decide)),ja0 _ _ (by decide),ja2]
      ·dsimp only;rw[hadd];refine NEWT.app ?_ lX;rw[ja2,hnil];rfl
     ·have hs0:=jcn (A:=A) hn;obtain⟨hrA,hLA⟩:=nR2 hn;have htk:List.take (jah M x.fr i e.moves k).length ((jah M x.fr i e.moves k).map tmC)=(jah M x.fr i e.moves k).map tmC:=zt (by rw[zw];exact zB _);have hlk:=jgo (M:=M) (fr:=x.fr) (mat:=i) (ms:=e.moves) k;have bn9:(9 !=hp A)=true/\(4 !=hp A)=true:=by
       simp only[qk,ne_eq];exact⟨hp_ne (by decide),hp_ne (by decide)⟩
      simp only[hd,hy,hsf,F2,K2,G2,hs0,go_sem];refine jaj kv (by decide) (by simp only[zl,zC,jaw];rfl) bR2 (ja3 (by decide) bR2 (ja3 (by decide) bR2 (SubR.refl _))) ?_;rintro _ L1 ⟨rfl,hL1⟩ _;subst hL1;refine⟨(9,6,[y.c])::(4,6,[x.c])::L1,jap [_,_] (jbe bR2 (by simp)),?_⟩;simp only[F2,K2,G2,go_sem];refine ja1 kI ?_;obtain⟨Q,hQe⟩:∃Q,Abs.del L1 (hp A)=Q:=⟨_,rfl⟩;have hQf:List.filter (fun p=>p.1 !=hp A) L1=Q:=hQe;have bQ:blks Q:=hQe▸jbx bR2;have F3:=bF bQ;have K3:=bK bQ;have G3:=bN bQ;simp only[hrA,htk,zw,F2,K2,G2,go_sem];refine And.intro (fun c' hc'=>by rw[zF.1 hc'];rfl) (And.intro (zB _) (And.intro (by omega) ?_));unfold GrowP GrowH;intro X hX;have lXQ:Abs.look Q (hp X)=none:=by
       have h2:Abs.look (Abs.del ((9,6,[y.c])::(4,6,[x.c])::L1) (hp A)) (hp X)=none:=hX;rw[jam (hp_ne (by decide)),jam (hp_ne (by decide)),ja0 _ _ (hp_ne (by decide)).symm,ja0 _ _ (hp_ne (by decide)).symm,hQe]at h2;exact h2
      clear hX;obtain⟨lS,lX⟩:=jg1 (v:=(5,(jah M x.fr i e.moves k).map tmC++[tmC (k*M+i,((((-1):Int)):Rat))])) sR2 hLA (X:=X) (by rw[hQe];exact lXQ);rw[hQe]at lS;have hl1:(jah M x.fr i e.moves (k+1)).length=(jah M x.fr i e.moves k).length+1:=by rw[hadd,zH];rfl
      have hs1:=jcn (A:=X) (n:=(jah M x.fr i e.moves k).length+1) (yy _);simp only[hQf,bn9,F2,K2,G2,F3,K3,G3,go_sem];refine jaa ((k+1,X),(hp X,5,(jah M x.fr i e.moves k).map tmC++[tmC (k*M+i,((((-1):Int)):Rat))])::Q) ?_ ?_ rfl (by show mv+1-(k+1)<mv+1-k;omega) ⟨by dsimp only;omega,jat bQ,lS,?_⟩
      ·simp only[h1,hl1,hs1,Int.natCast_add,go_sem]
      ·show SubR ((4,6,[x.c])::(hp X,5,(jah M x.fr i e.moves k).map tmC++[tmC (k*M+i,((((-1):Int)):Rat))])::Q) ((hp X,5,(jah M x.fr i e.moves k).map tmC++[tmC (k*M+i,((((-1):Int)):Rat))])::(9,6,[y.c])::(4,6,[x.c])::Q);refine jb5 ?_ (jb4 _ (ja3 (by decide) bQ (ja3 (by decide) bQ (SubR.refl _))));rw[ja0 _ _ (hp_ne (by decide)),ja0 _ _ (by decide),ja2]
      ·dsimp only;rw[hadd];exact NEWT.app (ja2 _ _ _) lX
   have hd:decide ((k:Int)<(mv+1:Nat))=false:=zq (by omega);have hkm:k=mv+1:=by omega
   subst hkm;have ka:=e_add hR ⟨jah M x.fr i e.moves (mv+1),kd,0⟩ 0 mv i (-1) (by
    rw[zH];have:=jf0 (M:=M) (ms:=e.moves) (mv:=mv) (x:=x) i;omega) (OgOk.stock hM hx hbf hlti hkd0)
   have hz0:((0:Int):Rat)=0:=rfl;have o1:=jbt 0 (by omega);rw[hz0]at o1;simp only[frac,ints]at ka o1;have hdd:=hR.hd;rw[hnd]at ka hdd;by_cases hn:(jah M x.fr i e.moves (mv+1)).length=0
   ·have hs0:=jd1 (A:=A) hn;have hnil:jah M x.fr i e.moves (mv+1)=[]:=zL hn;simp only[hd,hs0,F2,K2,G2,go_sem];refine ja1 o1 ?_;simp only[hs0,F2,K2,G2,go_sem];refine jaj ka (by decide) (by simp only[zl,zC,jaw,hnil];rfl) bR (ja3 (by decide) bR sR2) ?_;rintro _ L4 ⟨rfl,nm4,hn4,hM4⟩ _;refine⟨(4,6,[x.c])::L4,jap [_] (jbe bR (by simp)),?_⟩;have bL4:=hM4.blk;have F5:=bF bL4;have G5:=bN bL4;have K5:=bK bL4;simp only[F5,G5,K5,go_sem];refine jaa ((i+1,nm4,_),L4) ?_ (SubR.of_eq rfl) rfl (by show M-(i+1)<M-i;omega) ⟨hlti,hn4,by dsimp only;rw[jdr,<-hkd0,<-qv];exact hM4⟩;simp only[hi1,Int.natCast_add,go_sem]
   ·obtain⟨hrA,hLA⟩:=nR2 hn;have hs0:=jcn (A:=A) hn;have htk:List.take (jah M x.fr i e.moves (mv+1)).length ((jah M x.fr i e.moves (mv+1)).map tmC)=(jah M x.fr i e.moves (mv+1)).map tmC:=zt (by rw[zw];exact zB _);have ndA:¬nm.d=A:=fun e=>by have h1:=hdd;rw[e,hLA]at h1;cases h1
    have bn4:(4 !=hp A)=true:=by simp only[qk,ne_eq];exact hp_ne (by decide)
    obtain⟨Q,hQe⟩:∃Q,Abs.del R2 (hp A)=Q:=⟨_,rfl⟩;have hQf:List.filter (fun p=>p.1 !=hp A) R2=Q:=hQe;have bQ:blks Q:=hQe▸jbx bR2;have sQ:=hQe▸jgg sR2 hLA;have F3:=bF bQ;have K3:=bK bQ;have G3:=bN bQ;simp only[hd,hs0,F2,K2,G2,go_sem];refine ja1 o1 ?_;simp only[hs0,hrA,ndA,hQf,htk,zB,bn4,F2,K2,G2,F3,K3,G3,go_sem];refine jaj ka (by decide) (by simp only[zl,zC,jaw];rfl) bR (ja3 (by decide) bR sQ) ?_;rintro _ L4 ⟨rfl,nm4,hn4,hM4⟩ _;refine⟨(4,6,[x.c])::L4,jap [_] (jbe bR (by simp)),?_⟩;have bL4:=hM4.blk;have F5:=bF bL4;have G5:=bN bL4;have K5:=bK bL4;simp only[F5,G5,K5,go_sem];refine jaa ((i+1,nm4,_),L4) ?_ (SubR.of_eq rfl) rfl (by show M-(i+1)<M-i;omega) ⟨hlti,hn4,by dsimp only;rw[jdr,<-hkd0,<-qv];exact hM4⟩;simp only[hi1,Int.natCast_add,go_sem]
  have hdi:decide ((i:Int)<M)=false:=zq (by omega);have hiM:i=M:=by omega
  subst hiM;simp only[hdi,go_sem];refine jbg ?_;simp only[go_sem];exact⟨nm1,os1,hnd,hR.sub jee (jjg bR (ja3 (by decide) bR (SubR.refl _)))⟩
