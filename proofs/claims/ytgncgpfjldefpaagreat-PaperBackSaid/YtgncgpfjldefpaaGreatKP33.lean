/- A part of the proof. No further condition. -/
import Derived.Test.YtgncgpfjldefpaaGreatKP32
set_option linter.all false
set_option maxRecDepth 10000000
set_option maxHeartbeats 16000000
namespace Go.Proofs.YtgncgpfjldefpaaGreat
section
open Go.Abs
open Go.LP (Rw RT tsum)
attribute [local go_sem] ints ic big frac fc rwC tmC Evid.c Place.c Move.c Cert.c Recall.c Purity.c
theorem Behind_pre1{pre L':Abs.Rows}:jfc pre [] L' (pre++L'):=fun k x hk=>by
 induction pre with
 | nil=>exact .inl hk
 | cons p pre ih=>
  obtain⟨j,v⟩:=p;by_cases e:k=j
  ·subst e;rw[List.cons_append,ja2]at hk;exact .inr ⟨rfl,by rw[ja2];exact hk⟩
  ·rw[List.cons_append,ja0 _ _ e]at hk;rcases ih hk with h | ⟨h1,h2⟩
   ·exact .inl h
   ·exact .inr ⟨h1,by rw[ja0 _ _ e];exact h2⟩
theorem jat{Q L L2:Abs.Rows}:∀(pre:Abs.Rows),(∀p∈pre,Abs.look L p.1=none)->jfc (pre++Q) L L2 (pre++L2)
 | [],_=>fun _ _ h=> .inl h
 | (j,v)::pre,hp=>fun k x h=>by
  by_cases e:k=j
  ·subst e;rw[List.cons_append,ja2]at h⊢;exact .inr ⟨hp _ (qy ..),h⟩
  ·rw[List.cons_append,ja0 _ _ e]at h⊢;exact jat pre (fun p h=>hp p (qw _ h)) k x h
theorem jj8{L R:Abs.Rows}(hb:blks L)(hs:SubR L R):SubR L (hiR R):=fun k x hk=>by
 obtain⟨b,rfl⟩:=hb k x hk;rw[jag];exact hs _ _ hk
theorem jbp{L:Abs.Rows}(hL:blks L):∀{pre:Abs.Rows},(pre.all fun p=>decide (p.1<100000))=true->∀p∈pre,Abs.look L p.1=none:=fun h p hp=>jb4 hL (zF (List.all_eq_true.1 h p hp))
theorem jgl{L R:Abs.Rows}{b:Nat}(hs:SubR L R)(h:Abs.look L (hp b)=none):SubR L (Abs.del R (hp b)):=fun k x hk=>by
 rw[ja5 _ (fun e=>by subst e;rw[h]at hk;cases hk)];exact hs k x hk
theorem jnw{M mv:Nat}:∀k,(sumT M mv 1 (-1) 0 k).length=k
 | 0=>rfl
 | k+1=>by
  have h:coF 1 (-1) 0 k=1:=by unfold coF;split<;>rfl
  rw[jmk (by rw[h];decide),zJ,jnw k];rfl
theorem jpg{A n:Nat}(h:n=0):rA A n= .im (.sl []):=zm h
theorem jo8{A n:Nat}(h:n≠0):rA A n= .im (.ref A 183 5 n):=zp h
section
variable{L:Abs.Rows}{nm:MN}{e:Evid}{ws:List Rw}{os:List (List IV)}{M:Nat}
theorem jrb(h:HasM L nm e ws os)(hM:e.mats=(M:Int))(mv:Nat)(x:Move)(hx:e.moves[mv]? =some x)(hm:mv<=1000)(hM6:M<=6)(hM1:1<=M)(hl:ws.length<=9000)(l1:e.certs.length<=100000)(l2:e.recalls.length<=100000)(l3:e.moves.length<=100000):
  CtrH G.P 152 [.loc (hp nm.d) 10 0 0,.im (.int mv)] L (fun r L'=>r= .im (.tup [])/\∃(nm':MN) (os':List (List IV)),nm'.d=nm.d/\HasM L' nm' e (ws++jf3 e M mv x) os'):=by
 have hb:=h.blk;have F1:=bF hb;have K1:=bK hb;have G1:=bN hb;have c0:=h.hd;simp only[Evid.c]at c0;have hlt:(mv:Int)<e.moves.length:=by have:=(zr.1 hx).1;omega
 have h0:(0:Int)<=mv:=by omega
 have hiv:=h_ivl e.certs e.recalls x.scale x.reading x.day l1 l2;unfold jf3;rcases hsc:decide (x.scale= -1)with _ | _
 ·rw[zp (zK hsc)];rcases hr:ivlF e.certs e.recalls x.scale x.reading x.day with _ | ⟨lo,hi⟩
  ·rw[hr]at hiv;simp only[ivlIV,zf]at hiv;refine jaq [] [50,58] [] Tryz.func152 ?_;simp only[c0,hlt,h0,hx,zq,za,Int.toNat_natCast,F1,K1,G1,go_sem];simp only[hsc,F1,K1,G1,go_sem];refine jb1 ?_;simp only[c0,F1,K1,G1,go_sem];refine ja8 hiv (by decide) ?_;simp only[c0,F1,K1,G1,go_sem];refine jbd ?_;simp only[go_sem];exact⟨nm,os,rfl,h.sub jd5 (jj8 hb (ja3 (by decide) hb (ja3 (by decide) hb (ja3 (by decide) hb (SubR.refl _)))))⟩
  ·rw[hr]at hiv;simp only[ivlIV,frac,ints]at hiv;have ks1:=e_sum h hM mv 1 (-1) 0 hm hM6 (by omega) (by omega);have ka1:=e_add h ⟨sumT M mv 1 (-1) 0 M,0,lo⟩ 1 mv (-1) (-1) (by omega);simp only[frac,ints]at ka1;have hdd:=h.hd;have hn0:(sumT M mv 1 (-1) 0 M).length≠0:=by rw[jnw];omega
   ·have htk:List.take (sumT M mv 1 (-1) 0 M).length ((sumT M mv 1 (-1) 0 M).map tmC)=(sumT M mv 1 (-1) 0 M).map tmC:=zE (by rw[za];exact zu _);refine jaq [] [50,58] [] Tryz.func152 ?_;simp only[c0,hlt,h0,hx,zq,za,Int.toNat_natCast,F1,K1,G1,go_sem];simp only[hsc,F1,K1,G1,go_sem];refine jb1 ?_;simp only[c0,F1,K1,G1,go_sem];refine ja8 hiv (by decide) ?_;simp only[c0,F1,K1,G1,go_sem];refine jc1 [false,false,false,true,false,false] [(8,4,[[.int 1,.int mv,.int (-1),.int (-1)]]),(5,4,[fc lo])] (by decide+kernel) (jba rfl (jap rfl)) ?_;simp only[F1,K1,G1,go_sem];refine jbi ks1 (by decide) (by simp only[zn,zB,qk,jb0];rfl) hb (ja3 (by decide) hb (ja3 (by decide) hb (ja3 (by decide) hb (ja3 (by decide) hb (SubR.refl _))))) ?_;rintro _ L1 ⟨A1,rfl,b1,s1,n1⟩ _;refine⟨(8,4,[[.int 1,.int mv,.int (-1),.int (-1)]])::(5,4,[fc lo])::(6,4,[fc hi])::(4,6,[x.c])::L1,jat [_,_,_,_] (jbp hb (by simp)),?_⟩;obtain⟨lA1,lLA1⟩:=n1 hn0;have hrA1:=jo8 (A:=A1) hn0;have ndA1:¬nm.d=A1:=fun e=>by have h1:=hdd;rw[e,lLA1]at h1;cases h1
    refine And.intro (jba rfl (jap rfl)) ?_;obtain⟨Q1,Q1e⟩:∃Q1,Abs.del L1 (hp A1)=Q1:=⟨_,rfl⟩;have Q1f:List.filter (fun p=>p.1 !=hp A1) L1=Q1:=Q1e;have bQ1:blks Q1:=Q1e▸jbj b1;have sQ1:=Q1e▸jgl s1 lLA1;have F1a:=bF b1;have F1b:=bF bQ1;have G1b:=bN bQ1;have K1b:=bK bQ1;have bn1:(8 !=hp A1)=true/\(6 !=hp A1)=true/\(5 !=hp A1)=true/\(4 !=hp A1)=true:=by
     simp only[qz,ne_eq];exact⟨hp_ne (by decide),hp_ne (by decide),hp_ne (by decide),hp_ne (by decide)⟩
    simp only[hrA1,lA1,ndA1,Q1f,htk,zu,bn1,F1a,F1b,G1b,K1b,go_sem];refine jal ka1 (by decide) (by simp only[zn,zB,jb0];rfl) hb (ja3 (by decide) hb (ja3 (by decide) hb (ja3 (by decide) hb (ja3 (by decide) hb sQ1)))) ?_;rintro _ L2 ⟨rfl,nm2,hn2,hM2⟩ _;refine⟨(8,4,[[.int 1,.int mv,.int (-1),.int (-1)]])::(5,4,[fc lo])::(6,4,[fc hi])::(4,6,[x.c])::L2,jat [_,_,_,_] (jbp hb (by simp)),?_⟩;have bL2:=hM2.blk;have F1c:=bF bL2;have G1c:=bN bL2;have K1c:=bK bL2;have ks2:=e_sum hM2 hM mv 1 (-1) 0 hm hM6 (by omega) (by omega);have ka2:=e_add hM2 ⟨sumT M mv 1 (-1) 0 M,1,hi⟩ 2 mv (-1) (-1) (by rw[zJ,List.length_singleton];omega);simp only[frac,ints]at ka2;rw[hn2]at ks2 ka2;have hed:=hM2.hd;rw[hn2]at hed;simp only[F1c,G1c,K1c,go_sem];refine jc1 [false,false,false,true,false,false] [(8,4,[[.int 2,.int mv,.int (-1),.int (-1)]]),(6,4,[fc hi])] (by decide+kernel) (jba rfl (jap rfl)) ?_;simp only[F1c,G1c,K1c,go_sem];refine jbi ks2 (by decide) (by simp only[zn,zB,qk,jb0];rfl) bL2 (ja3 (by decide) bL2 (ja3 (by decide) bL2 (ja3 (by decide) bL2 (ja3 (by decide) bL2 (SubR.refl _))))) ?_;rintro _ L3 ⟨A2,rfl,b2,s2,n2⟩ _;refine⟨(8,4,[[.int 2,.int mv,.int (-1),.int (-1)]])::(5,4,[fc lo])::(6,4,[fc hi])::(4,6,[x.c])::L3,jat [_,_,_,_] (jbp bL2 (by simp)),?_⟩;obtain⟨lA2,lLA2⟩:=n2 hn0
    have hrA2:=jo8 (A:=A2) hn0;have ndA2:¬nm.d=A2:=fun e=>by have h1:=hed;rw[e,lLA2]at h1;cases h1
    refine And.intro (jba rfl (jap rfl)) ?_;obtain⟨Q3,Q3e⟩:∃Q3,Abs.del L3 (hp A2)=Q3:=⟨_,rfl⟩;have Q3f:List.filter (fun p=>p.1 !=hp A2) L3=Q3:=Q3e;have bQ3:blks Q3:=Q3e▸jbj b2;have sQ3:=Q3e▸jgl s2 lLA2;have F2a:=bF b2;have F2b:=bF bQ3;have G2b:=bN bQ3;have K2b:=bK bQ3;have bn2:(8 !=hp A2)=true/\(6 !=hp A2)=true/\(5 !=hp A2)=true/\(4 !=hp A2)=true:=by
     simp only[qz,ne_eq];exact⟨hp_ne (by decide),hp_ne (by decide),hp_ne (by decide),hp_ne (by decide)⟩
    simp only[hrA2,lA2,ndA2,Q3f,htk,zu,bn2,F2a,F2b,G2b,K2b,go_sem];refine jal ka2 (by decide) (by simp only[zn,zB,jb0];rfl) bL2 (ja3 (by decide) bL2 (ja3 (by decide) bL2 (ja3 (by decide) bL2 (ja3 (by decide) bL2 sQ3)))) ?_;rintro _ L4 ⟨rfl,nm4,hn4,hM4⟩ _;refine⟨(8,4,[[.int 2,.int mv,.int (-1),.int (-1)]])::(5,4,[fc lo])::(6,4,[fc hi])::(4,6,[x.c])::L4,jat [_,_,_,_] (jbp bL2 (by simp)),?_⟩;have bL4:=hM4.blk;have F2c:=bF bL4;have G2c:=bN bL4;have K2c:=bK bL4;simp only[F2c,G2c,K2c,go_sem];refine jbd ?_;simp only[go_sem];rw[zZ]at hM4;exact⟨nm4,_,hn4,hM4.sub jd5 (jj8 bL4 (ja3 (by decide) bL4 (ja3 (by decide) bL4 (ja3 (by decide) bL4 (ja3 (by decide) bL4 (SubR.refl L4))))))⟩
 ·rw[zm (zF hsc),qk];refine jaq [] [50,58] [] Tryz.func152 ?_;simp only[c0,hlt,h0,hx,hsc,zq,za,Int.toNat_natCast,F1,K1,G1,go_sem];refine jbd ?_;simp only[go_sem];exact⟨nm,os,rfl,h.sub jd5 (jj8 hb (ja3 (by decide) hb (SubR.refl _)))⟩
end
end
section
open Go.Abs
open Go.LP (Rw RT tsum)
attribute [local go_sem] ints ic big frac fc rwC tmC Evid.c Place.c Move.c Cert.c Recall.c Purity.c
theorem pur1_yes{M mv:Nat}{p:Purity}(h:p.move=(mv:Int)):pur1 M mv p=[⟨sumT M mv (-p.least) p.mat 1000 M,0,0⟩,⟨sumT M mv p.most p.mat (-1000) M,0,0⟩]:=zm h
theorem pur1_no{M mv:Nat}{p:Purity}(h:¬p.move=(mv:Int)):pur1 M mv p=[]:=zp h
theorem purR_succ{M mv i:Nat}{ps:List Purity}{p:Purity}(h:ps[i]? =some p):purR M mv (ps.take (i+1))=purR M mv (ps.take i)++pur1 M mv p:=by
 unfold purR;rw[yQ,h];simp
theorem jmo{M mv:Nat}:∀(ps:List Purity),(purR M mv ps).length<=2*ps.length
 | []=>zu _
 | p::ps=>by
  have ih:=jmo (M:=M) (mv:=mv) ps;have h1:(pur1 M mv p).length<=2:=by unfold pur1;split<;>simp
  unfold purR at ih⊢;rw[List.flatMap_cons,zJ,List.length_cons];omega
section
variable{L:Abs.Rows}{nm:MN}{e:Evid}{ws:List Rw}{os:List (List IV)}{M:Nat}
theorem e_pur(h:HasM L nm e ws os)(hM:e.mats=(M:Int))(mv:Nat)(hm:mv<=1000)(hM6:M<=6)(hl:ws.length<=5000)(l1:e.purs.length<=1000)(hpu:∀p∈e.purs,0<=p.least/\p.least<=1000/\0<=p.most/\p.most<=1000):
  CtrH G.P 153 [.loc (hp nm.d) 10 0 0,.im (.int mv)] L (fun r L'=>r= .im (.tup [])/\∃(nm':MN) (os':List (List IV)),nm'.d=nm.d/\HasM L' nm' e (ws++purR M mv e.purs) os'):=by
 have hb:=h.blk;have F1:=bF hb;have K1:=bK hb;have G1:=bN hb;have c0:=h.hd;simp only[Evid.c]at c0;refine jaq [] [36,48] [] Tryz.func153 ?_;simp only[c0,za,F1,K1,G1,go_sem];refine jbc [0,1,11,12,13] (fun g:(Nat×MN×List (List IV))×Abs.Rows=>⟨[(0,.loc (hp nm.d) 10 0 0),(1,.im (.int mv)),(11,.im (.sl (e.purs.map Purity.c))),(12,.im (.int e.purs.length)),(13,.im (.int g.1.1))],g.2,[]⟩)
  (fun g=>g.1.1<=e.purs.length/\g.1.2.1.d=nm.d/\HasM g.2 g.1.2.1 e (ws++purR M mv (e.purs.take g.1.1)) g.1.2.2) (fun g=>e.purs.length-g.1.1) ((0,nm,os),L) ?_ (SubR.of_eq rfl) rfl ⟨zI _,rfl,by show HasM L nm e (ws++[]) os;rw[qk];exact h⟩ ?_
 ·simp only[Int.natCast_zero,go_sem]
 clear F1 K1 G1 c0 hb h;rintro⟨⟨i,nm1,os1⟩,R⟩ ⟨hi,hnd,hR⟩;dsimp only at hi hnd hR;have bR:=hR.blk;have F1:=bF bR;have K1:=bK bR;have G1:=bN bR;rcases zV i e.purs.length with hlt | hlt
 ·have hd:decide ((i:Int)<e.purs.length)=true:=zh (by omega);obtain⟨x,hx⟩:=jc7 (l:=e.purs) (i:=i) (by omega);have h1:=jaa (n:=(i:Int)+1) (by omega);have hxm:=hpu x (zt hx);have hsucc:=purR_succ (M:=M) (mv:=mv) hx;rcases hmv:decide (x.move=(mv:Int))with _ | _
  ·rw[pur1_no (zK hmv),qk]at hsucc;simp only[hd,hx,hmv,zq,F1,K1,G1,go_sem];refine jae ((i+1,nm1,os1),R) ?_ (ja3 (by decide) bR (SubR.refl _)) rfl (by show e.purs.length-(i+1)<e.purs.length-i;omega) ⟨hlt,hnd,by dsimp only;rw[hsucc];exact hR⟩;simp only[h1,Int.natCast_add,go_sem]
  ·rw[pur1_yes (zF hmv)]at hsucc;have hz:((0:Int):Rat)=0:=rfl;have o1:=jcy 0 (by omega);rw[hz]at o1;have w1:IntKind.i64.wrap (0-x.least)= -x.least:=(jaa (n:=0-x.least) (by omega)).trans (by omega);have w2:=jaa (n:= -x.least) (by omega);simp only[frac,ints]at o1;simp only[hd,hx,hmv,zq,F1,K1,G1,go_sem];have ks1:=e_sum hR hM mv (-x.least) x.mat 1000 hm hM6 (by omega) (by omega);have hwl:(ws++purR M mv (e.purs.take i)).length<=5000+2*i:=by
    rw[zJ];have:=jmo (M:=M) (mv:=mv) (e.purs.take i);rw[qd]at this;omega
   have ka1:=e_add hR ⟨sumT M mv (-x.least) x.mat 1000 M,0,0⟩ 3 mv (-1) i (by omega);simp only[frac,ints]at ka1;have hdd:=hR.hd;rw[hnd]at ks1 ka1 hdd;by_cases hn10:(sumT M mv (-x.least) x.mat 1000 M).length=0
   ·have hts1:sumT M mv (-x.least) x.mat 1000 M=[]:=zO hn10;refine jc1 [false,false,false,false,false,false,false,false,true,false,false] [(6,4,[[.int 3,.int mv,.int (-1),.int i]]),(5,4,[x.c])] (by decide+kernel) (jba rfl (jap rfl)) ?_;simp only[w1,w2,F1,K1,G1,go_sem];refine ja8 o1 (by decide) ?_;simp only[w1,w2,F1,K1,G1,go_sem];refine jbi ks1 (by decide) (by simp only[zn,zB,qk,jb0];rfl) bR (ja3 (by decide) bR (ja3 (by decide) bR (SubR.refl _))) ?_;rintro _ L1 ⟨A1,rfl,b1,s1,n1⟩ _;refine⟨(6,4,[[.int 3,.int mv,.int (-1),.int i]])::(5,4,[x.c])::L1,jat [_,_] (jbp bR (by simp)),?_⟩;refine And.intro (jba rfl (jap rfl)) ?_;have F1a:=bF b1;have G1a:=bN b1;have K1a:=bK b1;have hrA1:=jpg (A:=A1) hn10;simp only[hrA1,F1a,G1a,K1a,go_sem];refine jal ka1 (by decide) (by simp only[zn,zB,jb0,hts1];rfl) bR (ja3 (by decide) bR (ja3 (by decide) bR (s1))) ?_;rintro _ L2 ⟨rfl,nm2,hn2,hM2⟩ _;refine⟨(6,4,[[.int 3,.int mv,.int (-1),.int i]])::(5,4,[x.c])::L2,jat [_,_] (jbp bR (by simp)),?_⟩;have bL2:=hM2.blk;have F1c:=bF bL2;have G1c:=bN bL2;have K1c:=bK bL2;have ks2:=e_sum hM2 hM mv x.most x.mat (-1000) hm hM6 (by omega) (by omega);have ka2:=e_add hM2 ⟨sumT M mv x.most x.mat (-1000) M,0,0⟩ 4 mv (-1) i (by rw[zJ,List.length_singleton];omega);simp only[frac,ints]at ka2
    have hed:=hM2.hd;rw[hn2]at ks2 ka2 hed;simp only[F1c,G1c,K1c,go_sem];by_cases hn20:(sumT M mv x.most x.mat (-1000) M).length=0
    ·have hts2:sumT M mv x.most x.mat (-1000) M=[]:=zO hn20;refine jc1 [false,false,false,false,false,false,false,true,false,false] [(6,4,[[.int 4,.int mv,.int (-1),.int i]]),(5,4,[x.c])] (by decide+kernel) (jba rfl (jap rfl)) ?_;simp only[F1c,G1c,K1c,go_sem];refine ja8 o1 (by decide) ?_;simp only[F1c,G1c,K1c,go_sem];refine jbi ks2 (by decide) (by simp only[zn,zB,qk,jb0];rfl) bL2 (ja3 (by decide) bL2 (ja3 (by decide) bL2 (SubR.refl _))) ?_;rintro _ L3 ⟨A2,rfl,b2,s2,n2⟩ _;refine⟨(6,4,[[.int 4,.int mv,.int (-1),.int i]])::(5,4,[x.c])::L3,jat [_,_] (jbp bL2 (by simp)),?_⟩;refine And.intro (jba rfl (jap rfl)) ?_;have F2a:=bF b2;have G2a:=bN b2;have K2a:=bK b2;have hrA2:=jpg (A:=A2) hn20;simp only[hrA2,F2a,G2a,K2a,go_sem];refine jal ka2 (by decide) (by simp only[zn,zB,jb0,hts2];rfl) bL2 (ja3 (by decide) bL2 (ja3 (by decide) bL2 (s2))) ?_;rintro _ L4 ⟨rfl,nm4,hn4,hM4⟩ _;refine⟨(6,4,[[.int 4,.int mv,.int (-1),.int i]])::(5,4,[x.c])::L4,jat [_,_] (jbp bL2 (by simp)),?_⟩;have bL4:=hM4.blk;have F2c:=bF bL4;have G2c:=bN bL4;have K2c:=bK bL4;simp only[F2c,G2c,K2c,go_sem]
     refine jae ((i+1,nm4,_),L4) ?_ (ja3 (by decide) bL4 (ja3 (by decide) bL4 (SubR.refl _))) rfl (by show e.purs.length-(i+1)<e.purs.length-i;omega) ⟨hlt,hn4,by dsimp only;rw[hsucc];rw[zZ,zZ]at hM4;exact hM4⟩;simp only[h1,Int.natCast_add,go_sem]
    ·refine jc1 [false,false,false,false,false,false,false,true,false,false] [(6,4,[[.int 4,.int mv,.int (-1),.int i]]),(5,4,[x.c])] (by decide+kernel) (jba rfl (jap rfl)) ?_;simp only[F1c,G1c,K1c,go_sem];refine ja8 o1 (by decide) ?_;simp only[F1c,G1c,K1c,go_sem];refine jbi ks2 (by decide) (by simp only[zn,zB,qk,jb0];rfl) bL2 (ja3 (by decide) bL2 (ja3 (by decide) bL2 (SubR.refl _))) ?_;rintro _ L3 ⟨A2,rfl,b2,s2,n2⟩ _;refine⟨(6,4,[[.int 4,.int mv,.int (-1),.int i]])::(5,4,[x.c])::L3,jat [_,_] (jbp bL2 (by simp)),?_⟩;refine And.intro (jba rfl (jap rfl)) ?_;have F2a:=bF b2;have G2a:=bN b2;have K2a:=bK b2;obtain⟨lA2,lLA2⟩:=n2 hn20;have hrA2:=jo8 (A:=A2) hn20;have htk2:List.take (sumT M mv x.most x.mat (-1000) M).length ((sumT M mv x.most x.mat (-1000) M).map tmC)=(sumT M mv x.most x.mat (-1000) M).map tmC:=zE (by rw[za];exact zu _);have ndA2:¬nm.d=A2:=fun e=>by have h1:=hed;rw[e,lLA2]at h1;cases h1
     obtain⟨Q3,Q3e⟩:∃Q3,Abs.del L3 (hp A2)=Q3:=⟨_,rfl⟩;have Q3f:List.filter (fun p=>p.1 !=hp A2) L3=Q3:=Q3e;have bQ3:blks Q3:=Q3e▸jbj b2;have sQ3:=Q3e▸jgl s2 lLA2;have F2b:=bF bQ3;have G2b:=bN bQ3;have K2b:=bK bQ3;have bn2:(6 !=hp A2)=true/\(5 !=hp A2)=true:=by
      simp only[qz,ne_eq];exact⟨hp_ne (by decide),hp_ne (by decide)⟩
     simp only[hrA2,lA2,ndA2,Q3f,htk2,zu,bn2,F2a,G2a,K2a,F2b,G2b,K2b,go_sem];refine jal ka2 (by decide) (by simp only[zn,zB,jb0];rfl) bL2 (ja3 (by decide) bL2 (ja3 (by decide) bL2 (sQ3))) ?_;rintro _ L4 ⟨rfl,nm4,hn4,hM4⟩ _;refine⟨(6,4,[[.int 4,.int mv,.int (-1),.int i]])::(5,4,[x.c])::L4,jat [_,_] (jbp bL2 (by simp)),?_⟩;have bL4:=hM4.blk;have F2c:=bF bL4;have G2c:=bN bL4;have K2c:=bK bL4;simp only[F2c,G2c,K2c,go_sem];refine jae ((i+1,nm4,_),L4) ?_ (ja3 (by decide) bL4 (ja3 (by decide) bL4 (SubR.refl _))) rfl (by show e.purs.length-(i+1)<e.purs.length-i;omega) ⟨hlt,hn4,by dsimp only;rw[hsucc];rw[zZ,zZ]at hM4;exact hM4⟩;simp only[h1,Int.natCast_add,go_sem]
   ·refine jc1 [false,false,false,false,false,false,false,false,true,false,false] [(6,4,[[.int 3,.int mv,.int (-1),.int i]]),(5,4,[x.c])] (by decide+kernel) (jba rfl (jap rfl)) ?_;simp only[w1,w2,F1,K1,G1,go_sem];refine ja8 o1 (by decide) ?_;simp only[w1,w2,F1,K1,G1,go_sem];refine jbi ks1 (by decide) (by simp only[zn,zB,qk,jb0];rfl) bR (ja3 (by decide) bR (ja3 (by decide) bR (SubR.refl _))) ?_;rintro _ L1 ⟨A1,rfl,b1,s1,n1⟩ _;refine⟨(6,4,[[.int 3,.int mv,.int (-1),.int i]])::(5,4,[x.c])::L1,jat [_,_] (jbp bR (by simp)),?_⟩;refine And.intro (jba rfl (jap rfl)) ?_;have F1a:=bF b1;have G1a:=bN b1;have K1a:=bK b1;obtain⟨lA1,lLA1⟩:=n1 hn10;have hrA1:=jo8 (A:=A1) hn10;have htk1:List.take (sumT M mv (-x.least) x.mat 1000 M).length ((sumT M mv (-x.least) x.mat 1000 M).map tmC)=(sumT M mv (-x.least) x.mat 1000 M).map tmC:=zE (by rw[za];exact zu _);have ndA1:¬nm.d=A1:=fun e=>by have h1:=hdd;rw[e,lLA1]at h1;cases h1
    obtain⟨Q1,Q1e⟩:∃Q1,Abs.del L1 (hp A1)=Q1:=⟨_,rfl⟩;have Q1f:List.filter (fun p=>p.1 !=hp A1) L1=Q1:=Q1e;have bQ1:blks Q1:=Q1e▸jbj b1;have sQ1:=Q1e▸jgl s1 lLA1;have F1b:=bF bQ1;have G1b:=bN bQ1;have K1b:=bK bQ1;have bn1:(6 !=hp A1)=true/\(5 !=hp A1)=true:=by
     simp only[qz,ne_eq];exact⟨hp_ne (by decide),hp_ne (by decide)⟩
    simp only[hrA1,lA1,ndA1,Q1f,htk1,zu,bn1,F1a,G1a,K1a,F1b,G1b,K1b,go_sem];refine jal ka1 (by decide) (by simp only[zn,zB,jb0];rfl) bR (ja3 (by decide) bR (ja3 (by decide) bR (sQ1))) ?_;rintro _ L2 ⟨rfl,nm2,hn2,hM2⟩ _;refine⟨(6,4,[[.int 3,.int mv,.int (-1),.int i]])::(5,4,[x.c])::L2,jat [_,_] (jbp bR (by simp)),?_⟩;have bL2:=hM2.blk;have F1c:=bF bL2;have G1c:=bN bL2;have K1c:=bK bL2;have ks2:=e_sum hM2 hM mv x.most x.mat (-1000) hm hM6 (by omega) (by omega);have ka2:=e_add hM2 ⟨sumT M mv x.most x.mat (-1000) M,0,0⟩ 4 mv (-1) i (by rw[zJ,List.length_singleton];omega);simp only[frac,ints]at ka2;have hed:=hM2.hd;rw[hn2]at ks2 ka2 hed;simp only[F1c,G1c,K1c,go_sem];by_cases hn20:(sumT M mv x.most x.mat (-1000) M).length=0
    ·have hts2:sumT M mv x.most x.mat (-1000) M=[]:=zO hn20;refine jc1 [false,false,false,false,false,false,false,true,false,false] [(6,4,[[.int 4,.int mv,.int (-1),.int i]]),(5,4,[x.c])] (by decide+kernel) (jba rfl (jap rfl)) ?_;simp only[F1c,G1c,K1c,go_sem];refine ja8 o1 (by decide) ?_;simp only[F1c,G1c,K1c,go_sem];refine jbi ks2 (by decide) (by simp only[zn,zB,qk,jb0];rfl) bL2 (ja3 (by decide) bL2 (ja3 (by decide) bL2 (SubR.refl _))) ?_;rintro _ L3 ⟨A2,rfl,b2,s2,n2⟩ _;refine⟨(6,4,[[.int 4,.int mv,.int (-1),.int i]])::(5,4,[x.c])::L3,jat [_,_] (jbp bL2 (by simp)),?_⟩;refine And.intro (jba rfl (jap rfl)) ?_;have F2a:=bF b2;have G2a:=bN b2;have K2a:=bK b2;have hrA2:=jpg (A:=A2) hn20;simp only[hrA2,F2a,G2a,K2a,go_sem];refine jal ka2 (by decide) (by simp only[zn,zB,jb0,hts2];rfl) bL2 (ja3 (by decide) bL2 (ja3 (by decide) bL2 (s2))) ?_;rintro _ L4 ⟨rfl,nm4,hn4,hM4⟩ _;refine⟨(6,4,[[.int 4,.int mv,.int (-1),.int i]])::(5,4,[x.c])::L4,jat [_,_] (jbp bL2 (by simp)),?_⟩;have bL4:=hM4.blk;have F2c:=bF bL4;have G2c:=bN bL4;have K2c:=bK bL4;simp only[F2c,G2c,K2c,go_sem]
     refine jae ((i+1,nm4,_),L4) ?_ (ja3 (by decide) bL4 (ja3 (by decide) bL4 (SubR.refl _))) rfl (by show e.purs.length-(i+1)<e.purs.length-i;omega) ⟨hlt,hn4,by dsimp only;rw[hsucc];rw[zZ,zZ]at hM4;exact hM4⟩;simp only[h1,Int.natCast_add,go_sem]
    ·refine jc1 [false,false,false,false,false,false,false,true,false,false] [(6,4,[[.int 4,.int mv,.int (-1),.int i]]),(5,4,[x.c])] (by decide+kernel) (jba rfl (jap rfl)) ?_;simp only[F1c,G1c,K1c,go_sem];refine ja8 o1 (by decide) ?_;simp only[F1c,G1c,K1c,go_sem];refine jbi ks2 (by decide) (by simp only[zn,zB,qk,jb0];rfl) bL2 (ja3 (by decide) bL2 (ja3 (by decide) bL2 (SubR.refl _))) ?_;rintro _ L3 ⟨A2,rfl,b2,s2,n2⟩ _;refine⟨(6,4,[[.int 4,.int mv,.int (-1),.int i]])::(5,4,[x.c])::L3,jat [_,_] (jbp bL2 (by simp)),?_⟩;refine And.intro (jba rfl (jap rfl)) ?_;have F2a:=bF b2;have G2a:=bN b2;have K2a:=bK b2;obtain⟨lA2,lLA2⟩:=n2 hn20;have hrA2:=jo8 (A:=A2) hn20;have htk2:List.take (sumT M mv x.most x.mat (-1000) M).length ((sumT M mv x.most x.mat (-1000) M).map tmC)=(sumT M mv x.most x.mat (-1000) M).map tmC:=zE (by rw[za];exact zu _);have ndA2:¬nm.d=A2:=fun e=>by have h1:=hed;rw[e,lLA2]at h1;cases h1
     obtain⟨Q3,Q3e⟩:∃Q3,Abs.del L3 (hp A2)=Q3:=⟨_,rfl⟩;have Q3f:List.filter (fun p=>p.1 !=hp A2) L3=Q3:=Q3e;have bQ3:blks Q3:=Q3e▸jbj b2;have sQ3:=Q3e▸jgl s2 lLA2;have F2b:=bF bQ3;have G2b:=bN bQ3;have K2b:=bK bQ3;have bn2:(6 !=hp A2)=true/\(5 !=hp A2)=true:=by
      simp only[qz,ne_eq];exact⟨hp_ne (by decide),hp_ne (by decide)⟩
     simp only[hrA2,lA2,ndA2,Q3f,htk2,zu,bn2,F2a,G2a,K2a,F2b,G2b,K2b,go_sem];refine jal ka2 (by decide) (by simp only[zn,zB,jb0];rfl) bL2 (ja3 (by decide) bL2 (ja3 (by decide) bL2 (sQ3))) ?_;rintro _ L4 ⟨rfl,nm4,hn4,hM4⟩ _;refine⟨(6,4,[[.int 4,.int mv,.int (-1),.int i]])::(5,4,[x.c])::L4,jat [_,_] (jbp bL2 (by simp)),?_⟩;have bL4:=hM4.blk;have F2c:=bF bL4;have G2c:=bN bL4;have K2c:=bK bL4;simp only[F2c,G2c,K2c,go_sem];refine jae ((i+1,nm4,_),L4) ?_ (ja3 (by decide) bL4 (ja3 (by decide) bL4 (SubR.refl _))) rfl (by show e.purs.length-(i+1)<e.purs.length-i;omega) ⟨hlt,hn4,by dsimp only;rw[hsucc];rw[zZ,zZ]at hM4;exact hM4⟩;simp only[h1,Int.natCast_add,go_sem]
 have hd:decide ((i:Int)<e.purs.length)=false:=ze (by omega);have hiw:i=e.purs.length:=by omega
 subst hiw;rw[qJ]at hR;simp only[hd,go_sem];refine jbd ?_;simp only[go_sem];exact⟨nm1,os1,hnd,hR.sub jd5 (jj8 bR (SubR.refl _))⟩
end
end
end Go.Proofs.YtgncgpfjldefpaaGreat
