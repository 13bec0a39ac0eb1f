/- A part of the proof. No further condition. -/
import Derived.Test.YtjcjcpebocbonaaGreatKY24
set_option linter.all false
set_option maxRecDepth 10000000
set_option maxHeartbeats 16000000
namespace Go.Proofs.YtjcjcpebocbonaaGreat
section
set_option maxRecDepth 1000000
open Go.Abs
open Go.LP (Rw RT tsum)
attribute [local go_sem] ints ic big frac fc rwC tmC Evid.c Place.c Move.c Cert.c Recall.c Purity.c
theorem Behind_pre1{pre L':Abs.Rows}:jfr pre [] L' (pre++L'):=fun k x hk=>by
 induction pre with
 | nil=>exact .inl hk
 | cons p pre ih=>
  obtain⟨j,v⟩:=p;by_cases e:k=j
  ·subst e;rw[List.cons_append,ja2]at hk;exact .inr ⟨rfl,by rw[ja2];exact hk⟩
  ·rw[List.cons_append,ja1 _ _ e]at hk;rcases ih hk with h | ⟨h1,h2⟩
   ·exact .inl h
   ·exact .inr ⟨h1,by rw[ja1 _ _ e];exact h2⟩
theorem jbg{Q L L2:Abs.Rows}:∀(pre:Abs.Rows),(∀p∈pre,Abs.look L p.1=none)->jfr (pre++Q) L L2 (pre++L2)
 | [],_=>fun _ _ h=> .inl h
 | (j,v)::pre,hp=>fun k x h=>by
  by_cases e:k=j
  ·subst e;rw[List.cons_append,ja2]at h⊢;exact .inr ⟨hp _ (zQ ..),h⟩
  ·rw[List.cons_append,ja1 _ _ e]at h⊢;exact jbg pre (fun p h=>hp p (zV _ h)) k x h
theorem jmj{L R:Abs.Rows}(hb:blks L)(hs:SubR L R):SubR L (hiR R):=fun k x hk=>by
 obtain⟨b,rfl⟩:=hb k x hk;rw[jas];exact hs _ _ hk
theorem jd5{L:Abs.Rows}(hL:blks L):∀{pre:Abs.Rows},(pre.all fun p=>decide (p.1<100000))=true->∀p∈pre,Abs.look L p.1=none:=fun h p hp=>jax hL (zI (List.all_eq_true.1 h p hp))
theorem jj6{L R:Abs.Rows}{b:Nat}(hs:SubR L R)(h:Abs.look L (hp b)=none):SubR L (Abs.del R (hp b)):=fun k x hk=>by
 rw[jaa _ (fun e=>by subst e;rw[h]at hk;cases hk)];exact hs k x hk
theorem jpj{M mv:Nat}:∀k,(sumT M mv 1 (-1) 0 k).length=k
 | 0=>rfl
 | k+1=>by
  have h:coF 1 (-1) 0 k=1:=by unfold coF;split<;>rfl
  rw[jnz (by rw[h];decide),zB,jpj k];rfl
theorem rA_zero{A n:Nat}(h:n=0):rA A n= .im (.sl []):=ze h
theorem js5{A n:Nat}(h:n≠0):rA A n= .im (.ref A 180 5 n):=zl h
section
variable{L:Abs.Rows}{nm:MN}{e:Evid}{ws:List Rw}{os:List (List IV)}{M:Nat}
theorem jta(h:HasM L nm e ws os)(hM:e.mats=(M:Int))(mv:Nat)(x:Move)(hx:e.moves[mv]? =some x)(hm:mv<=1000)(e0:M<=6)(k4:1<=M)(hl:ws.length<=9000)(l1:e.certs.length<=100000)(l2:e.recalls.length<=100000)(l3:e.moves.length<=100000):
  CtrH G.P 135 [.loc (hp nm.d) 10 0 0,.im (.int mv)] L (fun r L'=>r= .im (.tup [])/\∃(b8:MN) (e4:List (List IV)),b8.d=nm.d/\HasM L' b8 e (ws++jea e M mv x) e4):=by
 have hb:=h.blk;have F1:=bB hb;have c0:=h.hd;simp only[Evid.c]at c0;have b5:(mv:Int)<e.moves.length:=by have:=(zr.1 hx).1;omega
 have h0:(0:Int)<=mv:=by omega
 have a6:=h_ivl e.certs e.recalls x.scale x.reading x.day l1 l2;unfold jea;rcases hsc:decide (x.scale= -1)with _ | _
 ·rw[zl (zJ hsc)];rcases hr:ivlF e.certs e.recalls x.scale x.reading x.day with _ | ⟨lo,hi⟩
  ·rw[hr]at a6;simp only[ivlIV,zf]at a6;refine jap [] [50,58] [] Tryz.func135 ?_;simp only[c0,b5,h0,hx,zq,zw,Int.toNat_natCast,F1,go_sem];simp only[hsc,F1,go_sem];refine jah ?_;simp only[c0,F1,go_sem];refine ja4 a6 (by decide) ?_;simp only[c0,F1,go_sem];refine jbl ?_;simp only[go_sem];exact⟨nm,os,rfl,h.sub jf0 (jmj hb (ja6 (by decide) hb (ja6 (by decide) hb (ja6 (by decide) hb (SubR.refl _)))))⟩
  ·rw[hr]at a6;simp only[ivlIV,frac,ints]at a6;have e7:=e_sum h hM mv 1 (-1) 0 hm e0 (by omega) (by omega);have c5:=e_add h ⟨sumT M mv 1 (-1) 0 M,0,lo⟩ 1 mv (-1) (-1) (by omega) (OgOk.low hM hx (zJ hsc) hr);simp only[frac,ints]at c5;have e8:=h.hd;have a8:(sumT M mv 1 (-1) 0 M).length≠0:=by rw[jpj];omega
   ·have c6:List.take (sumT M mv 1 (-1) 0 M).length ((sumT M mv 1 (-1) 0 M).map tmC)=(sumT M mv 1 (-1) 0 M).map tmC:=zZ (by rw[zw];exact zu _);refine jap [] [50,58] [] Tryz.func135 ?_;simp only[c0,b5,h0,hx,zq,zw,Int.toNat_natCast,F1,go_sem];simp only[hsc,F1,go_sem];refine jah ?_;simp only[c0,F1,go_sem];refine ja4 a6 (by decide) ?_;simp only[c0,F1,go_sem];refine jdb [false,false,false,true,false,false] [(8,4,[[.int 1,.int mv,.int (-1),.int (-1)]]),(5,4,[fc lo])] (by decide+kernel) (jc2 rfl (jb0 rfl)) ?_;simp only[F1,go_sem];refine je5 e7 (by decide) (by simp only[zt,zE,qu,jb3];rfl) hb (ja6 (by decide) hb (ja6 (by decide) hb (ja6 (by decide) hb (ja6 (by decide) hb (SubR.refl _))))) ?_;rintro _ L1 ⟨A1,rfl,b1,s1,n1⟩ _;refine⟨(8,4,[[.int 1,.int mv,.int (-1),.int (-1)]])::(5,4,[fc lo])::(6,4,[fc hi])::(4,6,[x.c])::L1,jbg [_,_,_,_] (jd5 hb (by simp)),?_⟩;obtain⟨e6,b3⟩:=n1 a8;have c8:=js5 (A:=A1) a8;have c3:¬nm.d=A1:=fun e=>by have h1:=e8;rw[e,b3]at h1;cases h1
    refine And.intro (jc2 rfl (jb0 rfl)) ?_;obtain⟨Q1,Q1e⟩:∃Q1,Abs.del L1 (hp A1)=Q1:=⟨_,rfl⟩;have h4:List.filter (fun p=>p.1 !=hp A1) L1=Q1:=Q1e;have b7:blks Q1:=Q1e▸jch b1;have e3:=Q1e▸jj6 s1 b3;have k3:=bF b1;have k2:=bF b7;have h8:=bN b7;have h6:=bK b7;have h2:(8 !=hp A1)=true/\(6 !=hp A1)=true/\(5 !=hp A1)=true/\(4 !=hp A1)=true:=by
     simp only[qh,ne_eq];exact⟨hp_ne (by decide),hp_ne (by decide),hp_ne (by decide),hp_ne (by decide)⟩
    simp only[c8,e6,c3,h4,c6,zu,h2,k3,k2,h8,h6,go_sem];refine jaj c5 (by decide) (by simp only[zt,zE,jb3];rfl) hb (ja6 (by decide) hb (ja6 (by decide) hb (ja6 (by decide) hb (ja6 (by decide) hb e3)))) ?_;rintro _ L2 ⟨rfl,nm2,hn2,hM2⟩ _;refine⟨(8,4,[[.int 1,.int mv,.int (-1),.int (-1)]])::(5,4,[fc lo])::(6,4,[fc hi])::(4,6,[x.c])::L2,jbg [_,_,_,_] (jd5 hb (by simp)),?_⟩;have a1:=hM2.blk;have e1:=bB a1;have c4:=e_sum hM2 hM mv 1 (-1) 0 hm e0 (by omega) (by omega);have b4:=e_add hM2 ⟨sumT M mv 1 (-1) 0 M,1,hi⟩ 2 mv (-1) (-1) (by rw[zB,List.length_singleton];omega) (OgOk.high hM hx (zJ hsc) hr);simp only[frac,ints]at b4;rw[hn2]at c4 b4;have c9:=hM2.hd;rw[hn2]at c9;simp only[e1,go_sem];refine jdb [false,false,false,true,false,false] [(8,4,[[.int 2,.int mv,.int (-1),.int (-1)]]),(6,4,[fc hi])] (by decide+kernel) (jc2 rfl (jb0 rfl)) ?_;simp only[e1,go_sem];refine je5 c4 (by decide) (by simp only[zt,zE,qu,jb3];rfl) a1 (ja6 (by decide) a1 (ja6 (by decide) a1 (ja6 (by decide) a1 (ja6 (by decide) a1 (SubR.refl _))))) ?_;rintro _ L3 ⟨A2,rfl,b2,s2,n2⟩ _;refine⟨(8,4,[[.int 2,.int mv,.int (-1),.int (-1)]])::(5,4,[fc lo])::(6,4,[fc hi])::(4,6,[x.c])::L3,jbg [_,_,_,_] (jd5 a1 (by simp)),?_⟩;obtain⟨e5,b0⟩:=n2 a8;have c7:=js5 (A:=A2) a8
    have b9:¬nm.d=A2:=fun e=>by have h1:=c9;rw[e,b0]at h1;cases h1
    refine And.intro (jc2 rfl (jb0 rfl)) ?_;obtain⟨Q3,Q3e⟩:∃Q3,Abs.del L3 (hp A2)=Q3:=⟨_,rfl⟩;have h3:List.filter (fun p=>p.1 !=hp A2) L3=Q3:=Q3e;have b6:blks Q3:=Q3e▸jch b2;have e2:=Q3e▸jj6 s2 b0;have k1:=bF b2;have k0:=bF b6;have h7:=bN b6;have h5:=bK b6;have e9:(8 !=hp A2)=true/\(6 !=hp A2)=true/\(5 !=hp A2)=true/\(4 !=hp A2)=true:=by
     simp only[qh,ne_eq];exact⟨hp_ne (by decide),hp_ne (by decide),hp_ne (by decide),hp_ne (by decide)⟩
    simp only[c7,e5,b9,h3,c6,zu,e9,k1,k0,h7,h5,go_sem];refine jaj b4 (by decide) (by simp only[zt,zE,jb3];rfl) a1 (ja6 (by decide) a1 (ja6 (by decide) a1 (ja6 (by decide) a1 (ja6 (by decide) a1 e2)))) ?_;rintro _ L4 ⟨rfl,nm4,hn4,hM4⟩ _;refine⟨(8,4,[[.int 2,.int mv,.int (-1),.int (-1)]])::(5,4,[fc lo])::(6,4,[fc hi])::(4,6,[x.c])::L4,jbg [_,_,_,_] (jd5 a1 (by simp)),?_⟩;have a7:=hM4.blk;have h9:=bB a7;simp only[h9,go_sem];refine jbl ?_;simp only[go_sem];rw[qe]at hM4;exact⟨nm4,_,hn4,hM4.sub jf0 (jmj a7 (ja6 (by decide) a7 (ja6 (by decide) a7 (ja6 (by decide) a7 (ja6 (by decide) a7 (SubR.refl L4))))))⟩
 ·rw[ze (zI hsc),qu];refine jap [] [50,58] [] Tryz.func135 ?_;simp only[c0,b5,h0,hx,hsc,zq,zw,Int.toNat_natCast,F1,go_sem];refine jbl ?_;simp only[go_sem];exact⟨nm,os,rfl,h.sub jf0 (jmj hb (ja6 (by decide) hb (SubR.refl _)))⟩
end
end
section
set_option maxRecDepth 1000000
open Go.Abs
open Go.LP (Rw RT tsum)
attribute [local go_sem] ints ic big frac fc rwC tmC Evid.c Place.c Move.c Cert.c Recall.c Purity.c
theorem pur1_yes{M mv:Nat}{p:Purity}(h:p.move=(mv:Int)):pur1 M mv p=[⟨sumT M mv (-p.least) p.mat 1000 M,0,0⟩,⟨sumT M mv p.most p.mat (-1000) M,0,0⟩]:=ze h
theorem pur1_no{M mv:Nat}{p:Purity}(h:¬p.move=(mv:Int)):pur1 M mv p=[]:=zl h
theorem purR_succ{M mv i:Nat}{ps:List Purity}{p:Purity}(h:ps[i]? =some p):purR M mv (ps.take (i+1))=purR M mv (ps.take i)++pur1 M mv p:=by
 unfold purR;rw[yo,h];simp
theorem jo5{M mv:Nat}:∀(ps:List Purity),(purR M mv ps).length<=2*ps.length
 | []=>zu _
 | p::ps=>by
  have ih:=jo5 (M:=M) (mv:=mv) ps;have h1:(pur1 M mv p).length<=2:=by unfold pur1;split<;>simp
  unfold purR at ih⊢;rw[ve,zB,List.length_cons];omega
section
variable{L:Abs.Rows}{nm:MN}{e:Evid}{ws:List Rw}{os:List (List IV)}{M:Nat}
theorem e_pur(h:HasM L nm e ws os)(hM:e.mats=(M:Int))(mv:Nat)(x0:Move)(e1:e.moves[mv]? =some x0)(hm:mv<=1000)(e8:M<=6)(hl:ws.length<=5000)(l1:e.purs.length<=1000)(h7:∀p∈e.purs,0<=p.least/\p.least<=1000/\0<=p.most/\p.most<=1000):
  CtrH G.P 136 [.loc (hp nm.d) 10 0 0,.im (.int mv)] L (fun r L'=>r= .im (.tup [])/\∃(c6:MN) (h4:List (List IV)),c6.d=nm.d/\HasM L' c6 e (ws++purR M mv e.purs) h4):=by
 have hb:=h.blk;have F1:=bB hb;have c0:=h.hd;simp only[Evid.c]at c0;refine jap [] [36,48] [] Tryz.func136 ?_;simp only[c0,zw,F1,go_sem];refine jar [0,1,11,12,13] (fun g:(Nat×MN×List (List IV))×Abs.Rows=>⟨[(0,.loc (hp nm.d) 10 0 0),(1,.im (.int mv)),(11,.im (.sl (e.purs.map Purity.c))),(12,.im (.int e.purs.length)),(13,.im (.int g.1.1))],g.2,[]⟩)
  (fun g=>g.1.1<=e.purs.length/\g.1.2.1.d=nm.d/\HasM g.2 g.1.2.1 e (ws++purR M mv (e.purs.take g.1.1)) g.1.2.2) (fun g=>e.purs.length-g.1.1) ((0,nm,os),L) ?_ ja5 rfl ⟨zG _,rfl,by show HasM L nm e (ws++[]) os;rw[qu];exact h⟩ ?_
 ·simp only[Int.natCast_zero,go_sem]
 clear F1 c0 hb h;rintro⟨⟨i,c5,c4⟩,R⟩ ⟨hi,b6,hR⟩;dsimp only at hi b6 hR;have bR:=hR.blk;have F1:=bB bR;rcases zU i e.purs.length with hlt | hlt
 ·have hd:decide ((i:Int)<e.purs.length)=true:=dTo;obtain⟨x,hx⟩:=jcf (l:=e.purs) (i:=i) (by omega);have h1:=ja8 ((i:Int)+1);have k8:=h7 x (zk hx);have a6:=purR_succ (M:=M) (mv:=mv) hx;rcases hmv:decide (x.move=(mv:Int))with _ | _
  ·rw[pur1_no (zJ hmv),qu]at a6;simp only[hd,hx,hmv,zq,F1,go_sem];refine jac ((i+1,c5,c4),R) ?_ (ja6 (by decide) bR (SubR.refl _)) rfl (by show e.purs.length-(i+1)<e.purs.length-i;omega) ⟨hlt,b6,by dsimp only;rw[a6];exact hR⟩;simp only[h1,Int.natCast_add,go_sem]
  ·rw[pur1_yes (zI hmv)]at a6;have hz:((0:Int):Rat)=0:=rfl;have o1:=jcj 0 (by omega);rw[hz]at o1;have w1:IntKind.i64.wrap (0-x.least)= -x.least:=(ja8 (0-x.least)).trans (by omega);have w2:=ja8 (-x.least);simp only[frac,ints]at o1;simp only[hd,hx,hmv,zq,F1,go_sem];have e0:=e_sum hR hM mv (-x.least) x.mat 1000 hm e8 (by omega) (by omega);have k9:(ws++purR M mv (e.purs.take i)).length<=5000+2*i:=by
    rw[zB];have:=jo5 (M:=M) (mv:=mv) (e.purs.take i);rw[qb]at this;omega
   have b5:=e_add hR ⟨sumT M mv (-x.least) x.mat 1000 M,0,0⟩ 3 mv (-1) i (by omega) (OgOk.pur hM e1 hx (zI hmv) (.inl rfl) (.inl rfl));simp only[frac,ints]at b5;have e7:=hR.hd;rw[b6]at e0 b5 e7;refine jdb [false,false,false,false,false,false,false,false,true,false,false] [(6,4,[[.int 3,.int mv,.int (-1),.int i]]),(5,4,[x.c])] (by decide+kernel) (jc2 rfl (jb0 rfl)) ?_;simp only[w1,w2,F1,go_sem];refine ja4 o1 (by decide) ?_;simp only[w1,w2,F1,go_sem];refine je5 e0 (by decide) (by simp only[zt,zE,qu,jb3];rfl) bR (ja6 (by decide) bR (ja6 (by decide) bR (SubR.refl _))) ?_;rintro _ L1 ⟨A1,rfl,b1,s1,n1⟩ _;refine⟨(6,4,[[.int 3,.int mv,.int (-1),.int i]])::(5,4,[x.c])::L1,jbg [_,_] (jd5 bR (by simp)),?_⟩;refine And.intro (jc2 rfl (jb0 rfl)) ?_;have h0:=bB b1;by_cases a8:(sumT M mv (-x.least) x.mat 1000 M).length=0;have e3:sumT M mv (-x.least) x.mat 1000 M=[]:=zX a8;have b3:=rA_zero (A:=A1) a8;simp only[b3,h0,go_sem];refine jaj b5 (by decide) (by simp only[zt,zE,jb3,e3];rfl) bR (ja6 (by decide) bR (ja6 (by decide) bR (s1))) ?_;rotate_left;obtain⟨h6,b8⟩:=n1 a8;have b3:=js5 (A:=A1) a8
   have e5:List.take (sumT M mv (-x.least) x.mat 1000 M).length ((sumT M mv (-x.least) x.mat 1000 M).map tmC)=(sumT M mv (-x.least) x.mat 1000 M).map tmC:=zZ (by rw[zw];exact zu _);have c8:¬nm.d=A1:=fun e=>by have h1:=e7;rw[e,b8]at h1;cases h1
   obtain⟨Q1,Q1e⟩:∃Q1,Abs.del L1 (hp A1)=Q1:=⟨_,rfl⟩;have k4:List.filter (fun p=>p.1 !=hp A1) L1=Q1:=Q1e;have k2:blks Q1:=Q1e▸jch b1;have h3:=Q1e▸jj6 s1 b8;have k7:=bB k2;have k0:(6 !=hp A1)=true/\(5 !=hp A1)=true:=by
    simp only[qh,ne_eq];exact⟨hp_ne (by decide),hp_ne (by decide)⟩
   simp only[b3,h6,c8,k4,e5,zu,k0,h0,k7,go_sem];refine jaj b5 (by decide) (by simp only[zt,zE,jb3];rfl) bR (ja6 (by decide) bR (ja6 (by decide) bR (h3))) ?_
   all_goals
    rintro _ L2 ⟨rfl,nm2,hn2,hM2⟩ _;refine⟨(6,4,[[.int 3,.int mv,.int (-1),.int i]])::(5,4,[x.c])::L2,jbg [_,_] (jd5 bR (by simp)),?_⟩;have a1:=hM2.blk;have c3:=bB a1;have c9:=e_sum hM2 hM mv x.most x.mat (-1000) hm e8 (by omega) (by omega);have b4:=e_add hM2 ⟨sumT M mv x.most x.mat (-1000) M,0,0⟩ 4 mv (-1) i (by rw[zB,List.length_singleton];omega) (OgOk.pur hM e1 hx (zI hmv) (.inr rfl) (.inr rfl));simp only[frac,ints]at b4;have e6:=hM2.hd;rw[hn2]at c9 b4 e6;simp only[c3,go_sem];refine jdb [false,false,false,false,false,false,false,true,false,false] [(6,4,[[.int 4,.int mv,.int (-1),.int i]]),(5,4,[x.c])] (by decide+kernel) (jc2 rfl (jb0 rfl)) ?_;simp only[c3,go_sem];refine ja4 o1 (by decide) ?_;simp only[c3,go_sem];refine je5 c9 (by decide) (by simp only[zt,zE,qu,jb3];rfl) a1 (ja6 (by decide) a1 (ja6 (by decide) a1 (SubR.refl _))) ?_;rintro _ L3 ⟨A2,rfl,b2,s2,n2⟩ _;refine⟨(6,4,[[.int 4,.int mv,.int (-1),.int i]])::(5,4,[x.c])::L3,jbg [_,_] (jd5 a1 (by simp)),?_⟩;refine And.intro (jc2 rfl (jb0 rfl)) ?_;have e9:=bB b2;by_cases a7:(sumT M mv x.most x.mat (-1000) M).length=0;have e2:sumT M mv x.most x.mat (-1000) M=[]:=zX a7;have b0:=rA_zero (A:=A2) a7;simp only[b0,e9,go_sem]
    refine jaj b4 (by decide) (by simp only[zt,zE,jb3,e2];rfl) a1 (ja6 (by decide) a1 (ja6 (by decide) a1 (s2))) ?_;rotate_left;obtain⟨h5,b7⟩:=n2 a7;have b0:=js5 (A:=A2) a7;have e4:List.take (sumT M mv x.most x.mat (-1000) M).length ((sumT M mv x.most x.mat (-1000) M).map tmC)=(sumT M mv x.most x.mat (-1000) M).map tmC:=zZ (by rw[zw];exact zu _);have c7:¬nm.d=A2:=fun e=>by have h1:=e6;rw[e,b7]at h1;cases h1
    obtain⟨Q3,Q3e⟩:∃Q3,Abs.del L3 (hp A2)=Q3:=⟨_,rfl⟩;have k3:List.filter (fun p=>p.1 !=hp A2) L3=Q3:=Q3e;have k1:blks Q3:=Q3e▸jch b2;have h2:=Q3e▸jj6 s2 b7;have k6:=bB k1;have h9:(6 !=hp A2)=true/\(5 !=hp A2)=true:=by
     simp only[qh,ne_eq];exact⟨hp_ne (by decide),hp_ne (by decide)⟩
    simp only[b0,h5,c7,k3,e4,zu,h9,e9,k6,go_sem];refine jaj b4 (by decide) (by simp only[zt,zE,jb3];rfl) a1 (ja6 (by decide) a1 (ja6 (by decide) a1 (h2))) ?_
    all_goals
     rintro _ L4 ⟨rfl,nm4,hn4,hM4⟩ _;refine⟨(6,4,[[.int 4,.int mv,.int (-1),.int i]])::(5,4,[x.c])::L4,jbg [_,_] (jd5 a1 (by simp)),?_⟩;have b9:=hM4.blk;have k5:=bB b9;simp only[k5,go_sem];refine jac ((i+1,nm4,_),L4) ?_ (ja6 (by decide) b9 (ja6 (by decide) b9 (SubR.refl _))) rfl (by show e.purs.length-(i+1)<e.purs.length-i;omega) ⟨hlt,hn4,by dsimp only;rw[a6];rw[qe,qe]at hM4;exact hM4⟩;simp only[h1,Int.natCast_add,go_sem]
 have hd:decide ((i:Int)<e.purs.length)=false:=dFo;have h8:i=e.purs.length:=by omega
 subst h8;rw[qJ]at hR;simp only[hd,go_sem];refine jbl ?_;simp only[go_sem];exact⟨c5,c4,b6,hR.sub jf0 (jmj bR (SubR.refl _))⟩
