/- A part of the proof. No further condition. -/
import Derived.Test.YtkcekimolppapaaGreatKC21
set_option linter.all false
set_option maxRecDepth 10000000
set_option maxHeartbeats 16000000
namespace Go.Proofs.YtkcekimolppapaaGreat
section
open Go.Abs
open Go.LP (Rw RT tsum)
attribute [local go_sem] ints ic big frac fc rwC tmC Evid.c Place.c Move.c Cert.c Recall.c Purity.c
section
variable{L:Abs.Rows}{nm:MN}{e:Evid}{ws:List Rw}{os:List (List IV)}
theorem HasM.grow{L':Abs.Rows}(h:HasM L nm e ws os){w:Rw}{og:List IV}{X1 X2:Nat}(ho:og.length=4)(b:blks L')(d1:nm.d≠X1)(d2:nm.d≠X2)(x12:X1≠X2)
  (hd:Abs.look L' (hp nm.d)=some (10,[e.c++[.ref X1 211 6 (ws.length+1),.ref X2 103 4 (ws.length+1)]]))
  (h1:Abs.look L' (hp X1)=some (6,ws.map rwC++[rwC w])) (h2:Abs.look L' (hp X2)=some (4,os++[og])):∃nm':MN,nm'.d=nm.d/\HasM L' nm' e (ws++[w]) (os++[og]):=by
 have hl:(ws++[w]).length=ws.length+1:=by rw[zu];rfl
 refine⟨⟨nm.d,X1,X2⟩,rfl,b,fun _=>d1,fun _=>d2,fun _=>x12,?_,?_,?_,fun _=> ?_,fun _=>h2⟩
 ·rw[zu,zu,h.len];rfl
 ·intro c hc;rcases qC.1 hc with hc | hc
  ·exact h.o4 c hc
  ·rw[zD.1 hc];exact ho
 ·rw[hl,jaj (qX _),jaj (qX _)];exact hd
 ·rw[h1,qw];rfl
theorem e_add(h:HasM L nm e ws os)(w:Rw)(a b c d:Int)(hl:ws.length<=10000):
  CtrH G.P 146 [.loc (hp nm.d) 10 0 0,.im (.sl (w.ts.map tmC)),.im (.int w.kind),.im (frac w.val),.im (.agg [.int a,.int b,.int c,.int d])] L
   (fun x L'=>x= .im (.tup [])/\∃nm':MN,nm'.d=nm.d/\HasM L' nm' e (ws++[w]) (os++[[.int a,.int b,.int c,.int d]])):=by
 have hb:=h.blk;have F1:=bF hb;have K1:=bK hb;have G1:=bN hb;have c0:=h.hd;have b8:∀k,(8 !=hp k)=true:=fun k=>by simp only[qi,ne_eq];exact hp_ne (by decide)
 have b9:∀k,(9 !=hp k)=true:=fun k=>by simp only[qi,ne_eq];exact hp_ne (by decide)
 by_cases hn:ws.length=0
 ·have hos:os=[]:=zI (by rw[h.len];exact hn);have hws:ws=[]:=zI hn;subst hos hws;have hz:([]:List Rw).length=0:=rfl;rw[hz,jb8,jb8]at c0;refine jav [20,30] [] [] Tryz.func146 ?_;simp only[F1,K1,G1,go_sem];refine jc7 [false,false,false,false,false,false,false,false,false,false,true,false,false] [(9,4,[[.int a,.int b,.int c,.int d]]),(8,4,[fc w.val]),(hp nm.d,10,[e.c++[.emp,.emp]])] (by decide+kernel) (jaz _ (jaz _ (jat c0))) ?_;simp only[c0,F1,K1,G1,go_sem];refine And.intro (fun c hc=>by rw[zD.1 hc];rfl) ?_;refine jiy (fun X1 hX1=> ?_);have lX1:Abs.look L (hp X1)=none:=by
   rw[ja0 _ _ (hp_ne (by decide)).symm,ja0 _ _ (hp_ne (by decide)).symm]at hX1;exact hX1
  clear hX1;have xd:¬X1=nm.d:=fun e=>by rw[e,c0]at lX1;cases lX1
  refine And.intro ?_ ?_
  ·refine jao ?_ (jaz _ (jaz _ (jat c0)));dsimp only;rw[ja0 _ _ (hp_ne (by decide)).symm,ja0 _ _ (hp_ne (by decide)).symm,ja0 _ _ (hpne xd)];rfl
  simp only[c0,xd,zF xd,F1,K1,G1,go_sem];refine jmv (List.map (fun p=>if p.1=hp nm.d then(p.1,10,[e.c++[.ref X1 211 6 1,.emp]])else p) L) (fun Q2 hQ2e=> ?_);have e1:=hQ2e;simp only[Evid.c,List.cons_append,List.nil_append]at e1;simp only[e1,go_sem];have lQ2:∀k,k≠hp nm.d->Abs.look Q2 k=Abs.look L k:=fun k hk=>by rw[<-hQ2e];exact jai hk
  have dQ2:Abs.look Q2 (hp nm.d)=some (10,[e.c++[.ref X1 211 6 1,.emp]]):=by rw[<-hQ2e];exact jad c0
  have bQ2:blks Q2:=hQ2e▸jb5 hb;have F3:=bF bQ2;have K3:=bK bQ2;have G3:=bN bQ2;refine jc7 [false,false,false,false,false,false,false,true,false,false] [(9,4,[[.int a,.int b,.int c,.int d]]),(hp nm.d,10,[e.c++[.ref X1 211 6 1,.emp]])] (by decide+kernel) ?_ ?_
  ·refine jb1 ?_ (jat ?_)
   ·dsimp only;rw[ja0 _ _ (hp_ne (by decide)),ja2]
   ·dsimp only;rw[ja0 _ _ (hpne (zF xd)),ja0 _ _ (hp_ne (by decide)).symm,ja0 _ _ (hp_ne (by decide)).symm];exact dQ2
  simp only[dQ2,xd,zF xd,F3,K3,G3,go_sem];refine And.intro (fun c hc=>by rw[zD.1 hc];rfl) ?_;refine jiy (fun X2 hX2=> ?_);have lX2:¬X2=X1/\Abs.look Q2 (hp X2)=none:=by
   have e1:¬X2=X1:=fun e=>by rw[e,ja2]at hX2;cases hX2
   rw[ja0 _ _ (hpne e1),ja0 _ _ (hp_ne (by decide)).symm,ja0 _ _ (hp_ne (by decide)).symm]at hX2;exact⟨e1,hX2⟩
  clear hX2;obtain⟨x21,lX2⟩:=lX2;have yd:¬X2=nm.d:=fun e=>by rw[e,dQ2]at lX2;cases lX2
  refine And.intro ?_ ?_
  ·refine jb1 ?_ (jat ?_)
   ·rw[ja0 _ _ (hp_ne (by decide)),ja0 _ _ (hp_ne (by decide)),ja2]
   ·rw[ja0 _ _ (hpne (zF yd)),ja0 _ _ (hpne (zF xd)),ja0 _ _ (hp_ne (by decide)).symm,ja0 _ _ (hp_ne (by decide)).symm];exact dQ2
  simp only[dQ2,x21,zF x21,xd,zF xd,yd,zF yd,F3,K3,G3,go_sem];refine jbd ?_;simp only[go_sem];refine h.grow (X1:=X1) (X2:=X2) rfl je2 (zF xd) (zF yd) (zF x21) ?_ ?_ ?_
  ·rw[jar,ja0 _ _ (hpne (zF yd)),ja0 _ _ (hpne (zF xd)),ja0 _ _ (hp_ne (by decide)).symm,ja0 _ _ (hp_ne (by decide)).symm];exact jad dQ2
  ·rw[jar,ja0 _ _ (hpne (zF x21)),ja2];rfl
  ·rw[jar,ja2];rfl
 ·rw[jaj hn,jaj hn]at c0;have dr:=h.dr hn;have d_o:=h.d_o hn;have ro:=h.ro hn;have cr:=h.hr hn;have co:=h.ho hn;have hol:os.length=ws.length:=h.len;have htk:List.take ws.length (ws.map rwC)=ws.map rwC:=zG (by rw[za];exact zB _);have hto:List.take ws.length os=os:=zG (by omega);obtain⟨Q,hQe⟩:∃Q,Abs.del L (hp nm.r)=Q:=⟨_,rfl⟩;have lQ:∀k,k≠hp nm.r->Abs.look Q k=Abs.look L k:=fun k hk=>by rw[<-hQe];exact ja6 _ hk
  have bQ:blks Q:=hQe▸jbq hb;have hQf:List.filter (fun p=>p.1 !=hp nm.r) L=Q:=hQe;have cdQ:=(lQ _ (hpne dr)).trans c0;have coQ:=(lQ _ (hpne (zF ro))).trans co;have F2:=bF bQ;have K2:=bK bQ;have G2:=bN bQ;refine jav [20,30] [] [] Tryz.func146 ?_;simp only[F1,K1,G1,go_sem];refine jc7 [false,false,false,false,false,false,false,false,false,false,true,false,false] [(9,4,[[.int a,.int b,.int c,.int d]]),(8,4,[fc w.val]),(hp nm.d,10,[e.c++[.ref nm.r 211 6 ws.length,.ref nm.o 103 4 ws.length]])] (by decide+kernel) (jaz _ (jaz _ (jat c0))) ?_;simp only[c0,cr,htk,za,F1,K1,G1,go_sem];refine And.intro (fun c hc=>by rw[zD.1 hc];rfl) (And.intro (zB _) (And.intro (by omega) ?_));refine jh1 (fun X1 hX1=> ?_);have lX1:Abs.look Q (hp X1)=none:=by
   rw[jah (hp_ne (by decide)),jah (hp_ne (by decide)),ja0 _ _ (hp_ne (by decide)).symm,ja0 _ _ (hp_ne (by decide)).symm,hQe]at hX1;exact hX1
  clear hX1;have xd:¬X1=nm.d:=fun e=>by rw[e,cdQ]at lX1;cases lX1
  have xo:¬X1=nm.o:=fun e=>by rw[e,coQ]at lX1;cases lX1
  refine And.intro ?_ ?_
  ·rw[jah (hp_ne (by decide)),jah (hp_ne (by decide)),hQe];refine jao ?_ (jaz _ (jaz _ (jat cdQ)));dsimp only;rw[ja0 _ _ (hp_ne (by decide)).symm,ja0 _ _ (hp_ne (by decide)).symm,ja0 _ _ (hpne xd)];rfl
  simp only[cdQ,b8,b9,hQf,xd,zF xd,dr,zF dr,F2,K2,G2,go_sem];refine jmv (List.map (fun p=>if p.1=hp nm.d then(p.1,10,[e.c++[.ref X1 211 6 (ws.length+1),.ref nm.o 103 4 ws.length]])else p) Q) (fun Q2 hQ2e=> ?_);have e1:=hQ2e;simp only[Evid.c,List.cons_append,List.nil_append]at e1;simp only[e1,go_sem];have lQ2:∀k,k≠hp nm.d->Abs.look Q2 k=Abs.look Q k:=fun k hk=>by rw[<-hQ2e];exact jai hk
  have dQ2:Abs.look Q2 (hp nm.d)=some (10,[e.c++[.ref X1 211 6 (ws.length+1),.ref nm.o 103 4 ws.length]]):=by rw[<-hQ2e];exact jad cdQ
  have bQ2:blks Q2:=hQ2e▸jb5 bQ;have oQ2:=(lQ2 _ (hpne (zF d_o))).trans coQ;have xQ2:Abs.look Q2 (hp X1)=none:=by rw[lQ2 _ (hpne xd)];exact lX1
  have F3:=bF bQ2;have K3:=bK bQ2;have G3:=bN bQ2;obtain⟨Q3,hQ3e⟩:∃Q3,Abs.del Q2 (hp nm.o)=Q3:=⟨_,rfl⟩;have lQ3:∀k,k≠hp nm.o->Abs.look Q3 k=Abs.look Q2 k:=fun k hk=>by rw[<-hQ3e];exact ja6 _ hk
  have bQ3:blks Q3:=hQ3e▸jbq bQ2;have hQ3f:List.filter (fun p=>p.1 !=hp nm.o) Q2=Q3:=hQ3e;have d3:=(lQ3 _ (hpne d_o)).trans dQ2;have F4:=bF bQ3;have K4:=bK bQ3;have G4:=bN bQ3;refine jc7 [false,false,false,false,false,false,false,true,false,false] [(9,4,[[.int a,.int b,.int c,.int d]]),(hp nm.d,10,[e.c++[.ref X1 211 6 (ws.length+1),.ref nm.o 103 4 ws.length]])] (by decide+kernel) ?_ ?_
  ·refine jb1 ?_ (jat ?_)
   ·dsimp only;rw[ja0 _ _ (hp_ne (by decide)),ja2]
   ·dsimp only;rw[ja0 _ _ (hpne (zF xd)),ja0 _ _ (hp_ne (by decide)).symm,ja0 _ _ (hp_ne (by decide)).symm];exact dQ2
  simp only[dQ2,oQ2,hol,hto,xd,zF xd,xo,zF xo,F3,K3,G3,go_sem];refine And.intro (fun c hc=>by rw[zD.1 hc];rfl) (And.intro (by omega) (And.intro (by omega) ?_));refine jh1 (fun X2 hX2=> ?_);have lX2:¬X2=X1/\Abs.look Q3 (hp X2)=none:=by
   rw[jah (hpne xo),jah (hp_ne (by decide)),jah (hp_ne (by decide)),hQ3e]at hX2;have e1:¬X2=X1:=fun e=>by rw[e,ja2]at hX2;cases hX2
   rw[ja0 _ _ (hpne e1),ja0 _ _ (hp_ne (by decide)).symm,ja0 _ _ (hp_ne (by decide)).symm]at hX2;exact⟨e1,hX2⟩
  clear hX2;obtain⟨x21,lX2⟩:=lX2;have yd:¬X2=nm.d:=fun e=>by rw[e,d3]at lX2;cases lX2
  refine And.intro ?_ ?_
  ·rw[jah (hpne xo),jah (hp_ne (by decide)),jah (hp_ne (by decide)),hQ3e];refine jb1 ?_ (jat ?_)
   ·rw[ja0 _ _ (hp_ne (by decide)),ja0 _ _ (hp_ne (by decide)),ja2]
   ·rw[ja0 _ _ (hpne (zF yd)),ja0 _ _ (hpne (zF xd)),ja0 _ _ (hp_ne (by decide)).symm,ja0 _ _ (hp_ne (by decide)).symm];exact d3
  have bn1:(hp X1 !=hp nm.o)=true:=by simp only[qi,ne_eq];exact hpne xo
  simp only[d3,x21,zF x21,xd,zF xd,yd,zF yd,xo,bn1,b8,b9,hQ3f,F4,K4,G4,go_sem];refine jbd ?_;simp only[go_sem];refine h.grow (X1:=X1) (X2:=X2) rfl je2 (zF xd) (zF yd) (zF x21) ?_ ?_ ?_
  ·rw[jar,ja0 _ _ (hpne (zF yd)),ja0 _ _ (hpne (zF xd)),ja0 _ _ (hp_ne (by decide)).symm,ja0 _ _ (hp_ne (by decide)).symm];exact jad d3
  ·rw[jar,ja0 _ _ (hpne (zF x21)),ja2];rfl
  ·rw[jar,ja2]
end
end
section
open Go.Abs
open Go.LP (Rw RT tsum)
attribute [local go_sem] ints ic big frac fc rwC tmC Evid.c Place.c Move.c Cert.c Recall.c Purity.c
theorem Behind_pre1{pre L':Abs.Rows}:jf6 pre [] L' (pre++L'):=fun k x hk=>by
 induction pre with
 | nil=>exact .inl hk
 | cons p pre ih=>
  obtain⟨j,v⟩:=p;by_cases e:k=j
  ·subst e;rw[List.cons_append,ja2]at hk;exact .inr ⟨rfl,by rw[ja2];exact hk⟩
  ·rw[List.cons_append,ja0 _ _ e]at hk;rcases ih hk with h | ⟨h1,h2⟩
   ·exact .inl h
   ·exact .inr ⟨h1,by rw[ja0 _ _ e];exact h2⟩
theorem jak{Q L L2:Abs.Rows}:∀(pre:Abs.Rows),(∀p∈pre,Abs.look L p.1=none)->jf6 (pre++Q) L L2 (pre++L2)
 | [],_=>fun _ _ h=> .inl h
 | (j,v)::pre,hp=>fun k x h=>by
  by_cases e:k=j
  ·subst e;rw[List.cons_append,ja2]at h⊢;exact .inr ⟨hp _ (zP ..),h⟩
  ·rw[List.cons_append,ja0 _ _ e]at h⊢;exact jak pre (fun p h=>hp p (qz _ h)) k x h
theorem jiv{L R:Abs.Rows}(hb:blks L)(hs:SubR L R):SubR L (hiR R):=fun k x hk=>by
 obtain⟨b,rfl⟩:=hb k x hk;rw[jar];exact hs _ _ hk
theorem jbb{L:Abs.Rows}(hL:blks L):∀{pre:Abs.Rows},(pre.all fun p=>decide (p.1<100000))=true->∀p∈pre,Abs.look L p.1=none:=fun h p hp=>jaw hL (zK (List.all_eq_true.1 h p hp))
theorem jg1{L R:Abs.Rows}{b:Nat}(hs:SubR L R)(h:Abs.look L (hp b)=none):SubR L (Abs.del R (hp b)):=fun k x hk=>by
 rw[ja6 _ (fun e=>by subst e;rw[h]at hk;cases hk)];exact hs k x hk
theorem jnr{M mv:Nat}:∀k,(sumT M mv 1 (-1) 0 k).length=k
 | 0=>rfl
 | k+1=>by
  have h:coF 1 (-1) 0 k=1:=by unfold coF;split<;>rfl
  rw[jmo (by rw[h];decide),zu,jnr k];rfl
theorem joz{A n:Nat}(h:n=0):rA A n= .im (.sl []):=zm h
theorem jo2{A n:Nat}(h:n≠0):rA A n= .im (.ref A 117 5 n):=zn h
section
variable{L:Abs.Rows}{nm:MN}{e:Evid}{ws:List Rw}{os:List (List IV)}{M:Nat}
theorem jqr(h:HasM L nm e ws os)(hM:e.mats=(M:Int))(mv:Nat)(x:Move)(hx:e.moves[mv]? =some x)(hm:mv<=1000)(hM6:M<=6)(hM1:1<=M)(hl:ws.length<=9000)(l1:e.certs.length<=100000)(l2:e.recalls.length<=100000)(l3:e.moves.length<=100000):
  CtrH G.P 103 [.loc (hp nm.d) 10 0 0,.im (.int mv)] L (fun r L'=>r= .im (.tup [])/\∃(nm':MN) (os':List (List IV)),nm'.d=nm.d/\HasM L' nm' e (ws++jen e M mv x) os'):=by
 have hb:=h.blk;have F1:=bF hb;have K1:=bK hb;have G1:=bN hb;have c0:=h.hd;simp only[Evid.c]at c0;have hlt:(mv:Int)<e.moves.length:=by have:=(zt.1 hx).1;omega
 have h0:(0:Int)<=mv:=by omega
 have hiv:=h_ivl e.certs e.recalls x.scale x.reading x.day l1 l2;unfold jen;rcases hsc:decide (x.scale= -1)with _ | _
 ·rw[zn (zN hsc)];rcases hr:ivlF e.certs e.recalls x.scale x.reading x.day with _ | ⟨lo,hi⟩
  ·rw[hr]at hiv;simp only[ivlIV,zf]at hiv;refine jav [] [50,58] [] Tryz.func103 ?_;simp only[c0,hlt,h0,hx,zq,za,Int.toNat_natCast,F1,K1,G1,go_sem];simp only[hsc,F1,K1,G1,go_sem];refine jap ?_;simp only[c0,F1,K1,G1,go_sem];refine ja4 hiv (by decide) ?_;simp only[c0,F1,K1,G1,go_sem];refine jbd ?_;simp only[go_sem];exact⟨nm,os,rfl,h.sub je2 (jiv hb (ja3 (by decide) hb (ja3 (by decide) hb (ja3 (by decide) hb (SubR.refl _)))))⟩
  ·rw[hr]at hiv;simp only[ivlIV,frac,ints]at hiv;have ks1:=e_sum h hM mv 1 (-1) 0 hm hM6 (by omega) (by omega);have ka1:=e_add h ⟨sumT M mv 1 (-1) 0 M,0,lo⟩ 1 mv (-1) (-1) (by omega);simp only[frac,ints]at ka1;have hdd:=h.hd;have hn0:(sumT M mv 1 (-1) 0 M).length≠0:=by rw[jnr];omega
   ·have htk:List.take (sumT M mv 1 (-1) 0 M).length ((sumT M mv 1 (-1) 0 M).map tmC)=(sumT M mv 1 (-1) 0 M).map tmC:=zG (by rw[za];exact zB _);refine jav [] [50,58] [] Tryz.func103 ?_;simp only[c0,hlt,h0,hx,zq,za,Int.toNat_natCast,F1,K1,G1,go_sem];simp only[hsc,F1,K1,G1,go_sem];refine jap ?_;simp only[c0,F1,K1,G1,go_sem];refine ja4 hiv (by decide) ?_;simp only[c0,F1,K1,G1,go_sem];refine jc7 [false,false,false,true,false,false] [(8,4,[[.int 1,.int mv,.int (-1),.int (-1)]]),(5,4,[fc lo])] (by decide+kernel) (jb1 rfl (jat rfl)) ?_;simp only[F1,K1,G1,go_sem];refine jcl ks1 (by decide) (by simp only[zl,zp,qx,jas];rfl) hb (ja3 (by decide) hb (ja3 (by decide) hb (ja3 (by decide) hb (ja3 (by decide) hb (SubR.refl _))))) ?_;rintro _ L1 ⟨A1,rfl,b1,s1,n1⟩ _;refine⟨(8,4,[[.int 1,.int mv,.int (-1),.int (-1)]])::(5,4,[fc lo])::(6,4,[fc hi])::(4,6,[x.c])::L1,jak [_,_,_,_] (jbb hb (by simp)),?_⟩;obtain⟨lA1,lLA1⟩:=n1 hn0;have hrA1:=jo2 (A:=A1) hn0;have ndA1:¬nm.d=A1:=fun e=>by have h1:=hdd;rw[e,lLA1]at h1;cases h1
    refine And.intro (jb1 rfl (jat rfl)) ?_;obtain⟨Q1,Q1e⟩:∃Q1,Abs.del L1 (hp A1)=Q1:=⟨_,rfl⟩;have Q1f:List.filter (fun p=>p.1 !=hp A1) L1=Q1:=Q1e;have bQ1:blks Q1:=Q1e▸jbq b1;have sQ1:=Q1e▸jg1 s1 lLA1;have F1a:=bF b1;have F1b:=bF bQ1;have G1b:=bN bQ1;have K1b:=bK bQ1;have bn1:(8 !=hp A1)=true/\(6 !=hp A1)=true/\(5 !=hp A1)=true/\(4 !=hp A1)=true:=by
     simp only[qi,ne_eq];exact⟨hp_ne (by decide),hp_ne (by decide),hp_ne (by decide),hp_ne (by decide)⟩
    simp only[hrA1,lA1,ndA1,Q1f,htk,zB,bn1,F1a,F1b,G1b,K1b,go_sem];refine jag ka1 (by decide) (by simp only[zl,zp,jas];rfl) hb (ja3 (by decide) hb (ja3 (by decide) hb (ja3 (by decide) hb (ja3 (by decide) hb sQ1)))) ?_;rintro _ L2 ⟨rfl,nm2,hn2,hM2⟩ _;refine⟨(8,4,[[.int 1,.int mv,.int (-1),.int (-1)]])::(5,4,[fc lo])::(6,4,[fc hi])::(4,6,[x.c])::L2,jak [_,_,_,_] (jbb hb (by simp)),?_⟩;have bL2:=hM2.blk;have F1c:=bF bL2;have G1c:=bN bL2;have K1c:=bK bL2;have ks2:=e_sum hM2 hM mv 1 (-1) 0 hm hM6 (by omega) (by omega);have ka2:=e_add hM2 ⟨sumT M mv 1 (-1) 0 M,1,hi⟩ 2 mv (-1) (-1) (by rw[zu,List.length_singleton];omega);simp only[frac,ints]at ka2;rw[hn2]at ks2 ka2;have hed:=hM2.hd;rw[hn2]at hed;simp only[F1c,G1c,K1c,go_sem];refine jc7 [false,false,false,true,false,false] [(8,4,[[.int 2,.int mv,.int (-1),.int (-1)]]),(6,4,[fc hi])] (by decide+kernel) (jb1 rfl (jat rfl)) ?_;simp only[F1c,G1c,K1c,go_sem];refine jcl ks2 (by decide) (by simp only[zl,zp,qx,jas];rfl) bL2 (ja3 (by decide) bL2 (ja3 (by decide) bL2 (ja3 (by decide) bL2 (ja3 (by decide) bL2 (SubR.refl _))))) ?_;rintro _ L3 ⟨A2,rfl,b2,s2,n2⟩ _;refine⟨(8,4,[[.int 2,.int mv,.int (-1),.int (-1)]])::(5,4,[fc lo])::(6,4,[fc hi])::(4,6,[x.c])::L3,jak [_,_,_,_] (jbb bL2 (by simp)),?_⟩;obtain⟨lA2,lLA2⟩:=n2 hn0
    have hrA2:=jo2 (A:=A2) hn0;have ndA2:¬nm.d=A2:=fun e=>by have h1:=hed;rw[e,lLA2]at h1;cases h1
    refine And.intro (jb1 rfl (jat rfl)) ?_;obtain⟨Q3,Q3e⟩:∃Q3,Abs.del L3 (hp A2)=Q3:=⟨_,rfl⟩;have Q3f:List.filter (fun p=>p.1 !=hp A2) L3=Q3:=Q3e;have bQ3:blks Q3:=Q3e▸jbq b2;have sQ3:=Q3e▸jg1 s2 lLA2;have F2a:=bF b2;have F2b:=bF bQ3;have G2b:=bN bQ3;have K2b:=bK bQ3;have bn2:(8 !=hp A2)=true/\(6 !=hp A2)=true/\(5 !=hp A2)=true/\(4 !=hp A2)=true:=by
     simp only[qi,ne_eq];exact⟨hp_ne (by decide),hp_ne (by decide),hp_ne (by decide),hp_ne (by decide)⟩
    simp only[hrA2,lA2,ndA2,Q3f,htk,zB,bn2,F2a,F2b,G2b,K2b,go_sem];refine jag ka2 (by decide) (by simp only[zl,zp,jas];rfl) bL2 (ja3 (by decide) bL2 (ja3 (by decide) bL2 (ja3 (by decide) bL2 (ja3 (by decide) bL2 sQ3)))) ?_;rintro _ L4 ⟨rfl,nm4,hn4,hM4⟩ _;refine⟨(8,4,[[.int 2,.int mv,.int (-1),.int (-1)]])::(5,4,[fc lo])::(6,4,[fc hi])::(4,6,[x.c])::L4,jak [_,_,_,_] (jbb bL2 (by simp)),?_⟩;have bL4:=hM4.blk;have F2c:=bF bL4;have G2c:=bN bL4;have K2c:=bK bL4;simp only[F2c,G2c,K2c,go_sem];refine jbd ?_;simp only[go_sem];rw[zR]at hM4;exact⟨nm4,_,hn4,hM4.sub je2 (jiv bL4 (ja3 (by decide) bL4 (ja3 (by decide) bL4 (ja3 (by decide) bL4 (ja3 (by decide) bL4 (SubR.refl L4))))))⟩
 ·rw[zm (zK hsc),qx];refine jav [] [50,58] [] Tryz.func103 ?_;simp only[c0,hlt,h0,hx,hsc,zq,za,Int.toNat_natCast,F1,K1,G1,go_sem];refine jbd ?_;simp only[go_sem];exact⟨nm,os,rfl,h.sub je2 (jiv hb (ja3 (by decide) hb (SubR.refl _)))⟩
end
end
section
open Go.Abs
open Go.LP (Rw RT tsum)
attribute [local go_sem] ints ic big frac fc rwC tmC Evid.c Place.c Move.c Cert.c Recall.c Purity.c
theorem pur1_yes{M mv:Nat}{p:Purity}(h:p.move=(mv:Int)):pur1 M mv p=[⟨sumT M mv (-p.least) p.mat 1000 M,0,0⟩,⟨sumT M mv p.most p.mat (-1000) M,0,0⟩]:=zm h
theorem pur1_no{M mv:Nat}{p:Purity}(h:¬p.move=(mv:Int)):pur1 M mv p=[]:=zn h
theorem purR_succ{M mv i:Nat}{ps:List Purity}{p:Purity}(h:ps[i]? =some p):purR M mv (ps.take (i+1))=purR M mv (ps.take i)++pur1 M mv p:=by
 unfold purR;rw[yW,h];simp
theorem jmr{M mv:Nat}:∀(ps:List Purity),(purR M mv ps).length<=2*ps.length
 | []=>zB _
 | p::ps=>by
  have ih:=jmr (M:=M) (mv:=mv) ps;have h1:(pur1 M mv p).length<=2:=by unfold pur1;split<;>simp
  unfold purR at ih⊢;rw[List.flatMap_cons,zu,List.length_cons];omega
section
variable{L:Abs.Rows}{nm:MN}{e:Evid}{ws:List Rw}{os:List (List IV)}{M:Nat}
theorem e_pur(h:HasM L nm e ws os)(hM:e.mats=(M:Int))(mv:Nat)(hm:mv<=1000)(hM6:M<=6)(hl:ws.length<=5000)(l1:e.purs.length<=1000)(hpu:∀p∈e.purs,0<=p.least/\p.least<=1000/\0<=p.most/\p.most<=1000):
  CtrH G.P 104 [.loc (hp nm.d) 10 0 0,.im (.int mv)] L (fun r L'=>r= .im (.tup [])/\∃(nm':MN) (os':List (List IV)),nm'.d=nm.d/\HasM L' nm' e (ws++purR M mv e.purs) os'):=by
 have hb:=h.blk;have F1:=bF hb;have K1:=bK hb;have G1:=bN hb;have c0:=h.hd;simp only[Evid.c]at c0;refine jav [] [36,48] [] Tryz.func104 ?_;simp only[c0,za,F1,K1,G1,go_sem];refine jay [0,1,11,12,13] (fun g:(Nat×MN×List (List IV))×Abs.Rows=>⟨[(0,.loc (hp nm.d) 10 0 0),(1,.im (.int mv)),(11,.im (.sl (e.purs.map Purity.c))),(12,.im (.int e.purs.length)),(13,.im (.int g.1.1))],g.2,[]⟩)
  (fun g=>g.1.1<=e.purs.length/\g.1.2.1.d=nm.d/\HasM g.2 g.1.2.1 e (ws++purR M mv (e.purs.take g.1.1)) g.1.2.2) (fun g=>e.purs.length-g.1.1) ((0,nm,os),L) ?_ (SubR.of_eq rfl) rfl ⟨zH _,rfl,by show HasM L nm e (ws++[]) os;rw[qx];exact h⟩ ?_
 ·simp only[Int.natCast_zero,go_sem]
 clear F1 K1 G1 c0 hb h;rintro⟨⟨i,nm1,os1⟩,R⟩ ⟨hi,hnd,hR⟩;dsimp only at hi hnd hR;have bR:=hR.blk;have F1:=bF bR;have K1:=bK bR;have G1:=bN bR;rcases zW i e.purs.length with hlt | hlt
 ·have hd:decide ((i:Int)<e.purs.length)=true:=zh (by omega);obtain⟨x,hx⟩:=jd6 (l:=e.purs) (i:=i) (by omega);have h1:=ja8 (n:=(i:Int)+1) (by omega);have hxm:=hpu x (zr hx);have hsucc:=purR_succ (M:=M) (mv:=mv) hx;rcases hmv:decide (x.move=(mv:Int))with _ | _
  ·rw[pur1_no (zN hmv),qx]at hsucc;simp only[hd,hx,hmv,zq,F1,K1,G1,go_sem];refine jaa ((i+1,nm1,os1),R) ?_ (ja3 (by decide) bR (SubR.refl _)) rfl (by show e.purs.length-(i+1)<e.purs.length-i;omega) ⟨hlt,hnd,by dsimp only;rw[hsucc];exact hR⟩;simp only[h1,Int.natCast_add,go_sem]
  ·rw[pur1_yes (zK hmv)]at hsucc;have hz:((0:Int):Rat)=0:=rfl;have o1:=jbz 0 (by omega);rw[hz]at o1;have w1:IntKind.i64.wrap (0-x.least)= -x.least:=(ja8 (n:=0-x.least) (by omega)).trans (by omega);have w2:=ja8 (n:= -x.least) (by omega);simp only[frac,ints]at o1;simp only[hd,hx,hmv,zq,F1,K1,G1,go_sem];have ks1:=e_sum hR hM mv (-x.least) x.mat 1000 hm hM6 (by omega) (by omega);have hwl:(ws++purR M mv (e.purs.take i)).length<=5000+2*i:=by
    rw[zu];have:=jmr (M:=M) (mv:=mv) (e.purs.take i);rw[qh]at this;omega
   have ka1:=e_add hR ⟨sumT M mv (-x.least) x.mat 1000 M,0,0⟩ 3 mv (-1) i (by omega);simp only[frac,ints]at ka1;have hdd:=hR.hd;rw[hnd]at ks1 ka1 hdd;by_cases hn10:(sumT M mv (-x.least) x.mat 1000 M).length=0
   ·have hts1:sumT M mv (-x.least) x.mat 1000 M=[]:=zI hn10;refine jc7 [false,false,false,false,false,false,false,false,true,false,false] [(6,4,[[.int 3,.int mv,.int (-1),.int i]]),(5,4,[x.c])] (by decide+kernel) (jb1 rfl (jat rfl)) ?_;simp only[w1,w2,F1,K1,G1,go_sem];refine ja4 o1 (by decide) ?_;simp only[w1,w2,F1,K1,G1,go_sem];refine jcl ks1 (by decide) (by simp only[zl,zp,qx,jas];rfl) bR (ja3 (by decide) bR (ja3 (by decide) bR (SubR.refl _))) ?_;rintro _ L1 ⟨A1,rfl,b1,s1,n1⟩ _;refine⟨(6,4,[[.int 3,.int mv,.int (-1),.int i]])::(5,4,[x.c])::L1,jak [_,_] (jbb bR (by simp)),?_⟩;refine And.intro (jb1 rfl (jat rfl)) ?_;have F1a:=bF b1;have G1a:=bN b1;have K1a:=bK b1;have hrA1:=joz (A:=A1) hn10;simp only[hrA1,F1a,G1a,K1a,go_sem];refine jag ka1 (by decide) (by simp only[zl,zp,jas,hts1];rfl) bR (ja3 (by decide) bR (ja3 (by decide) bR (s1))) ?_;rintro _ L2 ⟨rfl,nm2,hn2,hM2⟩ _;refine⟨(6,4,[[.int 3,.int mv,.int (-1),.int i]])::(5,4,[x.c])::L2,jak [_,_] (jbb bR (by simp)),?_⟩;have bL2:=hM2.blk;have F1c:=bF bL2;have G1c:=bN bL2;have K1c:=bK bL2;have ks2:=e_sum hM2 hM mv x.most x.mat (-1000) hm hM6 (by omega) (by omega);have ka2:=e_add hM2 ⟨sumT M mv x.most x.mat (-1000) M,0,0⟩ 4 mv (-1) i (by rw[zu,List.length_singleton];omega);simp only[frac,ints]at ka2
    have hed:=hM2.hd;rw[hn2]at ks2 ka2 hed;simp only[F1c,G1c,K1c,go_sem];by_cases hn20:(sumT M mv x.most x.mat (-1000) M).length=0
    ·have hts2:sumT M mv x.most x.mat (-1000) M=[]:=zI hn20;refine jc7 [false,false,false,false,false,false,false,true,false,false] [(6,4,[[.int 4,.int mv,.int (-1),.int i]]),(5,4,[x.c])] (by decide+kernel) (jb1 rfl (jat rfl)) ?_;simp only[F1c,G1c,K1c,go_sem];refine ja4 o1 (by decide) ?_;simp only[F1c,G1c,K1c,go_sem];refine jcl ks2 (by decide) (by simp only[zl,zp,qx,jas];rfl) bL2 (ja3 (by decide) bL2 (ja3 (by decide) bL2 (SubR.refl _))) ?_;rintro _ L3 ⟨A2,rfl,b2,s2,n2⟩ _;refine⟨(6,4,[[.int 4,.int mv,.int (-1),.int i]])::(5,4,[x.c])::L3,jak [_,_] (jbb bL2 (by simp)),?_⟩;refine And.intro (jb1 rfl (jat rfl)) ?_;have F2a:=bF b2;have G2a:=bN b2;have K2a:=bK b2;have hrA2:=joz (A:=A2) hn20;simp only[hrA2,F2a,G2a,K2a,go_sem];refine jag ka2 (by decide) (by simp only[zl,zp,jas,hts2];rfl) bL2 (ja3 (by decide) bL2 (ja3 (by decide) bL2 (s2))) ?_;rintro _ L4 ⟨rfl,nm4,hn4,hM4⟩ _;refine⟨(6,4,[[.int 4,.int mv,.int (-1),.int i]])::(5,4,[x.c])::L4,jak [_,_] (jbb bL2 (by simp)),?_⟩;have bL4:=hM4.blk;have F2c:=bF bL4;have G2c:=bN bL4;have K2c:=bK bL4;simp only[F2c,G2c,K2c,go_sem]
     refine jaa ((i+1,nm4,_),L4) ?_ (ja3 (by decide) bL4 (ja3 (by decide) bL4 (SubR.refl _))) rfl (by show e.purs.length-(i+1)<e.purs.length-i;omega) ⟨hlt,hn4,by dsimp only;rw[hsucc];rw[zR,zR]at hM4;exact hM4⟩;simp only[h1,Int.natCast_add,go_sem]
    ·refine jc7 [false,false,false,false,false,false,false,true,false,false] [(6,4,[[.int 4,.int mv,.int (-1),.int i]]),(5,4,[x.c])] (by decide+kernel) (jb1 rfl (jat rfl)) ?_;simp only[F1c,G1c,K1c,go_sem];refine ja4 o1 (by decide) ?_;simp only[F1c,G1c,K1c,go_sem];refine jcl ks2 (by decide) (by simp only[zl,zp,qx,jas];rfl) bL2 (ja3 (by decide) bL2 (ja3 (by decide) bL2 (SubR.refl _))) ?_;rintro _ L3 ⟨A2,rfl,b2,s2,n2⟩ _;refine⟨(6,4,[[.int 4,.int mv,.int (-1),.int i]])::(5,4,[x.c])::L3,jak [_,_] (jbb bL2 (by simp)),?_⟩;refine And.intro (jb1 rfl (jat rfl)) ?_;have F2a:=bF b2;have G2a:=bN b2;have K2a:=bK b2;obtain⟨lA2,lLA2⟩:=n2 hn20;have hrA2:=jo2 (A:=A2) hn20;have htk2:List.take (sumT M mv x.most x.mat (-1000) M).length ((sumT M mv x.most x.mat (-1000) M).map tmC)=(sumT M mv x.most x.mat (-1000) M).map tmC:=zG (by rw[za];exact zB _);have ndA2:¬nm.d=A2:=fun e=>by have h1:=hed;rw[e,lLA2]at h1;cases h1
     obtain⟨Q3,Q3e⟩:∃Q3,Abs.del L3 (hp A2)=Q3:=⟨_,rfl⟩;have Q3f:List.filter (fun p=>p.1 !=hp A2) L3=Q3:=Q3e;have bQ3:blks Q3:=Q3e▸jbq b2;have sQ3:=Q3e▸jg1 s2 lLA2;have F2b:=bF bQ3;have G2b:=bN bQ3;have K2b:=bK bQ3;have bn2:(6 !=hp A2)=true/\(5 !=hp A2)=true:=by
      simp only[qi,ne_eq];exact⟨hp_ne (by decide),hp_ne (by decide)⟩
     simp only[hrA2,lA2,ndA2,Q3f,htk2,zB,bn2,F2a,G2a,K2a,F2b,G2b,K2b,go_sem];refine jag ka2 (by decide) (by simp only[zl,zp,jas];rfl) bL2 (ja3 (by decide) bL2 (ja3 (by decide) bL2 (sQ3))) ?_;rintro _ L4 ⟨rfl,nm4,hn4,hM4⟩ _;refine⟨(6,4,[[.int 4,.int mv,.int (-1),.int i]])::(5,4,[x.c])::L4,jak [_,_] (jbb bL2 (by simp)),?_⟩;have bL4:=hM4.blk;have F2c:=bF bL4;have G2c:=bN bL4;have K2c:=bK bL4;simp only[F2c,G2c,K2c,go_sem];refine jaa ((i+1,nm4,_),L4) ?_ (ja3 (by decide) bL4 (ja3 (by decide) bL4 (SubR.refl _))) rfl (by show e.purs.length-(i+1)<e.purs.length-i;omega) ⟨hlt,hn4,by dsimp only;rw[hsucc];rw[zR,zR]at hM4;exact hM4⟩;simp only[h1,Int.natCast_add,go_sem]
   ·refine jc7 [false,false,false,false,false,false,false,false,true,false,false] [(6,4,[[.int 3,.int mv,.int (-1),.int i]]),(5,4,[x.c])] (by decide+kernel) (jb1 rfl (jat rfl)) ?_;simp only[w1,w2,F1,K1,G1,go_sem];refine ja4 o1 (by decide) ?_;simp only[w1,w2,F1,K1,G1,go_sem];refine jcl ks1 (by decide) (by simp only[zl,zp,qx,jas];rfl) bR (ja3 (by decide) bR (ja3 (by decide) bR (SubR.refl _))) ?_;rintro _ L1 ⟨A1,rfl,b1,s1,n1⟩ _;refine⟨(6,4,[[.int 3,.int mv,.int (-1),.int i]])::(5,4,[x.c])::L1,jak [_,_] (jbb bR (by simp)),?_⟩;refine And.intro (jb1 rfl (jat rfl)) ?_;have F1a:=bF b1;have G1a:=bN b1;have K1a:=bK b1;obtain⟨lA1,lLA1⟩:=n1 hn10;have hrA1:=jo2 (A:=A1) hn10;have htk1:List.take (sumT M mv (-x.least) x.mat 1000 M).length ((sumT M mv (-x.least) x.mat 1000 M).map tmC)=(sumT M mv (-x.least) x.mat 1000 M).map tmC:=zG (by rw[za];exact zB _);have ndA1:¬nm.d=A1:=fun e=>by have h1:=hdd;rw[e,lLA1]at h1;cases h1
    obtain⟨Q1,Q1e⟩:∃Q1,Abs.del L1 (hp A1)=Q1:=⟨_,rfl⟩;have Q1f:List.filter (fun p=>p.1 !=hp A1) L1=Q1:=Q1e;have bQ1:blks Q1:=Q1e▸jbq b1;have sQ1:=Q1e▸jg1 s1 lLA1;have F1b:=bF bQ1;have G1b:=bN bQ1;have K1b:=bK bQ1;have bn1:(6 !=hp A1)=true/\(5 !=hp A1)=true:=by
     simp only[qi,ne_eq];exact⟨hp_ne (by decide),hp_ne (by decide)⟩
    simp only[hrA1,lA1,ndA1,Q1f,htk1,zB,bn1,F1a,G1a,K1a,F1b,G1b,K1b,go_sem];refine jag ka1 (by decide) (by simp only[zl,zp,jas];rfl) bR (ja3 (by decide) bR (ja3 (by decide) bR (sQ1))) ?_;rintro _ L2 ⟨rfl,nm2,hn2,hM2⟩ _;refine⟨(6,4,[[.int 3,.int mv,.int (-1),.int i]])::(5,4,[x.c])::L2,jak [_,_] (jbb bR (by simp)),?_⟩;have bL2:=hM2.blk;have F1c:=bF bL2;have G1c:=bN bL2;have K1c:=bK bL2;have ks2:=e_sum hM2 hM mv x.most x.mat (-1000) hm hM6 (by omega) (by omega);have ka2:=e_add hM2 ⟨sumT M mv x.most x.mat (-1000) M,0,0⟩ 4 mv (-1) i (by rw[zu,List.length_singleton];omega);simp only[frac,ints]at ka2;have hed:=hM2.hd;rw[hn2]at ks2 ka2 hed;simp only[F1c,G1c,K1c,go_sem];by_cases hn20:(sumT M mv x.most x.mat (-1000) M).length=0
    ·have hts2:sumT M mv x.most x.mat (-1000) M=[]:=zI hn20;refine jc7 [false,false,false,false,false,false,false,true,false,false] [(6,4,[[.int 4,.int mv,.int (-1),.int i]]),(5,4,[x.c])] (by decide+kernel) (jb1 rfl (jat rfl)) ?_;simp only[F1c,G1c,K1c,go_sem];refine ja4 o1 (by decide) ?_;simp only[F1c,G1c,K1c,go_sem];refine jcl ks2 (by decide) (by simp only[zl,zp,qx,jas];rfl) bL2 (ja3 (by decide) bL2 (ja3 (by decide) bL2 (SubR.refl _))) ?_;rintro _ L3 ⟨A2,rfl,b2,s2,n2⟩ _;refine⟨(6,4,[[.int 4,.int mv,.int (-1),.int i]])::(5,4,[x.c])::L3,jak [_,_] (jbb bL2 (by simp)),?_⟩;refine And.intro (jb1 rfl (jat rfl)) ?_;have F2a:=bF b2;have G2a:=bN b2;have K2a:=bK b2;have hrA2:=joz (A:=A2) hn20;simp only[hrA2,F2a,G2a,K2a,go_sem];refine jag ka2 (by decide) (by simp only[zl,zp,jas,hts2];rfl) bL2 (ja3 (by decide) bL2 (ja3 (by decide) bL2 (s2))) ?_;rintro _ L4 ⟨rfl,nm4,hn4,hM4⟩ _;refine⟨(6,4,[[.int 4,.int mv,.int (-1),.int i]])::(5,4,[x.c])::L4,jak [_,_] (jbb bL2 (by simp)),?_⟩;have bL4:=hM4.blk;have F2c:=bF bL4;have G2c:=bN bL4;have K2c:=bK bL4;simp only[F2c,G2c,K2c,go_sem]
     refine jaa ((i+1,nm4,_),L4) ?_ (ja3 (by decide) bL4 (ja3 (by decide) bL4 (SubR.refl _))) rfl (by show e.purs.length-(i+1)<e.purs.length-i;omega) ⟨hlt,hn4,by dsimp only;rw[hsucc];rw[zR,zR]at hM4;exact hM4⟩;simp only[h1,Int.natCast_add,go_sem]
    ·refine jc7 [false,false,false,false,false,false,false,true,false,false] [(6,4,[[.int 4,.int mv,.int (-1),.int i]]),(5,4,[x.c])] (by decide+kernel) (jb1 rfl (jat rfl)) ?_;simp only[F1c,G1c,K1c,go_sem];refine ja4 o1 (by decide) ?_;simp only[F1c,G1c,K1c,go_sem];refine jcl ks2 (by decide) (by simp only[zl,zp,qx,jas];rfl) bL2 (ja3 (by decide) bL2 (ja3 (by decide) bL2 (SubR.refl _))) ?_;rintro _ L3 ⟨A2,rfl,b2,s2,n2⟩ _;refine⟨(6,4,[[.int 4,.int mv,.int (-1),.int i]])::(5,4,[x.c])::L3,jak [_,_] (jbb bL2 (by simp)),?_⟩;refine And.intro (jb1 rfl (jat rfl)) ?_;have F2a:=bF b2;have G2a:=bN b2;have K2a:=bK b2;obtain⟨lA2,lLA2⟩:=n2 hn20;have hrA2:=jo2 (A:=A2) hn20;have htk2:List.take (sumT M mv x.most x.mat (-1000) M).length ((sumT M mv x.most x.mat (-1000) M).map tmC)=(sumT M mv x.most x.mat (-1000) M).map tmC:=zG (by rw[za];exact zB _);have ndA2:¬nm.d=A2:=fun e=>by have h1:=hed;rw[e,lLA2]at h1;cases h1
     obtain⟨Q3,Q3e⟩:∃Q3,Abs.del L3 (hp A2)=Q3:=⟨_,rfl⟩;have Q3f:List.filter (fun p=>p.1 !=hp A2) L3=Q3:=Q3e;have bQ3:blks Q3:=Q3e▸jbq b2;have sQ3:=Q3e▸jg1 s2 lLA2;have F2b:=bF bQ3;have G2b:=bN bQ3;have K2b:=bK bQ3;have bn2:(6 !=hp A2)=true/\(5 !=hp A2)=true:=by
      simp only[qi,ne_eq];exact⟨hp_ne (by decide),hp_ne (by decide)⟩
     simp only[hrA2,lA2,ndA2,Q3f,htk2,zB,bn2,F2a,G2a,K2a,F2b,G2b,K2b,go_sem];refine jag ka2 (by decide) (by simp only[zl,zp,jas];rfl) bL2 (ja3 (by decide) bL2 (ja3 (by decide) bL2 (sQ3))) ?_;rintro _ L4 ⟨rfl,nm4,hn4,hM4⟩ _;refine⟨(6,4,[[.int 4,.int mv,.int (-1),.int i]])::(5,4,[x.c])::L4,jak [_,_] (jbb bL2 (by simp)),?_⟩;have bL4:=hM4.blk;have F2c:=bF bL4;have G2c:=bN bL4;have K2c:=bK bL4;simp only[F2c,G2c,K2c,go_sem];refine jaa ((i+1,nm4,_),L4) ?_ (ja3 (by decide) bL4 (ja3 (by decide) bL4 (SubR.refl _))) rfl (by show e.purs.length-(i+1)<e.purs.length-i;omega) ⟨hlt,hn4,by dsimp only;rw[hsucc];rw[zR,zR]at hM4;exact hM4⟩;simp only[h1,Int.natCast_add,go_sem]
 have hd:decide ((i:Int)<e.purs.length)=false:=zw (by omega);have hiw:i=e.purs.length:=by omega
 subst hiw;rw[qY]at hR;simp only[hd,go_sem];refine jbd ?_;simp only[go_sem];exact⟨nm1,os1,hnd,hR.sub je2 (jiv bR (SubR.refl _))⟩
