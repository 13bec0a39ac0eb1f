/- A part of the proof. No further condition. -/
import Derived.Test.YtdhlmmoicchgpaaGreatKV17
set_option linter.all false
set_option maxRecDepth 10000000
set_option maxHeartbeats 16000000
namespace Go.Proofs.YtdhlmmoicchgpaaGreat
section
open Go.Abs
attribute [local go_sem] Evid.iv Evid.c Place.c Move.c Cert.c Recall.c Purity.c ints ic
theorem jim:∀(R L:Abs.Rows) (k:Nat),Abs.look (R++L) k=(Abs.look R k).or (Abs.look L k)
 | [],L,k=>by rw[List.nil_append];rfl
 | p::R,L,k=>by
  obtain⟨d,v⟩:=p;by_cases e:k=d
  ·subst e;rw[List.cons_append,ja1,ja1];rfl
  ·rw[List.cons_append,ja0 _ _ e,ja0 _ _ e,jim R L k]
theorem jdz{R L0:Abs.Rows}:jed R [] L0 (R++L0):=fun k x hk=>by
 rw[jim]at hk;cases h:Abs.look R k with
 | some y=>rw[h]at hk;exact .inr ⟨rfl,hk⟩
 | none=>rw[h]at hk;exact .inl hk
theorem lay{α:Type}{q:Prop}(x:α)(h:∀y,x=y->q):q:=h x rfl
structure FitE(e:Evid):Prop where
 places:e.places.length<=100000
 moves:e.moves.length<=100000
 certs:e.certs.length<=100000
 recalls:e.recalls.length<=100000
 purs:e.purs.length<=100000
def NewR(L:Abs.Rows)(X s:Nat)(es:List (List IV)):Prop:=es≠[]->Abs.look L (hp X)=some (s,es)
theorem u_cloneM(es:List (List IV))(hl:∀c∈es,c.length=6)(hm:es.length<=100000):
  CtrH G.P 57 [.im (.sl es)] [] (fun r L'=>∃X,r= .im (sl0 X 44 6 es.length)/\blks L'/\NewR L' X 6 es):=by
 by_cases hn:es=[]
 ·subst hn;refine CtrH.mono (jjj (xs:=[.sl []]) (t:=2) good Tryz.func57 rfl (by decide+kernel) (by decide) rfl ?_) (fun r L' ⟨h1,h2⟩=>⟨0,h1,h2▸jak,fun h=>absurd rfl h⟩);refine SemC.seq ?_;refine SemC.awp good (by decide+kernel) ?_;simp only[go_sem];refine SemC.seq ?_;refine SemC.awp good (by decide+kernel) ?_;simp only[go_sem];refine jd6 (fun h=> ?_) ?_
  ·simp only[go_sem]
  ·simp only[go_sem];refine SemC.seq ?_;refine SemC.list good (by decide+kernel) ?_;refine⟨rfl,.inl ?_⟩;simp only[go_sem];refine⟨rfl,.inl ?_⟩;simp only[go_sem];refine⟨rfl,.inr (jfz (e:=44) rfl rfl rfl (by decide) (by decide) (by decide) ?_)⟩;refine⟨rfl,.inl ?_⟩;simp only[go_sem];refine SemC.awp good (by decide+kernel) ?_;simp only[go_sem]
 ·have hl0:es.length≠0:=fun h=>hn (zF h);refine jag [7] [] [.tmp 2] Tryz.func57 ?_;simp only[go_sem];refine jd6 (fun h=>absurd h hn) ?_;simp only[hn,go_sem];refine And.intro hl (And.intro (by omega) (jc2 (fun X hX=> ?_)));clear hX;simp only[go_sem];refine lay [(hp X,6,es)] (fun M hM=> ?_);refine jao M (hM▸jac jak) (SubR.of_eq hM.symm) ?_;simp only[go_sem];exact⟨X,by rw[jab hl0],hM▸jac jak,fun _=>by rw[<-hM];exact ja1 _ _ _⟩
theorem u_cloneC(es:List (List IV))(hl:∀c∈es,c.length=6)(hm:es.length<=100000):
  CtrH G.P 58 [.im (.sl es)] [] (fun r L'=>∃X,r= .im (sl0 X 46 6 es.length)/\blks L'/\NewR L' X 6 es):=by
 by_cases hn:es=[]
 ·subst hn;refine CtrH.mono (jjj (xs:=[.sl []]) (t:=2) good Tryz.func58 rfl (by decide+kernel) (by decide) rfl ?_) (fun r L' ⟨h1,h2⟩=>⟨0,h1,h2▸jak,fun h=>absurd rfl h⟩);refine SemC.seq ?_;refine SemC.awp good (by decide+kernel) ?_;simp only[go_sem];refine SemC.seq ?_;refine SemC.awp good (by decide+kernel) ?_;simp only[go_sem];refine jd6 (fun h=> ?_) ?_
  ·simp only[go_sem]
  ·simp only[go_sem];refine SemC.seq ?_;refine SemC.list good (by decide+kernel) ?_;refine⟨rfl,.inl ?_⟩;simp only[go_sem];refine⟨rfl,.inl ?_⟩;simp only[go_sem];refine⟨rfl,.inr (jfz (e:=46) rfl rfl rfl (by decide) (by decide) (by decide) ?_)⟩;refine⟨rfl,.inl ?_⟩;simp only[go_sem];refine SemC.awp good (by decide+kernel) ?_;simp only[go_sem]
 ·have hl0:es.length≠0:=fun h=>hn (zF h);refine jag [7] [] [.tmp 2] Tryz.func58 ?_;simp only[go_sem];refine jd6 (fun h=>absurd h hn) ?_;simp only[hn,go_sem];refine And.intro hl (And.intro (by omega) (jc2 (fun X hX=> ?_)));clear hX;simp only[go_sem];refine lay [(hp X,6,es)] (fun M hM=> ?_);refine jao M (hM▸jac jak) (SubR.of_eq hM.symm) ?_;simp only[go_sem];exact⟨X,by rw[jab hl0],hM▸jac jak,fun _=>by rw[<-hM];exact ja1 _ _ _⟩
theorem u_cloneR(es:List (List IV))(hl:∀c∈es,c.length=2)(hm:es.length<=100000):
  CtrH G.P 59 [.im (.sl es)] [] (fun r L'=>∃X,r= .im (sl0 X 48 2 es.length)/\blks L'/\NewR L' X 2 es):=by
 by_cases hn:es=[]
 ·subst hn;refine CtrH.mono (jjj (xs:=[.sl []]) (t:=2) good Tryz.func59 rfl (by decide+kernel) (by decide) rfl ?_) (fun r L' ⟨h1,h2⟩=>⟨0,h1,h2▸jak,fun h=>absurd rfl h⟩);refine SemC.seq ?_;refine SemC.awp good (by decide+kernel) ?_;simp only[go_sem];refine SemC.seq ?_;refine SemC.awp good (by decide+kernel) ?_;simp only[go_sem];refine jd6 (fun h=> ?_) ?_
  ·simp only[go_sem]
  ·simp only[go_sem];refine SemC.seq ?_;refine SemC.list good (by decide+kernel) ?_;refine⟨rfl,.inl ?_⟩;simp only[go_sem];refine⟨rfl,.inl ?_⟩;simp only[go_sem];refine⟨rfl,.inr (jfz (e:=48) rfl rfl rfl (by decide) (by decide) (by decide) ?_)⟩;refine⟨rfl,.inl ?_⟩;simp only[go_sem];refine SemC.awp good (by decide+kernel) ?_;simp only[go_sem]
 ·have hl0:es.length≠0:=fun h=>hn (zF h);refine jag [7] [] [.tmp 2] Tryz.func59 ?_;simp only[go_sem];refine jd6 (fun h=>absurd h hn) ?_;simp only[hn,go_sem];refine And.intro hl (And.intro (by omega) (jc2 (fun X hX=> ?_)));clear hX;simp only[go_sem];refine lay [(hp X,2,es)] (fun M hM=> ?_);refine jao M (hM▸jac jak) (SubR.of_eq hM.symm) ?_;simp only[go_sem];exact⟨X,by rw[jab hl0],hM▸jac jak,fun _=>by rw[<-hM];exact ja1 _ _ _⟩
theorem u_cloneP(es:List (List IV))(hl:∀c∈es,c.length=4)(hm:es.length<=100000):
  CtrH G.P 60 [.im (.sl es)] [] (fun r L'=>∃X,r= .im (sl0 X 50 4 es.length)/\blks L'/\NewR L' X 4 es):=by
 by_cases hn:es=[]
 ·subst hn;refine CtrH.mono (jjj (xs:=[.sl []]) (t:=2) good Tryz.func60 rfl (by decide+kernel) (by decide) rfl ?_) (fun r L' ⟨h1,h2⟩=>⟨0,h1,h2▸jak,fun h=>absurd rfl h⟩);refine SemC.seq ?_;refine SemC.awp good (by decide+kernel) ?_;simp only[go_sem];refine SemC.seq ?_;refine SemC.awp good (by decide+kernel) ?_;simp only[go_sem];refine jd6 (fun h=> ?_) ?_
  ·simp only[go_sem]
  ·simp only[go_sem];refine SemC.seq ?_;refine SemC.list good (by decide+kernel) ?_;refine⟨rfl,.inl ?_⟩;simp only[go_sem];refine⟨rfl,.inl ?_⟩;simp only[go_sem];refine⟨rfl,.inr (jfz (e:=50) rfl rfl rfl (by decide) (by decide) (by decide) ?_)⟩;refine⟨rfl,.inl ?_⟩;simp only[go_sem];refine SemC.awp good (by decide+kernel) ?_;simp only[go_sem]
 ·have hl0:es.length≠0:=fun h=>hn (zF h);refine jag [7] [] [.tmp 2] Tryz.func60 ?_;simp only[go_sem];refine jd6 (fun h=>absurd h hn) ?_;simp only[hn,go_sem];refine And.intro hl (And.intro (by omega) (jc2 (fun X hX=> ?_)));clear hX;simp only[go_sem];refine lay [(hp X,4,es)] (fun M hM=> ?_);refine jao M (hM▸jac jak) (SubR.of_eq hM.symm) ?_;simp only[go_sem];exact⟨X,by rw[jab hl0],hM▸jac jak,fun _=>by rw[<-hM];exact ja1 _ _ _⟩
theorem u_ownM(e:Evid)(h:FitE e):
  CtrH G.P 31 [.im e.iv] [] (fun r L'=>∃X,r= .im (.agg [.int e.mats,.int e.houses,.int e.scales,.sl (e.places.map Place.c),sl0 X 44 6 e.moves.length,.sl (e.certs.map Cert.c),.sl (e.recalls.map Recall.c),.sl (e.purs.map Purity.c)])/\blks L'/\NewR L' X 6 (e.moves.map Move.c)):=by
 have kC:=u_cloneM (e.moves.map Move.c) (fun c hc=>by obtain⟨z,_,rfl⟩:=zU.1 hc;rfl) (by rw[zq];exact h.moves);rw[zq]at kC;have k1:=CtrV.ctr (c32 e.places h.places);have k3:=CtrV.ctr (c34 e.certs h.certs);have k4:=CtrV.ctr (c35 e.recalls h.recalls);have k5:=CtrV.ctr (c29 e.purs h.purs);clear h;by_cases hn:e.moves.length=0
 ·simp only[hn,jb7]at kC⊢;refine jag [8] [] [.cell 2 28] Tryz.func31 ?_;simp only[go_sem];refine jci [false,false,false,false,false,true,false,false,false,false,true,false,true,false,true] (.alt 5 (.alt 10 (.alt 12 (.alt 14 .fin .none) .none) .none) .none) [(1,8,[e.c])] (by decide+kernel) (jbg (by simp only[go_sem]) jad) ?_;simp only[go_sem];refine ja4 k1 (by decide) ?_;simp only[go_sem];refine ja4 k3 (by decide) ?_;simp only[go_sem];refine jb8 kC (by decide) rfl jak jad ?_;rintro _ L0 ⟨X,rfl,b0,g0⟩ _;refine⟨_,jdz,?_⟩;have F1:=bF b0;have K1:=bK b0;have G1:=bN b0;simp only[List.cons_append,List.nil_append,F1,K1,G1,go_sem];refine And.intro (jbg (by simp only[go_sem]) jad) ?_
  try simp only[F1,K1,G1,go_sem]
  refine jav ?_;simp only[F1,K1,G1,go_sem];refine ja4 k4 (by decide) ?_;simp only[F1,K1,G1,go_sem];refine ja4 k5 (by decide) ?_;simp only[F1,K1,G1,go_sem];refine jao L0 b0 (ja3 (by decide) b0 (ja3 (by decide) b0 (SubR.refl L0))) ?_;simp only[F1,K1,G1,go_sem]
  first | exact⟨X,b0,g0⟩ | exact⟨X,rfl,b0,g0⟩
 ·simp only[jab hn]at kC⊢;refine jag [8] [] [.cell 2 28] Tryz.func31 ?_;simp only[go_sem];refine jci [false,false,false,false,false,true,false,false,false,false,true,false,true,false,true] (.alt 5 (.alt 10 (.alt 12 (.alt 14 .fin .none) .none) .none) .none) [(1,8,[e.c])] (by decide+kernel) (jbg (by simp only[go_sem]) jad) ?_;simp only[go_sem];refine ja4 k1 (by decide) ?_;simp only[go_sem];refine ja4 k3 (by decide) ?_;simp only[go_sem];refine jb8 kC (by decide) rfl jak jad ?_;rintro _ L0 ⟨X,rfl,b0,g0⟩ _;refine⟨_,jdz,?_⟩;have F1:=bF b0;have K1:=bK b0;have G1:=bN b0;simp only[List.cons_append,List.nil_append,F1,K1,G1,go_sem];refine And.intro (jbg (by simp only[go_sem]) jad) ?_
  try simp only[F1,K1,G1,go_sem]
  refine jav ?_;simp only[F1,K1,G1,go_sem];refine ja4 k4 (by decide) ?_;simp only[F1,K1,G1,go_sem];refine ja4 k5 (by decide) ?_;simp only[F1,K1,G1,go_sem];refine jao L0 b0 (ja3 (by decide) b0 (ja3 (by decide) b0 (SubR.refl L0))) ?_;simp only[F1,K1,G1,go_sem]
  first | exact⟨X,b0,g0⟩ | exact⟨X,rfl,b0,g0⟩
theorem u_ownC(e:Evid)(h:FitE e):
  CtrH G.P 31 [.im e.iv] [] (fun r L'=>∃X,r= .im (.agg [.int e.mats,.int e.houses,.int e.scales,.sl (e.places.map Place.c),.sl (e.moves.map Move.c),sl0 X 46 6 e.certs.length,.sl (e.recalls.map Recall.c),.sl (e.purs.map Purity.c)])/\blks L'/\NewR L' X 6 (e.certs.map Cert.c)):=by
 have kC:=u_cloneC (e.certs.map Cert.c) (fun c hc=>by obtain⟨z,_,rfl⟩:=zU.1 hc;rfl) (by rw[zq];exact h.certs);rw[zq]at kC;have k1:=CtrV.ctr (c32 e.places h.places);have k2:=CtrV.ctr (c33 e.moves h.moves);have k4:=CtrV.ctr (c35 e.recalls h.recalls);have k5:=CtrV.ctr (c29 e.purs h.purs);clear h;by_cases hn:e.certs.length=0
 ·simp only[hn,jb7]at kC⊢;refine jag [11] [] [.cell 2 28] Tryz.func31 ?_;simp only[go_sem];refine jci [false,false,false,false,false,false,false,false,true,false,true,false,true,false,true] (.alt 8 (.alt 10 (.alt 12 (.alt 14 .fin .none) .none) .none) .none) [(1,8,[e.c])] (by decide+kernel) (jbg (by simp only[go_sem]) jad) ?_;simp only[go_sem];refine ja4 k1 (by decide) ?_;simp only[go_sem];refine ja4 k2 (by decide) ?_;simp only[go_sem];refine jb8 kC (by decide) rfl jak jad ?_;rintro _ L0 ⟨X,rfl,b0,g0⟩ _;refine⟨_,jdz,?_⟩;have F1:=bF b0;have K1:=bK b0;have G1:=bN b0;simp only[List.cons_append,List.nil_append,F1,K1,G1,go_sem];refine And.intro (jbg (by simp only[go_sem]) jad) ?_
  try simp only[F1,K1,G1,go_sem]
  refine jav ?_;simp only[F1,K1,G1,go_sem];refine ja4 k4 (by decide) ?_;simp only[F1,K1,G1,go_sem];refine ja4 k5 (by decide) ?_;simp only[F1,K1,G1,go_sem];refine jao L0 b0 (ja3 (by decide) b0 (ja3 (by decide) b0 (SubR.refl L0))) ?_;simp only[F1,K1,G1,go_sem]
  first | exact⟨X,b0,g0⟩ | exact⟨X,rfl,b0,g0⟩
 ·simp only[jab hn]at kC⊢;refine jag [11] [] [.cell 2 28] Tryz.func31 ?_;simp only[go_sem];refine jci [false,false,false,false,false,false,false,false,true,false,true,false,true,false,true] (.alt 8 (.alt 10 (.alt 12 (.alt 14 .fin .none) .none) .none) .none) [(1,8,[e.c])] (by decide+kernel) (jbg (by simp only[go_sem]) jad) ?_;simp only[go_sem];refine ja4 k1 (by decide) ?_;simp only[go_sem];refine ja4 k2 (by decide) ?_;simp only[go_sem];refine jb8 kC (by decide) rfl jak jad ?_;rintro _ L0 ⟨X,rfl,b0,g0⟩ _;refine⟨_,jdz,?_⟩;have F1:=bF b0;have K1:=bK b0;have G1:=bN b0;simp only[List.cons_append,List.nil_append,F1,K1,G1,go_sem];refine And.intro (jbg (by simp only[go_sem]) jad) ?_
  try simp only[F1,K1,G1,go_sem]
  refine jav ?_;simp only[F1,K1,G1,go_sem];refine ja4 k4 (by decide) ?_;simp only[F1,K1,G1,go_sem];refine ja4 k5 (by decide) ?_;simp only[F1,K1,G1,go_sem];refine jao L0 b0 (ja3 (by decide) b0 (ja3 (by decide) b0 (SubR.refl L0))) ?_;simp only[F1,K1,G1,go_sem]
  first | exact⟨X,b0,g0⟩ | exact⟨X,rfl,b0,g0⟩
theorem u_ownR(e:Evid)(h:FitE e):
  CtrH G.P 31 [.im e.iv] [] (fun r L'=>∃X,r= .im (.agg [.int e.mats,.int e.houses,.int e.scales,.sl (e.places.map Place.c),.sl (e.moves.map Move.c),.sl (e.certs.map Cert.c),sl0 X 48 2 e.recalls.length,.sl (e.purs.map Purity.c)])/\blks L'/\NewR L' X 2 (e.recalls.map Recall.c)):=by
 have kC:=u_cloneR (e.recalls.map Recall.c) (fun c hc=>by obtain⟨z,_,rfl⟩:=zU.1 hc;rfl) (by rw[zq];exact h.recalls);rw[zq]at kC;have k1:=CtrV.ctr (c32 e.places h.places);have k2:=CtrV.ctr (c33 e.moves h.moves);have k3:=CtrV.ctr (c34 e.certs h.certs);have k5:=CtrV.ctr (c29 e.purs h.purs);clear h;by_cases hn:e.recalls.length=0
 ·simp only[hn,jb7]at kC⊢;refine jag [17] [] [.cell 2 28] Tryz.func31 ?_;simp only[go_sem];refine jav ?_;simp only[go_sem];refine ja4 k1 (by decide) ?_;simp only[go_sem];refine ja4 k2 (by decide) ?_;simp only[go_sem];refine ja4 k3 (by decide) ?_;simp only[go_sem];refine jci [false,false,true,false,false,false,false,true,false,true] (.alt 2 (.alt 7 (.alt 9 .fin .none) .none) .none) [(1,8,[e.c])] (by decide+kernel) (jbg (by simp only[go_sem]) jad) ?_;simp only[go_sem];refine ja4 k5 (by decide) ?_;simp only[go_sem];refine jb8 kC (by decide) rfl jak jad ?_;rintro _ L0 ⟨X,rfl,b0,g0⟩ _;refine⟨_,jdz,?_⟩;have F1:=bF b0;have K1:=bK b0;have G1:=bN b0;simp only[List.cons_append,List.nil_append,F1,K1,G1,go_sem];refine And.intro (jbg (by simp only[go_sem]) jad) ?_
  try simp only[F1,K1,G1,go_sem]
  refine jao L0 b0 (ja3 (by decide) b0 (ja3 (by decide) b0 (SubR.refl L0))) ?_;simp only[F1,K1,G1,go_sem]
  first | exact⟨X,b0,g0⟩ | exact⟨X,rfl,b0,g0⟩
 ·simp only[jab hn]at kC⊢;refine jag [17] [] [.cell 2 28] Tryz.func31 ?_;simp only[go_sem];refine jav ?_;simp only[go_sem];refine ja4 k1 (by decide) ?_;simp only[go_sem];refine ja4 k2 (by decide) ?_;simp only[go_sem];refine ja4 k3 (by decide) ?_;simp only[go_sem];refine jci [false,false,true,false,false,false,false,true,false,true] (.alt 2 (.alt 7 (.alt 9 .fin .none) .none) .none) [(1,8,[e.c])] (by decide+kernel) (jbg (by simp only[go_sem]) jad) ?_;simp only[go_sem];refine ja4 k5 (by decide) ?_;simp only[go_sem];refine jb8 kC (by decide) rfl jak jad ?_;rintro _ L0 ⟨X,rfl,b0,g0⟩ _;refine⟨_,jdz,?_⟩;have F1:=bF b0;have K1:=bK b0;have G1:=bN b0;simp only[List.cons_append,List.nil_append,F1,K1,G1,go_sem];refine And.intro (jbg (by simp only[go_sem]) jad) ?_
  try simp only[F1,K1,G1,go_sem]
  refine jao L0 b0 (ja3 (by decide) b0 (ja3 (by decide) b0 (SubR.refl L0))) ?_;simp only[F1,K1,G1,go_sem]
  first | exact⟨X,b0,g0⟩ | exact⟨X,rfl,b0,g0⟩
theorem u_ownP(e:Evid)(h:FitE e):
  CtrH G.P 31 [.im e.iv] [] (fun r L'=>∃X,r= .im (.agg [.int e.mats,.int e.houses,.int e.scales,.sl (e.places.map Place.c),.sl (e.moves.map Move.c),.sl (e.certs.map Cert.c),.sl (e.recalls.map Recall.c),sl0 X 50 4 e.purs.length])/\blks L'/\NewR L' X 4 (e.purs.map Purity.c)):=by
 have kC:=u_cloneP (e.purs.map Purity.c) (fun c hc=>by obtain⟨z,_,rfl⟩:=zU.1 hc;rfl) (by rw[zq];exact h.purs);rw[zq]at kC;have k1:=CtrV.ctr (c32 e.places h.places);have k2:=CtrV.ctr (c33 e.moves h.moves);have k3:=CtrV.ctr (c34 e.certs h.certs);have k4:=CtrV.ctr (c35 e.recalls h.recalls);clear h;by_cases hn:e.purs.length=0
 ·simp only[hn,jb7]at kC⊢;refine jag [20] [] [.cell 2 28] Tryz.func31 ?_;simp only[go_sem];refine jav ?_;simp only[go_sem];refine ja4 k1 (by decide) ?_;simp only[go_sem];refine ja4 k2 (by decide) ?_;simp only[go_sem];refine ja4 k3 (by decide) ?_;simp only[go_sem];refine jci [false,false,false,false,false,true,false,true,false,true] (.alt 5 (.alt 7 (.alt 9 .fin .none) .none) .none) [(1,8,[e.c])] (by decide+kernel) (jbg (by simp only[go_sem]) jad) ?_;simp only[go_sem];refine ja4 k4 (by decide) ?_;simp only[go_sem];refine jb8 kC (by decide) rfl jak jad ?_;rintro _ L0 ⟨X,rfl,b0,g0⟩ _;refine⟨_,jdz,?_⟩;have F1:=bF b0;have K1:=bK b0;have G1:=bN b0;simp only[List.cons_append,List.nil_append,F1,K1,G1,go_sem];refine And.intro (jbg (by simp only[go_sem]) jad) ?_
  try simp only[F1,K1,G1,go_sem]
  refine jao L0 b0 (ja3 (by decide) b0 (ja3 (by decide) b0 (SubR.refl L0))) ?_;simp only[F1,K1,G1,go_sem]
  first | exact⟨X,b0,g0⟩ | exact⟨X,rfl,b0,g0⟩
 ·simp only[jab hn]at kC⊢;refine jag [20] [] [.cell 2 28] Tryz.func31 ?_;simp only[go_sem];refine jav ?_;simp only[go_sem];refine ja4 k1 (by decide) ?_;simp only[go_sem];refine ja4 k2 (by decide) ?_;simp only[go_sem];refine ja4 k3 (by decide) ?_;simp only[go_sem];refine jci [false,false,false,false,false,true,false,true,false,true] (.alt 5 (.alt 7 (.alt 9 .fin .none) .none) .none) [(1,8,[e.c])] (by decide+kernel) (jbg (by simp only[go_sem]) jad) ?_;simp only[go_sem];refine ja4 k4 (by decide) ?_;simp only[go_sem];refine jb8 kC (by decide) rfl jak jad ?_;rintro _ L0 ⟨X,rfl,b0,g0⟩ _;refine⟨_,jdz,?_⟩;have F1:=bF b0;have K1:=bK b0;have G1:=bN b0;simp only[List.cons_append,List.nil_append,F1,K1,G1,go_sem];refine And.intro (jbg (by simp only[go_sem]) jad) ?_
  try simp only[F1,K1,G1,go_sem]
  refine jao L0 b0 (ja3 (by decide) b0 (ja3 (by decide) b0 (SubR.refl L0))) ?_;simp only[F1,K1,G1,go_sem]
  first | exact⟨X,b0,g0⟩ | exact⟨X,rfl,b0,g0⟩
theorem u_own(e:Evid)(h:FitE e):Ctr G.P 31 [e.iv] (· =e.iv):=by
 have k1:=CtrV.ctr (c32 e.places h.places);have k2:=CtrV.ctr (c33 e.moves h.moves);have k3:=CtrV.ctr (c34 e.certs h.certs);have k4:=CtrV.ctr (c35 e.recalls h.recalls);have k5:=CtrV.ctr (c29 e.purs h.purs);clear h;refine ja5 [.cell 2 28] Tryz.func31 ?_;simp only[go_sem];refine jav ?_;simp only[go_sem];refine ja4 k1 (by decide) ?_;simp only[go_sem];refine ja4 k2 (by decide) ?_;simp only[go_sem];refine ja4 k3 (by decide) ?_;simp only[go_sem];refine jav ?_;simp only[go_sem];refine ja4 k4 (by decide) ?_;simp only[go_sem];refine ja4 k5 (by decide) ?_;simp only[go_sem]
