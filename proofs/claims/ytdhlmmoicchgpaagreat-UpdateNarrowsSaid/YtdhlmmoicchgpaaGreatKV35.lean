/- A part of the proof. No further condition. -/
import Derived.Test.YtdhlmmoicchgpaaGreatKV34
set_option linter.all false
set_option maxRecDepth 10000000
set_option maxHeartbeats 16000000
namespace Go.Proofs.YtdhlmmoicchgpaaGreat
section
open Go.Abs
attribute [local go_sem] Evid.iv Evid.c ints ic
def outGo(ch:List (Int×Int)->Bool)(qs:List (List (Int×Int))):Nat->List Nat
 | 0=>[]
 | k+1=>match qs[k]? with
  | some q=>if ch q=true then outGo ch qs k++[k]else outGo ch qs k
  | none=>outGo ch qs k
def outF(ch:List (Int×Int)->Bool)(qs:List (List (Int×Int))):List Nat:=outGo ch qs qs.length
def nC(k:Nat):List IV:=[.int k]
section
variable{ch:List (Int×Int)->Bool}{qs:List (List (Int×Int))}{k:Nat}{q:List (Int×Int)}
theorem jgf(hq:qs[k]? =some q)(h:ch q=true):outGo ch qs (k+1)=outGo ch qs k++[k]:=by rw[outGo,hq];exact zm h
theorem jre(hq:qs[k]? =some q)(h:ch q=false):outGo ch qs (k+1)=outGo ch qs k:=by rw[outGo,hq];exact zr (by rw[h];exact qo)
theorem jjb(ch:List (Int×Int)->Bool)(qs:List (List (Int×Int))):∀k,(outGo ch qs k).length<=k
 | 0=>zn _
 | k+1=>by
  have:=jjb ch qs k;rw[outGo];split
  ·split
   ·rw[zD,List.length_singleton];omega
   ·omega
  ·omega
end
def OutR(L R:Abs.Rows)(X:Nat)(l:List Nat):Prop:=l.length≠0->Abs.look R (hp X)=some (1,l.map nC)/\Abs.look L (hp X)=none
theorem OutR.app{L R:Abs.Rows}{X:Nat}{l:List Nat}{k:Nat}(h:Abs.look R (hp X)=some (1,l.map nC++[nC k]))(h':Abs.look L (hp X)=none):OutR L R X (l++[k]):=fun _=>⟨by rw[h,qD];rfl,h'⟩
theorem je5{R:Abs.Rows}{k s s':Nat}{es es':List (List IV)}:List.map (fun q=>if q.1=k then(q.1,s',es')else q) (List.map (fun q=>if q.1=k then(q.1,s,es)else q) R)=List.map (fun q=>if q.1=k then(q.1,s',es')else q) R:=by
 rw[yM];refine yB fun q _=> ?_;simp only[Function.comp];by_cases h:q.1=k
 ·rw[zm h,zm h];dsimp only;rw[zm h]
 ·rw[zr h,zr h]
theorem jc6{R:Abs.Rows}{k:Nat}{v:Nat×List (List IV)}(h:Abs.look R k=some v)(s:Nat)(es:List (List IV)):Abs.look (List.map (fun q=>if q.1=k then(q.1,s,es)else q) R) k=some (s,es):=jaj h
theorem jcz{R:Abs.Rows}{a b:Nat}{v:Nat×List (List IV)}(h:Abs.look R (hp a)=none)(h':Abs.look R (hp b)=some v):a≠b:=fun e=>by rw[e,h']at h;cases h
theorem jf0{R:Abs.Rows}{a b s t:Nat}{x y:List (List IV)}(h:Abs.look R (hp a)=some (s,x))(h':Abs.look R (hp b)=some (t,y))(hn:s≠t):a≠b:=fun e=>by
 rw[e,h']at h;exact hn (Prod.mk.inj (jG h)).1.symm
theorem hpn{a b:Nat}(h:¬a=b):hp a≠hp b:=fun e=>h (hp_inj.1 e)
structure HasR(L:Abs.Rows)(A Q B X:Nat)(e:Evid)(p:Bool)(qs:List (List (Int×Int)))(f:List (Int×Int)->List IV)(l:List Nat):Prop where
 blk:blks L
 row:Abs.look L (hp A)=some (11,[e.c++[sl0 Q 31 1 qs.length,bV B p qs.length,.bool p]])
 qst:NewR L Q 1 (qs.map qC)
 bnd:p=true->NewR L B 10 (qs.map f)
 out:l.length≠0->Abs.look L (hp X)=some (1,l.map nC)/\X≠A/\X≠Q/\(p=true->X≠B)
section
variable{L:Abs.Rows}{A Q B:Nat}{e e':Evid}{qs:List (List (Int×Int))}{f f':List (Int×Int)->List IV}{s:List (Int×Int)->Bool}
theorem u_put_tt(hb:blks L)(c0:Abs.look L (hp A)=some (11,[e.c++[sl0 Q 31 1 qs.length,bV B true qs.length,.bool true]]))(hQ:NewR L Q 1 (qs.map qC))(hB:NewR L B 10 (qs.map f))(hf:∀q,BCell (f q))(kS:∀q∈qs,Ctr G.P 78 [.agg (f' q),.agg (f q)] (· = .bool (s q)))(hl:qs.length<=100000)(hf':∀q,BCell (f' q))(hn:qs≠[])
  (kK:Ctr G.P 12 [e'.iv] (· = .int 0)) (kP:Ctr G.P 14 [e'.iv] (· = .bool true)) (kB:∀q∈qs,Ctr G.P 35 [e'.iv,.sl (q.map pickC)] (· = .agg (f' q))):
  CtrH G.P 53 [.loc (hp A) 11 0 0,.im e'.iv] L (fun r L'=>∃B' X,r= .im (.tup [sl0 X 3 1 (outF (fun q=> !s q) qs).length,.int 0])/\HasR L' A Q B' X e' true qs f' (outF (fun q=> !s q) qs)):=by
 obtain⟨ch,hdef⟩:∃ch:List (Int×Int)->Bool,ch=fun q=> !s q:=⟨_,rfl⟩;rw[<-hdef];have F1:=bF hb;have K1:=bK hb;have G1:=bN hb;have hn0:qs.length≠0:=fun h=>hn (zF h);have kF:=jlz hb c0 hQ hl hf' kP kB;have hQ':=hQ (fun h=>hn (qd.1 h));have hB':=hB (fun h=>hn (qd.1 h));unfold bV at c0 kF;rw[zm rfl,jab hn0,jab hn0]at c0;simp only[qv,jab hn0]at kF;simp only[Evid.c,List.cons_append,List.nil_append]at c0;refine jag [57] [] [.tmp 4,.tmp 5] Tryz.func53 ?_;simp only[go_sem];refine ja2 kK ?_;simp only[F1,K1,G1,go_sem];refine ja9 kF (by decide) (by simp only[zl,zB,jaq];rfl) hb (ja3 (by decide) hb (SubR.refl L)) ?_;rintro _ L1 ⟨B1,rfl,hb1,hs1,hn1⟩ _;refine⟨_,jb3 [(3,8,[e'.c])] (fun p hp=>by rw[zp.1 hp];exact G1 3 (by decide)),?_⟩;obtain⟨hn1,hn2⟩:=hn1 trivial;have hB1:=hn1 (fun h=>hn (qd.1 h));have cA1:=hs1 _ _ c0;have F3:=bF hb1;have K3:=bK hb1;have G3:=bN hb1;simp only[cA1,List.cons_append,List.nil_append,F3,K3,G3,go_sem];refine jes ?_;simp only[go_sem]
 refine jb1 [0,3,7,8,9,25,26,27] (fun g:(Nat×Nat)×Abs.Rows=>⟨[(0,.loc (hp A) 11 0 0),(3,.loc 3 8 0 0),(7,.im (.ref B1 73 10 qs.length)),(8,.im (.bool true)),(9,.im (sl0 g.1.2 3 1 (outGo ch qs g.1.1).length)),(25,.im (.ref Q 31 1 qs.length)),(26,.im (.int qs.length)),(27,.im (.int g.1.1))],(3,8,[e'.c])::g.2,[]⟩)
  (fun g=>g.1.1<=qs.length/\blks g.2/\SubR L1 g.2/\OutR L1 g.2 g.1.2 (outGo ch qs g.1.1)) (fun g=>qs.length-g.1.1) ((0,0),L1) ?_ (SubR.refl _) rfl ⟨zI _,hb1,SubR.refl L1,fun h=>absurd rfl h⟩ ?_
 ·have hz:sl0 0 3 1 (outGo ch qs 0).length= .emp:=rfl;simp only[Int.natCast_zero,hz,go_sem]
 rintro⟨⟨k,X⟩,R⟩ ⟨hk,hR,hs,hX⟩;dsimp only at hk hR hs hX;have F2:=bF hR;have K2:=bK hR;have G2:=bN hR;have cA:=hs _ _ cA1;have cQ:=hs _ _ (hs1 _ _ hQ');have cB:=hs _ _ (hs1 _ _ hB');have cB1:=hs _ _ hB1;by_cases hkl:(k:Int)<qs.length
 ·have hd:decide ((k:Int)<qs.length)=true:=ze hkl;obtain⟨q,hq⟩:=jby hkl;have h1:=jaa (n:=(k:Int)+1) (by omega);have hi0:(0:Int)<=k:=by omega
  have hk1:k<qs.length:=by omega
  have kQ:=kS q (zE hq);have hfq:(qs.map f)[k]? =some (f q):=by rw[za,hq];rfl
  have hfq':(qs.map f')[k]? =some (f' q):=by rw[za,hq];rfl
  obtain⟨a1,v1,b1,d1,a2,v2,b2,d2,l1,l2,e1⟩:=hf q;obtain⟨a3,v3,b3,d3,a4,v4,b4,d4,l3,l4,e3⟩:=hf' q;rw[e1]at kQ hfq;rw[e3]at kQ hfq';rcases hch:ch q with _ | _
  ·have hsq:s q=true:=by rw[hdef]at hch;simpa using hch
   rw[hsq]at kQ;have hy:=jre hq hch;simp only[hd,hkl,hi0,hk1,zq,F2,K2,G2,go_sem];refine jaf 24 ?_;simp only[cA,cB,cB1,hkl,hi0,hk1,zq,hfq,hfq',F2,K2,G2,go_sem];refine ja4 kQ (by decide) ?_;simp only[F2,K2,G2,go_sem];refine ja8 ((k+1,X),R) ?_ (SubR.refl _) rfl (by show qs.length-(k+1)<qs.length-k;omega) ⟨hk1,hR,hs,by dsimp only;rw[hy];exact hX⟩;simp only[h1,hy,Int.natCast_add,go_sem]
  ·have hsq:s q=false:=by rw[hdef]at hch;simpa using hch
   rw[hsq]at kQ;by_cases hm:(outGo ch qs k).length=0
   ·have hnil:outGo ch qs k=[]:=zF hm;have hz:sl0 X 3 1 (outGo ch qs k).length= .emp:=by rw[hm];rfl
    rw[hz];simp only[hd,hkl,hi0,hk1,zq,F2,K2,G2,go_sem];refine jaf 24 ?_;simp only[cA,cB,cB1,hkl,hi0,hk1,zq,hfq,hfq',F2,K2,G2,go_sem];refine ja4 kQ (by decide) ?_;simp only[F2,K2,G2,go_sem];refine And.intro (fun c' hc'=>by rw[zp.1 hc'];rfl) ?_;refine jc2 (fun Y hY=> ?_);have lY:=jg3 hs (X:=Y) hY;clear hY;simp only[F2,K2,G2,go_sem];have hy:=jgf hq hch;have hl1:(outGo ch qs (k+1)).length=1:=by rw[hy,hnil];rfl
    have hs2:sl0 Y 3 1 1= .ref Y 3 1 1:=rfl;refine ja8 ((k+1,Y),(hp Y,1,[nC k])::R) ?_ (by refine jds ?_;exact(hp_ne (n:=3) (by decide)).symm) rfl (by show qs.length-(k+1)<qs.length-k;omega) ⟨hk1,jac hR,jat lY hs,?_⟩
    ·simp only[h1,hl1,hs2,Int.natCast_add,go_sem]
    ·dsimp only;rw[hy,hnil];exact OutR.app (by rw[ja1];rfl) lY
   ·obtain⟨g1,g2⟩:=hX hm;have hz:=jab (b:=X) (e:=3) (s:=1) hm;have hlk:=jjb ch qs k;have htk:List.take (outGo ch qs k).length ((outGo ch qs k).map nC)=(outGo ch qs k).map nC:=zu (by rw[zq];exact zn _);rw[hz];simp only[hd,hkl,hi0,hk1,zq,F2,K2,G2,go_sem];refine jaf 24 ?_;simp only[cA,cB,cB1,hkl,hi0,hk1,zq,hfq,hfq',F2,K2,G2,go_sem];refine ja4 kQ (by decide) ?_;simp only[F2,K2,G2,go_sem];simp only[g1,htk,zq,F2,K2,G2,go_sem];refine And.intro (fun c' hc'=>by rw[zp.1 hc'];rfl) (And.intro (zn _) (And.intro (by omega) ?_));refine jec (fun Y hY=> ?_);obtain⟨lS,lY⟩:=jdg (v:=(1,(outGo ch qs k).map nC++[nC k])) hs g2 (X:=Y) hY;clear hY;have hy:=jgf hq hch;have hl1:(outGo ch qs (k+1)).length=(outGo ch qs k).length+1:=by rw[hy,zD];rfl
    have hs2:=jab (b:=Y) (e:=3) (s:=1) (ql (outGo ch qs k).length);simp only[F2,K2,G2,go_sem];refine ja8 ((k+1,Y),(hp Y,1,(outGo ch qs k).map nC++[nC k])::Abs.del R (hp X)) ?_ (by refine jds ?_;exact(hp_ne (n:=3) (by decide)).symm) rfl (by show qs.length-(k+1)<qs.length-k;omega) ⟨hk1,jac (jbd hR),lS,?_⟩
    ·simp only[h1,hl1,hs2,Int.natCast_add,go_sem]
    ·dsimp only;rw[hy];exact OutR.app (ja1 _ _ _) lY
 ·have hd:decide ((k:Int)<qs.length)=false:=zw hkl;have hkn:k=qs.length:=by omega
  subst hkn;simp only[hd,cA,jc6 cA,je5,F2,K2,G2,go_sem];refine lay (List.map (fun q=>if q.1=hp A then(q.1,11,[e'.c++[.ref Q 31 1 qs.length,.ref B1 73 10 qs.length,.bool true]])else q) R) (fun M hM=> ?_);have bM:blks M:=hM▸jb6 hR;have aM:Abs.look M (hp A)=some (11,[e'.c++[.ref Q 31 1 qs.length,.ref B1 73 10 qs.length,.bool true]]):=by rw[<-hM];exact jc6 cA _ _
  have lM:∀d,d≠hp A->Abs.look M d=Abs.look R d:=fun d hd=>by rw[<-hM];exact jal hd
  refine jao M bM (ja3 (by decide) bM (SubR.of_eq hM.symm)) ?_;simp only[go_sem];refine⟨B1,X,rfl,bM,by rw[aM,jab hn0];unfold bV;rw[zm rfl,jab hn0],fun _=>(lM _ (hpn (jf0 cQ cA (by decide)))).trans cQ,fun _ _=>(lM _ (hpn (jf0 cB1 cA (by decide)))).trans cB1,fun ho=> ?_⟩;obtain⟨o1,o2⟩:=hX ho;have xA:=jcz o2 cA1;exact⟨(lM _ (hpn xA)).trans o1,xA,jcz o2 (hs1 _ _ hQ'),fun _=>jcz o2 hB1⟩
theorem u_put_tf(hb:blks L)(c0:Abs.look L (hp A)=some (11,[e.c++[sl0 Q 31 1 qs.length,bV B true qs.length,.bool true]]))(hQ:NewR L Q 1 (qs.map qC))(hl:qs.length<=100000)(hf':∀q,BCell (f' q))(hn:qs≠[])
  (kK:Ctr G.P 12 [e'.iv] (· = .int 0)) (kP:Ctr G.P 14 [e'.iv] (· = .bool false)) (kB:∀q∈qs,Ctr G.P 35 [e'.iv,.sl (q.map pickC)] (· = .agg (f' q))):
  CtrH G.P 53 [.loc (hp A) 11 0 0,.im e'.iv] L (fun r L'=>∃B' X,r= .im (.tup [sl0 X 3 1 (outF (fun _=>true) qs).length,.int 0])/\HasR L' A Q B' X e' false qs f' (outF (fun _=>true) qs)):=by
 obtain⟨ch,hdef⟩:∃ch:List (Int×Int)->Bool,ch=fun _=>true:=⟨_,rfl⟩;rw[<-hdef];have F1:=bF hb;have K1:=bK hb;have G1:=bN hb;have hn0:qs.length≠0:=fun h=>hn (zF h);have kF:=jlz hb c0 hQ hl hf' kP kB;have hQ':=hQ (fun h=>hn (qd.1 h));unfold bV at c0 kF;rw[zm rfl,jab hn0,jab hn0]at c0;simp only[qb,z8,false_implies,jL]at kF;simp only[Evid.c,List.cons_append,List.nil_append]at c0;refine jag [57] [] [.tmp 4,.tmp 5] Tryz.func53 ?_;simp only[go_sem];refine ja2 kK ?_;simp only[F1,K1,G1,go_sem];refine ja9 kF (by decide) (by simp only[zl,zB,jaq];rfl) hb (ja3 (by decide) hb (SubR.refl L)) ?_;rintro _ L1 ⟨B1,rfl,hb1,hs1⟩ _;refine⟨_,jb3 [(3,8,[e'.c])] (fun p hp=>by rw[zp.1 hp];exact G1 3 (by decide)),?_⟩;have cA1:=hs1 _ _ c0;have F3:=bF hb1;have K3:=bK hb1;have G3:=bN hb1;simp only[cA1,List.cons_append,List.nil_append,F3,K3,G3,go_sem];refine jes ?_;simp only[go_sem];refine jb1 [0,3,7,8,9,25,26,27] (fun g:(Nat×Nat)×Abs.Rows=>⟨[(0,.loc (hp A) 11 0 0),(3,.loc 3 8 0 0),(7,.im (.sl [])),(8,.im (.bool false)),(9,.im (sl0 g.1.2 3 1 (outGo ch qs g.1.1).length)),(25,.im (.ref Q 31 1 qs.length)),(26,.im (.int qs.length)),(27,.im (.int g.1.1))],(3,8,[e'.c])::g.2,[]⟩)
  (fun g=>g.1.1<=qs.length/\blks g.2/\SubR L1 g.2/\OutR L1 g.2 g.1.2 (outGo ch qs g.1.1)) (fun g=>qs.length-g.1.1) ((0,0),L1) ?_ (SubR.refl _) rfl ⟨zI _,hb1,SubR.refl L1,fun h=>absurd rfl h⟩ ?_
 ·have hz:sl0 0 3 1 (outGo ch qs 0).length= .emp:=rfl;simp only[Int.natCast_zero,hz,go_sem]
 rintro⟨⟨k,X⟩,R⟩ ⟨hk,hR,hs,hX⟩;dsimp only at hk hR hs hX;have F2:=bF hR;have K2:=bK hR;have G2:=bN hR;have cA:=hs _ _ cA1;have cQ:=hs _ _ (hs1 _ _ hQ');by_cases hkl:(k:Int)<qs.length
 ·have hd:decide ((k:Int)<qs.length)=true:=ze hkl;obtain⟨q,hq⟩:=jby hkl;have h1:=jaa (n:=(k:Int)+1) (by omega);have hi0:(0:Int)<=k:=by omega
  have hk1:k<qs.length:=by omega
  have hch:ch q=true:=by rw[hdef]
  by_cases hm:(outGo ch qs k).length=0
  ·have hnil:outGo ch qs k=[]:=zF hm;have hz:sl0 X 3 1 (outGo ch qs k).length= .emp:=by rw[hm];rfl
   rw[hz];simp only[hd,hkl,hi0,hk1,zq,F2,K2,G2,go_sem];refine jaf 24 ?_;simp only[cA,F2,K2,G2,go_sem];refine And.intro (fun c' hc'=>by rw[zp.1 hc'];rfl) ?_;refine jc2 (fun Y hY=> ?_);have lY:=jg3 hs (X:=Y) hY;clear hY;simp only[F2,K2,G2,go_sem];have hy:=jgf hq hch;have hl1:(outGo ch qs (k+1)).length=1:=by rw[hy,hnil];rfl
   have hs2:sl0 Y 3 1 1= .ref Y 3 1 1:=rfl;refine ja8 ((k+1,Y),(hp Y,1,[nC k])::R) ?_ (by refine jds ?_;exact(hp_ne (n:=3) (by decide)).symm) rfl (by show qs.length-(k+1)<qs.length-k;omega) ⟨hk1,jac hR,jat lY hs,?_⟩
   ·simp only[h1,hl1,hs2,Int.natCast_add,go_sem]
   ·dsimp only;rw[hy,hnil];exact OutR.app (by rw[ja1];rfl) lY
  ·obtain⟨g1,g2⟩:=hX hm;have hz:=jab (b:=X) (e:=3) (s:=1) hm;have hlk:=jjb ch qs k;have htk:List.take (outGo ch qs k).length ((outGo ch qs k).map nC)=(outGo ch qs k).map nC:=zu (by rw[zq];exact zn _);rw[hz];simp only[hd,hkl,hi0,hk1,zq,F2,K2,G2,go_sem];refine jaf 24 ?_;simp only[cA,F2,K2,G2,go_sem];simp only[g1,htk,zq,F2,K2,G2,go_sem];refine And.intro (fun c' hc'=>by rw[zp.1 hc'];rfl) (And.intro (zn _) (And.intro (by omega) ?_));refine jec (fun Y hY=> ?_);obtain⟨lS,lY⟩:=jdg (v:=(1,(outGo ch qs k).map nC++[nC k])) hs g2 (X:=Y) hY;clear hY;have hy:=jgf hq hch;have hl1:(outGo ch qs (k+1)).length=(outGo ch qs k).length+1:=by rw[hy,zD];rfl
   have hs2:=jab (b:=Y) (e:=3) (s:=1) (ql (outGo ch qs k).length);simp only[F2,K2,G2,go_sem];refine ja8 ((k+1,Y),(hp Y,1,(outGo ch qs k).map nC++[nC k])::Abs.del R (hp X)) ?_ (by refine jds ?_;exact(hp_ne (n:=3) (by decide)).symm) rfl (by show qs.length-(k+1)<qs.length-k;omega) ⟨hk1,jac (jbd hR),lS,?_⟩
   ·simp only[h1,hl1,hs2,Int.natCast_add,go_sem]
   ·dsimp only;rw[hy];exact OutR.app (ja1 _ _ _) lY
 ·have hd:decide ((k:Int)<qs.length)=false:=zw hkl;have hkn:k=qs.length:=by omega
  subst hkn;simp only[hd,cA,jc6 cA,je5,F2,K2,G2,go_sem];refine lay (List.map (fun q=>if q.1=hp A then(q.1,11,[e'.c++[.ref Q 31 1 qs.length,.sl [],.bool false]])else q) R) (fun M hM=> ?_);have bM:blks M:=hM▸jb6 hR;have aM:Abs.look M (hp A)=some (11,[e'.c++[.ref Q 31 1 qs.length,.sl [],.bool false]]):=by rw[<-hM];exact jc6 cA _ _
  have lM:∀d,d≠hp A->Abs.look M d=Abs.look R d:=fun d hd=>by rw[<-hM];exact jal hd
  refine jao M bM (ja3 (by decide) bM (SubR.of_eq hM.symm)) ?_;simp only[go_sem];refine⟨B1,X,rfl,bM,by rw[aM,jab hn0];rfl,fun _=>(lM _ (hpn (jf0 cQ cA (by decide)))).trans cQ,(fun h=>by cases h),fun ho=> ?_⟩;obtain⟨o1,o2⟩:=hX ho;have xA:=jcz o2 cA1;exact⟨(lM _ (hpn xA)).trans o1,xA,jcz o2 (hs1 _ _ hQ'),fun h=>by cases h⟩
theorem u_put_ft(hb:blks L)(c0:Abs.look L (hp A)=some (11,[e.c++[sl0 Q 31 1 qs.length,bV B false qs.length,.bool false]]))(hQ:NewR L Q 1 (qs.map qC))(hl:qs.length<=100000)(hf':∀q,BCell (f' q))(hn:qs≠[])
  (kK:Ctr G.P 12 [e'.iv] (· = .int 0)) (kP:Ctr G.P 14 [e'.iv] (· = .bool true)) (kB:∀q∈qs,Ctr G.P 35 [e'.iv,.sl (q.map pickC)] (· = .agg (f' q))):
  CtrH G.P 53 [.loc (hp A) 11 0 0,.im e'.iv] L (fun r L'=>∃B' X,r= .im (.tup [sl0 X 3 1 (outF (fun _=>true) qs).length,.int 0])/\HasR L' A Q B' X e' true qs f' (outF (fun _=>true) qs)):=by
 obtain⟨ch,hdef⟩:∃ch:List (Int×Int)->Bool,ch=fun _=>true:=⟨_,rfl⟩;rw[<-hdef];have F1:=bF hb;have K1:=bK hb;have G1:=bN hb;have hn0:qs.length≠0:=fun h=>hn (zF h);have kF:=jlz hb c0 hQ hl hf' kP kB;have hQ':=hQ (fun h=>hn (qd.1 h));unfold bV at c0 kF;rw[zr qo,jab hn0]at c0;simp only[qv,jab hn0]at kF;simp only[Evid.c,List.cons_append,List.nil_append]at c0;refine jag [57] [] [.tmp 4,.tmp 5] Tryz.func53 ?_;simp only[go_sem];refine ja2 kK ?_;simp only[F1,K1,G1,go_sem];refine ja9 kF (by decide) (by simp only[zl,zB,jaq];rfl) hb (ja3 (by decide) hb (SubR.refl L)) ?_;rintro _ L1 ⟨B1,rfl,hb1,hs1,hn1⟩ _;refine⟨_,jb3 [(3,8,[e'.c])] (fun p hp=>by rw[zp.1 hp];exact G1 3 (by decide)),?_⟩;obtain⟨hn1,hn2⟩:=hn1 trivial;have hB1:=hn1 (fun h=>hn (qd.1 h));have cA1:=hs1 _ _ c0;have F3:=bF hb1;have K3:=bK hb1;have G3:=bN hb1;simp only[cA1,List.cons_append,List.nil_append,F3,K3,G3,go_sem];refine jes ?_;simp only[go_sem]
 refine jb1 [0,3,7,8,9,25,26,27] (fun g:(Nat×Nat)×Abs.Rows=>⟨[(0,.loc (hp A) 11 0 0),(3,.loc 3 8 0 0),(7,.im (.ref B1 73 10 qs.length)),(8,.im (.bool true)),(9,.im (sl0 g.1.2 3 1 (outGo ch qs g.1.1).length)),(25,.im (.ref Q 31 1 qs.length)),(26,.im (.int qs.length)),(27,.im (.int g.1.1))],(3,8,[e'.c])::g.2,[]⟩)
  (fun g=>g.1.1<=qs.length/\blks g.2/\SubR L1 g.2/\OutR L1 g.2 g.1.2 (outGo ch qs g.1.1)) (fun g=>qs.length-g.1.1) ((0,0),L1) ?_ (SubR.refl _) rfl ⟨zI _,hb1,SubR.refl L1,fun h=>absurd rfl h⟩ ?_
 ·have hz:sl0 0 3 1 (outGo ch qs 0).length= .emp:=rfl;simp only[Int.natCast_zero,hz,go_sem]
 rintro⟨⟨k,X⟩,R⟩ ⟨hk,hR,hs,hX⟩;dsimp only at hk hR hs hX;have F2:=bF hR;have K2:=bK hR;have G2:=bN hR;have cA:=hs _ _ cA1;have cQ:=hs _ _ (hs1 _ _ hQ');have cB1:=hs _ _ hB1;by_cases hkl:(k:Int)<qs.length
 ·have hd:decide ((k:Int)<qs.length)=true:=ze hkl;obtain⟨q,hq⟩:=jby hkl;have h1:=jaa (n:=(k:Int)+1) (by omega);have hi0:(0:Int)<=k:=by omega
  have hk1:k<qs.length:=by omega
  have hch:ch q=true:=by rw[hdef]
  by_cases hm:(outGo ch qs k).length=0
  ·have hnil:outGo ch qs k=[]:=zF hm;have hz:sl0 X 3 1 (outGo ch qs k).length= .emp:=by rw[hm];rfl
   rw[hz];simp only[hd,hkl,hi0,hk1,zq,F2,K2,G2,go_sem];refine jaf 24 ?_;simp only[cA,F2,K2,G2,go_sem];refine And.intro (fun c' hc'=>by rw[zp.1 hc'];rfl) ?_;refine jc2 (fun Y hY=> ?_);have lY:=jg3 hs (X:=Y) hY;clear hY;simp only[F2,K2,G2,go_sem];have hy:=jgf hq hch;have hl1:(outGo ch qs (k+1)).length=1:=by rw[hy,hnil];rfl
   have hs2:sl0 Y 3 1 1= .ref Y 3 1 1:=rfl;refine ja8 ((k+1,Y),(hp Y,1,[nC k])::R) ?_ (by refine jds ?_;exact(hp_ne (n:=3) (by decide)).symm) rfl (by show qs.length-(k+1)<qs.length-k;omega) ⟨hk1,jac hR,jat lY hs,?_⟩
   ·simp only[h1,hl1,hs2,Int.natCast_add,go_sem]
   ·dsimp only;rw[hy,hnil];exact OutR.app (by rw[ja1];rfl) lY
  ·obtain⟨g1,g2⟩:=hX hm;have hz:=jab (b:=X) (e:=3) (s:=1) hm;have hlk:=jjb ch qs k;have htk:List.take (outGo ch qs k).length ((outGo ch qs k).map nC)=(outGo ch qs k).map nC:=zu (by rw[zq];exact zn _);rw[hz];simp only[hd,hkl,hi0,hk1,zq,F2,K2,G2,go_sem];refine jaf 24 ?_;simp only[cA,F2,K2,G2,go_sem];simp only[g1,htk,zq,F2,K2,G2,go_sem];refine And.intro (fun c' hc'=>by rw[zp.1 hc'];rfl) (And.intro (zn _) (And.intro (by omega) ?_));refine jec (fun Y hY=> ?_);obtain⟨lS,lY⟩:=jdg (v:=(1,(outGo ch qs k).map nC++[nC k])) hs g2 (X:=Y) hY;clear hY;have hy:=jgf hq hch;have hl1:(outGo ch qs (k+1)).length=(outGo ch qs k).length+1:=by rw[hy,zD];rfl
   have hs2:=jab (b:=Y) (e:=3) (s:=1) (ql (outGo ch qs k).length);simp only[F2,K2,G2,go_sem];refine ja8 ((k+1,Y),(hp Y,1,(outGo ch qs k).map nC++[nC k])::Abs.del R (hp X)) ?_ (by refine jds ?_;exact(hp_ne (n:=3) (by decide)).symm) rfl (by show qs.length-(k+1)<qs.length-k;omega) ⟨hk1,jac (jbd hR),lS,?_⟩
   ·simp only[h1,hl1,hs2,Int.natCast_add,go_sem]
   ·dsimp only;rw[hy];exact OutR.app (ja1 _ _ _) lY
 ·have hd:decide ((k:Int)<qs.length)=false:=zw hkl;have hkn:k=qs.length:=by omega
  subst hkn;simp only[hd,cA,jc6 cA,je5,F2,K2,G2,go_sem];refine lay (List.map (fun q=>if q.1=hp A then(q.1,11,[e'.c++[.ref Q 31 1 qs.length,.ref B1 73 10 qs.length,.bool true]])else q) R) (fun M hM=> ?_);have bM:blks M:=hM▸jb6 hR;have aM:Abs.look M (hp A)=some (11,[e'.c++[.ref Q 31 1 qs.length,.ref B1 73 10 qs.length,.bool true]]):=by rw[<-hM];exact jc6 cA _ _
  have lM:∀d,d≠hp A->Abs.look M d=Abs.look R d:=fun d hd=>by rw[<-hM];exact jal hd
  refine jao M bM (ja3 (by decide) bM (SubR.of_eq hM.symm)) ?_;simp only[go_sem];refine⟨B1,X,rfl,bM,by rw[aM,jab hn0];unfold bV;rw[zm rfl,jab hn0],fun _=>(lM _ (hpn (jf0 cQ cA (by decide)))).trans cQ,fun _ _=>(lM _ (hpn (jf0 cB1 cA (by decide)))).trans cB1,fun ho=> ?_⟩;obtain⟨o1,o2⟩:=hX ho;have xA:=jcz o2 cA1;exact⟨(lM _ (hpn xA)).trans o1,xA,jcz o2 (hs1 _ _ hQ'),fun _=>jcz o2 hB1⟩
theorem u_put_ff(hb:blks L)(c0:Abs.look L (hp A)=some (11,[e.c++[sl0 Q 31 1 qs.length,bV B false qs.length,.bool false]]))(hQ:NewR L Q 1 (qs.map qC))(hl:qs.length<=100000)(hf':∀q,BCell (f' q))(hn:qs≠[])
  (kK:Ctr G.P 12 [e'.iv] (· = .int 0)) (kP:Ctr G.P 14 [e'.iv] (· = .bool false)) (kB:∀q∈qs,Ctr G.P 35 [e'.iv,.sl (q.map pickC)] (· = .agg (f' q))):
  CtrH G.P 53 [.loc (hp A) 11 0 0,.im e'.iv] L (fun r L'=>∃B' X,r= .im (.tup [sl0 X 3 1 (outF (fun _=>false) qs).length,.int 0])/\HasR L' A Q B' X e' false qs f' (outF (fun _=>false) qs)):=by
 obtain⟨ch,hdef⟩:∃ch:List (Int×Int)->Bool,ch=fun _=>false:=⟨_,rfl⟩;rw[<-hdef];have F1:=bF hb;have K1:=bK hb;have G1:=bN hb;have hn0:qs.length≠0:=fun h=>hn (zF h);have kF:=jlz hb c0 hQ hl hf' kP kB;have hQ':=hQ (fun h=>hn (qd.1 h));unfold bV at c0 kF;rw[zr qo,jab hn0]at c0;simp only[qb,z8,false_implies,jL]at kF;simp only[Evid.c,List.cons_append,List.nil_append]at c0;refine jag [57] [] [.tmp 4,.tmp 5] Tryz.func53 ?_;simp only[go_sem];refine ja2 kK ?_;simp only[F1,K1,G1,go_sem];refine ja9 kF (by decide) (by simp only[zl,zB,jaq];rfl) hb (ja3 (by decide) hb (SubR.refl L)) ?_;rintro _ L1 ⟨B1,rfl,hb1,hs1⟩ _;refine⟨_,jb3 [(3,8,[e'.c])] (fun p hp=>by rw[zp.1 hp];exact G1 3 (by decide)),?_⟩;have cA1:=hs1 _ _ c0;have F3:=bF hb1;have K3:=bK hb1;have G3:=bN hb1;simp only[cA1,List.cons_append,List.nil_append,F3,K3,G3,go_sem];refine jes ?_;simp only[go_sem];refine jb1 [0,3,7,8,9,25,26,27] (fun g:(Nat×Nat)×Abs.Rows=>⟨[(0,.loc (hp A) 11 0 0),(3,.loc 3 8 0 0),(7,.im (.sl [])),(8,.im (.bool false)),(9,.im (sl0 g.1.2 3 1 (outGo ch qs g.1.1).length)),(25,.im (.ref Q 31 1 qs.length)),(26,.im (.int qs.length)),(27,.im (.int g.1.1))],(3,8,[e'.c])::g.2,[]⟩)
  (fun g=>g.1.1<=qs.length/\blks g.2/\SubR L1 g.2/\OutR L1 g.2 g.1.2 (outGo ch qs g.1.1)) (fun g=>qs.length-g.1.1) ((0,0),L1) ?_ (SubR.refl _) rfl ⟨zI _,hb1,SubR.refl L1,fun h=>absurd rfl h⟩ ?_
 ·have hz:sl0 0 3 1 (outGo ch qs 0).length= .emp:=rfl;simp only[Int.natCast_zero,hz,go_sem]
 rintro⟨⟨k,X⟩,R⟩ ⟨hk,hR,hs,hX⟩;dsimp only at hk hR hs hX;have F2:=bF hR;have K2:=bK hR;have G2:=bN hR;have cA:=hs _ _ cA1;have cQ:=hs _ _ (hs1 _ _ hQ');by_cases hkl:(k:Int)<qs.length
 ·have hd:decide ((k:Int)<qs.length)=true:=ze hkl;obtain⟨q,hq⟩:=jby hkl;have h1:=jaa (n:=(k:Int)+1) (by omega);have hi0:(0:Int)<=k:=by omega
  have hk1:k<qs.length:=by omega
  have hch:ch q=false:=by rw[hdef]
  have hy:=jre hq hch;simp only[hd,hkl,hi0,hk1,zq,F2,K2,G2,go_sem];refine jaf 24 ?_;simp only[cA,F2,K2,G2,go_sem];refine ja8 ((k+1,X),R) ?_ (SubR.refl _) rfl (by show qs.length-(k+1)<qs.length-k;omega) ⟨hk1,hR,hs,by dsimp only;rw[hy];exact hX⟩;simp only[h1,hy,Int.natCast_add,go_sem]
 ·have hd:decide ((k:Int)<qs.length)=false:=zw hkl;have hkn:k=qs.length:=by omega
  subst hkn;simp only[hd,cA,jc6 cA,je5,F2,K2,G2,go_sem];refine lay (List.map (fun q=>if q.1=hp A then(q.1,11,[e'.c++[.ref Q 31 1 qs.length,.sl [],.bool false]])else q) R) (fun M hM=> ?_);have bM:blks M:=hM▸jb6 hR;have aM:Abs.look M (hp A)=some (11,[e'.c++[.ref Q 31 1 qs.length,.sl [],.bool false]]):=by rw[<-hM];exact jc6 cA _ _
  have lM:∀d,d≠hp A->Abs.look M d=Abs.look R d:=fun d hd=>by rw[<-hM];exact jal hd
  refine jao M bM (ja3 (by decide) bM (SubR.of_eq hM.symm)) ?_;simp only[go_sem];refine⟨B1,X,rfl,bM,by rw[aM,jab hn0];rfl,fun _=>(lM _ (hpn (jf0 cQ cA (by decide)))).trans cQ,(fun h=>by cases h),fun ho=> ?_⟩;obtain⟨o1,o2⟩:=hX ho;have xA:=jcz o2 cA1;exact⟨(lM _ (hpn xA)).trans o1,xA,jcz o2 (hs1 _ _ hQ'),fun h=>by cases h⟩
