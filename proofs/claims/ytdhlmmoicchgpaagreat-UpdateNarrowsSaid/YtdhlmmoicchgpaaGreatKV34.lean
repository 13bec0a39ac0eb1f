/- A part of the proof. No further condition. -/
import Derived.Test.YtdhlmmoicchgpaaGreatKV18
import Derived.Test.YtdhlmmoicchgpaaGreatKV33
set_option linter.all false
set_option maxRecDepth 10000000
set_option maxHeartbeats 16000000
namespace Go.Proofs.YtdhlmmoicchgpaaGreat
section
open Go.Abs
attribute [local go_sem] Evid.iv Evid.c ints ic
def qC(q:List (Int×Int)):List IV:=[.sl (q.map pickC)]
def bV(B:Nat)(p:Bool)(n:Nat):IV:=if p=true then sl0 B 73 10 n else .sl []
def BCell(c:List IV):Prop:=∃(a1 c1:Int) (b1 d1:List (List IV)) (a2 c2:Int) (b2 d2:List (List IV)) (l h:Bool),c=[.int a1,.sl b1,.int c1,.sl d1,.int a2,.sl b2,.int c2,.sl d2,.bool l,.bool h]
theorem BCell.len{c:List IV}(h:BCell c):c.length=10:=by obtain⟨_,_,_,_,_,_,_,_,_,_,rfl⟩:=h;rfl
theorem jg3{L R:Abs.Rows}{X:Nat}(hs:SubR L R)(hX:Abs.look R (hp X)=none):Abs.look L (hp X)=none:=by
 cases hx:Abs.look L (hp X)with
 | none=>rfl
 | some y=>rw[hs _ _ hx]at hX;cases hX
theorem jds{R:Abs.Rows}{a b:Nat}{v w:Nat×List (List IV)}(h:b≠a):SubR ((a,v)::(b,w)::R) ((b,w)::(a,v)::R):=fun k x hk=>by
 by_cases e:k=a
 ·subst e;rw[ja1]at hk;rw[ja0 _ _ (zG h),ja1];exact hk
 ·rw[ja0 _ _ e]at hk;by_cases e2:k=b
  ·subst e2;rw[ja1]at hk⊢;exact hk
  ·rw[ja0 _ _ e2]at hk;rw[ja0 _ _ e2,ja0 _ _ e];exact hk
theorem jm3{α:Type}{l:List α}{i:Nat}{x:α}(hx:l[i]? =some x):l.take (i+1)=l.take i++[x]:=by rw[qN,hx];rfl
section
variable{L:Abs.Rows}{A Q:Nat}{e e':Evid}{qs:List (List (Int×Int))}{x y:IV}{p:Bool}{f:List (Int×Int)->List IV}
theorem jlz(hb:blks L)(c0:Abs.look L (hp A)=some (11,[e.c++[sl0 Q 31 1 qs.length,x,y]]))(hQ:NewR L Q 1 (qs.map qC))(hl:qs.length<=100000)(hf:∀q,BCell (f q))
  (kP:Ctr G.P 14 [e'.iv] (· = .bool p)) (kB:∀q∈qs,Ctr G.P 35 [e'.iv,.sl (q.map pickC)] (· = .agg (f q))):
  CtrH G.P 34 [.loc (hp A) 11 0 0,.im e'.iv] L (fun r L'=>∃B,r= .im (.tup [bV B p qs.length,.bool p])/\blks L'/\SubR L L'/\(p=true->NewR L' B 10 (qs.map f)/\(qs≠[]->Abs.look L (hp B)=none))):=by
 have F1:=bF hb;have K1:=bK hb;have G1:=bN hb;simp only[Evid.c,List.cons_append,List.nil_append]at c0;cases p with
 | false=>
  refine jag [26] [] [.tmp 4,.tmp 5] Tryz.func34 ?_;simp only[go_sem];refine ja2 kP ?_;simp only[F1,K1,G1,go_sem];refine jao L hb (ja3 (by decide) hb (SubR.refl L)) ?_;simp only[go_sem];exact⟨0,rfl,hb,SubR.refl L,fun h=>by cases h⟩
 | true=>
 by_cases hn:qs.length=0
 ·have hq0:=zF hn;subst hq0;rw[List.length_nil,jb7]at c0;refine jag [26] [] [.tmp 4,.tmp 5] Tryz.func34 ?_;simp only[go_sem];refine ja2 kP ?_;simp only[c0,F1,K1,G1,go_sem];refine jes ?_;simp only[go_sem];refine jb1 [6,16,17] (fun g:Unit=>⟨[(6,.im .emp),(16,.im (.int 0)),(17,.im (.int 0))],L,[]⟩) (fun _=>True) (fun _=>0) () ?_ (ja3 (by decide) hb (SubR.refl L)) rfl trivial ?_
  ·simp only[go_sem]
  ·rintro _ _;simp only[go_sem];refine jao L hb (SubR.refl L) ?_;simp only[go_sem];exact⟨0,rfl,hb,SubR.refl L,fun h=>absurd rfl h,fun h=>h.elim⟩
 ·rw[jab hn]at c0;have hQ':=hQ (fun h=>hn (by rw[<-zq (f:=qC),h];rfl));refine jag [26] [] [.tmp 4,.tmp 5] Tryz.func34 ?_;simp only[go_sem];refine ja2 kP ?_;simp only[c0,F1,K1,G1,go_sem];refine jes ?_;simp only[go_sem];refine jb1 [0,3,6,15,16,17] (fun g:(Nat×Nat)×Abs.Rows=>⟨[(0,.loc (hp A) 11 0 0),(3,.loc 3 8 0 0),(6,.im (sl0 g.1.2 73 10 g.1.1)),(15,.im (.ref Q 31 1 qs.length)),(16,.im (.int qs.length)),(17,.im (.int g.1.1))],(3,8,[e'.c])::g.2,[]⟩)
   (fun g=>g.1.1<=qs.length/\blks g.2/\SubR L g.2/\(g.1.1≠0->Abs.look g.2 (hp g.1.2)=some (10,(qs.map f).take g.1.1)/\Abs.look L (hp g.1.2)=none)) (fun g=>qs.length-g.1.1) ((0,0),L) ?_ (SubR.refl _) rfl ⟨zI _,hb,SubR.refl L,fun h=>absurd rfl h⟩ ?_
  ·simp only[Int.natCast_zero,jb7,go_sem]
  rintro⟨⟨k,B⟩,R⟩ ⟨hk,hR,hs,hB⟩;dsimp only at hk hR hs hB;have F2:=bF hR;have K2:=bK hR;have G2:=bN hR;have c1:=hs _ _ hQ';by_cases hkl:(k:Int)<qs.length
  ·have hd:decide ((k:Int)<qs.length)=true:=ze hkl;obtain⟨q,hq⟩:=jby hkl;have kQ:=kB q (zE hq);have h1:=jaa (n:=(k:Int)+1) (by omega);have hi0:(0:Int)<=k:=by omega
   have hk1:k<qs.length:=by omega
   have hfq:(qs.map f)[k]? =some (f q):=by rw[za,hq];rfl
   have ht:=jm3 hfq;obtain⟨a1,v1,b1,d1,a2,v2,b2,d2,l1,l2,e1⟩:=hf q;rw[e1]at kQ;have hs1:=fun X:Nat=>jab (b:=X) (e:=73) (s:=10) (ql k);by_cases hk0:k=0
   ·have hz:sl0 B 73 10 k= .emp:=by rw[hk0];rfl
    simp only[hd,c1,hkl,hi0,hk1,zq,za,hq,qC,hz,F2,K2,G2,go_sem];refine ja2 kQ ?_;simp only[F2,K2,G2,go_sem];refine And.intro (fun c' hc'=>by rw[zp.1 hc'];rfl) ?_;refine jc2 (fun X hX=> ?_);have lX:=jg3 hs (X:=X) hX;clear hX;simp only[F2,K2,G2,go_sem];refine ja8 ((k+1,X),(hp X,10,[f q])::R) ?_ (by rw[e1];refine jds ?_;exact(hp_ne (n:=3) (by decide)).symm) rfl (by show qs.length-(k+1)<qs.length-k;omega) ⟨hk1,jac hR,jat lX hs,fun _=>⟨?_,lX⟩⟩
    ·have hs2:sl0 X 73 10 1= .ref X 73 10 1:=rfl;have w1:=jaa (n:=1) (by decide);simp only[hs2,w1,hk0,Int.natCast_add,go_sem]
    ·rw[ja1,ht,hk0];rfl
   ·obtain⟨g1,g2⟩:=hB hk0;have hz:=jab (b:=B) (e:=73) (s:=10) hk0;have htk:List.take k ((qs.map f).take k)=(qs.map f).take k:=by rw[vC,Nat.min_self]
    have hlk:((qs.map f).take k).length=k:=by rw[qa,zq];omega
    simp only[hd,c1,hkl,hi0,hk1,zq,za,hq,qC,hz,F2,K2,G2,go_sem];refine ja2 kQ ?_;simp only[g1,htk,hlk,F2,K2,G2,go_sem];refine And.intro (fun c' hc'=>by rw[zp.1 hc'];rfl) (And.intro (zn _) (And.intro (by omega) ?_));refine jec (fun X hX=> ?_);obtain⟨lS,lX⟩:=jdg (v:=(10,(qs.map f).take k++[f q])) hs g2 (X:=X) hX;clear hX;simp only[F2,K2,G2,go_sem];refine ja8 ((k+1,X),(hp X,10,(qs.map f).take k++[f q])::Abs.del R (hp B)) ?_ (by rw[e1];refine jds ?_;exact(hp_ne (n:=3) (by decide)).symm) rfl (by show qs.length-(k+1)<qs.length-k;omega) ⟨hk1,jac (jbd hR),lS,fun _=>⟨?_,lX⟩⟩
    ·simp only[h1,hs1,Int.natCast_add,go_sem]
    ·rw[ja1,ht]
  ·have hd:decide ((k:Int)<qs.length)=false:=zw hkl;have hkn:k=qs.length:=by omega
   subst hkn;rw[zu (by rw[zq];exact zn _)]at hB;simp only[hd,F2,K2,G2,go_sem];refine jao R hR (ja3 (by decide) hR (SubR.refl R)) ?_;simp only[go_sem];exact⟨B,rfl,hR,hs,fun _=>(hB hn).1,fun _=>(hB hn).2⟩
