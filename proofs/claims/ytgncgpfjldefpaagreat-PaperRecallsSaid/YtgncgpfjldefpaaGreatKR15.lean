/- A part of the proof. No further condition. -/
import Derived.Test.YtgncgpfjldefpaaGreatKR12
set_option linter.all false
set_option maxRecDepth 10000000
set_option maxHeartbeats 16000000
namespace Go.Proofs.YtgncgpfjldefpaaGreat
section
open Go.Abs
attribute [local go_sem] ints ic Bat.c Pap.c Led.c
structure HasLg(L:Abs.Rows)(A B C:Nat)(p:Led):Prop where
 blk:blks L
 ab:¬A=B
 ac:¬A=C
 bc:¬B=C
 hA:Abs.look L (hp A)=some (2,[[.ref B 52 2 p.bs.length,.ref C 34 5 p.ps.length]])
 hB:Abs.look L (hp B)=some (2,p.bs.map Bat.c)
 hC:Abs.look L (hp C)=some (5,p.ps.map Pap.c)
section
variable{L:Abs.Rows}{A B C:Nat}{p:Led}
theorem HasLg.set(h:HasLg L A B C p){L':Abs.Rows}{k:Nat}{x:Pap}(b:blks L')(ho:∀d,d≠hp C->Abs.look L' d=Abs.look L d)(hc:Abs.look L' (hp C)=some (5,(p.ps.map Pap.c).set k x.c)):HasLg L' A B C ⟨p.bs,p.ps.set k x⟩:=
 ⟨b,h.ab,h.ac,h.bc,by rw[zZ];exact(ho _ (fun e=>h.ac (hp_inj.1 e))).trans h.hA,(ho _ (fun e=>h.bc (hp_inj.1 e))).trans h.hB,by rw[hc,qn]⟩
theorem pb_give1(h:HasLg L A B C p){k:Nat}{x:Pap}(to:Int)(hx:p.ps[k]? =some x):
  CtrH G.P 41 [.loc (hp A) 2 0 0,.im (.ip [.int to] 0),.im (.ip [.int k] 0)] L (fun r L'=>r= .im (.int 0)/\HasLg L' A B C ⟨p.bs,p.ps.set k {x with own:=to}⟩):=by
 have hb:=h.blk;have F1:=bF hb;have K1:=bK hb;have G1:=bN hb;have c0:=h.hA;have cC:=h.hC;have hi0:(0:Int)<=k:=by omega
 have hk:k<p.ps.length:=(zt.1 hx).1;have hki:(k:Int)<p.ps.length:=by omega
 refine jan [] [] [.tmp 4] Tryz.func41 ?_;simp only[F1,K1,G1,go_sem];refine jai 8 ?_;simp only[c0,cC,F1,K1,G1,hk,hi0,hki,zh,zq,hx,go_sem];obtain⟨M,hM,b1,l1,l2⟩:∃M:Abs.Rows,M=L.map (fun q=>if q.1=hp C then(q.1,5,(p.ps.map Pap.c).set k ({x with own:=to}:Pap).c)else q)/\blks M/\(∀d,d≠hp C->Abs.look M d=Abs.look L d)/\Abs.look M (hp C)=some (5,(p.ps.map Pap.c).set k ({x with own:=to}:Pap).c):=
  ⟨_,rfl,jb5 hb,fun d hd=>jag hd,jab cC⟩
 refine jb8 M b1 ?_ ?_
 ·exact SubR.of_eq hM
 simp only[go_sem];exact h.set b1 l1 l2
