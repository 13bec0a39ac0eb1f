/- A part of the proof. No further condition. -/
import Derived.Test.YtkcekimolppapaaGreatKS40
set_option linter.all false
set_option maxRecDepth 10000000
set_option maxHeartbeats 16000000
namespace Go.Proofs.YtkcekimolppapaaGreat
section
open Go.Abs
attribute [local go_sem] ints ic Evid.c Evid.iv Place.c Cert.c Recall.c Purity.c
theorem jgm{e:Evid}(h:jjy e=true)(hc:jax e=0):SmallE e/\e.moves.length<=5:=by
 obtain⟨hfit,hm1,_⟩:=jbi hc;obtain⟨l1,l2,l3,l4,l5,l6,l7,l8⟩:=jgr hfit;unfold jjy at h;simp only[zD,qR,zW]at h;obtain⟨⟨h1,h2,h3,h4,h5⟩,h6,h7⟩:=h;exact⟨small2 (by omega) (by omega) (by omega),by omega⟩
structure Seen(e:Evid)(S:List Int)(cs:List (List IV))(i:Nat)(low hit:Bool):Prop where
 low:∀n mt ix:Int,[.int 1,.int n,.int mt,.int ix]∈cs.take i->low=true
 hit:∀(k mt ix:Int) (n:Nat) (x:Move),[.int k,.int (n:Int),.int mt,.int ix]∈cs.take i->e.moves[n]? =some x->(k=1\/k=2)->S.contains x.scale=true->hit=true
theorem jrf{a b:Int}(h:IV.int a=IV.int b):a=b:=by injection h with h;injection h
theorem Seen.next{e:Evid}{S:List Int}{cs:List (List IV)}{i:Nat}{low hit:Bool}(h:Seen e S cs i low hit){k mt ix:Int}{n:Nat}{x:Move}(hx:cs[i]? =some [.int k,.int (n:Int),.int mt,.int ix])(hm:e.moves[n]? =some x):
  Seen e S cs (i+1) (low || decide (k=1)) (hit || ((decide (k=1) || decide (k=2))&&S.contains x.scale)) where
 low n' mt' ix' hm':=by
  rw[take_succ hx]at hm';rcases qj.1 hm' with h' | h'
  ·rw[h.low _ _ _ h'];rfl
  ·have:=zC.1 h';injection this with this _;rw[zh (jrf this).symm,j8]
 hit k' mt' ix' n' x' hm' h2 h3 h4:=by
  rw[take_succ hx]at hm';rcases qj.1 hm' with h' | h'
  ·rw[h.hit _ _ _ _ _ h' h2 h3 h4];rfl
  ·have:=zC.1 h';injection this with e1 this;injection this with e2 _;have e1:=jrf e1;have e2:n'=n:=by have:=jrf e2;omega
   subst e1 e2;rw[hm]at h2;cases h2;rw[h4,vc];rcases h3 with rfl | rfl<;>simp
theorem w_blames(e:Evid)(S:List Int):Ctr G.P 8 [e.iv,ints S] (· = .bool true):=by
 have k0:=jkb;have kl:=jii e;have kc:=c21 e;rcases hl:jjy e with _ | _
 ·rw[hl]at kl;simp only[Evid.iv,Evid.c]at kl;refine ja5 [.tmp 4] Tryz.func8 ?_;simp only[go_sem];refine ja1 k0 ?_;simp only[go_sem];refine ja1 kl ?_;simp only[go_sem]
 rw[hl]at kl;by_cases hc:jax e=0
 case neg=>
  generalize jax e=z at*;have hz:decide (z=0)=false:=zw hc;simp only[Evid.iv,Evid.c]at kl kc;refine ja5 [.tmp 4] Tryz.func8 ?_;simp only[go_sem];refine ja1 k0 ?_;simp only[go_sem];refine ja1 kl ?_;simp only[go_sem];refine ja1 kc ?_;simp only[hz,go_sem]
 rw[hc]at kc;by_cases h6:S.length<=6
 case neg=>
  have hz:decide (6<(S.length:Int))=true:=zh (by omega);simp only[Evid.iv,Evid.c]at kl kc;refine ja5 [.tmp 4] Tryz.func8 ?_;simp only[go_sem];refine ja1 k0 ?_;simp only[go_sem];refine ja1 kl ?_;simp only[go_sem];refine ja1 kc ?_;simp only[hz,zq,go_sem]
 have hz:decide (6<(S.length:Int))=false:=zw (by omega);obtain⟨hs,hm5⟩:=jgm hl hc;have kp:=jfd hs hc;rcases hp:posB e with _ | _
 ·have kb:=jph hc hs hp;rw[hp]at kp;have kw:=jea S hc (by omega);have kq:=jfd (e:=offE S e) hs.off (je3 hc);rw[show posB (offE S e)=posS e S from rfl]at kq;have kh:=fun v=>t_has18 S v (by omega);simp only[has_con]at kh;simp only[Evid.iv,Evid.c,ints]at kl kc kp kb kw kq kh;refine ja5 [.tmp 4] Tryz.func8 ?_;simp only[go_sem];refine ja1 k0 ?_;simp only[go_sem];refine ja1 kl ?_;simp only[go_sem];refine ja1 kc ?_;simp only[hz,zq,go_sem];refine jck kb ?_;rintro _ ⟨cs,hb,rfl⟩;have hne:=qh.2 hb.ne;have dn:decide ((cs.length:Int)=0)=false:=zw (by omega);simp only[dn,go_sem];refine ja1 kp ?_;simp only[dn,go_sem];refine jan [1,2,5,6,8,9,10] [2] (fun g:Nat×Bool×Bool=>⟨[(1,.im (.sl (S.map ic))),(2,.loc 2 8 0 0),(5,.im (.bool true)),(6,.im (.sl cs)),(8,.im (.bool g.2.1)),(9,.im (.bool g.2.2)),(10,.im (.int g.1))],[(2,8,[e.c])],[]⟩)
   (fun g=>g.1<=cs.length/\Seen e S cs g.1 g.2.1 g.2.2) (fun g=>cs.length-g.1) (0,false,false) ?_ ⟨zH _,fun _ _ _ h=>(by simp at h),fun _ _ _ _ _ h=>by simp at h⟩ ?_
  ·simp only[Int.natCast_zero,go_sem]
  rintro⟨i,low,hit⟩ ⟨hi,hse⟩;dsimp only at hi hse;by_cases hp':(i:Int)<cs.length
  ·have hd:decide ((i:Int)<cs.length)=true:=zh hp';have h1:=ja7 (n:=(i:Int)+1) (by have:=hb.len;omega);have hi0:(0:Int)<=i:=by omega
   obtain⟨c,hx⟩:=jbf hp';obtain⟨k,mt,ix,n,x,rfl,hm⟩:=hb.form (zk hx);have hn:=(zl.1 hm).1;have n0:decide ((n:Int)<0)=false:=zw (by omega);have n1:decide ((e.moves.length:Int)<=n)=false:=zw (by omega);have n2:(0:Int)<=n:=by omega
   have n3:(n:Int)<e.moves.length:=by omega
   have hg:(e.moves.map Move.c)[n]? =some [.int x.day,.int x.fr,.int x.to,.int x.scale,.int x.reading,.bool x.all]:=by rw[za,hm];rfl
   have kx:=kh x.scale;have hse':=hse.next hx hm;obtain⟨low',hlow'⟩:∃b,(low || decide (k=1))=b:=⟨_,rfl⟩;obtain⟨hit',hhit'⟩:∃b,(hit || ((decide (k=1) || decide (k=2))&&S.contains x.scale))=b:=⟨_,rfl⟩;rw[hlow',hhit']at hse';rcases low with _ | _<;>rcases hit with _ | _<;>rcases h1k:decide (k=1)with _ | _<;>rcases h2k:decide (k=2)with _ | _<;>rcases hcx:S.contains x.scale with _ | _
   all_goals
    simp only[h1k,h2k,hcx,qP,ji,jS,j8,qu,qL,vc,yV]at hlow' hhit';subst hlow' hhit';rw[hcx]at kx;simp only[hd,hp',hi0,hx,n0,n1,n2,n3,hg,h1k,h2k,Int.toNat_natCast,zq,go_sem]
    try
     refine ja1 kx ?_;simp only[go_sem]
    refine jab (i+1,_,_) ?_ (by dsimp only;omega) ⟨by dsimp only;omega,hse'⟩;simp only[h1,Int.natCast_add,go_sem]
  ·have hd:decide ((i:Int)<cs.length)=false:=zw hp';have e1:i=cs.length:=by omega
   subst e1;have hL:=hse.low;have hH:=hse.hit;rw[qe]at hL hH;obtain⟨n,mt,ix,hlow⟩:=hb.low;have hlow:=hL _ _ _ hlow;subst hlow;rcases hit with _ | _
   ·have hq:posS e S=false:=vV.2 fun hq=>by
     obtain⟨k,mt,ix,n,x,h1,h2,h3,h4⟩:=hb.hit (posS_iff.1 hq);cases hH _ _ _ _ _ h1 h2 h3 h4
    rw[hq]at kq;simp only[hd,dn,go_sem];refine ja1 kw ?_;simp only[go_sem];refine ja1 kq ?_;simp only[go_sem]
   ·simp only[hd,dn,go_sem]
 ·have kb:=su_blame1 hc hs hp;rw[hp]at kp;simp only[Evid.iv,Evid.c,ints]at kl kc kp kb;refine ja5 [.tmp 4] Tryz.func8 ?_;simp only[go_sem];refine ja1 k0 ?_;simp only[go_sem];refine ja1 kl ?_;simp only[go_sem];refine ja1 kc ?_;simp only[hz,zq,go_sem];refine ja1 kb ?_;simp only[go_sem];refine ja1 kp ?_;simp only[go_sem];refine jan [2,5,6,10] [2] (fun _:Unit=>⟨[(2,.loc 2 8 0 0),(5,.im (.bool true)),(6,.im (.sl [])),(10,.im (.int 0))],[(2,8,[e.c])],[]⟩) (fun _=>True) (fun _=>0) () ?_ trivial ?_
  ·simp only[go_sem]
  rintro _ _;simp only[go_sem]
