/- A part of the proof. No further condition. -/
import Derived.Test.YtkcekimolppapaaGreatKS40
set_option linter.all false
set_option maxRecDepth 10000000
set_option maxHeartbeats 16000000
namespace Go.Proofs.YtkcekimolppapaaGreat
section
open Go.Abs
attribute [local go_sem] ints ic
theorem jtk{l:List Int}{i:Nat}{x:Int}(h:Asc (l.take i))(hx:l[i]? =some x)(hy:∀y,i≠0->l[i-1]? =some y->y<x):Asc (l.take (i+1)):=by
 unfold Asc at h⊢;rw[take_succ hx,vA];refine⟨h,vg _ _,fun a ha b hb=> ?_⟩;rw[zC.1 hb];obtain⟨p,hp⟩:=qo ha;have hpi:p<i:=by have:=(zl.1 hp).1;rw[zY]at this;omega
 have hil:=(zl.1 hx).1;have hq:(l.take i)[i-1]? =some l[i-1]:=by rw[vx (by omega),ze (by omega)]
 have hyx:=hy l[i-1] (by omega) (ze (by omega));by_cases e:p=i-1
 ·subst e;rw[hq]at hp;rw[<-yE hp];exact hyx
 ·obtain⟨h1,rfl⟩:=zl.1 hp;obtain⟨h2,h3⟩:=zl.1 hq;have:=jq.1 h p (i-1) h1 h2 (by omega);rw[h3]at this;omega
theorem t_list12(l:List Int)(n:Int)(hl:l.length<=100000):Ctr G.P 45 [ints l,.int n] (fun r=>∃z,r= .bool z/\(z=true->Asc l)):=by
 refine ja5 [.tmp 4] Tryz.func45 ?_;simp only[go_sem];refine jan [0,1,5] [] (fun i:Nat=>⟨[(0,.im (.sl (l.map ic))),(1,.im (.int n)),(5,.im (.int i))],[],[]⟩)
  (fun i=>i<=l.length/\Asc (l.take i)) (fun i=>l.length-i) 0 ?_ ⟨zH _,.nil⟩ ?_
 ·simp only[Int.natCast_zero,go_sem]
 intro i ⟨hi,ha⟩;by_cases hp':(i:Int)<l.length
 ·have hdl:decide ((i:Int)<l.length)=true:=zh hp';obtain⟨x,hx⟩:=jbf hp';have h1:=ja7 (n:=(i:Int)+1) (by omega);have hi0:(0:Int)<=i:=by omega
  have hg:=iget hx;by_cases c1:x<0
  ·have d1:decide (x<0)=true:=zh c1;simp only[hdl,zq,go_sem];refine jae 29 ?_;simp only[hi0,hp',hg,Int.toNat_natCast,zq,d1,go_sem];exact⟨false,rfl,fun h=>by cases h⟩
  have d1:decide (x<0)=false:=zw c1;by_cases c2:n<=x
  ·have d2:decide (n<=x)=true:=zh c2;simp only[hdl,zq,go_sem];refine jae 29 ?_;simp only[hi0,hp',hg,Int.toNat_natCast,zq,d1,d2,go_sem];exact⟨false,rfl,fun h=>by cases h⟩
  have d2:decide (n<=x)=false:=zw c2;by_cases c3:(0:Int)<i
  ·have d3:decide ((0:Int)<i)=true:=zh c3;obtain⟨y,hy⟩:∃y,l[i-1]? =some y:=⟨_,ze (by omega)⟩;have hgy:=iget hy;have w1:=ja7 (n:=(i:Int)-1) (by omega);have j1:(0:Int)<=(i:Int)-1:=by omega
   have j2:(i:Int)-1<l.length:=by omega
   have j3:((i:Int)-1).toNat=i-1:=by omega
   simp only[hdl,zq,go_sem];refine jae 29 ?_;simp only[hi0,hp',hg,Int.toNat_natCast,zq,d1,d2,d3,w1,j1,j2,j3,hgy,go_sem];refine jc1 (fun he=> ?_) (fun he=> ?_)
   ·simp only[he,go_sem];exact⟨false,rfl,fun h=>by cases h⟩
   ·simp only[he,go_sem];refine jab (i+1) ?_ (by omega) ⟨by omega,jtk ha hx fun z _ hz=>by rw[hy]at hz;rw[<-yE hz];have:=zN he;omega⟩;simp only[h1,Int.natCast_add,go_sem]
  ·have d3:decide ((0:Int)<i)=false:=zw c3;simp only[hdl,zq,go_sem];refine jae 29 ?_;simp only[hi0,hp',hg,Int.toNat_natCast,zq,d1,d2,d3,go_sem];refine jab (i+1) ?_ (by omega) ⟨by omega,jtk ha hx fun z h0 _=>absurd (by omega:i=0) h0⟩;simp only[h1,Int.natCast_add,go_sem]
 ·have hdl:decide ((i:Int)<l.length)=false:=zw hp';rw[zu (by omega)]at ha;simp only[hdl,zq,go_sem];exact⟨true,rfl,fun _=>ha⟩
