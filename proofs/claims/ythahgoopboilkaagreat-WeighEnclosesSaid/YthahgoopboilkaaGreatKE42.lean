/- A part of the proof. No further condition. -/
import Derived.Test.YthahgoopboilkaaGreatKE24
import Derived.RangeFuncNested
import Derived.RangeFuncBound
import Derived.RangeFuncCalls
import Derived.RangeFuncLeaves
import Derived.RangeFuncBox
import Derived.Shelf.Abstract
import Derived.Shelf.RegionOpen
import Derived.OwnWalkIn
import Derived.TacticsInMore
import Derived.LoopNIn
import Derived.LoopIn
import Derived.BigRegionIn
import Derived.BigFrameIn
set_option linter.all false
set_option maxRecDepth 10000000
set_option maxHeartbeats 16000000
namespace Go.Proofs.YthahgoopboilkaaGreat
section
open Go.RowKit Go.Shelf
attribute [local go_sem] Oper.semAt_some
structure BelowX(X n₀:Nat)(W W':World):Prop where
 size:W.heap.size<=W'.heap.size
 block:∀k,k<n₀->k≠X->W'.heap[k]? =W.heap[k]?
theorem BelowX.refl(X n₀:Nat)(W:World):BelowX X n₀ W W:=⟨zB _,fun _ _ _=>rfl⟩
theorem BelowX.trans{X n₀:Nat}{A B C:World}(h:BelowX X n₀ A B)(h':BelowX X n₀ B C):BelowX X n₀ A C:=⟨qn h.size h'.size,fun k hk hx=>(h'.block k hk hx).trans (h.block k hk hx)⟩
theorem BelowX.drew{X n₀:Nat}{A B:World}(h:BelowX X n₀ A B):BelowX X n₀ A B.drew:=⟨h.size,h.block⟩
theorem BelowX.cell{X n₀:Nat}{A B:World}(h:BelowX X n₀ A B){p:Addr}(hp:p.block<n₀)(hx:p.block≠X):B.cell? p=A.cell? p:=by
 unfold World.cell?;rw[h.block _ hp hx]
def IsMul(m j a:Nat):Prop:=a=m*j
theorem IsMul.next{m j a k c:Nat}(h:IsMul m j a)(hc:IsMul m k c)(hlt:j<k):a+m<=c/\IsMul m (j+1) (a+m):=by
 unfold IsMul at*;have h1:m*(j+1)<=m*k:=vg m hlt;rw[Nat.mul_succ]at h1⊢;omega
theorem IsMul.last{m j a c:Nat}(h:IsMul m j a)(hc:IsMul m j c):a=c:=by unfold IsMul at*;omega
theorem IsMul.off{m j a:Nat}(h:IsMul m j a):4*m*j=a*4:=by unfold IsMul at h;rw[h,jf,yl]
theorem chunk1_in(F:Fence)(n:Nat)(h154:F.fn 147)(hro:F.round=none)(hn:1<=n)(l Bs Bn os on b off cap m k c:Nat)(hm:1<=m)(hc:IsMul m k c)(hk:c<=100000)(hcap:c<=cap)(J Jx:List Nat->World->Prop)(n₀ X:Nat)
  (hY:∀pre x W,J pre W->pre.length<k->YieldAt F (n-1) Tryz.prog l #[.slice (some ⟨b,off+4*m*x,none⟩) m m] W fun e W'=>
   (e= .returned (.bool true)/\J (pre++[x]) W'/\BelowX X n₀ W W')\/(e= .returned (.bool false)/\Jx (pre++[x]) W'))
  (hJd:∀pre A,J pre A->J pre A.drew) (W:World) (hs0:Bs<n₀) (hn0:Bn<n₀) (hsX:Bs≠X) (hnX:Bn≠X) (hBs:W.cell? ⟨Bs,os,none⟩=some (.slice (some ⟨b,off,none⟩) c cap)) (hBn:W.cell? ⟨Bn,on,none⟩=some (.int .i64 m)) (h0:J [] W):
  CallsIn F n Tryz.prog 147 #[.func (.yield l) #[] #[],.pointer (some ⟨Bs,os,none⟩),.pointer (some ⟨Bn,on,none⟩)] W fun e W'=>(∃v,e= .returned v)/\
   ((∃ys,ys=List.range k/\J ys W')\/(∃pre,(∃i,i<=k/\pre=List.range i)/\Jx pre W')):=by
 refine callsIn_of_wp Tryz.func147 rfl h154 ?_ hro;simp only[Tryz.ntmps147,yr,List.length_cons,List.length_nil,Nat.reduceAdd,Nat.reduceSub,Array.replicate_succ,Array.replicate_zero,List.push_toArray,List.append_toArray,List.nil_append,List.cons_append]
 gi_wp2
 gi_loopw [4] (fun i wr=>∃j a:Nat,j<=k/\IsMul m j a/\i= .int .i64 (a:Int)/\J (List.range j) wr/\BelowX X n₀ W wr)
  (fun i _=>c-(intOf i).toNat)
 case atStart=>exact⟨0,0,zE _,rfl,rfl,h0,BelowX.refl _ _ _⟩
 case round=>
  obtain⟨j,a,hj,ha,rfl,hJs,hnx⟩:=hrel;have hcs:wr.cell? ⟨Bs,os,none⟩=some (.slice (some ⟨b,off,none⟩) c cap):=(hnx.cell (p:=⟨Bs,os,none⟩) hs0 hsX).trans hBs;have hcn:wr.cell? ⟨Bn,on,none⟩=some (.int .i64 m):=(hnx.cell (p:=⟨Bn,on,none⟩) hn0 hnX).trans hBn;by_cases hlt:j<k
  ·obtain⟨h1,h2⟩:=ha.next hc hlt;have hac:a<c:=by omega
   obtain⟨fn,tmps,assign,body,hy,hR⟩:=hY _ j wr.drew (hJd _ _ hJs) (by rw[qK];exact hlt);rw[ha.off]at hy;have hmin:¬c-a<m:=by omega
   gi_wp2
   gi_region
   all_goals
    gi_wp2
    refine hR.mono ?_;rintro e W3 (⟨rfl,hJ3,hk3⟩ | ⟨rfl,hJx3⟩)
    ·have hcn3:W3.cell? ⟨Bn,on,none⟩=some (.int .i64 m):=(hk3.cell (p:=⟨Bn,on,none⟩) hn0 hnX).trans hcn
     gi_wp2
     refine⟨⟨_,_,_,_,_,_,_,_,_,_,_,_,_,_,_,_,_,_,_,_,_,_,_,_,_,_,_,⟨j+1,a+m,by omega,h2,by simp,by rw[vR];exact hJ3,hnx.trans (BelowX.trans (BelowX.drew (BelowX.refl X n₀ wr)) hk3)⟩,rfl⟩,?_⟩;simp[intOf];omega
    ·gi_wp2
     refine bodyPost_ret (results_none rfl _ _ _) rfl ?_;exact⟨⟨_,rfl⟩,.inr ⟨_,⟨j+1,by omega,by rw[vR]⟩,hJx3⟩⟩
  ·have hjk:j=k:=by omega
   subst hjk;have hac:=ha.last hc;clear hY;subst hac
   gi_wp2
   go_end0
   exact⟨⟨_,rfl⟩,.inl ⟨_,rfl,hJs⟩⟩
theorem chunk1_nil_in(F:Fence)(n:Nat)(h154:F.fn 147)(hro:F.round=none)(l Bs Bn os on:Nat)(a:Option Addr)(cap:Nat)(J:List Nat->World->Prop)(W:World)(hBs:W.cell? ⟨Bs,os,none⟩=some (.slice a 0 cap))(h0:J [] W):
  CallsIn F n Tryz.prog 147 #[.func (.yield l) #[] #[],.pointer (some ⟨Bs,os,none⟩),.pointer (some ⟨Bn,on,none⟩)] W fun e W'=>(∃v,e= .returned v)/\J [] W':=by
 refine callsIn_of_wp Tryz.func147 rfl h154 ?_ hro;simp only[Tryz.ntmps147,yr,List.length_cons,List.length_nil,Nat.reduceAdd,Nat.reduceSub,Array.replicate_succ,Array.replicate_zero,List.push_toArray,List.append_toArray,List.nil_append,List.cons_append]
 gi_wp2
 gi_loopw [4] (fun i wr=>i= .int .i64 0/\J [] wr/\wr.cell? ⟨Bs,os,none⟩=some (.slice a 0 cap)) (fun _ _=>0)
 case atStart=>exact⟨rfl,h0,hBs⟩
 case round=>
  obtain⟨rfl,hJs,hcs⟩:=hrel
  gi_wp2
  go_end0
  exact⟨⟨_,rfl⟩,hJs⟩
theorem chunk_stops(F:Fence)(n:Nat)(h154:F.fn 147)(hro:F.round=none)(hn:1<=n)(X Bs Bn os on n₀ b off cap m k c:Nat)(hm:1<=m)(hc:IsMul m k c)(hk:c<=100000)(hcap:c<=cap)(w:World)(hs0:Bs<n₀)(hn0:Bn<n₀)(hsX:Bs≠X)(hnX:Bn≠X)(hw:n₀<=w.heap.size)
  (hBs:w.cell? ⟨Bs,os,none⟩=some (.slice (some ⟨b,off,none⟩) c cap)) (hBn:w.cell? ⟨Bn,on,none⟩=some (.int .i64 m)):
  SeqStopsK F n Tryz.prog 147 #[.pointer (some ⟨Bs,os,none⟩),.pointer (some ⟨Bn,on,none⟩)] (fun j:Nat=> #[Value.slice (some ⟨b,off+4*m*j,none⟩) m m]) (BelowX X n₀) (fun ys=>ys=List.range k) (fun pre=>∃i,i<=k/\pre=List.range i) k w:=fun l J Jx W hW hJ _ hY h0=>by
 have e1:=(hW.cell (p:=⟨Bs,os,none⟩) (by show Bs<w.heap.size;omega)).trans hBs;have e2:=(hW.cell (p:=⟨Bn,on,none⟩) (by show Bn<w.heap.size;omega)).trans hBn;refine chunk1_in F n h154 hro hn l Bs Bn os on b off cap m k c hm hc hk hcap J Jx n₀ X hY (fun pre A hA=> ?_) W hs0 hn0 hsX hnX e1 e2 h0;exact hJ pre A A.drew none hA ⟨rfl,rfl,rfl,zB _,fun k _ _=>rfl⟩ (fun r e=>by cases e)
