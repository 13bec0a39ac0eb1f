/- A part of the proof. No further condition. -/
import Derived.Test.YtjcjcpebocbonaaGreatKY31
set_option linter.all false
set_option maxRecDepth 10000000
set_option maxHeartbeats 16000000
namespace Go.Proofs.YtjcjcpebocbonaaGreat
section
set_option maxRecDepth 1000000
open Go.Abs
open Go.LP (Dic Rw RT cf cfU ngU jdw)
attribute [local go_sem] ints ic big frac fc rwC tmC lineC
section
variable{L:Abs.Rows}{nm:DN}{D:Dic}{src:Nat->Int×Bool}
theorem x_put(h:HasO L nm D src)(w:Rw)(row:Nat)(a1:Bool)(hN:D.n<=100000)(hm:D.m<=10000)(b5:RT w.ts 0 D.n)(b6:∀t∈w.ts,FL 100000000 t.2)(b4:FL 100000000 w.val)(hlen:w.ts.length<=100000):
  CtrH G.P 172 [.loc (hp nm.d) 6 0 0,.im (.int row),.im (.agg (rwC w)),.im (.bool a1)] L
   (fun x L'=>x= .im (.tup [])/\∃b3:DN,b3.d=nm.d/\HasO L' b3 (D.put w a1) (jdw D src row a1)):=by
 refine jtd (goodH [8,73,84,93] []) [] Tryz.func172 rfl rfl (by decide+kernel) rfl ?_;refine SemC.cutsF (goodH [8,73,84,93] []) (fun i:Nat×Nat=>⟨[(0,.loc (hp nm.d) 6 0 0),(1,.im (.int row)),(3,.im (.bool a1)),(6,.loc 6 6 0 0),(8,.loc (hp i.2) 5 0 0)],(hp i.2,5,[lineC w.val i.1 D.n])::(hp i.1,4,tab D.n fun _=>qc 0)::(6,6,[rwC w])::L,[]⟩) (fun i=>¬i.1=i.2/\Abs.look L (hp i.1)=none/\Abs.look L (hp i.2)=none) 2 rfl (by decide+kernel)
  (put_A h w row a1 hN fun A b s hi hs=>⟨(A,b),hi,hs⟩) ?_
 rintro⟨A,b⟩ ⟨b2,b1,b0⟩;rw[jek];refine SemC.cutsF (goodH [8,73,84,93] []) (fun M:Abs.Rows=>⟨[(0,.loc (hp nm.d) 6 0 0),(1,.im (.int row)),(3,.im (.bool a1)),(6,.loc 6 6 0 0),(8,.loc (hp b) 5 0 0)],(6,6,[rwC w])::M,[]⟩) (fun M=>blks M/\SubR L M/\Abs.look M (hp b)=some (5,[lineC w.val A D.n])/\Abs.look M (hp A)=some (4,tab D.n fun k=>qc (cf w.ts k))) 1 rfl (by decide+kernel)
  (put_B h.blk b2 b1 b0 w row a1 hN b5 hlen fun M s hi hs=>⟨M,hi,hs⟩) ?_
 rintro M ⟨hM,a6,a7,a8⟩;rw[jek];refine SemC.cutsF (goodH [8,73,84,93] []) (fun M:Abs.Rows=>⟨[(0,.loc (hp nm.d) 6 0 0),(1,.im (.int row)),(3,.im (.bool a1)),(8,.loc (hp b) 5 0 0)],(6,6,[rwC w])::M,[]⟩) (fun M=>blks M/\SubR L M/\Abs.look M (hp b)=some (5,[lineC (if a1=true then-w.val else w.val) A D.n])/\Abs.look M (hp A)=some (4,tab D.n fun k=>qc (if a1=true then-cf w.ts k else cf w.ts k))) 1 rfl (by decide+kernel)
  (put_C h.blk b2 b1 b0 w row a1 hN b5 b6 b4 hlen hM a6 a7 a8 fun M s hi hs=>⟨M,hi,hs⟩) ?_
 rintro M ⟨hM,a6,a7,a8⟩;rw[jek];exact SemC.awp (goodH [8,73,84,93] []) (by decide+kernel) (put_D h b2 b1 b0 w row a1 hN hm hM a6 rfl (fun _=>rfl) a7 a8)
