/- A part of the proof. No further condition. -/
import Derived.Test.YtgnflpkmpoghbaaKU17
import Derived.ChangeArms
import Derived.DataReads
import Derived.Deep.Slices
import Derived.ProofKit
import Derived.Carry
set_option linter.all false
set_option maxRecDepth 10000000
set_option maxHeartbeats 16000000
namespace Go.Proofs.Ytgnflpkmpoghbaa
section
open Go.Abs Go.LQ
attribute [local go_sem] ints ic qC rtC kC xC
section
variable{l:List Trn}{p e:Int}{k:Nat}{n:Int}{C:List Int}{H U H2:List (List IV)}{ac:List IV}{m:Int}{ra ro:Rts}
theorem qu_K(hl:l.length<=20)(hs:e=0->Ctr G.P 7 [.agg (rtC ra),.sl ((backX l).map xC)] (· = .tup [.agg (RC n C H U),.int 0,.int m])/\Ctr G.P 8 [.agg (RC n C H U),.agg (RC n C H U)] (· = .bool true)){Q:Exit->St->Prop}(hQ:∀s,St.Le s (ST1 (.sl (l.map xC)) p k (RC n C H U) (rtC ra) e)->Q .normal s):
  awp G (putN 1 (tailN 9 (jas Try.f3)) .skip) Q (ST1 (.sl (l.map xC)) p k (RC n C H U) (rtC ra) e):=by
 have kB:=q_back l (by omega);unfold ST1 at*;refine jcm rfl ?_;rcases d:decide (e=0)with _ | _
 ·simp only[d,go_sem];refine hQ _ (le_of [1,3,4,9,10,11,12] [11,4] ?_);simp only[go_sem]
 ·obtain⟨kt,kS⟩:=hs (of_decide_eq_true d);unfold RC rtC ints at*;generalize (backX l).map xC=bl at*;simp only[d,go_sem];refine jeg (by decide+kernel) ?_;simp only[go_sem];refine jal kB (by decide) ?_;simp only[go_sem];refine jal kt (by decide) ?_;simp only[go_sem];refine ja5 kS (by decide) ?_;simp only[go_sem];refine hQ _ (le_of [1,3,4,9,10,11,12] [11,4] ?_);simp only[go_sem]
def ST6(lx:IV)(k:Nat)(ac oc:List IV)(e g:Int):St:=⟨[(1,.im lx),(9,.im (.bool true)),(10,.im (.int k)),(11,.loc 11 4 0 0),(12,.im (.int e)),(25,.loc 25 4 0 0),(26,.im (.int g))],[(25,4,[oc]),(11,4,[ac])],[]⟩
def ST7(ac tc:List IV)(e g h:Int):St:=⟨[(9,.im (.bool true)),(11,.loc 11 4 0 0),(12,.im (.int e)),(26,.im (.int g)),(28,.loc 28 4 0 0),(29,.im (.int h))],[(28,4,[tc]),(11,4,[ac])],[]⟩
theorem qu_L{R1:Rts×Int×Int}(hk:k<l.length)(kt:Ctr G.P 7 [.agg (RC n C H U),.sl ((l.take k).map xC)] (· =tR R1)){Q:Exit->St->Prop}(hQ:∀s,St.Le s (ST6 (.sl (l.map xC)) k ac (rtC R1.1) e R1.2.1)->Q .normal s):
  awp G (putN 1 (tailN 10 (jas Try.f3)) .skip) Q (ST1 (.sl (l.map xC)) p k (RC n C H U) ac e):=by
 unfold ST1;unfold ST6 at hQ;have hkl:((k:Int)<=l.length)=True:=eq_true (by omega);have hkl2:((0:Int)<=k)=True:=eq_true (by omega);have h5a:((l.map xC).all fun c=>c.length==5)=true:=by
  rw[List.all_eq_true];intro c hc;obtain⟨z,_,rfl⟩:=List.mem_map.1 hc;rfl
 have hle1:((l.length:Int)<=l.length)=True:=eq_true (Int.le_refl _);have hdt:List.take (l.length-k) (List.drop k (l.map xC))=(l.drop k).map xC:=by
  rw[List.take_of_length_le (by rw[List.length_drop,List.length_map];exact Nat.le_refl _),List.map_drop]
 have hdt2:List.take (k-0) (l.map xC)=(l.take k).map xC:=by rw[List.map_take];rfl
 unfold RC ints tR at*;refine jcm rfl ?_;simp only[go_sem];refine jeg (by decide+kernel) ?_;simp only[List.length_map,hkl,hkl2,h5a,hle1,hdt,hdt2,go_sem];refine jal kt (by decide) ?_;simp only[go_sem];refine hQ _ (le_of [1,9,10,11,12,25,26] [25,11] ?_);simp only[go_sem]
theorem qu_M{R1:Rts×Int×Int}{g:Int}(hk:k<l.length)(kt:Ctr G.P 7 [.agg (rtC ro),.sl ((l.drop k).map xC)] (· =tR R1)){Q:Exit->St->Prop}(hQ:∀s,St.Le s (ST7 ac (rtC R1.1) e g R1.2.1)->Q .normal s):
  awp G (putN 1 (tailN 11 (jas Try.f3)) .skip) Q (ST6 (.sl (l.map xC)) k ac (rtC ro) e g):=by
 unfold ST6;unfold ST7 at hQ;have hkl:((k:Int)<=l.length)=True:=eq_true (by omega);have hkl2:((0:Int)<=k)=True:=eq_true (by omega);have h5a:((l.map xC).all fun c=>c.length==5)=true:=by
  rw[List.all_eq_true];intro c hc;obtain⟨z,_,rfl⟩:=List.mem_map.1 hc;rfl
 have hle1:((l.length:Int)<=l.length)=True:=eq_true (Int.le_refl _);have hdt:List.take (l.length-k) (List.drop k (l.map xC))=(l.drop k).map xC:=by
  rw[List.take_of_length_le (by rw[List.length_drop,List.length_map];exact Nat.le_refl _),List.map_drop]
 have hdt2:List.take (k-0) (l.map xC)=(l.take k).map xC:=by rw[List.map_take];rfl
 unfold tR rtC ints at*;refine jcm rfl ?_;simp only[go_sem];refine jeg (by decide+kernel) ?_;simp only[List.length_map,hkl,hkl2,h5a,hle1,hdt,hdt2,go_sem];refine jal kt (by decide) ?_;simp only[go_sem];refine hQ _ (le_of [9,11,12,26,28,29] [28,11] ?_);simp only[go_sem]
theorem qu_N{g h:Int}(hs:g=0->h=0->e=0/\ra=ro/\Ctr G.P 8 [.agg (rtC ro),.agg (rtC ro)] (· = .bool true)):
  awp G (tailN 12 (jas Try.f3)) QB8 (ST7 (rtC ra) (rtC ro) e g h):=by
 unfold ST7;unfold rtC ints at*;refine tail_go rfl ?_;rcases d1:decide (g=0)with _ | _
 ·simp only[d1,go_sem];exact rfl
 rcases d2:decide (h=0)with _ | _
 ·simp only[d1,d2,go_sem];exact rfl
 obtain⟨rfl,rfl,kS⟩:=hs (of_decide_eq_true d1) (of_decide_eq_true d2);simp only[d1,d2,go_sem];refine ja5 kS (by decide) ?_;simp only[go_sem];exact rfl
end
end
end Go.Proofs.Ytgnflpkmpoghbaa
namespace Go.Abs
section
section
variable{G:Ctx}{N:Nat}{w0:Base}{w:World}{M0:Nat->Nat->Prop}{β:Nat->Option Nat}{st:St}{a:Act}
theorem SemC.cond{c:Operand}{x y:Code}{Q:Exit->St->Prop}{st:St}{t:Bool}(hc:evO st c= .im (.sc (.bool t)))(h1:t=true->SemC G N x Q st)(h2:t=false->SemC G N y Q st):SemC G N (.cond c x y) Q st:=fun w0 M0 β a w hs=>by
 have hv:=jab hs c;rw[hc]at hv;exact wp_cond_split (Rep.sc_inv hv) (fun e=>h1 e w0 M0 β a w hs) (fun e=>h2 e w0 M0 β a w hs)
end
end
end Go.Abs
namespace Go.Proofs.Ytgnflpkmpoghbaa
section
open Go.Abs Go.LQ
theorem jhc{r:Rts}(h:RightQ r){l:List Trn}(hl:l.length<=40):(ja7 r l).1.cap.length<=100000/\(ja7 r l).1.held.length<=100000/\(ja7 r l).1.used.length<=100000:=by
 have hz:Rts.zero.cap.length<=100000/\Rts.zero.held.length<=100000/\Rts.zero.used.length<=100000:=⟨Nat.zero_le _,Nat.zero_le _,Nat.zero_le _⟩;rcases jdj h hl with ⟨i,_,e⟩ | ⟨_,⟨i,_,e⟩ | ⟨_,⟨_,e⟩ | ho⟩⟩
 ·rw[e];exact hz
 ·rw[e];exact hz
 ·rw[e];exact hz
 ·rw[je3 ho];obtain⟨h1,h2,h3⟩:=(jes ho).lens;dsimp only;omega
theorem jk4{N:Nat}{c:Code}{Q:Exit->St->Prop}{st:St}(hc:isSeq 1 c=true)(h:SemC G N (inL c) (fun e s=>match e with | .normal=>SemC G N (inR c) Q s | e=>Q e s) st):SemC G N c Q st:=by
 match c,hc with
 | .seq x y,_=>exact SemC.seq h
theorem semc_G{p f:List Nat}{N:Nat}{c:Code}{Q:Exit->St->Prop}{st:St}(h:SemC (GH p f) N c Q st):SemC G N c Q st:=h
theorem semc_H{p f:List Nat}{N:Nat}{c:Code}{Q:Exit->St->Prop}{st:St}(h:SemC G N c Q st):SemC (GH p f) N c Q st:=h
section
variable{r:Rts}{l:List Trn}{f p:Int}{k:Nat}
noncomputable abbrev nT:Nat:=Try.f3.ntmps
noncomputable abbrev bT:Code:=jas Try.f3
theorem qu_O{x:Trn}(h:RightQ r)(hl:l.length<=20)(hk:k<l.length)(hx:l.getD k x0=x)(hp:p<=9223372036854775807)
  (hS:Ctr G.P 8 [.agg (rtC (ja7 r l).1),.agg (rtC (ja7 r l).1)] (· = .bool true)) {Q:Exit->St->Prop} (hQ:∀s,St.Le s (ST1 (.sl (l.map xC)) p k (rtC r) (rtC (ja7 r l).1) (ja7 r l).2.1)->Q .normal s):
  SemC G nT (inL (tailN 8 bT)) Q (ST3 (.sl (l.map xC)) p k (rtC r) (rtC (ja7 r l).1) (ja7 r l).2.1 (xC x)):=by
 obtain⟨c1,c2,c3⟩:=h.lens;refine jk4 (by kernel_rfl) ?_;have hr:=qu_H (l:=l) (x:=x) (p:=p) (k:=k) (rc:=rtC r) (ac:=rtC (ja7 r l).1) (e:=(ja7 r l).2.1) (Q:=fun e s=>match e with | .normal=>St.Le s (ST3b (.sl (l.map xC)) p k (rtC r) (rtC (ja7 r l).1) (ja7 r l).2.1 (xC x) (divB x p)) | _=>False) fun s hs=>hs;rw[show putN 1 (tailN 0 (rPath bT)) .skip=inL (inL (tailN 8 bT))by kernel_rfl]at hr;refine(SemC.awp good (by decide+kernel) hr).mono ?_;intro e s hs;cases e with
 | normal=>
  refine SemC.le hs ?_;rw[show inR (inL (tailN 8 bT))= .cond (.tmp 114) (qDiv bT) .skip by kernel_rfl];refine SemC.cond (t:=divB x p) rfl (fun hb=> ?_) (fun hb=> ?_)
  ·refine SemC.cutsF good (fun _:Unit=>ST4 (.sl (l.map xC)) p k (rtC r) (rtC (ja7 r l).1) (ja7 r l).2.1 (xC {x with kg:=x.kg-ydiv x p}) (xC {x with kg:=ydiv x p})) (fun _=>True) 3 (by kernel_rfl) (by decide+kernel) (qu_I hb hp fun s hs=>⟨(),trivial,hs⟩) fun _ _=> ?_;have hy:1<=ydiv x p/\ydiv x p<x.kg:=by
    simp only[divB,Bool.and_eq_true,decide_eq_true_eq]at hb;have m1:=Int.emod_nonneg p (b:=x.kg-1) (by omega);have m2:=Int.emod_lt_of_pos p (b:=x.kg-1) (by omega);unfold ydiv;omega
   have ha:=fun he=>jhu h (alike_div r l k hk hl x hx (ydiv x p) hy) he;have kt:=jdk r ((l.take k++l.drop (k+1))++[{x with kg:=x.kg-ydiv x p},{x with kg:=ydiv x p}]) (by omega) (by omega) (by omega) (by simp;omega);generalize ja7 r ((l.take k++l.drop (k+1))++[{x with kg:=x.kg-ydiv x p},{x with kg:=ydiv x p}])=R2 at*;rw[List.map_append,List.map_append]at kt;refine semc_G (SemC.cutsF (goodH [19,135,140,144] []) (fun B:Nat=>ST5 (.sl (l.map xC)) p k (rtC r) (rtC (ja7 r l).1) (ja7 r l).2.1 B (rtC R2.1) R2.2.1) (fun _=>True) 1 (by kernel_rfl) (by decide+kernel) ?_ fun B _=>semc_H ?_)
   ·have hP:∀B s,St.Le s (ST5 (.sl (l.map xC)) p k (rtC r) (rtC (ja7 r l).1) (ja7 r l).2.1 B (rtC R2.1) R2.2.1)->∃i,True/\St.Le s (ST5 (.sl (l.map xC)) p k (rtC r) (rtC (ja7 r l).1) (ja7 r l).2.1 i (rtC R2.1) R2.2.1):=fun B s hs=>⟨B,trivial,hs⟩;rcases hxs:(l.take k).map xC with _ | ⟨a0,ar⟩<;>rcases hys:(l.drop (k+1)).map xC with _ | ⟨b0,br⟩<;>rw[hxs,hys]at kt
    ·exact qu_G11 hxs hys hk hl kt hP
    ·exact qu_G10 hxs hys hk hl kt hP
    ·exact qu_G01 hxs hys hk hl kt hP
    ·exact qu_G00 hxs hys hk hl kt hP
   ·rw[jb7];refine(SemC.awp (G:=GH [] []) (goodH [] []) (by decide+kernel) (show Go.Abs.awp (GH [] []) (tailN 4 (qDiv bT)) (fun e s=>match e with | .normal=>Q .normal s | _=>False) _ from ?_)).mono ?_
    ·have:=qu_J (l:=l) (p:=p) (k:=k) (B:=B) (n:=r.n) (C:=r.cap) (H:=r.held.map qC) (U:=r.used.map qC) (cc:=rtC R2.1) (g:=R2.2.1) (e:=(ja7 r l).2.1) (ra:=(ja7 r l).1) (fun he=>by
      obtain⟨e1,e2⟩:=ha he;exact⟨e1,by rw[e2],hS⟩) (Q:=fun e s=>match e with | .normal=>Q .normal s | _=>False) fun s hs=>hQ s hs
     rw[show putN 2 (tailN 4 (qDiv bT)) .skip=tailN 4 (qDiv bT)by kernel_rfl]at this;exact this
    ·intro e s hs;cases e with
     | normal=>exact hs
     | _=>exact hs.elim
  ·exact SemC.awp good rfl (hQ _ (le_of [1,3,4,9,10,11,12] [11,4] rfl))
 | _=>exact hs.elim
theorem q_turns(r:Rts)(l:List Trn)(f p:Int)(hf:0<=f/\f<=255)(hp:p<=9223372036854775807):Ctr G.P 3 [.agg (rtC r),.sl (l.map xC),.sc (.int .u8 f),.int p] (· = .bool true):=by
 refine ctrX_of (c:=tailN 0 bT) (t:=8) good Try.func3 rfl (by decide+kernel) (Nat.le_of_ble_eq_true rfl) rfl ?_;refine SemC.cutsF good (fun _:Unit=>ST0 (.sl (l.map xC)) f p (rtC r)) (fun _=>RightQ r/\1<=l.length/\l.length<=20) 3 rfl (by decide+kernel) (qu_A (fun s h=>h) fun h1 h2 h3 s hs=>⟨(),⟨h1,h2,h3⟩,hs⟩) fun _ ⟨h,l1,l2⟩=> ?_;rw[jb7];have hk:=kOf_lt (f:=f) l1;obtain⟨c1,c2,c3⟩:=h.lens;have hl:l.length<=40:=by omega
 refine SemC.cutsF good (fun _:Unit=>ST1 (.sl (l.map xC)) p (kOf f l) (rtC r) (rtC (ja7 r l).1) (ja7 r l).2.1) (fun _=>True) 2 (by kernel_rfl) (by decide+kernel) (qu_B1 h l1 l2 hf fun s hs=>⟨(),trivial,hs⟩) fun _ _=> ?_;rw[jb7];generalize kOf f l=k at*;obtain⟨a1,a2,a3⟩:=jhc h hl;have hS:=q_same _ a1 a2 a3;have ha:=fun he=>jhu h (alike_turn r l k hl) he;have kt2:=jdk r (l.drop k++l.take k) (by omega) (by omega) (by omega) (by simp;omega);generalize ja7 r (l.drop k++l.take k)=R1 at*;rw[List.map_append]at kt2;refine semc_G (SemC.cutsF (goodH [14,75,79] []) (fun B:Nat=>ST2 (.sl (l.map xC)) p k (rtC r) (rtC (ja7 r l).1) (ja7 r l).2.1 B (rtC R1.1) R1.2.1) (fun _=>True) 1 (by kernel_rfl) (by decide+kernel) (qu_C (r:=r) hk l2 kt2 fun B s hs=>⟨B,trivial,hs⟩) fun B _=>semc_H ?_);rw[jb7];refine semc_G (SemC.cutsF (goodH [] []) (fun _:Unit=>ST1 (.sl (l.map xC)) p k (rtC r) (rtC (ja7 r l).1) (ja7 r l).2.1) (fun _=>True) 1 (by kernel_rfl) (by decide+kernel) (qu_D (fun he=>by
  obtain⟨e1,e2⟩:=ha he;exact⟨e1,by rw[e2],hS⟩) fun s hs=>⟨(),trivial,hs⟩) fun _ _=>semc_H ?_)
 rw[jb7];have hx:l[k]? =some (l.getD k x0):=by rw[List.getD_eq_getElem?_getD,List.getElem?_eq_getElem hk];rfl
 refine SemC.cutsF good (fun _:Unit=>ST3 (.sl (l.map xC)) p k (rtC r) (rtC (ja7 r l).1) (ja7 r l).2.1 (xC (l.getD k x0))) (fun _=>True) 1 (by kernel_rfl) (by decide+kernel) (qu_E hx fun s hs=>⟨(),trivial,hs⟩) fun _ _=> ?_;rw[jb7];refine jk4 (by kernel_rfl) (qu_O h l2 hk rfl hp hS fun s hs=>SemC.le hs ?_);rw[show inR (tailN 8 bT)=tailN 9 bT by kernel_rfl];refine SemC.cutsF good (fun _:Unit=>ST1 (.sl (l.map xC)) p k (rtC r) (rtC (ja7 r l).1) (ja7 r l).2.1) (fun _=>True) 1 (by kernel_rfl) (by decide+kernel) (qu_K (m:=(l.length:Int)) l2 (fun he=> ?_) fun s hs=>⟨(),trivial,hs⟩) fun _ _=> ?_
 ·obtain⟨ho,e⟩:=je4 h he;have kb:=jdk (ja7 r l).1 (backX l) a1 a2 a3 (by rw[jge];omega);rw[show ja7 (ja7 r l).1 (backX l)=(r,0,(l.length:Int))by rw[e];exact trade_back ho]at kb;exact⟨kb,q_same r (by omega) (by omega) (by omega)⟩
 rw[jb7];have k1:=jdk r (l.take k) (by omega) (by omega) (by omega) (by rw[List.length_take];omega);obtain⟨b1,b2,b3⟩:=jhc h (l:=l.take k) (by rw[List.length_take];omega);have k2:=jdk (ja7 r (l.take k)).1 (l.drop k) b1 b2 b3 (by rw[List.length_drop];omega);have h2:=fun e1 e2=>trade_two (r:=r) (l:=l) (k:=k) h hl e1 e2;refine SemC.cutsF good (fun _:Unit=>ST6 (.sl (l.map xC)) k (rtC (ja7 r l).1) (rtC (ja7 r (l.take k)).1) (ja7 r l).2.1 (ja7 r (l.take k)).2.1) (fun _=>True) 1 (by kernel_rfl) (by decide+kernel) (qu_L hk k1 fun s hs=>⟨(),trivial,hs⟩) fun _ _=> ?_;rw[jb7];refine SemC.cutsF good (fun _:Unit=>ST7 (rtC (ja7 r l).1) (rtC (ja7 (ja7 r (l.take k)).1 (l.drop k)).1) (ja7 r l).2.1 (ja7 r (l.take k)).2.1 (ja7 (ja7 r (l.take k)).1 (l.drop k)).2.1) (fun _=>True) 1 (by kernel_rfl) (by decide+kernel) (qu_M hk k2 fun s hs=>⟨(),trivial,hs⟩) fun _ _=> ?_;rw[jb7];refine SemC.awp good (by decide+kernel) (qu_N fun e1 e2=> ?_);obtain⟨g1,g2⟩:=h2 e1 e2;exact⟨g1,g2.symm,by rw[g2];exact hS⟩
end
end
end Go.Proofs.Ytgnflpkmpoghbaa
namespace Go.Abs
section
open Go.RowKit (Below)
def tileB(G:Ctx):Nat->List (Nat×TypeId)->Nat->Bool
 | k,[],n=>k==n
 | k,(o,t)::r,n=>o==k&&tileB G (k+(G.ti t).size) r n
def opens(G:Ctx):Nat->TypeId->Bool
 | 0,_=>false
 | n+1,t=>(G.ti t).size !=0&&match(G.ti t).kind with
  | .it _ | .bl | .str=>(G.ti t).size==1
  | .sl e=>(G.ti t).size==1&&opens G n e
  | .st fs=>tileB G 0 fs (G.ti t).size&&fs.all fun p=>opens G n p.2
  | _=>false
def Fits(G:Ctx):Nat->TypeId->List IV->Prop
 | 0,_,_=>False
 | n+1,t,xs=>match(G.ti t).kind with
  | .it k=>∃i,xs=[.sc (.int k i)]/\(Lit.int k i).wf=true
  | .bl=>∃b,xs=[.sc (.bool b)]
  | .str=>∃s:ByteArray,xs=[.sc (.string s)]/\s.size<=maxLen
  | .sl e=>∃es,xs=[.sl es]/\es.length<=maxLen/\∀c∈es,Fits G n e c
  | .st fs=>xs.length=(G.ti t).size/\∀p∈fs,Fits G n p.2 ((xs.drop p.1).take (G.ti p.2).size)
  | _=>False
theorem jiy{α:Type}{R:Nat->α->Prop}:∀n,(∀i,i<n->∃x,R i x)->∃l:List α,l.length=n/\∀i x,l[i]? =some x->R i x
 | 0,_=>⟨[],rfl,fun i x h=>by simp at h⟩
 | n+1,h=>by
  obtain⟨l,hl,hR⟩:=jiy n fun i hi=>h i (by omega);obtain⟨x,hx⟩:=h n (by omega);refine⟨l++[x],by simp[hl],fun i y hy=> ?_⟩;rcases Nat.lt_or_ge i l.length with hi | hi
  ·rw[List.getElem?_append_left hi]at hy;exact hR i y hy
  ·rw[List.getElem?_append_right hi]at hy;have hi':i=l.length:=by
    have:=(List.getElem?_eq_some_iff.1 hy).1;simp at this;omega
   subst hi';simp at hy;subst hy;rw[hl];exact hx
theorem RepL.append{w:World}{M:Nat->Nat->Prop}{xs ys:List IV}{us vs:List Value}(h:RepL w M xs us)(h':RepL w M ys vs):RepL w M (xs++ys) (us++vs):=by
 refine⟨by simp[h.1,h'.1],fun k x v hx hv=> ?_⟩;rcases Nat.lt_or_ge k xs.length with hk | hk
 ·rw[List.getElem?_append_left hk]at hx;rw[List.getElem?_append_left (by rw[<-h.1];exact hk)]at hv;exact h.2 k x v hx hv
 ·rw[List.getElem?_append_right hk]at hx;rw[List.getElem?_append_right (by rw[<-h.1];exact hk),<-h.1]at hv;exact h'.2 _ x v hx hv
section
variable{G:Ctx}{H:Type}{enc:TypeId×Value->H}{w:World}{base:Nat}{spare:Nat->Bool}{held:Bool}
abbrev NoM:Nat->Nat->Prop:=fun _ _=>False
theorem jfo(hG:G.Ok){t:TypeId}(h:(G.ti t).size≠0):G.P.cellsOf t=(G.ti t).size:=by
 obtain⟨i,z,hi,hs,_⟩:=hG.info h;simp[Program.cellsOf,hi,hs]
theorem ji6(hG:G.Ok):∀(n m:Nat) (t:TypeId) (cs:List Value) (x:DataW H×List MemPlace),opens G n t=true->DataW.trod enc G.P w base spare held m t cs=some x->
  ∃xs,RepL w NoM xs cs/\(∀y∈xs,y.one=true)/\xs.length=(G.ti t).size/\Fits G n t xs
 | 0,_,_,_,_,ho,_=>by simp[opens]at ho
 | n+1,m,t,cs,x,ho,h=>by
  unfold opens at ho;simp only[Bool.and_eq_true,bne_iff_ne,ne_eq]at ho;obtain⟨h0,ho⟩:=ho;have one:∀{v:Value} {y:IV},Rep w NoM y v->y.one=true->Fits G (n+1) t [y]->(G.ti t).size=1->cs=[v]->
    ∃xs,RepL w NoM xs cs/\(∀y∈xs,y.one=true)/\xs.length=(G.ti t).size/\Fits G (n+1) t xs:=by
   intro v y h1 h2 h3 h4 h5;subst h5;exact⟨[y],RepL.cons h1 RepL.nil,by simpa using h2,h4.symm,h3⟩
  split at ho
  ·rename_i k hk;obtain⟨i,rfl,_,hwf⟩:=DataW.trod_int (hG.it h0 hk) h;exact one (.sc _ rfl) rfl (by unfold Fits;rw[hk];exact⟨i,rfl,hwf⟩) (by simpa using ho) rfl
  ·rename_i hk;obtain⟨b,rfl,rfl⟩:=DataW.trod_bool (hG.bl h0 hk) h;exact one (.sc _ rfl) rfl (by unfold Fits;rw[hk];exact⟨b,rfl⟩) (by simpa using ho) rfl
  ·rename_i hk;obtain⟨s,rfl,_,hwf⟩:=DataW.trod_string (hG.str h0 hk) h;exact one (.sc _ rfl) rfl (by unfold Fits;rw[hk];exact⟨s,rfl,hwf⟩) (by simpa using ho) rfl
  ·rename_i e hk;simp only[Bool.and_eq_true,beq_iff_eq]at ho;obtain⟨h1,ho⟩:=ho;rcases DataW.trod_slice (hG.sl h0 hk) h with ⟨rfl,_⟩ | ⟨a,len,cap,elems,rest,m',rfl,rfl,_,_,hlc,hcm,hel,hat,_⟩
   ·exact one (.nil _ _) rfl (by unfold Fits;rw[hk];exact⟨[],rfl,Nat.zero_le _,by simp⟩) h1 rfl
   ·have he0:(G.ti e).size≠0:=by
     cases n with
     | zero=>simp[opens]at ho
     | succ n=>
      unfold opens at ho;simp only[Bool.and_eq_true,bne_iff_ne,ne_eq]at ho;exact ho.1
    rw[jfo hG he0]at hat;have hex:∀i,i<len->∃p:List IV×List Value,w.cells? base (a.add (i*(G.ti e).size)) (G.ti e).size=some p.2/\RepL w NoM p.1 p.2/\(∀y∈p.1,y.one=true)/\p.1.length=(G.ti e).size/\Fits G n e p.1:=by
     intro i hi;have h3:=hat i hi;rw[List.getElem?_eq_getElem (by omega)]at h3;obtain⟨cs',h4,h5⟩:=Option.bind_eq_some_iff.1 h3;obtain⟨xs,h6,h7,h8,h9⟩:=ji6 hG n _ e cs' _ ho h5;exact⟨⟨xs,cs'⟩,h4,h6,h7,h8,h9⟩
    obtain⟨l,hl,hR⟩:=jiy len hex;have hmap:∀(i:Nat) c,(l.map (·.1))[i]? =some c->∃us,w.cells? base (a.add (i*(G.ti e).size)) (G.ti e).size=some us/\RepL w NoM c us/\(∀y∈c,y.one=true)/\c.length=(G.ti e).size/\Fits G n e c:=by
     intro i c hc;rw[List.getElem?_map]at hc;obtain⟨p,hp,rfl⟩:=Option.map_eq_some_iff.1 hc;obtain⟨h3,h4,h5,h6,h7⟩:=hR i p hp;exact⟨p.2,h3,h4,h5,h6,h7⟩
    have hlen:(l.map (·.1)).length=len:=by simpa using hl
    have hfit:Fits G (n+1) t [.sl (l.map (·.1))]:=by
     unfold Fits;rw[hk];refine⟨_,rfl,by omega,fun c hc=> ?_⟩;obtain⟨i,hi⟩:=List.getElem?_of_mem hc;obtain⟨_,_,_,_,_,h7⟩:=hmap i c hi;exact h7
    refine one (y:= .sl (l.map (·.1))) ?_ rfl hfit h1 rfl;by_cases hz:len=0
    ·subst hz;have:l=[]:=List.eq_nil_of_length_eq_zero hl;subst this;exact .nil _ _
    ·have hlist:∀i c j y,(l.map (·.1))[i]? =some c->c[j]? =some y->∃u,w.cell? (a.add (i*(G.ti e).size+j))=some u/\Rep w NoM y u/\y.one=true:=by
      intro i c j y hi hj;obtain⟨us,h3,h4,h5,h6,_⟩:=hmap i c hi;have hjl:=(List.getElem?_eq_some_iff.1 hj).1;obtain⟨_,h7,h8⟩:=World.cells?_some h3;have hu:us[j]? =some (us[j]'(by omega)):=List.getElem?_eq_getElem (by omega);refine⟨_,?_,h4.2 j y _ hj hu,h5 y (List.mem_of_getElem? hj)⟩;have:=h8 j (by omega);rw[Go.Deep.add_add]at this;rw[this,hu]
     have hsp:a=⟨a.block,a.off,none⟩:=by
      have hg:(l.map (·.1))[0]? =some ((l.map (·.1))[0]'(by omega)):=List.getElem?_eq_getElem (by omega);obtain⟨us,_,_,_,h6,_⟩:=hmap 0 _ hg;have hg2:((l.map (·.1))[0]'(by omega))[0]? =some (((l.map (·.1))[0]'(by omega))[0]'(by omega)):=List.getElem?_eq_getElem (by omega);obtain⟨u,h3,_⟩:=hlist 0 _ 0 _ hg hg2;simp[Addr.add]at h3;have:=World.cell?_spot h3;cases a;simp_all
     have hadd:∀k,a.add k=⟨a.block,a.off+k,none⟩:=fun k=>by
      obtain⟨b,o,sp⟩:=a;cases hsp;unfold Addr.add;split
      ·rename_i hk0;subst hk0;rfl
      ·rfl
     have hgo:∀(i:Nat) c (j:Nat) y,(l.map (·.1))[i]? =some c->c[j]? =some y->w.cell? ⟨a.block,a.off+i*(G.ti e).size+j,none⟩=some ((w.cell? ⟨a.block,a.off+i*(G.ti e).size+j,none⟩).getD undef)/\
       y.one=true/\Rep w NoM y ((w.cell? ⟨a.block,a.off+i*(G.ti e).size+j,none⟩).getD undef):=by
      intro i c j y hi hj;obtain⟨u,h3,h4,h5⟩:=hlist i c j y hi hj;rw[hadd,<-Nat.add_assoc]at h3;rw[h3];exact⟨rfl,h5,h4⟩
     have:=Rep.sl (w:=w) (M:=NoM) (l.map (·.1)) (G.ti e).size a.block a.off cap (fun i j=>(w.cell? ⟨a.block,a.off+i*(G.ti e).size+j,none⟩).getD undef)
      (by intro hn;rw[hn]at hlen;simp at hlen;omega)
      (fun c hc=>by obtain⟨i,hi⟩:=List.getElem?_of_mem hc;obtain⟨_,_,_,_,h6,_⟩:=hmap i c hi;exact h6)
      (by omega)
      (fun i c j y hi hj=>⟨(hgo i c j y hi hj).2.1,(hgo i c j y hi hj).1,fun h=>h⟩)
      (fun i c j y hi hj=>(hgo i c j y hi hj).2.2)
     rw[hlen,<-hsp]at this;exact this
  ·rename_i fs hk;simp only[Bool.and_eq_true]at ho;obtain⟨ht,ho⟩:=ho;obtain⟨gs,hu,hgs⟩:=hG.st h0 hk;obtain⟨xs,m',rfl,_,hcl,hxl,hat⟩:=DataW.trod_struct hu h;rw[jfo hG h0]at hcl;have hfield:∀p∈fs,∃ys,RepL w NoM ys ((cs.drop p.1).take (G.ti p.2).size)/\(∀y∈ys,y.one=true)/\ys.length=(G.ti p.2).size/\Fits G n p.2 ys:=by
    intro p hp;obtain⟨i,hi⟩:=List.getElem?_of_mem hp;rw[<-hgs,List.getElem?_map]at hi;obtain⟨f,hf,rfl⟩:=Option.map_eq_some_iff.1 hi;have hf':gs[i]? =some f:=by simpa using hf
    have h3:=hat i f hf';have hil:i<gs.size:=(Array.getElem?_eq_some_iff.1 hf').1;rw[List.getElem?_eq_getElem (by omega)]at h3;have hof:=List.all_eq_true.1 ho _ hp;have hs0:(G.ti f.type).size≠0:=by
     cases n with
     | zero=>simp[opens]at hof
     | succ n=>
      simp only[]at hof;unfold opens at hof;simp only[Bool.and_eq_true,bne_iff_ne,ne_eq]at hof;exact hof.1
    rw[jfo hG hs0]at h3;exact ji6 hG n _ _ _ _ hof h3
   have build:∀(r:List (Nat×TypeId)) (k:Nat),(∀p∈r,p∈fs)->tileB G k r (G.ti t).size=true->k<=cs.length->∃zs,RepL w NoM zs (cs.drop k)/\(∀y∈zs,y.one=true)/\
     ∀p∈r,k<=p.1/\Fits G n p.2 ((zs.drop (p.1-k)).take (G.ti p.2).size):=by
    intro r
    induction r with
    | nil=>
     intro k _ htl _;simp only[tileB,beq_iff_eq]at htl;refine⟨[],?_,by simp,by simp⟩;rw[List.drop_of_length_le (by omega)];exact RepL.nil
    | cons p r ih=>
     obtain⟨o,u⟩:=p;intro k hm htl hkl;simp only[tileB,Bool.and_eq_true,beq_iff_eq]at htl;obtain⟨rfl,htl⟩:=htl;obtain⟨ys,h3,h4,h5,h6⟩:=hfield (o,u) (hm _ (List.mem_cons_self ..));have hle:o+(G.ti u).size<=cs.length:=by
      have:=h3.1;simp at this h5;omega
     obtain⟨zs,h7,h8,h9⟩:=ih _ (fun p hp=>hm p (List.mem_cons_of_mem _ hp)) htl hle;refine⟨ys++zs,?_,?_,?_⟩
     ·have:=h3.append h7;rw[<-List.drop_drop,List.take_append_drop]at this;exact this
     ·intro y hy;rcases List.mem_append.1 hy with h | h
      ·exact h4 y h
      ·exact h8 y h
     ·intro p hp;rcases List.mem_cons.1 hp with rfl | hp
      ·refine⟨Nat.le_refl _,?_⟩;simp only[Nat.sub_self,List.drop_zero];rw[<-h5]
       simpa using h6
      ·obtain⟨h10,h11⟩:=h9 p hp;refine⟨by omega,?_⟩;rw[List.drop_append,List.drop_of_length_le (by simp at h5;omega),List.nil_append];have e:p.1-o-ys.length=p.1-(o+(G.ti u).size):=by simp at h5;omega
       rw[e];exact h11
   obtain⟨zs,h7,h8,h9⟩:=build fs 0 (fun _ h=>h) ht (Nat.zero_le _);rw[List.drop_zero]at h7;refine⟨zs,h7,h8,by rw[h7.1,hcl],?_⟩;unfold Fits;rw[hk];exact⟨by rw[h7.1,hcl],fun p hp=>by simpa using (h9 p hp).2⟩
  ·cases ho
end
end
section
open Go.RowKit (Below)
open Go.ChangeShapes Go.WideShapes
def FitsA(G:Ctx)(n:Nat)(t:TypeId)(y:IV):Prop:=
 if aggK (G.ti t).kind=true then ∃xs,y= .agg xs/\Fits G n t xs else Fits G n t [y]
def FitsL(G:Ctx)(n:Nat):List TypeId->List IV->Prop
 | [],[]=>True
 | t::ts,y::ys=>FitsA G n t y/\FitsL G n ts ys
 | _,_=>False
section
variable{G:Ctx}{H:Type}{enc:TypeId×Value->H}{w:World}{base:Nat}{spare:Nat->Bool}{held:Bool}{r:Reach}{b0 n:Nat}
theorem opens_ne{t:TypeId}(h:opens G n t=true):(G.ti t).size≠0:=by
 cases n with
 | zero=>simp[opens]at h
 | succ n=>
  unfold opens at h;simp only[Bool.and_eq_true,bne_iff_ne,ne_eq]at h;exact h.1
theorem open_arg(hG:G.Ok){t:TypeId}{v:Value}{d:DataW H}{p:List MemPlace}(ho:opens G n t=true)(hv:Value.okWide G.P w r b0 t v)(h:DataW.Trod enc G.P w base spare held t v d p):
  ∃y,Rep w NoM y v/\FitsA G n t y:=by
 obtain⟨m,hm⟩:=h;have h0:=opens_ne ho;obtain⟨xs,h1,h2,h3,h4⟩:=ji6 hG n m t _ _ ho hm;have single:v.cells= #[v]->aggK (G.ti t).kind=false->∃y,Rep w NoM y v/\FitsA G n t y:=by
  intro hc hk;rw[hc]at h1;obtain⟨hl,hr⟩:=h1
  match xs,hl with
  | [y],_=>
   refine⟨y,hr 0 y v rfl rfl,?_⟩;unfold FitsA;rw[hk];exact h4
 have ho':=ho;cases n with
 | zero=>simp[opens]at ho
 | succ n=>
  unfold opens at ho';simp only[Bool.and_eq_true]at ho';obtain⟨_,ho'⟩:=ho';split at ho'
  ·rename_i k hk;obtain⟨i,rfl⟩:=okWide_int (hG.it h0 hk) hv;exact single rfl (by rw[hk];rfl)
  ·rename_i hk;obtain⟨i,rfl⟩:=okWide_bool (hG.bl h0 hk) hv;exact single rfl (by rw[hk];rfl)
  ·rename_i hk;obtain⟨i,rfl⟩:=okWide_string (hG.str h0 hk) hv;exact single rfl (by rw[hk];rfl)
  ·rename_i e hk;obtain⟨a,l,c,rfl⟩:=okWide_slice (hG.sl h0 hk) hv;exact single rfl (by rw[hk];rfl)
  ·rename_i fs hk;obtain⟨gs,hu,_⟩:=hG.st h0 hk;obtain⟨cs,rfl,_⟩:=okWide_struct hu hv;refine⟨.agg xs,RepL.agg (by simpa [Value.cells]using h1) h2,?_⟩;unfold FitsA;rw[if_pos (by rw[hk];rfl)];exact⟨xs,rfl,h4⟩
  ·cases ho'
theorem jiz(hG:G.Ok):∀{ts:List TypeId} {vs:List Value} {ds:List (DataW H)} {p:List MemPlace},(∀t∈ts,opens G n t=true)->
  (∀(j:Nat) t v,ts[j]? =some t->vs[j]? =some v->Value.okWide G.P w r b0 t v)->DataW.TrodAll enc G.P w base spare held ts vs ds p->∃ys,RepL w NoM ys vs/\FitsL G n ts ys
 | [],[],[],_,_,_,_=>⟨[],RepL.nil,trivial⟩
 | t::ts,v::vs,d::ds,_,ho,hv,⟨_,_,h1,h2,_⟩=>by
  obtain⟨y,h3,h4⟩:=open_arg hG (ho t (List.mem_cons_self ..)) (hv 0 t v rfl rfl) h1;obtain⟨ys,h5,h6⟩:=jiz hG (fun t ht=>ho t (List.mem_cons_of_mem _ ht)) (fun j t v hj hk=>hv (j+1) t v (by simpa using hj) (by simpa using hk)) h2;exact⟨y::ys,RepL.cons h3 h5,h4,h6⟩
theorem jjg{P:Program}(hl:laidOutB P=true){W W':World}(hb:Below W.heap.size W W'):∀{ts:List TypeId} {vs:List Value} {ds:List (DataW H)} {ps:List MemPlace},
  (∀t∈ts,P.readableRec t=true/\t<P.types.size)->DataW.TrodAll enc P W 0 (fun _=>true) true ts vs ds ps->(∀x∈ps,x.block<W.heap.size)->
  DataW.TrodAll enc P W' 0 (fun b=>decide (b<W.heap.size)) true ts vs ds ps
 | [],[],[],_,_,h,_=>h
 | t::ts,v::vs,d::ds,_,ht,⟨p,q,h1,h2,e⟩,hlt=>by
  subst e;obtain⟨h3,h4⟩:=ht t (List.mem_cons_self ..);exact⟨p,q,Go.RowKit.Below.trod hl h3 h4 h1 hb (fun x hx=>hlt x (List.mem_append_left _ hx)),
   jjg hl hb (fun t h=>ht t (List.mem_cons_of_mem _ h)) h2 (fun x hx=>hlt x (List.mem_append_right _ hx)),rfl⟩
theorem jgi{P:Program}:∀{ts:List TypeId} {vs:List Value} {ds:List (DataW H)} {ps:List MemPlace},DataW.TrodAll enc P w base spare held ts vs ds ps->ds.length=ts.length
 | [],[],[],_,_=>rfl
 | _::_,_::_,_::_,_,⟨_,_,_,h2,_⟩=>by simp[jgi h2]
theorem law_calls(hG:G.Good)(hl:laidOutB G.P=true){f:FuncId}{fn:Func}{s:ChangeSpec}{tb:TypeId}(n:Nat)(ts:List TypeId)
  (hp:fn.params.toList=ts) (hrt:fn.resultTypes.toList=[tb]) (hsz:fn.resultTypes.size=1) (htb:G.P.underlying tb=some .bool)
  (hts:(ts.all fun t=>opens G n t&&G.P.readableRec t&&decide (t<G.P.types.size))=true)
  (hvars:s.vars=[]) (hspec:∀ds:List (DataW H),ds.length=ts.length->s.fn H ds={results:=[.lit (.bool true)],args:=ds})
  (hc:∀ys,FitsL G n ts ys->Ctr G.P f ys (· = .bool true)) {W:World} {args:Array Value} {ds gs:List (DataW H)} {before:List MemPlace}
  (hval:∀(j:Nat) t v,fn.params[j]? =some t->args[j]? =some v->Value.okWide G.P W .any b0 t v) (hW:DataW.Whole enc G.P fn.params.toList s.vars false W args.toList ds gs before):
  Calls G.P f args W fun e W'=>∃v,e= .returned v/\s.post enc G.P fn false true false false W args v W':=by
 have hts':∀t∈ts,opens G n t=true/\G.P.readableRec t=true/\t<G.P.types.size:=fun t ht=>by
  have:=List.all_eq_true.1 hts t ht;simp only[Bool.and_eq_true,decide_eq_true_eq]at this;exact⟨this.1.1,this.1.2,this.2⟩
 have hW0:=hW;obtain⟨p,q,hA,hV,hpq,hfz,hnd⟩:=hW;rw[hvars]at hV;obtain⟨rfl,rfl⟩:=trodVars_none hV;rw[hp]at hA;obtain⟨ys,h1,h2⟩:=jiz hG.ok (fun t ht=>(hts' t ht).1) (fun j t v hj hk=>hval j t v (by rw[<-Array.getElem?_toList,hp];exact hj) (by rw[<-Array.getElem?_toList];exact hk)) hA;have hcall:=hc ys h2 W NoM args.toList (fun b o h=>h.elim) h1;rw[Array.toArray_toList]at hcall;refine hcall.mono fun e W' ⟨r,v,hr,he,hv,hb⟩=> ?_;subst hr;obtain rfl:=Rep.sc_inv hv;refine⟨_,he,?_⟩;have hsp:=hspec ds (jgi hA);have hlt:∀x∈before,x.block<W.heap.size:=fun x hx=>hW0.lt x hx;refine⟨ds,[],before,[],p,[],hW0,?_,?_,?_,World.keptBut_mono (fun p hp=>⟨hp,?_⟩) (hb.frame (· ∈before)),fun h=>by cases h⟩
 ·rw[hrt,hsz,List.append_nil,hsp];exact trodAll_mk1 (Go.RowKit.shut_bool htb _)
 ·rw[List.append_nil,hsp,hp];exact jjg hl hb (fun t ht=>(hts' t ht).2) hA (fun x hx=>hlt x (by rw[hpq];simpa using hx))
 ·rw[List.append_nil,hsp,hvars];rfl
 ·rw[hpq,List.append_nil]at hp;exact .inr (.inl hp)
end
end
end Go.Abs
namespace Go.Proofs.Ytgnflpkmpoghbaa
section
open Go.Abs
theorem jc3{t:TypeId}(hk:(G.ti t).kind= .it .i64):∀{n:Nat} {xs:List IV},Fits G n t xs->∃i,xs=[.int i]
 | 0,_,h=>h.elim
 | n+1,xs,h=>by
  unfold Fits at h;rw[hk]at h;obtain⟨i,rfl,_⟩:=h;exact⟨i,rfl⟩
theorem list_of{α:Type}{f:α->List IV}:∀{es:List (List IV)},(∀c∈es,∃p,c=f p)->∃l:List α,es=l.map f
 | [],_=>⟨[],rfl⟩
 | c::es,h=>by
  obtain⟨p,rfl⟩:=h c (List.mem_cons_self ..);obtain⟨l,rfl⟩:=list_of fun c hc=>h c (List.mem_cons_of_mem _ hc);exact⟨p::l,rfl⟩
theorem jf8{α:Type}(f:α->List IV){t e:TypeId}(hk:(G.ti t).kind= .sl e)(hf:∀{n:Nat} (c:List IV),Fits G n e c->∃p,c=f p):∀{n:Nat} {xs:List IV},Fits G n t xs->∃l:List α,xs=[.sl (l.map f)]
 | 0,_,h=>h.elim
 | n+1,xs,h=>by
  unfold Fits at h;rw[hk]at h;obtain⟨es,rfl,_,h⟩:=h;obtain⟨l,rfl⟩:=list_of fun c hc=>hf c (h c hc);exact⟨l,rfl⟩
theorem fits_ints{t e:TypeId}(hk:(G.ti t).kind= .sl e)(he:(G.ti e).kind= .it .i64){n:Nat}{xs:List IV}(h:Fits G n t xs):∃l:List Int,xs=[ints l]:=
 jf8 ic hk (fun _ hc=>jc3 he hc) h
theorem jjq{t:TypeId}{fs:List (Nat×TypeId)}(hk:(G.ti t).kind= .st fs):∀{n:Nat} {xs:List IV},Fits G n t xs->xs.length=(G.ti t).size/\∃m,∀p∈fs,Fits G m p.2 ((xs.drop p.1).take (G.ti p.2).size)
 | 0,_,h=>h.elim
 | n+1,xs,h=>by
  unfold Fits at h;rw[hk]at h;exact⟨h.1,n,h.2⟩
theorem fitsA_struct{t:TypeId}{n:Nat}{y:IV}(hk:aggK (G.ti t).kind=true)(h:FitsA G n t y):∃xs,y= .agg xs/\Fits G n t xs:=by
 unfold FitsA at h
 rwa [if_pos hk]at h
theorem jgx{t:TypeId}{n:Nat}{y:IV}(hk:aggK (G.ti t).kind=false)(h:FitsA G n t y):Fits G n t [y]:=by
 unfold FitsA at h
 rwa [if_neg (by rw[hk];simp)]at h
theorem jea{n:Nat}{t:TypeId}{ts:List TypeId}:∀{ys:List IV},FitsL G n (t::ts) ys->∃y ys',ys=y::ys'/\FitsA G n t y/\FitsL G n ts ys'
 | y::ys',h=>⟨y,ys',rfl,h⟩
theorem fitsL_nil{n:Nat}:∀{ys:List IV},FitsL G n [] ys->ys=[]
 | [],_=>rfl
end
section
open Go.Abs Go.LQ
theorem oq4{α:Type}:∀{l:List α},l.length=4->∃x0 x1 x2 x3,l=[x0,x1,x2,x3]
 | [x0,x1,x2,x3],_=>⟨x0,x1,x2,x3,rfl⟩
theorem oq5{α:Type}:∀{l:List α},l.length=5->∃x0 x1 x2 x3 x4,l=[x0,x1,x2,x3,x4]
 | [x0,x1,x2,x3,x4],_=>⟨x0,x1,x2,x3,x4,rfl⟩
theorem jku{n:Nat}{xs:List IV}(h:Fits G n 47 xs):∃q:Quo,xs=qC q:=by
 obtain⟨hl,m,hf⟩:=jjq (t:=47) (fs:=[(0,3),(1,3),(2,3),(3,3)]) rfl h;obtain⟨x0,x1,x2,x3,rfl⟩:=oq4 (show xs.length=4 from hl);have h0:Fits G m 3 [x0]:=hf (0,3) (by simp);obtain⟨i0,e0⟩:=jc3 rfl h0;cases e0;have h1:Fits G m 3 [x1]:=hf (1,3) (by simp);obtain⟨i1,e1⟩:=jc3 rfl h1;cases e1;have h2:Fits G m 3 [x2]:=hf (2,3) (by simp);obtain⟨i2,e2⟩:=jc3 rfl h2;cases e2;have h3:Fits G m 3 [x3]:=hf (3,3) (by simp);obtain⟨i3,e3⟩:=jc3 rfl h3;cases e3;exact⟨⟨i0,i1,i2,i3⟩,rfl⟩
theorem fits_Trn{n:Nat}{xs:List IV}(h:Fits G n 35 xs):∃q:Trn,xs=xC q:=by
 obtain⟨hl,m,hf⟩:=jjq (t:=35) (fs:=[(0,3),(1,3),(2,3),(3,3),(4,3)]) rfl h;obtain⟨x0,x1,x2,x3,x4,rfl⟩:=oq5 (show xs.length=5 from hl);have h0:Fits G m 3 [x0]:=hf (0,3) (by simp);obtain⟨i0,e0⟩:=jc3 rfl h0;cases e0;have h1:Fits G m 3 [x1]:=hf (1,3) (by simp);obtain⟨i1,e1⟩:=jc3 rfl h1;cases e1;have h2:Fits G m 3 [x2]:=hf (2,3) (by simp);obtain⟨i2,e2⟩:=jc3 rfl h2;cases e2;have h3:Fits G m 3 [x3]:=hf (3,3) (by simp);obtain⟨i3,e3⟩:=jc3 rfl h3;cases e3;have h4:Fits G m 3 [x4]:=hf (4,3) (by simp);obtain⟨i4,e4⟩:=jc3 rfl h4;cases e4;exact⟨⟨i0,i1,i2,i3,i4⟩,rfl⟩
theorem fitsA_Rts{n:Nat}{y:IV}(h:FitsA G n 25 y):∃r:Rts,y= .agg (rtC r):=by
 obtain⟨xs,e,h'⟩:=fitsA_struct rfl h;subst e;obtain⟨hl,m,hf⟩:=jjq (t:=25) (fs:=[(0,3),(1,22),(2,23),(3,23)]) rfl h';obtain⟨x0,x1,x2,x3,rfl⟩:=oq4 (show xs.length=4 from hl);have h0:Fits G m 3 [x0]:=hf (0,3) (by simp);obtain⟨i0,e0⟩:=jc3 rfl h0;cases e0;have h1:Fits G m 22 [x1]:=hf (1,22) (by simp);obtain⟨C,e1⟩:=fits_ints rfl rfl h1;cases e1;have h2:Fits G m 23 [x2]:=hf (2,23) (by simp);obtain⟨H,e2⟩:=jf8 qC rfl (fun _ hc=>jku hc) h2;cases e2;have h3:Fits G m 23 [x3]:=hf (3,23) (by simp);obtain⟨U,e3⟩:=jf8 qC rfl (fun _ hc=>jku hc) h3;cases e3;exact⟨⟨i0,C,H,U⟩,rfl⟩
theorem fitsA_Trns{n:Nat}{y:IV}(h:FitsA G n 26 y):∃l:List Trn,y= .sl (l.map xC):=by
 obtain⟨l,e⟩:=jf8 xC rfl (fun _ hc=>fits_Trn hc) (jgx rfl h);cases e;exact⟨l,rfl⟩
