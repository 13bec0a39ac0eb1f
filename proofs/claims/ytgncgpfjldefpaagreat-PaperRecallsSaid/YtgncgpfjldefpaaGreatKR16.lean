/- A part of the proof. No further condition. -/
import Derived.Test.YtgncgpfjldefpaaGreatKR15
set_option linter.all false
set_option maxRecDepth 10000000
set_option maxHeartbeats 16000000
namespace Go.Proofs.YtgncgpfjldefpaaGreat
section
open Go.Abs
attribute [local go_sem] ints ic Bat.c Pap.c Led.c
section
variable{L:Abs.Rows}{A B C:Nat}{p:Led}
theorem pnm{α:Type}{q:Prop}(x:α)(h:∀y,x=y->q):q:=h x rfl
theorem hpn{a b:Nat}(h:¬a=b):hp a≠hp b:=fun e=>h (hp_inj.1 e)
theorem jjt{L:Abs.Rows}{k d:Nat}{v:Nat×List (List IV)}(h:d≠k):Abs.del ((d,v)::L) k=(d,v)::Abs.del L k:=by
 unfold Abs.del;rw[jl,zn (by simpa using h)]
theorem pb_split1(h:HasLg L A B C p){k:Nat}{x:Pap}(n:Int)(hx:p.ps[k]? =some x)(hg:1<=x.grams/\x.grams<=1099511627776)(hl:p.ps.length<=10000):
  CtrH G.P 39 [.loc (hp A) 2 0 0,.im (.ip [.int k] 0),.im (.ip [.int n] 0)] L (fun r L'=>(btw n 1 (x.grams-1)=false/\r= .im (.int 3))\/(btw n 1 (x.grams-1)=true/\r= .im (.int 0)/\∃X,HasLg L' A B X ⟨p.bs,p.ps.set k (goneP x)++[{x with grams:=n},{x with grams:=x.grams-n}]⟩)):=by
 have hb:=h.blk;have F1:=bF hb;have K1:=bK hb;have G1:=bN hb;have c0:=h.hA;have cC:=h.hC;have hi0:(0:Int)<=k:=by omega
 have hk:k<p.ps.length:=(zt.1 hx).1;have hki:(k:Int)<p.ps.length:=by omega
 have w1:=ja9 (n:=x.grams-1) (by omega);have kI:=pb_in n 1 (x.grams-1);rcases hd:btw n 1 (x.grams-1)with _ | _
 ·rw[hd]at kI;refine jan [43] [] [.tmp 4] Tryz.func39 ?_;simp only[F1,K1,G1,go_sem];refine jam ?_;simp only[c0,cC,F1,K1,G1,hk,hi0,hki,zh,zq,hx,w1,go_sem];refine ja1 kI ?_;simp only[go_sem];refine jb8 [] jb0 ja7 ?_;simp only[go_sem]
 ·rw[hd]at kI;have hn:=btw_iff.1 hd;have w2:=ja9 (n:=x.grams-n) (by omega);refine jan [43] [] [.tmp 4] Tryz.func39 ?_;simp only[F1,K1,G1,go_sem];refine jam ?_;simp only[c0,cC,F1,K1,G1,hk,hi0,hki,zh,zq,hx,w1,go_sem];refine ja1 kI ?_;simp only[F1,K1,G1,go_sem];refine jhr (ι:=Unit) (fun _=>⟨[(0,.loc (hp A) 2 0 0),(1,.im (.ip [.int k] 0)),(5,.loc 5 5 0 0),(6,.loc 6 5 0 0)],(6,5,[({x with grams:=x.grams-n}:Pap).c])::(5,5,[({x with grams:=n}:Pap).c])::L,[]⟩) (fun _=>True) ?_ ?_
  ·refine jhq [false,false,false,true,true,false,true,true] (.alt 3 (.alt 4 (.alt 6 (.alt 7 .fin .none) .none) (.alt 6 (.alt 4 (.alt 7 .fin .none) (.alt 7 (.alt 4 .fin .none) .none)) .none)) (.alt 6 (.alt 3 (.alt 4 (.alt 7 .fin .none) (.alt 7 (.alt 4 .fin .none) .none)) (.alt 7 (.alt 3 (.alt 4 .fin .none) .none) .none)) .none)) [(6,5,[x.c]),(5,5,[x.c])] (by decide+kernel) ?_ ?_
   ·exact jax _ (jax _ ja7)
   simp only[w2,F1,K1,G1,go_sem]
   repeat' apply And.intro
   all_goals first
    | exact ja7
    | exact jax _ (jax _ ja7)
    | (refine jbz () ?_ ?_ ?_ ?_
       ·trivial
       ·simp only[go_sem]
       ·exact SubR.of_eq rfl
       rfl)
  intro _ _;simp only[F1,K1,G1,go_sem];refine jai 7 ?_;simp only[c0,cC,F1,K1,G1,hk,hi0,hki,zh,zq,hx,go_sem];obtain⟨U,hU⟩:∃U,U=(p.ps.map Pap.c).set k (goneP x).c:=⟨_,rfl⟩;refine pnm (List.map (fun q=>if q.1=hp C then(q.1,5,U)else q) L) (fun M hM=> ?_);have e1:=hM;rw[hU]at e1;simp only[Pap.c,goneP]at e1;simp only[e1,go_sem];clear e1;have lM:∀d,d≠hp C->Abs.look M d=Abs.look L d:=fun d hd=>by rw[<-hM];exact jag hd
  have cM:Abs.look M (hp C)=some (5,U):=by rw[<-hM];exact jab cC
  have aM:Abs.look M (hp A)=some (2,[[.ref B 52 2 p.bs.length,.ref C 34 5 p.ps.length]]):=(lM _ (hpn h.ac)).trans c0;have bM:Abs.look M (hp B)=some (2,p.bs.map Bat.c):=(lM _ (hpn h.bc)).trans h.hB;have kM:blks M:=hM▸jb5 hb;have hlen:U.length=p.ps.length:=by rw[hU,zZ,zh]
  have htk:U.take p.ps.length=U:=zD (by omega);obtain⟨Q,hQe⟩:∃Q,Abs.del M (hp C)=Q:=⟨_,rfl⟩;have lQ:∀d,d≠hp C->Abs.look Q d=Abs.look M d:=fun d hd=>by rw[<-hQe];exact ja8 _ hd
  have kQ:blks Q:=hQe▸jbc kM;have hQf:List.filter (fun q=>q.1 !=hp C) M=Q:=hQe;have aQ:=(lQ _ (hpn h.ac)).trans aM;have bQ:=(lQ _ (hpn h.bc)).trans bM;have b5:(5 !=hp C)=true:=by simp only[qq,ne_eq];exact hp_ne (by decide)
  have b6:(6 !=hp C)=true:=by simp only[qq,ne_eq];exact hp_ne (by decide)
  have F2:=bF kQ;have K2:=bK kQ;have G2:=bN kQ;refine jbo [false,false,false,false,false,false,false,false,true,false,false] [(6,5,[({x with grams:=x.grams-n}:Pap).c]),(5,5,[({x with grams:=n}:Pap).c]),(hp A,2,[[.ref B 52 2 p.bs.length,.ref C 34 5 p.ps.length]])] (by decide+kernel) (jax _ (jax _ (ja5 aM ja7))) ?_;simp only[aM,cM,hlen,htk,go_sem];refine And.intro (fun c hc=> ?_) (And.intro (zu _) (And.intro (by omega) ?_))
  ·simp only[zT,j7,vH]at hc;rcases hc with rfl | rfl<;>rfl
  refine jdk (fun X hX=> ?_);have lX:Abs.look Q (hp X)=none:=by
   rw[jjt (hp_ne (by decide)),jjt (hp_ne (by decide)),ja0 _ _ (hp_ne (by decide)).symm,ja0 _ _ (hp_ne (by decide)).symm,hQe]at hX;exact hX
  clear hX;have xa:¬A=X:=fun e=>by rw[<-e,aQ]at lX;cases lX
  have xb:¬B=X:=fun e=>by rw[<-e,bQ]at lX;cases lX
  refine And.intro ?_ ?_
  ·rw[jjt (hp_ne (by decide)),jjt (hp_ne (by decide)),hQe];refine ja5 ?_ (ja5 ?_ (ja5 ?_ ja7))
   ·rw[ja0 _ _ (hp_ne (by decide)),ja2]
   ·rw[ja0 _ _ (hp_ne (by decide)),ja0 _ _ (by decide),ja2]
   ·rw[ja0 _ _ (hpn xa),ja0 _ _ (hp_ne (by decide)).symm,ja0 _ _ (hp_ne (by decide)).symm];exact aQ
  simp only[aQ,bQ,xa,zw xa,xb,zw xb,b5,b6,hQf,F2,K2,G2,go_sem];refine jb6 ?_;simp only[go_sem];refine⟨X,jdc,h.ab,xa,xb,?_,?_,?_⟩
  ·rw[jaf,ja0 _ _ (hpn xa),ja0 _ _ (hp_ne (by decide)).symm,ja0 _ _ (hp_ne (by decide)).symm,jab aQ];dsimp only;rw[zF,zZ];rfl
  ·rw[jaf,ja0 _ _ (hpn xb),ja0 _ _ (hp_ne (by decide)).symm,ja0 _ _ (hp_ne (by decide)).symm,jag (hpn (fun e=>h.ab e.symm))];exact bQ
  ·rw[jaf,ja2,hU];dsimp only;rw[qp,qn];rfl
