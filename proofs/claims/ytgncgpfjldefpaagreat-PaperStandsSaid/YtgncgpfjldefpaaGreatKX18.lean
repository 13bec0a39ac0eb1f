/- A part of the proof. No further condition. -/
import Derived.Test.YtgncgpfjldefpaaGreatKX17
import Derived.Test.YtgncgpfjldefpaaGreatKX14
set_option linter.all false
set_option maxRecDepth 100000
namespace Go.Proofs.YtgncgpfjldefpaaGreat
section
open Go.Abs
attribute [local go_sem] ints ic Bat.c Pap.c Led.c
section
variable{L:Abs.Rows}{A B C:Nat}{p:Led}
theorem pnm{α:Type}{q:Prop}(x:α)(h:∀y,x=y->q):q:=h x rfl
theorem hpn{a b:Nat}(h:¬a=b):hp a≠hp b:=fun e=>h (hp_inj.1 e)
theorem jji{L:Abs.Rows}{k d:Nat}{v:Nat×List (List IV)}(h:d≠k):Abs.del ((d,v)::L) k=(d,v)::Abs.del L k:=by
 unfold Abs.del;rw[List.filter_cons,if_pos (by simpa using h)]
theorem HasLg.app(h:HasLg L A B C p){L':Abs.Rows}{X:Nat}(xs:List Pap)(b:blks L')(xa:¬A=X)(xb:¬B=X)
  (ha:Abs.look L' (hp A)=some (2,[[.ref B 52 2 p.bs.length,.ref X 34 5 (p.ps.length+xs.length)]])) (hB:Abs.look L' (hp B)=some (2,p.bs.map Bat.c)) (hX:Abs.look L' (hp X)=some (5,p.ps.map Pap.c++xs.map Pap.c)):HasLg L' A B X ⟨p.bs,p.ps++xs⟩:=
 ⟨b,h.ab,xa,xb,by rw[List.length_append];exact ha,hB,by rw[hX,List.map_append]⟩
set_option maxHeartbeats 4000000 in
theorem pb_split1(h:HasLg L A B C p){k:Nat}{x:Pap}(n:Int)(hx:p.ps[k]? =some x)(hg:1<=x.grams/\x.grams<=1099511627776)(hl:p.ps.length<=10000):
  CtrH G.P 39 [.loc (hp A) 2 0 0,.im (.ip [.int k] 0),.im (.ip [.int n] 0)] L (fun r L'=>(btw n 1 (x.grams-1)=false/\r= .im (.int 3))\/(btw n 1 (x.grams-1)=true/\r= .im (.int 0)/\∃X,HasLg L' A B X ⟨p.bs,p.ps.set k (goneP x)++[{x with grams:=n},{x with grams:=x.grams-n}]⟩)):=by
 have hb:=h.blk;have F1:=bF hb;have K1:=bK hb;have G1:=bN hb;have c0:=h.hA;have cC:=h.hC;have hi0:(0:Int)<=k:=by omega
 have hk:k<p.ps.length:=(List.getElem?_eq_some_iff.1 hx).1;have hki:(k:Int)<p.ps.length:=by omega
 have w1:=jaa (n:=x.grams-1) (by omega);have kI:=pb_in n 1 (x.grams-1);rcases hd:btw n 1 (x.grams-1)with _ | _
 ·rw[hd]at kI;refine jb2 (goodH [43] []) _ _ [.tmp 4] Tryz.func39 rfl rfl (by decide+kernel) rfl ?_;simp only[F1,K1,G1,go_sem];refine jbb (by decide+kernel) ?_;simp only[c0,cC,F1,K1,G1,hk,hi0,hki,List.length_map,List.getElem?_map,hx,w1,go_sem];refine ja1 kI (by decide) ?_;simp only[go_sem];refine jbd [] jb3 ja7 ?_;simp only[go_sem]
 ·rw[hd]at kI;have hn:=btw_iff.1 hd;have w2:=jaa (n:=x.grams-n) (by omega);refine jb2 (goodH [43] []) _ _ [.tmp 4] Tryz.func39 rfl rfl (by decide+kernel) rfl ?_;simp only[F1,K1,G1,go_sem];refine jbb (by decide+kernel) ?_;simp only[c0,cC,F1,K1,G1,hk,hi0,hki,List.length_map,List.getElem?_map,hx,w1,go_sem];refine ja1 kI (by decide) ?_;simp only[F1,K1,G1,go_sem];refine jjv (ι:=Unit) (fun _=>⟨[(0,.loc (hp A) 2 0 0),(1,.im (.ip [.int k] 0)),(5,.loc 5 5 0 0),(6,.loc 6 5 0 0)],(6,5,[({x with grams:=x.grams-n}:Pap).c])::(5,5,[({x with grams:=n}:Pap).c])::L,[]⟩) (fun _=>True) ?_ ?_
  ·refine jnh [false,false,false,true,true,false,true,true] (.alt 3 (.alt 4 (.alt 6 (.alt 7 .fin .none) .none) (.alt 6 (.alt 4 (.alt 7 .fin .none) (.alt 7 (.alt 4 .fin .none) .none)) .none)) (.alt 6 (.alt 3 (.alt 4 (.alt 7 .fin .none) (.alt 7 (.alt 4 .fin .none) .none)) (.alt 7 (.alt 3 (.alt 4 .fin .none) .none) .none)) .none)) [(6,5,[x.c]),(5,5,[x.c])] (by decide+kernel) ?_ ?_
   ·exact jaw _ (jaw _ ja7)
   simp only[w2,F1,K1,G1,go_sem]
   repeat' apply And.intro
   all_goals first
    | exact ja7
    | exact jaw _ (jaw _ ja7)
    | (refine jcb () ?_ ?_ ?_ ?_
       ·trivial
       ·simp only[go_sem]
       ·exact SubR.of_eq rfl
       rfl)
  intro _ _;simp only[F1,K1,G1,go_sem];refine jar 7 (by decide+kernel) ?_;simp only[c0,cC,F1,K1,G1,hk,hi0,hki,List.length_map,List.getElem?_map,hx,go_sem];obtain⟨U,hU⟩:∃U,U=(p.ps.map Pap.c).set k (goneP x).c:=⟨_,rfl⟩;refine pnm (List.map (fun q=>if q.1=hp C then(q.1,5,U)else q) L) (fun M hM=> ?_);have e1:=hM;rw[hU]at e1;simp only[Pap.c,goneP]at e1;simp only[e1,go_sem];clear e1;have lM:∀d,d≠hp C->Abs.look M d=Abs.look L d:=fun d hd=>by rw[<-hM];exact jah hd
  have cM:Abs.look M (hp C)=some (5,U):=by rw[<-hM];exact jac cC
  have aM:Abs.look M (hp A)=some (2,[[.ref B 52 2 p.bs.length,.ref C 34 5 p.ps.length]]):=(lM _ (hpn h.ac)).trans c0;have bM:Abs.look M (hp B)=some (2,p.bs.map Bat.c):=(lM _ (hpn h.bc)).trans h.hB;have kM:blks M:=hM▸jb8 hb;have hlen:U.length=p.ps.length:=by rw[hU,List.length_set,List.length_map]
  have htk:U.take p.ps.length=U:=List.take_of_length_le (by omega);obtain⟨Q,hQe⟩:∃Q,Abs.del M (hp C)=Q:=⟨_,rfl⟩;have lQ:∀d,d≠hp C->Abs.look Q d=Abs.look M d:=fun d hd=>by rw[<-hQe];exact ja4 _ hd
  have kQ:blks Q:=hQe▸jbh kM;have hQf:List.filter (fun q=>q.1 !=hp C) M=Q:=hQe;have aQ:=(lQ _ (hpn h.ac)).trans aM;have bQ:=(lQ _ (hpn h.bc)).trans bM;have b5:(5 !=hp C)=true:=by simp only[bne_iff_ne,ne_eq];exact hp_ne (by decide)
  have b6:(6 !=hp C)=true:=by simp only[bne_iff_ne,ne_eq];exact hp_ne (by decide)
  have F2:=bF kQ;have K2:=bK kQ;have G2:=bN kQ;refine jby [false,false,false,false,false,false,false,false,true,false,false] [(6,5,[({x with grams:=x.grams-n}:Pap).c]),(5,5,[({x with grams:=n}:Pap).c]),(hp A,2,[[.ref B 52 2 p.bs.length,.ref C 34 5 p.ps.length]])] (by decide+kernel) (jaw _ (jaw _ (ja6 aM ja7))) ?_;simp only[aM,cM,hlen,htk,go_sem];refine And.intro (fun c hc=> ?_) (And.intro (Nat.le_refl _) (And.intro (by omega) ?_))
  ·simp only[List.mem_cons,List.not_mem_nil,or_false]at hc;rcases hc with rfl | rfl<;>rfl
  refine je5 (fun X hX=> ?_);have lX:Abs.look Q (hp X)=none:=by
   rw[jji (hp_ne (by decide)),jji (hp_ne (by decide)),ja0 _ _ (hp_ne (by decide)).symm,ja0 _ _ (hp_ne (by decide)).symm,hQe]at hX;exact hX
  clear hX;have xa:¬A=X:=fun e=>by rw[<-e,aQ]at lX;cases lX
  have xb:¬B=X:=fun e=>by rw[<-e,bQ]at lX;cases lX
  refine And.intro ?_ ?_
  ·rw[jji (hp_ne (by decide)),jji (hp_ne (by decide)),hQe];refine ja6 ?_ (ja6 ?_ (ja6 ?_ ja7))
   ·rw[ja0 _ _ (hp_ne (by decide)),ja2];rfl
   ·rw[ja0 _ _ (hp_ne (by decide)),ja0 _ _ (by decide),ja2];rfl
   ·rw[ja0 _ _ (hpn xa),ja0 _ _ (hp_ne (by decide)).symm,ja0 _ _ (hp_ne (by decide)).symm];exact aQ
  simp only[aQ,bQ,xa,Ne.symm xa,xb,Ne.symm xb,b5,b6,hQf,F2,K2,G2,go_sem];refine jba ?_;simp only[go_sem];refine⟨X,jda,h.ab,xa,xb,?_,?_,?_⟩
  ·rw[jag,ja0 _ _ (hpn xa),ja0 _ _ (hp_ne (by decide)).symm,ja0 _ _ (hp_ne (by decide)).symm,jac aQ];dsimp only;rw[List.length_append,List.length_set];rfl
  ·rw[jag,ja0 _ _ (hpn xb),ja0 _ _ (hp_ne (by decide)).symm,ja0 _ _ (hp_ne (by decide)).symm,jah (hpn (fun e=>h.ab e.symm))];exact bQ
  ·rw[jag,ja2,hU];dsimp only;rw[List.map_append,List.map_set];rfl
end
end
end Go.Proofs.YtgncgpfjldefpaaGreat
