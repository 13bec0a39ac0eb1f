/- A part of the proof. No further condition. -/
import Derived.Test.YtkcekimolppapaaGreatKS39
set_option linter.all false
set_option maxRecDepth 10000000
set_option maxHeartbeats 16000000
namespace Go.Proofs.YtkcekimolppapaaGreat
section
open Go.Abs
attribute [local go_sem] ints ic Evid.c Evid.iv Place.c Move.c Cert.c Recall.c Purity.c
theorem jkc{P:List Int->Bool}:∀{k:Nat} {ch l:List Int},(srch P k ch l).length<=2^l.length
 | 0,ch,l=>by
  rw[srch];have:=Nat.one_le_two_pow (n:=l.length);split
  ·exact this
  ·exact zH _
 | k+1,ch,[]=>by rw[srch];exact zH _
 | k+1,ch,s::r=>by
  have h1:=jkc (P:=P) (k:=k) (ch:=ch++[s]) (l:=r);have h2:=jkc (P:=P) (k:=k+1) (ch:=ch) (l:=r);rw[srch,zG,List.length_cons,Nat.pow_succ];omega
 termination_by k _ l=>(k,l.length)
theorem srch_drop{P:List Int->Bool}{k:Nat}{ch l:List Int}{i:Nat}{s:Int}(h:l[i]? =some s):srch P (k+1) ch (l.drop i)=srch P k (ch++[s]) (l.drop (i+1))++srch P (k+1) ch (l.drop (i+1)):=by
 obtain⟨hi,rfl⟩:=zl.1 h;rw[qQ hi,srch]
theorem jmr:CtrH G.P 141 [.im (.sl [])] [] (fun r L'=>r= .im .emp/\L'=[]):=by
 refine ctrE_of (xs:=[.sl []]) (t:=2) good Tryz.func141 rfl (by decide+kernel) (by decide) rfl ?_;refine SemC.seq ?_;refine SemC.awp good (by decide+kernel) ?_;simp only[go_sem];refine SemC.seq ?_;refine SemC.awp good (by decide+kernel) ?_;simp only[go_sem];refine jey (fun h=> ?_) ?_
 ·simp only[go_sem]
 ·simp only[go_sem];refine SemC.seq ?_;refine SemC.list good (by decide+kernel) ?_;refine⟨rfl,.inl ?_⟩;simp only[go_sem];refine⟨rfl,.inl ?_⟩;simp only[go_sem];refine⟨rfl,.inr (jpp (e:=3) rfl rfl rfl (by decide) (by decide) (by decide) ?_)⟩;refine⟨rfl,.inl ?_⟩;simp only[go_sem];refine SemC.awp good (by decide+kernel) ?_;simp only[go_sem]
section
variable{e:Evid}
theorem su_search0(hc:jax e=0)(hs:SmallE e)(ch l:List Int)(hl:ch.length<=1000):Ctr G.P 98 [e.iv,ints ch,ints l,.int 0] (· =je7 (srch (posS e) 0 ch l)):=by
 have kw:=jea ch hc (by omega);have kp:=jfd (e:=offE ch e) hs.off (je3 hc);have kc:=jh1 ch (by omega);rw[show posB (offE ch e)=posS e ch from rfl]at kp;rw[srch];unfold je7;simp only[Evid.iv,Evid.c,ints]at kw kp kc;rcases hp:posS e ch with _ | _
 ·rw[hp]at kp;rw[zn (by decide)];refine ja5 [.tmp 8] Tryz.func98 ?_;simp only[go_sem];refine ja1 kw ?_;simp only[go_sem];refine ja1 kp ?_;simp only[zF,go_sem]
 ·rw[hp]at kp;rw[zm rfl];refine ja5 [.tmp 8] Tryz.func98 ?_;simp only[go_sem];refine ja1 kw ?_;simp only[go_sem];refine ja1 kp ?_;simp only[go_sem];refine ja1 kc ?_;simp only[zB,zF,setC,go_sem]
theorem jkd{es r:List (List IV)}{k:Int}{y:IV}{Y n:Nat}(ks:Ctr G.P 98 [e.iv,.sl es,.sl r,.int k] (· =y))(hn:es.length=n):
  CtrH G.P 98 [.im e.iv,.im (.ref Y 3 1 n),.im (.sl r),.im (.int k)] [(hp Y,1,es)] (fun x L'=>x= .im y/\L'=[]):=by
 subst hn;refine(jtf ks [e.iv,.ref Y 3 1 es.length,.sl r,.int k] [Y] [(hp Y,1,es)] ?_).mono fun r L' ⟨z,h1,h2,h3⟩=>⟨by rw[h1,h2],h3⟩;have ht:List.take es.length es=es:=qe;simp only[Evid.iv,Evid.c,zB,zF,jd9 (ja2 _ _ _),jf3,frz3,frz2,frz1,emp2,emp1,zt,jk,qm,ht]
theorem set1{A:List (List Int)}:∀c∈A.map setC,c.length=1:=fun c hc=>by
 obtain⟨z,_,rfl⟩:=z8.1 hc;rfl
def sO(A:Nat)(acc:List (List Int)):AV:=if acc=[]then .sx []else .im (.ref A 31 1 acc.length)
def rO(A:Nat)(acc:List (List Int)):Abs.Rows:=if acc=[]then []else [(hp A,1,acc.map setC)]
theorem jpv{A:Nat}:sO A []= .sx []:=rfl
theorem sO_ne{A:Nat}{acc:List (List Int)}(h:acc≠[]):sO A acc= .im (.ref A 31 1 acc.length):=zn h
theorem rO_nil{A:Nat}:rO A []=[]:=rfl
theorem rO_ne{A:Nat}{acc:List (List Int)}(h:acc≠[]):rO A acc=[(hp A,1,acc.map setC)]:=zn h
theorem su_search1{k:Nat}(hk:k<=1000){ch l:List Int}(hch:ch.length<=1000)(hl:l.length<=20)(kS:∀(s:Int) (r:List Int),r.length<=20->Ctr G.P 98 [e.iv,ints (ch++[s]),ints r,.int k] (· =je7 (srch (posS e) k (ch++[s]) r))):
  Ctr G.P 98 [e.iv,ints ch,ints l,.int ((k+1:Nat):Int)] (· =je7 (srch (posS e) (k+1) ch l)):=by
 have hk0:decide (((k+1:Nat):Int)=0)=false:=zw (by omega);have hk1:IntKind.i64.wrap (((k+1:Nat):Int)-1)=(k:Int):=(ja7 (by omega)).trans (by omega);have hpw:2^l.length<=2^20:=qS (by decide) hl;have hp2:(2:Nat)^20=1048576:=by decide
 have htot:=jkc (P:=posS e) (k:=k+1) (ch:=ch) (l:=l);unfold je7 at*;simp only[ints]at kS;obtain⟨K,hK⟩:∃K:Int,((k+1:Nat):Int)=K:=⟨_,rfl⟩;rw[hK]at hk0 hk1⊢;refine jm1 (goodH [34,42] []) _ _ [.tmp 8] Tryz.func98 rfl rfl (by decide+kernel) rfl ?_;simp only[hk0,go_sem];refine jap [1,2,3,4,9,21,22,23] (fun g:Nat×Nat×List (List Int)=>⟨[(1,.im (.sl (ch.map ic))),(2,.im (.sl (l.map ic))),(3,.im (.int K)),(4,.loc 4 8 0 0),(9,sO g.2.1 g.2.2),(21,.im (.sl (l.map ic))),(22,.im (.int l.length)),(23,.im (.int g.1))],(4,8,[e.c])::rO g.2.1 g.2.2,[]⟩)
  (fun g=>g.1<=l.length/\g.2.2++srch (posS e) (k+1) ch (l.drop g.1)=srch (posS e) (k+1) ch l) (fun g=>l.length-g.1) (0,0,[]) ?_ (SubR.of_eq rfl) rfl ⟨zH _,rfl⟩ ?_
 ·simp only[Int.natCast_zero,zq,jpv,go_sem]
 rintro⟨i,A,acc⟩ ⟨hi,hacc⟩;dsimp only at hi hacc⊢;by_cases hp':(i:Int)<l.length
 ·have hd:decide ((i:Int)<l.length)=true:=zh hp';obtain⟨x,hx⟩:=jbf hp';have h1:=ja7 (n:=(i:Int)+1) (by omega);have hg:=iget hx;have hi0:(0:Int)<=i:=by omega
  have ks:=kS x (l.drop (i+1)) (by rw[yl];omega);rw[srch_drop hx]at hacc;obtain⟨Z,hZ⟩:∃Z,srch (posS e) k (ch++[x]) (l.drop (i+1))=Z:=⟨_,rfl⟩;rw[hZ]at ks hacc;have hlen:acc.length+Z.length<=1048576:=by
   have:=qx List.length hacc;rw[zG,zG]at this;omega
  have s1:(0:Int)<=(i:Int)+1:=by omega
  have s2:(i:Int)+1<=l.length:=by omega
  have s3:((i:Int)+1).toNat=i+1:=by omega
  have s4:((l.map ic).all fun c=>c.length==1)=true:=List.all_eq_true.2 fun c hc=>by
   obtain⟨z,_,rfl⟩:=z8.1 hc;rfl
  have s5:List.take (l.length-(i+1)) (List.drop (i+1) (l.map ic))=(l.drop (i+1)).map ic:=by
   rw[zu (by rw[yl,zq];exact zt _),List.map_drop]
  simp only[qf,zB,zF,ic]at ks;by_cases hacc0:acc=[]
  ·subst hacc0;rw[jpv,rO_nil];simp only[hd,hp',hi0,hg,Int.toNat_natCast,zq,go_sem];refine jgx [false,false,false,true,false,false,true,false,false,false,false,false,false,true,true] (.alt 3 (.alt 6 (.alt 13 (.alt 14 .fin .none) .none) .none) .none) [(4,8,[e.c])] (by decide+kernel) (jag rfl jac) ?_;simp only[h1,hk1,s1,s2,s3,s4,s5,zq,yq,Int.toNat_natCast,go_sem];by_cases hch0:ch=[]
   ·subst hch0;refine jbc jmr (by decide) rfl jaq jac ?_;rintro _ _ ⟨rfl,rfl⟩ _;refine⟨_,behind0,?_⟩;simp only[go_sem];refine And.intro (jag rfl jac) (And.intro (fun c hc=>by rw[zC.1 hc];rfl) (jez (fun Y hY=> ?_)));have h4:(4 !=hp Y)=true:=by simp only[z7,ne_eq];exact hp_ne (by decide)
    refine And.intro (jag (by rw[ja0 _ _ (hp_ne (by decide))];rfl) jac) ?_;have kz:=jkd (Y:=Y) ks (n:=1) rfl;simp only[Evid.iv,Evid.c]at kz;simp only[s5,go_sem];refine jbc kz (by decide) rfl (jad jaq) (jay _ jac) ?_;rintro _ _ ⟨rfl,rfl⟩ _;refine⟨_,jdw hY,?_⟩;simp only[h4,go_sem];refine And.intro (jag rfl jac) ?_;rcases Z with _ | ⟨z0,zr⟩
    ·simp only[zF,go_sem];refine And.intro (jag rfl jac) ?_;refine ja6 (i+1,0,[]) ?_ (SubR.of_eq rfl) rfl (by dsimp only;omega) ⟨by dsimp only;omega,hacc⟩;simp only[h1,Int.natCast_add,jpv,zq,go_sem]
    ·have hb:(zr.length+1)*24<=140737488355328:=by rw[List.length_cons]at hlen;omega
     have hs0:=fun A:Nat=>sO_ne (A:=A) (acc:=z0::zr) (vi _ _);simp only[zB,go_sem];refine And.intro (fun c hc=>set1 (A:=z0::zr) c hc) (And.intro hb (jez (fun W hW=> ?_)));have h6:(4 !=hp W)=true:=by simp only[z7,ne_eq];exact hp_ne (by decide)
     refine And.intro (jag (by rw[ja0 _ _ (hp_ne (by decide))];rfl) jac) ?_;simp only[h6,go_sem];refine ja6 (i+1,W,z0::zr) ?_ ?_ rfl (by dsimp only;omega) ⟨by dsimp only;omega,hacc⟩
     ·simp only[h1,Int.natCast_add,hs0,zq,List.length_cons,go_sem]
     ·dsimp only;rw[rO_ne (vi _ _)];exact jag (by rw[ja0 _ _ (hp_ne (by decide))];rfl) (jag (ja2 _ _ _) jac)
   ·refine jbc (jnv ch hch0 (by omega)) (by decide) rfl jaq jac ?_;rintro _ _ ⟨X,rfl,rfl⟩ hX;refine⟨_,jfa (ja2 _ _ _),?_⟩;have h4:(4 !=hp X)=true:=by simp only[z7,ne_eq];exact hp_ne (by decide)
    simp only[h4,go_sem];refine And.intro (jag (by rw[ja0 _ _ (hp_ne (by decide))];rfl) jac) (And.intro (fun c hc=>by rw[zC.1 hc];rfl) (And.intro (zt _) (And.intro (by omega) (je6 (fun Y hY=> ?_)))));have ht:List.take ch.length (ch.map ic)=ch.map ic:=zu (by rw[zq];exact zt _);have kz:=jkd (Y:=Y) ks (n:=ch.length+1) (by rw[zG,zq];rfl);simp only[Evid.iv,Evid.c]at kz;have h5:(4 !=hp Y)=true:=by simp only[z7,ne_eq];exact hp_ne (by decide)
    simp only[h4,ht,go_sem];refine And.intro (jag (by rw[ja0 _ _ (hp_ne (by decide))];rfl) jac) ?_;refine jbc kz (by decide) rfl (jad jaq) (jay _ jac) ?_;rintro _ _ ⟨rfl,rfl⟩ _;refine⟨_,jdw (by rw[ja0 _ _ (hp_ne (by decide)).symm];rfl),?_⟩;simp only[h5,go_sem];refine And.intro (jag rfl jac) ?_;rcases Z with _ | ⟨z0,zr⟩
    ·simp only[zF,go_sem];refine And.intro (jag rfl jac) ?_;refine ja6 (i+1,0,[]) ?_ (SubR.of_eq rfl) rfl (by dsimp only;omega) ⟨by dsimp only;omega,hacc⟩;simp only[h1,Int.natCast_add,jpv,zq,go_sem]
    ·have hb:(zr.length+1)*24<=140737488355328:=by rw[List.length_cons]at hlen;omega
     have hs0:=fun A:Nat=>sO_ne (A:=A) (acc:=z0::zr) (vi _ _);simp only[zB,go_sem];refine And.intro (fun c hc=>set1 (A:=z0::zr) c hc) (And.intro hb (jez (fun W hW=> ?_)));have h6:(4 !=hp W)=true:=by simp only[z7,ne_eq];exact hp_ne (by decide)
     refine And.intro (jag (by rw[ja0 _ _ (hp_ne (by decide))];rfl) jac) ?_;simp only[h6,go_sem];refine ja6 (i+1,W,z0::zr) ?_ ?_ rfl (by dsimp only;omega) ⟨by dsimp only;omega,hacc⟩
     ·simp only[h1,Int.natCast_add,hs0,zq,List.length_cons,go_sem]
     ·dsimp only;rw[rO_ne (vi _ _)];exact jag (by rw[ja0 _ _ (hp_ne (by decide))];rfl) (jag (ja2 _ _ _) jac)
  ·have hA4:(4 !=hp A)=true:=by simp only[z7,ne_eq];exact hp_ne (by decide)
   have htA:List.take acc.length (acc.map setC)=acc.map setC:=zu (by rw[zq];exact zt _);have hne2:acc++Z≠[]:=fun h=>hacc0 (List.append_eq_nil_iff.1 h).1;have hs0:=fun A:Nat=>sO_ne (A:=A) hne2;rw[sO_ne hacc0,rO_ne hacc0];simp only[hd,hp',hi0,hg,Int.toNat_natCast,zq,go_sem];refine jgx [false,false,false,true,false,false,true,false,false,false,false,false,false,true,true] (.alt 3 (.alt 6 (.alt 13 (.alt 14 .fin .none) .none) .none) .none) [(4,8,[e.c])] (by decide+kernel) (jag rfl jac) ?_;simp only[h1,hk1,s1,s2,s3,s4,s5,zq,yq,Int.toNat_natCast,go_sem];by_cases hch0:ch=[]
   ·subst hch0;refine jbc jmr (by decide) rfl jaq jac ?_;rintro _ _ ⟨rfl,rfl⟩ _;refine⟨_,behind0,?_⟩;simp only[go_sem];refine And.intro (jay _ jac) (And.intro (fun c hc=>by rw[zC.1 hc];rfl) (jez (fun Y hY=> ?_)));have h4:(4 !=hp Y)=true:=by simp only[z7,ne_eq];exact hp_ne (by decide)
    refine And.intro (jag (by rw[ja0 _ _ (hp_ne (by decide))];rfl) jac) ?_;have kz:=jkd (Y:=Y) ks (n:=1) rfl;simp only[Evid.iv,Evid.c]at kz;simp only[s5,go_sem];refine jbc kz (by decide) rfl (jad jaq) (jay _ jac) ?_;rintro _ _ ⟨rfl,rfl⟩ _;refine⟨_,jdw hY,?_⟩;simp only[h4,hA4,zq,zt,go_sem];refine And.intro (jay _ jac) ?_;refine And.intro (fun c hc=>set1 c hc) (And.intro (by omega) (je6 (fun W hW=> ?_)));have h6:(4 !=hp W)=true:=by simp only[z7,ne_eq];exact hp_ne (by decide)
    simp only[hA4,go_sem];refine And.intro (jag (by rw[ja0 _ _ (hp_ne (by decide))];rfl) jac) ?_;simp only[h6,htA,go_sem];refine ja6 (i+1,W,acc++Z) ?_ ?_ rfl (by dsimp only;omega) ⟨by dsimp only;omega,by dsimp only;rw[zS];exact hacc⟩
    ·simp only[h1,Int.natCast_add,hs0,zq,zG,go_sem]
    ·dsimp only;rw[rO_ne hne2,qf];exact jag (by rw[ja0 _ _ (hp_ne (by decide))];rfl) (jag (ja2 _ _ _) jac)
   ·refine jbc (jnv ch hch0 (by omega)) (by decide) rfl jaq jac ?_;rintro _ _ ⟨X,rfl,rfl⟩ hX;have hXn:Abs.look ((4,8,[e.c])::[(hp A,1,acc.map setC)]) (hp X)=none:=by
     rcases hX (hp X) (by rw[ja2];rfl)with h | h
     ·cases h
     ·exact h
    have hXA:¬X=A:=fun h=>by
     rw[h,ja0 _ _ (hp_ne (by decide)).symm,ja2]at hXn;cases hXn
    have hAX:(hp A !=hp X)=true:=by simp only[z7,ne_eq];exact hpne (zK hXA)
    refine⟨_,jfa (ja2 _ _ _),?_⟩;have h4:(4 !=hp X)=true:=by simp only[z7,ne_eq];exact hp_ne (by decide)
    simp only[h4,go_sem];refine And.intro (jag (by rw[ja0 _ _ (hp_ne (by decide))];rfl) jac) (And.intro (fun c hc=>by rw[zC.1 hc];rfl) (And.intro (zt _) (And.intro (by omega) (je6 (fun Y hY=> ?_)))));have ht:List.take ch.length (ch.map ic)=ch.map ic:=zu (by rw[zq];exact zt _);have kz:=jkd (Y:=Y) ks (n:=ch.length+1) (by rw[zG,zq];rfl);simp only[Evid.iv,Evid.c]at kz;have h5:(4 !=hp Y)=true:=by simp only[z7,ne_eq];exact hp_ne (by decide)
    have hYn:Abs.look ((4,8,[e.c])::[(hp A,1,acc.map setC)]) (hp Y)=none:=by
     have hdel:∀(v:Nat×List (List IV)) (R:Abs.Rows),Abs.del ((hp X,v)::R) (hp X)=Abs.del R (hp X):=fun v R=>by unfold Abs.del;rw[jF (by simp)]
     rw[hdel,jaf (hp_ne (by decide)),jaf (hpne (zK hXA))]at hY;exact hY
    simp only[h4,hAX,ht,go_sem];refine And.intro (jag (by rw[ja0 _ _ (hp_ne (by decide))];rfl) jac) ?_;refine jbc kz (by decide) rfl (jad jaq) (jay _ jac) ?_;rintro _ _ ⟨rfl,rfl⟩ _;refine⟨_,jdw hYn,?_⟩;simp only[h5,hA4,zq,zt,go_sem];refine And.intro (jay _ jac) ?_;refine And.intro (fun c hc=>set1 c hc) (And.intro (by omega) (je6 (fun W hW=> ?_)));have h6:(4 !=hp W)=true:=by simp only[z7,ne_eq];exact hp_ne (by decide)
    simp only[hA4,go_sem];refine And.intro (jag (by rw[ja0 _ _ (hp_ne (by decide))];rfl) jac) ?_;simp only[h6,htA,go_sem];refine ja6 (i+1,W,acc++Z) ?_ ?_ rfl (by dsimp only;omega) ⟨by dsimp only;omega,by dsimp only;rw[zS];exact hacc⟩
    ·simp only[h1,Int.natCast_add,hs0,zq,zG,go_sem]
    ·dsimp only;rw[rO_ne hne2,qf];exact jag (by rw[ja0 _ _ (hp_ne (by decide))];rfl) (jag (ja2 _ _ _) jac)
 ·have hd:decide ((i:Int)<l.length)=false:=zw hp';have e1:i=l.length:=by omega
  subst e1;rw[List.drop_length]at hacc;have e2:srch (posS e) (k+1) ch []=[]:=by rw[srch]
  rw[e2,zX]at hacc;simp only[hd,go_sem];by_cases hacc0:acc=[]
  ·subst hacc0;rw[jpv,rO_nil,<-hacc];refine jfm [] ?_;simp only[zF,go_sem]
  ·rw[sO_ne hacc0,rO_ne hacc0,<-hacc];have h4:(4 !=hp A)=true:=by simp only[z7,ne_eq];exact hp_ne (by decide)
   have h5:List.take acc.length (acc.map setC)=acc.map setC:=zu (by rw[zq];exact zt _);refine jfm [A] ?_;simp only[h4,h5,zq,zt,go_sem]
end
end
section
open Go.Abs
open Go.LP (Rw RT tsum)
attribute [local go_sem] ints ic big frac fc Evid.c Evid.iv Place.c Move.c Cert.c Recall.c Purity.c
theorem e_Origin{e:Evid}(hc:jax e=0)(hml:e.moves.length<=10)(k:Nat)(hk:k<(rowsE e).length):
  Ctr G.P 100 [e.iv,.int k] (fun r=>∃w c,(rowsE e)[k]? =some w/\OgOk e w c/\r= .tup [.agg c,.bool true]):=by
 have hck:=c21 e;obtain⟨hfit,hm1,_⟩:=jbi hc;obtain⟨l1,l2,l3,l4,l5,l6,l7,l8⟩:=jgr hfit;obtain⟨M,hM⟩:∃M:Nat,e.mats=(M:Int):=⟨e.mats.toNat,by omega⟩;have km:=e_made hc hM hml;rw[hc]at hck;have hkz:decide ((k:Int)<0)=false:=zw (by omega);have hk0:(0:Int)<=k:=by omega
 have hkn:(k:Int)<(rowsE e).length:=by omega
 have hkd:decide (((rowsE e).length:Int)<=k)=false:=zw (by omega);obtain⟨w,hw⟩:∃w,(rowsE e)[k]? =some w:=⟨_,ze hk⟩;refine jf5 (φ:=fun r L'=>∃w c,(rowsE e)[k]? =some w/\OgOk e w c/\r= .im (.tup [.agg c,.bool true])) ?_ (fun r L' ⟨w,c,h1,h2,h3⟩=>⟨_,[],h3,w,c,h1,h2,rfl⟩);simp only[zB,zF];refine jao [] [] [.cell 4 103,.tmp 5] Tryz.func100 ?_;simp only[go_sem];refine ja1 hck ?_;simp only[hkz,go_sem];refine jcz km (by decide) (by simp only[zB,zF,zX];rfl) jaq jac ?_;rintro _ L1 ⟨nm,os,rfl,hH⟩ _;refine⟨(4,4,[[.int 0,.int 0,.int 0,.int 0]])::(2,8,[e.c])::L1,jmg (pre:=[_,_]),?_⟩;have bL1:=hH.blk;have F1:=bF bL1;have K1:=bK bL1;have G1:=bN bL1;have hd0:=hH.hd;have ho0:=hH.ho (by omega);have hol:os.length=(rowsE e).length:=hH.len;obtain⟨c,hcc⟩:∃c,os[k]? =some c:=⟨_,ze (by omega)⟩;have hog:=hH.og k w c hw hcc;obtain⟨q,mt,ix,n,x,rfl,_⟩:=id hog;rw[jak (by omega),jak (by omega)]at hd0;unfold Evid.c at hd0;simp only[hd0,ho0,hol,hcc,hk0,hkn,hkd,hk,Int.toNat_natCast,F1,K1,G1,go_sem];refine jbh ?_;simp only[go_sem];exact⟨w,_,hw,hog,rfl⟩
end
section
open Go.Abs
open Go.LP (Rw RT tsum Sol)
attribute [local go_sem] ints ic Evid.c Evid.iv Place.c Move.c Cert.c Recall.c Purity.c
theorem asc_len:∀{l U:List Int},Asc U->(∀a∈U,a∈l)->U.length<=l.length
 | [],U,_,h=>by
  have:U=[]:=vZ.2 fun a ha=>by cases h a ha
  rw[this];exact zt _
 | a::l,U,hU,h=>by
  have hn:U.Nodup:=hU.imp fun h e=>by omega
  have h1:=asc_len (l:=l) (U:=U.erase a) (hU.sublist List.erase_sublist) fun b hb=>by
   have:=hn.mem_erase_iff.1 hb;rcases zP.1 (h b this.2)with rfl | h
   ·exact absurd rfl this.1
   ·exact h
  rw[List.length_cons];by_cases ha:a∈U
  ·rw[List.length_erase_of_mem ha]at h1;omega
  ·rw[List.erase_of_not_mem ha]at h1;omega
theorem jnq(e:Evid):(usedE e).length<=e.moves.length:=by
 have h1:=asc_len (jho e).asc fun a ha=>scl_mem.2 (((jho e).mem a).1 ha);have h2:=jr8 (ms:=e.moves) e.moves.length;rw[qe]at h2;omega
section
variable{e:Evid}
theorem jpg(hc:jax e=0)(hs:SmallE e):∀(k:Nat) (ch l:List Int),k<=900->ch.length+k<=900->l.length<=20->Ctr G.P 98 [e.iv,ints ch,ints l,.int k] (· =je7 (srch (posS e) k ch l))
 | 0,ch,l,_,h1,_=>su_search0 hc hs ch l (by omega)
 | k+1,ch,l,h0,h1,h2=>su_search1 (by omega) (by omega) h2 fun s r hr=>jpg hc hs k (ch++[s]) r (by omega) (by rw[zG,List.length_singleton];omega) hr
theorem jr5(hc:jax e=0)(hs:SmallE e)(hm:e.moves.length<=8):Ctr G.P 42 [e.iv] (· = .tup [je7 (suspF e),.int 0]):=by
 have ku:=jr4 hc (by omega);have kc:=c21 e;rw[hc]at kc;have kp:=jfd hs hc;have hU:(usedE e).length<=8:=qn (jnq e) hm;have kS:=fun(k:Nat) (hk:k<=8)=>jpg hc hs k [] (usedE e) (by omega) (by rw[List.length_nil];omega) (by omega);unfold suspF;generalize usedE e=U at*;unfold je7 at*;simp only[ints,Evid.iv,Evid.c,zF]at ku kp kS kc;rcases hp:posB e with _ | _
 ·rw[hp]at kp;rw[zn (by decide)];have d8:decide (8<(U.length:Int))=false:=zw (by omega);refine ja5 [.tmp 2,.tmp 3] Tryz.func42 ?_;simp only[go_sem];refine ja1 ku ?_;simp only[go_sem];refine ja1 kc ?_;simp only[go_sem];refine ja1 kp ?_;simp only[d8,zq,go_sem];refine jan [1,4,5] [1] (fun m:Nat=>⟨[(1,.loc 1 8 0 0),(4,.im (.sl (U.map ic))),(5,.im (.int m))],[(1,8,[e.c])],[]⟩)
   (fun m=>1<=m/\m<=U.length+1/\jfo (posS e) U (U.length+1-m) m=jfo (posS e) U U.length 1) (fun m=>U.length+1-m) 1 ?_ ⟨zt _,by omega,rfl⟩ ?_
  ·simp only[Int.natCast_one,go_sem]
  rintro m ⟨m1,m2,hm⟩;by_cases hle:m<=U.length
  ·have hd:decide ((m:Int)<=U.length)=true:=zh (by omega);have h1:=ja7 (n:=(m:Int)+1) (by omega);have hn:U.length+1-m=(U.length-m)+1:=by omega
   rw[hn,jfo]at hm;have ks:=kS m (by omega);simp only[hd,zq,go_sem];refine ja1 ks ?_;by_cases he:srch (posS e) m [] U=[]
   ·rw[zm he]at hm;rw[he];simp only[zF,List.length_nil,go_sem];refine jab (m+1) ?_ (by omega) ⟨by omega,by omega,by rw[show U.length+1-(m+1)=U.length-m by omega];exact hm⟩;simp only[h1,Int.natCast_add,go_sem]
   ·rw[zn he]at hm;have hd2:decide ((0:Int)<(srch (posS e) m [] U).length)=true:=zh (by have:=qh.2 he;omega);simp only[hd2,zq,go_sem];rw[hm]
  ·have hd:decide ((m:Int)<=U.length)=false:=zw (by omega);have e1:U.length+1-m=0:=by omega
   rw[e1,jfo]at hm;rw[<-hm];simp only[hd,zq,zF,go_sem]
 ·rw[hp]at kp;rw[zm rfl];refine ja5 [.tmp 2,.tmp 3] Tryz.func42 ?_;simp only[go_sem];refine ja1 ku ?_;simp only[go_sem];refine ja1 kc ?_;simp only[go_sem];refine ja1 kp ?_;simp only[zF,go_sem]
theorem su_usedW(hc:jax e≠0):Ctr G.P 86 [e.iv] (· = .sl []):=by
 have kc:=c21 e;generalize jax e=z at*;have hz:decide (z=0)=false:=zw hc;simp only[Evid.iv,Evid.c]at kc;refine ja5 [.tmp 2] Tryz.func86 ?_;simp only[go_sem];refine ja1 kc ?_;simp only[hz,go_sem]
theorem su_suspW(hc:jax e≠0):Ctr G.P 42 [e.iv] (· = .tup [.sl [],.int 1]):=by
 have ku:=su_usedW hc;have kc:=c21 e;generalize jax e=z at*;have hz:decide (z=0)=false:=zw hc;simp only[Evid.iv,Evid.c]at kc ku;refine ja5 [.tmp 2,.tmp 3] Tryz.func42 ?_;simp only[go_sem];refine ja1 ku ?_;simp only[go_sem];refine ja1 kc ?_;simp only[hz,go_sem]
end
end
section
open Go.Abs
open Go.LP (Rw RT tsum Sol)
attribute [local go_sem] ints ic Evid.c Evid.iv Place.c Move.c Cert.c Recall.c Purity.c
theorem AscN.ge{l:List Nat}{n:Nat}(h:AscN l n):∀{i x:Nat},l[i]? =some x->i<=x
 | 0,_,_=>zH _
 | i+1,x,hx=>by
  have hi:=(zl.1 hx).1;have h1:=(h (i+1) x hx).2 l[i] (ze (by omega)) (qk i);have h2:=h.ge (ze (l:=l) (i:=i) (by omega));omega
theorem AscN.len{l:List Nat}{n:Nat}(h:AscN l n):l.length<=n:=by
 rcases hm:l.length with _ | m
 ·exact zH _
 ·have hx:l[m]? =some l[m]:=ze (by omega);have h1:=h.ge hx;have h2:=(h m _ hx).1;omega
def OgL(e:Evid)(left:List Nat)(cs:List (List IV)):Prop:=∀(i k:Nat) (c:List IV),left[i]? =some k->cs[i]? =some c->∃w,(rowsE e)[k]? =some w/\OgOk e w c
section
variable{e:Evid}{left:List Nat}{cs:List (List IV)}
theorem OgL.add(h:OgL e left cs){k:Nat}(hk:left[cs.length]? =some k){w:Rw}{c:List IV}(hw:(rowsE e)[k]? =some w)(ho:OgOk e w c):OgL e left (cs++[c]):=fun i j c' h1 h2=>by
 rcases zU i cs.length with hlt | hge
 ·rw[zM hlt]at h2;exact h i j c' h1 h2
 ·rw[zL hge]at h2;cases hi:i-cs.length with
  | zero=>
   have:i=cs.length:=by omega
   subst this;rw[hi]at h2;cases h2;rw[hk]at h1;cases h1;exact⟨w,hw,ho⟩
  | succ n=>rw[hi]at h2;simp at h2
theorem su_blame1(hc:jax e=0)(hs:SmallE e)(hp:posB e=true):Ctr G.P 46 [e.iv] (· = .tup [.sl [],.int 0]):=by
 have kS:=jon (e:=e) (fun _=>by have:=hs.mv;omega);unfold sysIV at kS;rw[zm hc]at kS;have kC:Ctr G.P 99 [.agg [.int ((nV e:Nat):Int),.sl ((rowsE e).map rwC)]] (· = .tup [.sl [],.int 0]):=(su_conf (js3 hc hs)).mono fun r hr=>by
  rcases hr with ⟨_,hr⟩ | ⟨left,_,hu,_⟩
  ·exact hr
  ·obtain⟨x,hx⟩:=posB_iff.1 hp;exact absurd (fun k hk w hw=>hx.row w (zk hw)) (fun h=>hu x hx.pos h)
 unfold nV at kC;generalize (rowsE e).map rwC=R at*;simp only[Evid.iv,Evid.c]at kS;refine ja5 [.tmp 2,.tmp 3] Tryz.func46 ?_;simp only[go_sem];refine ja1 kS ?_;simp only[go_sem];refine ja1 kC ?_;simp only[go_sem];refine jan [1,27,28,29,7] [1] (fun _:Unit=>⟨[(1,.loc 1 8 0 0),(27,.im (.sl [])),(28,.im (.int 0)),(29,.im (.int 0)),(7,.sx [])],[(1,8,[e.c])],[]⟩) (fun _=>True) (fun _=>0) () ?_ trivial ?_
 ·simp only[List.length_nil,Int.natCast_zero,go_sem]
 rintro _ _;simp only[go_sem]
theorem jph(hc:jax e=0)(hs:SmallE e)(hp:posB e=false):Ctr G.P 46 [e.iv] (fun r=>∃cs,BlameR e cs/\r= .tup [.sl cs,.int 0]):=by
 have kS:=jon (e:=e) (fun _=>by have:=hs.mv;omega);unfold sysIV at kS;rw[zm hc]at kS;have hlen:=(js3 hc hs).len;have kC:Ctr G.P 99 [.agg [.int ((nV e:Nat):Int),.sl ((rowsE e).map rwC)]] (ConfR (nV e) (rowsE e)):=(su_conf (js3 hc hs)).mono fun r hr=>by
  rcases hr with ⟨hx,_⟩ | hr
  ·rw[posB_iff.2 hx]at hp;cases hp
  ·exact hr
 have kO:=fun(k:Nat) (hk:k<(rowsE e).length)=>e_Origin (e:=e) hc (by have:=hs.mv;omega) k hk;simp only[Evid.iv,Evid.c]at kS kO;unfold ConfR nV at kC;obtain⟨R,hR⟩:∃R,(rowsE e).map rwC=R:=⟨_,rfl⟩;rw[hR]at kS kC;refine ja5 [.tmp 2,.tmp 3] Tryz.func46 ?_;simp only[go_sem];refine ja1 kS ?_;simp only[go_sem];refine jck kC ?_;rintro _ ⟨left,hasc,hu,rfl⟩;have hll:left.length<=2000:=by
  have:=AscN.len hasc;omega
 simp only[zq,jfh,go_sem];refine jge [1,7,27,28,29] [1,42] [(7,42,103,4)] (fun g:Nat×List (List IV)=>⟨[(1,.loc 1 8 0 0),(7,.vec 42 103 4 g.2),(27,.im (.sl ((nn left).map ic))),(28,.im (.int left.length)),(29,.im (.int g.1))],[(1,8,[e.c])],[(42,4,g.2.length)]⟩)
  (fun g=>g.1<=left.length/\g.2.length=g.1/\(∀c∈g.2,c.length=4)/\OgL e left g.2) (fun g=>left.length-g.1) (0,[]) ?_ ?_ ⟨zH _,rfl,(fun c hc=>by cases hc),fun i k c _ h=>by simp at h⟩ ?_
 ·simp only[zq,go_sem];exact fun c hc=>by cases hc
 ·simp only[Int.natCast_zero,List.length_nil,zq,jfh,go_sem]
 rintro⟨i,cs⟩ ⟨hi,hcl,hc4,hog⟩;dsimp only at hi hcl hc4 hog;by_cases hp':(i:Int)<left.length
 ·have hd:decide ((i:Int)<left.length)=true:=zh hp';obtain⟨k,hx⟩:=jbf hp';have h1:=ja7 (n:=(i:Int)+1) (by omega);have hg:=nget hx;have hi0:(0:Int)<=i:=by omega
  have ko:=kO k (hasc.get hx);simp only[hd,hp',hi0,hg,Int.toNat_natCast,jfh,zq,go_sem];refine jck ko ?_;rintro _ ⟨w,c,hw,ho,rfl⟩;obtain⟨q,mt,ix,n,x,rfl,_⟩:=id ho;simp only[go_sem];refine⟨hc4,fun c hc=>(by rw[zC.1 hc];rfl),by omega,?_⟩;refine jab (i+1,cs++[[.int q,.int n,.int mt,.int ix]]) ?_ (by dsimp only;omega) ⟨by dsimp only;omega,by dsimp only;rw[zG,hcl];rfl,?_,hog.add (by rw[hcl];exact hx) hw ho⟩
  ·simp only[h1,Int.natCast_add,zG,List.length_cons,List.length_nil,go_sem]
  ·intro c hc;rcases qj.1 hc with hc | hc
   ·exact hc4 c hc
   ·rw[zC.1 hc];rfl
 ·have hd:decide ((i:Int)<left.length)=false:=zw hp';have e1:i=left.length:=by omega
  subst e1;simp only[hd,go_sem];exact⟨cs,⟨left,hu,hcl,by omega,hog⟩,rfl⟩
end
end
section
open Go.Abs
attribute [local go_sem] ints ic Evid.c Evid.iv Place.c Move.c Cert.c Recall.c Purity.c
def sxPl:List (List IV):=[[.int 0,.int 0,.int 0],[.int 1,.int (-1),.int (-1)],[.int 2,.int (-1),.int (-1)],[.int 6,.int (-1),.int (-1)]]
def sxMv(f s sc:Int):List (List IV):=[[.int 1,.int 0,.int 1,.int 0,.int 100,.bool false],[.int 1,.int 1,.int 2,.int 1,.int f,.bool true],[.int 2,.int 2,.int 3,.int sc,.int s,.bool true]]
def sxCt:List (List IV):=[[.int 0,.int 0,.int 9,.int 5,.int 0,.int 0],[.int 1,.int 0,.int 9,.int 5,.int 0,.int 0],[.int 2,.int 0,.int 9,.int 5,.int 0,.int 0]]
def sxCl(f s sc:Int):List IV:=[.int 1,.int 1,.int 3,.sl sxPl,.sl (sxMv f s sc),.sl sxCt,.sl [],.sl []]
theorem sx_iv(f s sc:Int):(sxE f s sc).iv= .agg (sxCl f s sc):=rfl
theorem jg4(f s sc:Int):Ctr G.P 84 [.int f,.int s,.int sc] (· = .agg (sxCl f s sc)):=by
 unfold sxCl sxPl sxMv sxCt;refine ja5 [.cell 6 28] Tryz.func84 ?_;simp only[go_sem]
theorem jkv{e:Evid}(hc:jax e=0)(hs:SmallE e)(hm:e.moves.length<=8){want:List (List Int)}(hw:suspF e=want)(h1:want.length<=100000)(h2:∀x∈want,x.length<=100000):Ctr G.P 85 [e.iv,je7 want] (· = .bool true):=by
 have ks:=jr5 hc hs hm;rw[hw]at ks;have kt:=t_sameS want want h1 h2;rw[zh rfl]at kt;unfold je7 at*;generalize want.map setC=W at*;simp only[Evid.iv,Evid.c]at ks;refine ja5 [.tmp 4] Tryz.func85 ?_;simp only[go_sem];refine ja1 ks ?_;simp only[go_sem];refine ja1 kt ?_;simp only[go_sem]
theorem jhq(f s sc:Int):SmallE (sxE f s sc):=small2 (by show 3<=9;omega) (by show(1:Int)<=2;omega) (by show 0<=40;omega)
def zE:Evid:=⟨0,0,0,[],[],[],[],[]⟩
theorem sx_no:posB (sxE 150 100 0)=false:=by rw[<-jo4,sx_posS sxA];decide
theorem jkb:Ctr G.P 36 [] (· = .bool true):=by
 have hA:jax (sxE 150 100 0)=0:=by decide+kernel
 have kA:=jkv hA (jhq _ _ _) (by decide) suspA (by decide) (by decide);have kB:=jkv (e:=sxE 150 100 2) (by decide+kernel) (jhq _ _ _) (by decide) suspB (by decide) (by decide);have kC:=jkv (e:=sxE 150 150 0) (by decide+kernel) (jhq _ _ _) (by decide) suspC (by decide) (by decide);have kD:=jkv (e:=sxE 104 100 0) (by decide+kernel) (jhq _ _ _) (by decide) suspD (by decide) (by decide);have kE:=jkv (e:=sxE 150 200 2) (by decide+kernel) (jhq _ _ _) (by decide) suspE (by decide) (by decide);have kz:=su_suspW (e:=zE) (by decide+kernel);have kbl:=jph hA (jhq _ _ _) sx_no;have ku:=jr4 hA (by decide);rw[<-sx_used0.eq]at ku;have kw:=jea (e:=sxE 150 100 0) [1] hA (by decide);have ki:=jr3 [0,1] [0,1] (by decide);rw[zh rfl]at ki;have hw:(offE [1] (sxE 150 100 0)).moves.length=3:=rfl;rw[sx_iv]at kA kB kC kD kE kbl ku kw;simp only[je7,setC,zB,zF,ints,ic,zE,Evid.iv,Evid.c]at kA kB kC kD kE kz ku kw ki;have k1:=jg4 150 100 0;have k2:=jg4 150 100 2;have k3:=jg4 150 150 0;have k4:=jg4 104 100 0;have k5:=jg4 150 200 2;unfold sxCl at*;generalize sxPl=P at*;generalize sxCt=C at*;generalize sxMv 150 100 0=M1 at*;generalize sxMv 150 100 2=M2 at*;generalize sxMv 150 150 0=M3 at*;generalize sxMv 104 100 0=M4 at*;generalize sxMv 150 200 2=M5 at*;refine ja5 [.tmp 0] Tryz.func36 ?_;simp only[go_sem];refine ja1 k1 ?_;simp only[go_sem]
 refine ja1 kz ?_;simp only[go_sem];refine jck kbl ?_;rintro _ ⟨cs,hb,rfl⟩;have hl:decide ((0:Int)<cs.length)=true:=zh (by have:=qh.2 hb.ne;omega);simp only[hl,go_sem];refine ja1 kA ?_;simp only[go_sem];refine ja1 k2 ?_;simp only[go_sem];refine ja1 kB ?_;simp only[go_sem];refine ja1 k3 ?_;simp only[go_sem];refine ja1 kC ?_;simp only[go_sem];refine ja1 k4 ?_;simp only[go_sem];refine ja1 kD ?_;simp only[go_sem];refine ja1 k5 ?_;simp only[go_sem];refine ja1 kE ?_;simp only[hl,go_sem];refine ja1 ku ?_;simp only[go_sem];refine ja1 ki ?_;simp only[go_sem];refine ja1 kw ?_;simp only[zq,hw,go_sem]
theorem has_con(S:List Int)(v:Int):(S.any fun x=>decide (x=v))=S.contains v:=by
 rw[jl,yx,qX];constructor
 ·rintro⟨x,hx,he⟩;rw[<-zJ he];exact hx
 ·intro h;exact⟨v,h,zh rfl⟩
theorem js7{e:Evid}(S:List Int)(hc:jax e=0)(hm:e.moves.length<=12)(hS:S.length<=100000):Ctr G.P 43 [e.iv,ints S] (· = .int (((usedE e).filter fun s=>S.contains s).length:Nat)):=by
 have ku:=jr4 hc hm;have hU:(usedE e).length<=12:=qn (jnq e) hm;have kh:=fun v=>t_has18 S v hS;generalize usedE e=U at*;simp only[has_con,ints,Evid.iv,Evid.c]at ku kh;refine ja5 [.tmp 4] Tryz.func43 ?_;simp only[go_sem];refine ja1 ku ?_;simp only[go_sem];refine jan [1,5,6,7] [] (fun i:Nat=>⟨[(1,.im (.sl (S.map ic))),(5,.im (.int (((U.take i).filter fun s=>S.contains s).length:Nat))),(6,.im (.sl (U.map ic))),(7,.im (.int i))],[],[]⟩)
  (fun i=>i<=U.length) (fun i=>U.length-i) 0 ?_ (zH _) ?_
 ·simp only[Int.natCast_zero,List.take_zero,List.filter_nil,List.length_nil,go_sem]
 intro i hi;by_cases hp':(i:Int)<U.length
 ·have hd:decide ((i:Int)<U.length)=true:=zh hp';obtain⟨x,hx⟩:=jbf hp';have h1:=ja7 (n:=(i:Int)+1) (by omega);have hg:=iget hx;have hi0:(0:Int)<=i:=by omega
  have hfl:((U.take i).filter fun s=>S.contains s).length<=12:=by
   have:=vo (fun s=>S.contains s) (U.take i);rw[zY]at this;omega
  have h2:=ja7 (n:=((((U.take i).filter fun s=>S.contains s).length:Nat):Int)+1) (by omega);have hsucc:(U.take (i+1)).filter (fun s=>S.contains s)=(U.take i).filter (fun s=>S.contains s)++if S.contains x=true then [x]else []:=by
   rw[take_succ hx,jD,ym,List.filter_nil]
  have kx:=kh x;rcases hcx:S.contains x with _ | _
  ·rw[hcx]at kx;rw[hcx,zn (by decide),zX]at hsucc;simp only[hd,hp',hi0,hg,Int.toNat_natCast,zq,go_sem];refine ja1 kx ?_;simp only[go_sem];refine jab (i+1) ?_ (by omega) (by omega);simp only[h1,hsucc,Int.natCast_add,go_sem]
  ·rw[hcx]at kx;rw[hcx,zm rfl]at hsucc;simp only[hd,hp',hi0,hg,Int.toNat_natCast,zq,go_sem];refine ja1 kx ?_;simp only[go_sem];refine jab (i+1) ?_ (by omega) (by omega);simp only[h1,h2,hsucc,Int.natCast_add,zG,List.length_cons,List.length_nil,go_sem]
 ·have hd:decide ((i:Int)<U.length)=false:=zw hp';rw[zu (by omega)];simp only[hd,zq,go_sem]
end
section
open Go.Abs
attribute [local go_sem] ints ic Evid.c Place.c Move.c Cert.c Recall.c Purity.c
def jjy(e:Evid):Bool:=(decide ((e.moves.length:Int)<=5)&&(decide ((e.places.length:Int)<=14)&&(decide ((e.certs.length:Int)<=10)&&(decide ((e.recalls.length:Int)<=10)&&decide ((e.purs.length:Int)<=3)))))&&((decide (e.mats<=2) || decide (6<e.mats))&&(decide (e.scales<=4) || decide (30<e.scales)))
theorem jii(e:Evid):Ctr G.P 37 [e.iv] (· = .bool (jjy e)):=by
 refine ja5 [.tmp 2] Tryz.func37 ?_;unfold jjy Evid.iv Evid.c;simp only[zq,go_sem]
 repeat' (first | (refine jc1 (fun hd=> ?_) (fun hd=> ?_)<;>simp only[*,go_sem]))
 all_goals simp[*]
