/- A part of the proof. No further condition. -/
import Derived.Test.YtkcekimolppapaaGreatKC34
set_option linter.all false
set_option maxRecDepth 10000000
set_option maxHeartbeats 16000000
namespace Go.Proofs.YtkcekimolppapaaGreat
section
open Go.Abs
open Go.LP (Rw RT S tsum Sol ksum S_add jch ji7 S_one jf5 S_mul)
def endB(e:Evid)(x:Move):Bool:=decide (jcz e x.to=5) || decide (jcz e x.to=6)
def srcB(e:Evid)(x:Move):Bool:=decide (jcz e x.fr=0)
def selB(e:Evid)(ends:Bool)(x:Move):Bool:=if ends=true then endB e x else srcB e x
def rowP(i:Nat):Nat->List (Int×Int)
 | 0=>[]
 | m+1=>rowP i m++[((i:Int),(m:Int))]
def jb4(e:Evid)(ends:Bool):Nat->List (Int×Int)
 | 0=>[]
 | i+1=>match e.moves[i]? with
  | some x=>jb4 e ends i++(if selB e ends x=true then rowP i e.mats.toNat else [])
  | none=>jb4 e ends i
def totF(e:Evid)(f:Move->Bool)(x:Nat->Rat):Nat->Rat
 | 0=>0
 | i+1=>match e.moves[i]? with
  | some y=>totF e f x i+(if f y=true then S e.mats.toNat (fun m=>x (i*e.mats.toNat+m))else 0)
  | none=>totF e f x i
def keepP(e:Evid)(p:Nat):Bool:=decide (jcz e p≠0)&&(decide (jcz e p≠5)&&decide (jcz e p≠6))
def stayN(e:Evid)(x:Nat->Rat)(n:Nat):Rat:=S e.places.length fun p=>if keepP e p=true then S e.mats.toNat (fun m=>flowS e.mats.toNat (p:Int) m e.moves x n)else 0
section
variable{e:Evid}{x:Nat->Rat}{ends:Bool}
theorem rowP_mem{i:Nat}{p:Int×Int}:∀{M:Nat},p∈rowP i M↔∃m,m<M/\p=((i:Int),(m:Int))
 | 0=>by simp[rowP]
 | M+1=>by
  rw[rowP,qC,rowP_mem,zD];constructor
  ·rintro(⟨m,h1,h2⟩ | h)
   ·exact⟨m,by omega,h2⟩
   ·exact⟨M,by omega,h⟩
  ·rintro⟨m,h1,h2⟩;by_cases e:m=M
   ·subst e;exact .inr h2
   ·exact .inl ⟨m,by omega,h2⟩
theorem jhk{p:Int×Int}:∀{n:Nat},p∈jb4 e ends n->∃i y m,i<n/\e.moves[i]? =some y/\m<e.mats.toNat/\p=((i:Int),(m:Int))
 | 0,h=>by cases h
 | n+1,h=>by
  rw[jb4]at h;cases hx:e.moves[n]? with
  | none=>
   rw[hx]at h;obtain⟨i,y,m,h1,h2⟩:=jhk h;exact⟨i,y,m,by omega,h2⟩
  | some y=>
   rw[hx]at h;rcases qC.1 h with h | h
   ·obtain⟨i,y,m,h1,h2⟩:=jhk h;exact⟨i,y,m,by omega,h2⟩
   ·split at h
    ·obtain⟨m,h1,h2⟩:=rowP_mem.1 h;exact⟨n,y,m,by omega,hx,h1,h2⟩
    ·cases h
theorem rowK{i M:Nat}:∀m,(rowP i m).map (pickK M)=(List.range m).map fun k=>i*M+k
 | 0=>rfl
 | m+1=>by
  rw[rowP,qw,rowK m,jF,qw];show _++[((i:Int).toNat*M+(m:Int).toNat)]=_++[i*M+m];rw[Int.toNat_natCast,Int.toNat_natCast]
theorem whole_lt:∀{n k:Nat},k∈(jb4 e ends n).map (pickK e.mats.toNat)->k<n*e.mats.toNat:=fun{n k} h=>by
 obtain⟨p,hp,rfl⟩:=qv.1 h;obtain⟨i,y,m,h1,h2,h3,rfl⟩:=jhk hp;have:(i+1)*e.mats.toNat<=n*e.mats.toNat:=zZ _ h1;rw[yC]at this;show(i:Int).toNat*e.mats.toNat+(m:Int).toNat<_;rw[Int.toNat_natCast,Int.toNat_natCast];omega
theorem jh3:∀n,((jb4 e ends n).map (pickK e.mats.toNat)).Nodup
 | 0=>jM
 | n+1=>by
  rw[jb4];cases e.moves[n]? with
  | none=>exact jh3 n
  | some y=>
   dsimp only;rw[qw,ve];refine⟨jh3 n,?_,fun a ha b hb=> ?_⟩
   ·split
    ·rw[rowK];refine List.Pairwise.map _ (fun a b h=> ?_) List.nodup_range;omega
    ·exact jM
   ·have h1:=whole_lt ha;split at hb
    ·rw[rowK]at hb;obtain⟨k,_,rfl⟩:=qv.1 hb;omega
    ·cases hb
theorem jex(hc:jbi e=0):okP e (jb4 e ends e.moves.length)=true:=okP_iff.2 ⟨hc,fun p hp=>by
 obtain⟨i,y,m,h1,h2,h3,rfl⟩:=jhk hp;simp only[jdp,zC,zT];have:=(jb3 hc).2.1;omega,jh3 _⟩
theorem jqc{i M:Nat}:∀m,ksum ((List.range m).map fun k=>i*M+k) x=S m fun k=>x (i*M+k)
 | 0=>rfl
 | m+1=>by
  rw[jF,qw,Go.LP.ksum_app,jqc m];show _+(x (i*M+m)+0)=S m (fun k=>x (i*M+k))+x (i*M+m);rw[yV]
theorem jjr:∀n,wgt e (jb4 e ends n) x=totF e (selB e ends) x n
 | 0=>rfl
 | n+1=>by
  have ih:=jjr n;unfold wgt at ih⊢;rw[jb4,totF];cases e.moves[n]? with
  | none=>exact ih
  | some y=>
   dsimp only;rw[qw,Go.LP.ksum_app,ih];by_cases h:selB e ends y=true
   ·rw[zm h,zm h,rowK,jqc]
   ·rw[zn h,zn h];rfl
theorem keep_dec{p:Nat}:keepP e p=true↔jcz e p≠0/\jcz e p≠5/\jcz e p≠6:=by
 simp only[keepP,zC,zT]
theorem stay_step(hc:jbi e=0){n:Nat}{y:Move}(hy:e.moves[n]? =some y):stayN e x (n+1)=stayN e x n+((if endB e y=true then 0 else 1)-(if srcB e y=true then 0 else 1))*S e.mats.toNat (fun m=>x (n*e.mats.toNat+m)):=by
 have hm:=jdw hc y (zr hy);have hmf:moveF e y=true:=jjn (jb3 hc).2.2.2.2.2.1 y (zr hy);obtain⟨⟨f0,f1⟩,t0,t1⟩:=hm;have hne:=(move_at hmf).2;have hk:jcz e y.fr≠5/\jcz e y.fr≠6/\jcz e y.to≠0:=by
  simp only[moveF,zC,yK,ql]at hmf;exact⟨hmf.1.1.1.1.2,hmf.1.1.1.2,hmf.1.2⟩
 have ef:((y.fr.toNat:Nat):Int)=y.fr:=by omega
 have et:((y.to.toNat:Nat):Int)=y.to:=by omega
 generalize hs:S e.mats.toNat (fun m=>x (n*e.mats.toNat+m))=s;have h1:∀p,p<e.places.length->(if keepP e p=true then S e.mats.toNat (fun m=>flowS e.mats.toNat (p:Int) m e.moves x (n+1))else 0)
   =(if keepP e p=true then S e.mats.toNat (fun m=>flowS e.mats.toNat (p:Int) m e.moves x n)else 0)+((if p=y.fr.toNat then(if srcB e y=true then 0 else-1)*s else 0)+(if p=y.to.toNat then(if endB e y=true then 0 else 1)*s else 0)):=fun p hp=>by
  have hfl:S e.mats.toNat (fun m=>flowS e.mats.toNat (p:Int) m e.moves x (n+1))=S e.mats.toNat (fun m=>flowS e.mats.toNat (p:Int) m e.moves x n)+((sgnF (p:Int) y:Int):Rat)*s:=by
   rw[<-hs,<-S_mul,<-S_add];refine jch fun m _=> ?_;rw[flowS,hy]
  rw[hfl];by_cases e1:p=y.fr.toNat
  ·subst e1;have hs1:sgnF ((y.fr.toNat:Nat):Int) y= -1:=by unfold sgnF;rw[zm ef.symm]
   rw[zm rfl,zn (show ¬y.fr.toNat=y.to.toNat by omega),hs1];by_cases hb:srcB e y=true
   ·have hk0:¬keepP e y.fr.toNat=true:=fun h=>by
     have h2:=(keep_dec.1 h).1;rw[ef]at h2;exact h2 (zK hb)
    rw[zm hb,zn hk0,zn hk0];grind
   ·have hk1:keepP e y.fr.toNat=true:=keep_dec.2 (by
     rw[ef];exact⟨fun h=>hb (zh h),hk.1,hk.2.1⟩)
    rw[zn hb,zm hk1,zm hk1,show((-1:Int):Rat)= -1 by decide];grind
  ·by_cases e2:p=y.to.toNat
   ·subst e2;have hs1:sgnF ((y.to.toNat:Nat):Int) y=1:=by unfold sgnF;rw[zn (by omega),zm et.symm]
    rw[zn e1,zm rfl,hs1];by_cases hb:endB e y=true
    ·have hk0:¬keepP e y.to.toNat=true:=fun h=>by
      have h2:=(keep_dec.1 h).2;rw[et]at h2;unfold endB at hb;rw[qJ,zT,zT]at hb;exact hb.elim h2.1 h2.2
     rw[zm hb,zn hk0,zn hk0];grind
    ·have hk1:keepP e y.to.toNat=true:=keep_dec.2 (by
      rw[et];unfold endB at hb;rw[qJ,zT,zT]at hb;exact⟨hk.2.2,fun h=>hb (.inl h),fun h=>hb (.inr h)⟩)
     rw[zn hb,zm hk1,zm hk1,show((1:Int):Rat)=1 by decide];grind
   ·have hs1:sgnF (p:Int) y=0:=by unfold sgnF;rw[zn (by omega),zn (by omega)]
    rw[zn e1,zn e2,hs1,show((0:Int):Rat)=0 by decide];split<;>grind
 unfold stayN;rw[jch h1,S_add,S_add];rw[S_one (s:=y.fr.toNat) (by omega) fun j _ hj=>zn hj,S_one (s:=y.to.toNat) (by omega) fun j _ hj=>zn hj,zm rfl,zm rfl];split<;>split<;>grind
theorem stay_zero:stayN e x 0=0:=ji7 fun p _=>by
 split
 ·exact ji7 fun _ _=>rfl
 ·rfl
theorem jpv(hc:jbi e=0):∀n,n<=e.moves.length->totF e (srcB e) x n-totF e (endB e) x n=stayN e x n
 | 0,_=>by rw[stay_zero];show(0:Rat)-0=0;grind
 | n+1,hn=>by
  have ih:=jpv hc n (by omega);obtain⟨y,hy⟩:=jhf (l:=e.moves) (i:=n) (by omega);rw[stay_step hc hy,totF,totF,hy];dsimp only;rw[<-ih];split<;>split<;>grind
theorem jkp(hx:Sol (nV e) (rowsE e) x){p m:Nat}(hp:jcz e p≠0)(hm:m<e.mats.toNat):∀n,n<=e.moves.length->0<=flowS e.mats.toNat (p:Int) m e.moves x n
 | 0,_=>Rat.le_refl
 | n+1,hn=>by
  have ih:=jkp hx hp hm n (by omega);obtain⟨y,hy⟩:=jhf (l:=e.moves) (i:=n) (by omega);by_cases e1:y.fr=(p:Int)
  ·have hb:binF e y=false:=by
    unfold binF;unfold jcz at hp;rw[e1];cases hpl:e.places[((p:Nat):Int).toNat]? with
    | none=>rfl
    | some q=>
     rw[hpl]at hp;exact zw hp
   have hw:(⟨jaf e.mats.toNat y.fr m e.moves (n+1),if y.all=true then 2 else 0,0⟩:Rw)∈rowsE e:=by
    refine mem_rowsU.2 ⟨n,y,by omega,hy,?_⟩;unfold moveR;rw[hb,zn (by decide),qC,qC];exact .inl (.inl (mem_stockR.2 ⟨m,hm,rfl⟩))
   have:=(hx.row _ hw).1 (by dsimp only;split<;>decide);dsimp only at this;rw[jlg,e1]at this;exact this
  ·rw[flowS,hy];dsimp only;have hxn:0<=x (n*e.mats.toNat+m):=hx.pos _ (by
    have:(n+1)*e.mats.toNat<=e.moves.length*e.mats.toNat:=zZ _ hn;rw[yC]at this;unfold nV;omega)
   by_cases e2:y.to=(p:Int)
   ·have:sgnF (p:Int) y=1:=by unfold sgnF;rw[zn e1,zm e2]
    rw[this,show((1:Int):Rat)=1 by decide];grind
   ·have:sgnF (p:Int) y=0:=by unfold sgnF;rw[zn e1,zn e2]
    rw[this,show((0:Int):Rat)=0 by decide];grind
theorem jh4(hx:Sol (nV e) (rowsE e) x):0<=stayN e x e.moves.length:=jf5 fun p _=>by
 split
 ·rename_i h;exact jf5 fun m hm=>jkp hx (keep_dec.1 h).1 hm _ (zB _)
 ·exact Rat.le_refl
theorem out_end(hc:jbi e=0):wgt e (jb4 e false e.moves.length) x-wgt e (jb4 e true e.moves.length) x=stayN e x e.moves.length:=by
 rw[jjr,jjr,<-jpv hc _ (zB _)];rfl
end
def plusF:List (Nat×Rat)->List (Nat×Rat)->List (Nat×Rat)
 | [],b=>b
 | a,[]=>a
 | (i,c)::a,(j,d)::b=>if i<j then(i,c)::plusF a ((j,d)::b)else if j<i then(j,d)::plusF ((i,c)::a) b else if c+d=0 then plusF a b else(i,c+d)::plusF a b
 termination_by a b=>a.length+b.length
theorem jgc(a:List (Nat×Rat)):plusF a []=a:=by cases a<;>rw[plusF]<;>simp
theorem jg5(x:Nat->Rat):∀a b:List (Nat×Rat),tsum (plusF a b) x=tsum a x+tsum b x
 | [],b=>by rw[plusF];show _=(0:Rat)+_;grind
 | (i,c)::a,[]=>by rw[jgc];show _=_+(0:Rat);grind
 | (i,c)::a,(j,d)::b=>by
  rw[plusF];split
  ·show c*x i+tsum (plusF a ((j,d)::b)) x=(c*x i+tsum a x)+tsum ((j,d)::b) x;rw[jg5 x a ((j,d)::b)];grind
  ·split
   ·show d*x j+tsum (plusF ((i,c)::a) b) x=tsum ((i,c)::a) x+(d*x j+tsum b x);rw[jg5 x ((i,c)::a) b];grind
   ·have e:i=j:=by omega
    subst e;split
    ·rename_i h;show tsum (plusF a b) x=(c*x i+tsum a x)+(d*x i+tsum b x);rw[jg5 x a b];have:(c+d)*x i=0:=by rw[h];grind
     grind
    ·show(c+d)*x i+tsum (plusF a b) x=(c*x i+tsum a x)+(d*x i+tsum b x);rw[jg5 x a b];grind
 termination_by a b=>a.length+b.length
theorem jlb{N:Nat}:∀{a b:List (Nat×Rat)} {lo:Nat},RT a lo N->RT b lo N->RT (plusF a b) lo N
 | [],b,lo,_,hb=>by rw[plusF];exact hb
 | (i,c)::a,[],lo,ha,_=>by rw[jgc];exact ha
 | (i,c)::a,(j,d)::b,lo,ha,hb=>by
  rw[plusF];split
  ·rename_i h;exact⟨ha.1,ha.2.1,ha.2.2.1,jlb ha.2.2.2 ⟨h,hb.2.1,hb.2.2.1,hb.2.2.2⟩⟩
  ·split
   ·rename_i h;exact⟨hb.1,hb.2.1,hb.2.2.1,jlb (a:=(i,c)::a) ⟨h,ha.2.1,ha.2.2.1,ha.2.2.2⟩ hb.2.2.2⟩
   ·have e:i=j:=by omega
    subst e;split
    ·exact RT.mono (jlb ha.2.2.2 hb.2.2.2) (by have:=ha.1;dsimp only at this⊢;omega)
    ·rename_i h;exact⟨ha.1,ha.2.1,h,jlb ha.2.2.2 hb.2.2.2⟩
 termination_by a b=>a.length+b.length
theorem jgd{P:Rat->Prop}:∀{a b:List (Nat×Rat)},(∀t∈a,P t.2)->(∀t∈b,P t.2)->∀t∈plusF a b,∃c d,(t.2=c\/t.2=c+d)/\P c/\P d
 | [],b,_,hb=>by rw[plusF];exact fun t ht=>⟨t.2,t.2,.inl rfl,hb t ht,hb t ht⟩
 | (i,c)::a,[],ha,_=>by rw[jgc];exact fun t ht=>⟨t.2,t.2,.inl rfl,ha t ht,ha t ht⟩
 | (i,c)::a,(j,d)::b,ha,hb=>by
  have ha':∀t∈a,P t.2:=fun t ht=>ha t (qz _ ht);have hb':∀t∈b,P t.2:=fun t ht=>hb t (qz _ ht);have hc:P c:=ha (i,c) zP;have hd:P d:=hb (j,d) zP;rw[plusF];split
  ·intro t ht;rcases zU.1 ht with rfl | ht
   ·exact⟨c,c,.inl rfl,hc,hc⟩
   ·exact jgd ha' hb t ht
  ·split
   ·intro t ht;rcases zU.1 ht with rfl | ht
    ·exact⟨d,d,.inl rfl,hd,hd⟩
    ·exact jgd (a:=(i,c)::a) ha hb' t ht
   ·split
    ·exact jgd ha' hb'
    ·intro t ht;rcases zU.1 ht with rfl | ht
     ·exact⟨c,d,.inr rfl,hc,hd⟩
     ·exact jgd ha' hb' t ht
 termination_by a b=>a.length+b.length
end
section
open Go.Abs
open Go.LP (Rw RT tsum)
attribute [local go_sem] ints ic big frac fc rwC tmC
theorem jiw{α:Type}{L R:List Nat}{S:α->St}{P:α->Prop}{μ:α->Nat}{a:α}{s:St}(L'' R'':List Nat)(ps:List (Nat×Nat×Nat×Nat))(a':α)(hps:jk7 (s.keep L'' R'') ps)(hs:(s.keep L'' R'').proms ps=S a')(hμ:μ a'<μ a)(hP:P a'): @jmh α ⟨(L,R)⟩ ⟨S⟩ ⟨P⟩ ⟨(μ,a)⟩ s:=
 ⟨a',hP,hμ,by show St.Le s (S a');rw[<-hs];exact(St.le_keep s L'' R'').trans (St.le_proms ps _ hps)⟩
theorem jmj{r:Rat}(h:FL 9000000000 r):Ctr G.P 55 [frac r] (· =frac r):=by
 have k1:=f_neg (h.mono (by omega:9000000000<=19000000000));have k2:=f_neg ((jlc h).mono (by omega:9000000000<=19000000000));have e: - -r=r:=by grind
 rw[e]at k2;generalize-r=q at*;simp only[frac,ints]at k1 k2⊢;refine ja5 [.cell 2 35] Tryz.func55 ?_;simp only[go_sem];refine ja1 k1 ?_;simp only[go_sem];refine ja1 k2 ?_;simp only[go_sem]
theorem x_source(e:Evid)(p:Int)(hc:jbi e=0)(h0:0<=p/\p<(e.places.length:Int))(hl:e.places.length<=1000):Ctr G.P 52 [e.iv,.int p] (· = .bool (decide (jcz e p=0))):=by
 have k:=c21 e;rw[hc]at k;have k2:=c67 p e.places.length;obtain⟨q,hq⟩:∃q,e.places[p.toNat]? =some q:=⟨_,ze (by omega)⟩;rw[jge hq];have e2:idx p e.places.length=true:=idx_iff.2 h0;rw[e2]at k2;obtain⟨h0,h1⟩:=h0;unfold Evid.iv Evid.c at*;refine ja5 [.tmp 4] Tryz.func52 ?_;simp only[go_sem];refine ja1 k ?_;simp only[go_sem];refine ja1 k2 ?_;simp only[zq,hq,h0,h1,Place.c,go_sem]
theorem x_plus(a b:List (Nat×Rat))(ha:RT a 0 1500)(hb:RT b 0 1500)(hla:a.length<=1500)(hlb:b.length<=1500)(hfa:∀t∈a,FL 100000000 t.2)(hfb:∀t∈b,FL 100000000 t.2):
  Ctr G.P 14 [.sl (a.map tmC),.sl (b.map tmC)] (· = .sl ((plusF a b).map tmC)):=by
 have k1:=x_rt a 1500 ha (by omega) (by omega) hfa;have k2:=x_rt b 1500 hb (by omega) (by omega) hfb;rw[show((1500:Nat):Int)=1500 from rfl]at k1 k2;refine ja5 [.tmp 4] Tryz.func14 ?_;simp only[go_sem];refine ja1 k1 ?_;simp only[go_sem];refine ja1 k2 ?_;simp only[go_sem];refine jfk [0,1,5] [84] [(5,84,117,5)] (fun g:List (Nat×Rat)×List (Nat×Rat)×List (Nat×Rat)=>⟨[(0,.im (.sl (g.1.map tmC))),(1,.im (.sl (g.2.1.map tmC))),(5,.vec 84 117 5 (g.2.2.map tmC))],[],[(84,5,g.2.2.length)]⟩)
  (fun g=>g.2.2++plusF g.1 g.2.1=plusF a b/\(∀t∈g.1,FL 100000000 t.2)/\(∀t∈g.2.1,FL 100000000 t.2)/\g.2.2.length+(g.1.length+g.2.1.length)<=3000) (fun g=>g.1.length+g.2.1.length) (a,b,[]) ?_ ?_ ⟨rfl,hfa,hfb,by show 0+(a.length+b.length)<=3000;omega⟩ ?_
 ·simp only[List.length_nil,go_sem];exact fun c hc=>by cases hc
 ·simp only[zp,List.length_nil,go_sem]
 rintro⟨A,B,O⟩ ⟨hO,hA,hB,hn⟩;dsimp only at hO hA hB hn;have hcl:∀l:List (Nat×Rat),∀c∈l.map tmC,c.length=5:=fun l c hc=>by
  obtain⟨z,_,rfl⟩:=qv.1 hc;rfl
 have z0:∀n:Nat,decide ((0:Int)<((n+1:Nat):Int))=true:=fun n=>zh (by omega);have z1:∀n:Nat,decide (((n+1:Nat):Int)=0)=false:=fun n=>zw (by omega);have hall:∀l:List (Nat×Rat),((l.map tmC).all fun c=>c.length==5)=true:=fun l=>List.all_eq_true.2 fun c hc=>by rw[hcl l c hc];rfl
 have hall2:∀l:List (Nat×Rat),(True/\((l.map tmC).all fun c=>c.length==5)=true)=True:=fun l=>by rw[hall];simp
 have htk:∀l:List (Nat×Rat),List.take l.length (l.map tmC)=l.map tmC:=fun l=>zG (by rw[za];exact zB _);have z2:∀n:Nat,(0:Int)<((n+1:Nat):Int):=fun n=>by omega
 have z3:∀n:Nat,(1:Int)<=((n+1:Nat):Int):=fun n=>by omega
 rcases A with _ | ⟨⟨i,c⟩,A⟩
 ·rcases B with _ | ⟨⟨j,d⟩,B⟩
  ·rw[plusF,qx]at hO;rw[<-hO];simp only[zp,List.length_nil,go_sem]
  ·rw[plusF]at hO;have kf:=jmj ((hB (j,d) zP).mono (by omega));simp only[frac,ints]at kf;have hlt:True:=trivial;simp only[zp,List.length_nil,zl,List.length_cons,za,List.getElem?_cons_zero,zJ,zV,z0,z1,z2,z3,hall,hall2,htk,zO,qy,qr,qD,hlt,go_sem];refine jab 19 ?_;simp only[zp,List.length_nil,zl,List.length_cons,za,List.getElem?_cons_zero,zJ,zV,z0,z1,z2,z3,hall,hall2,htk,zO,qy,qr,qD,hlt,go_sem];refine jab 14 ?_;simp only[zp,List.length_nil,zl,List.length_cons,za,List.getElem?_cons_zero,zJ,zV,z0,z1,z2,z3,hall,hall2,htk,zO,qy,qr,qD,hlt,go_sem];refine jab 12 ?_;simp only[zp,List.length_nil,zl,List.length_cons,za,List.getElem?_cons_zero,zJ,zV,z0,z1,z2,z3,hall,hall2,htk,zO,qy,qr,qD,hlt,go_sem];refine ja4 kf (by decide) ?_;simp only[zp,List.length_nil,zl,List.length_cons,za,List.getElem?_cons_zero,zJ,zV,z0,z1,z2,z3,hall,hall2,htk,zO,qy,qr,qD,hlt,go_sem]
   refine⟨hcl O,fun c hc=>by rw[zD.1 hc];rfl,by omega,?_⟩;refine jiw [0,1,5] [114,84] [(5,84,117,5)] ([],B,O++[(j,d)]) ?_ ?_ ?_ ?_
   ·simp only[zu,za,List.length_cons,List.length_nil,qw,zl,zp,go_sem]
   ·simp only[zu,za,List.length_cons,List.length_nil,qw,zl,zp,go_sem]
   ·show [].length+B.length<[].length+((j,d)::B).length;rw[List.length_cons];omega
   ·refine⟨?_,hA,fun t ht=>hB t (qz _ ht),?_⟩
    ·show O++[(j,d)]++plusF [] B=_;rw[<-hO,plusF,zR];rfl
    ·simp only[zu,List.length_cons,List.length_nil]at hn⊢;omega
 have kf:=jmj ((hA (i,c) zP).mono (by omega));simp only[frac,ints]at kf;have hA':∀t∈A,FL 100000000 t.2:=fun t ht=>hA t (qz _ ht);rcases B with _ | ⟨⟨j,d⟩,B⟩
 ·rw[jgc]at hO;have hlt:True:=trivial;simp only[zp,List.length_nil,zl,List.length_cons,za,List.getElem?_cons_zero,zJ,zV,z0,z1,z2,z3,hall,hall2,htk,zO,qy,qr,qD,hlt,go_sem];refine jab 19 ?_;simp only[zp,List.length_nil,zl,List.length_cons,za,List.getElem?_cons_zero,zJ,zV,z0,z1,z2,z3,hall,hall2,htk,zO,qy,qr,qD,hlt,go_sem];refine jab 12 ?_;simp only[zp,List.length_nil,zl,List.length_cons,za,List.getElem?_cons_zero,zJ,zV,z0,z1,z2,z3,hall,hall2,htk,zO,qy,qr,qD,hlt,go_sem];refine ja4 kf (by decide) ?_;simp only[zp,List.length_nil,zl,List.length_cons,za,List.getElem?_cons_zero,zJ,zV,z0,z1,z2,z3,hall,hall2,htk,zO,qy,qr,qD,hlt,go_sem];refine⟨hcl O,fun c hc=>by rw[zD.1 hc];rfl,by omega,?_⟩;refine jac (A,[],O++[(i,c)]) ?_ ?_ ?_
  ·simp only[zu,za,List.length_cons,List.length_nil,qw,zl,zp,go_sem]
  ·show A.length+[].length<((i,c)::A).length+[].length;rw[List.length_cons];omega
  ·refine⟨?_,hA',hB,?_⟩
   ·show O++[(i,c)]++plusF A []=_;rw[<-hO,jgc,zR];rfl
   ·simp only[zu,List.length_cons,List.length_nil]at hn⊢;omega
 have kg:=jmj ((hB (j,d) zP).mono (by omega));simp only[frac,ints]at kg;have hB':∀t∈B,FL 100000000 t.2:=fun t ht=>hB t (qz _ ht);rw[plusF]at hO;by_cases h1:i<j
 ·rw[zm h1]at hO;have hlt:decide ((i:Int)<j)=true:=zh (by omega);simp only[zp,List.length_nil,zl,List.length_cons,za,List.getElem?_cons_zero,zJ,zV,z0,z1,z2,z3,hall,hall2,htk,zO,qy,qr,qD,hlt,go_sem];refine jab 19 ?_;simp only[zp,List.length_nil,zl,List.length_cons,za,List.getElem?_cons_zero,zJ,zV,z0,z1,z2,z3,hall,hall2,htk,zO,qy,qr,qD,hlt,go_sem];refine jab 12 ?_;simp only[zp,List.length_nil,zl,List.length_cons,za,List.getElem?_cons_zero,zJ,zV,z0,z1,z2,z3,hall,hall2,htk,zO,qy,qr,qD,hlt,go_sem];refine ja4 kf (by decide) ?_;simp only[zp,List.length_nil,zl,List.length_cons,za,List.getElem?_cons_zero,zJ,zV,z0,z1,z2,z3,hall,hall2,htk,zO,qy,qr,qD,hlt,go_sem];refine⟨hcl O,fun c hc=>by rw[zD.1 hc];rfl,by omega,?_⟩;refine jac (A,(j,d)::B,O++[(i,c)]) ?_ ?_ ?_
  ·simp only[zu,za,List.length_cons,List.length_nil,qw,zl,zp,go_sem]
  ·show A.length+((j,d)::B).length<((i,c)::A).length+((j,d)::B).length;rw[List.length_cons,List.length_cons];omega
  ·refine⟨?_,hA',hB,?_⟩
   ·show O++[(i,c)]++plusF A ((j,d)::B)=_;rw[<-hO,zR];rfl
   ·simp only[zu,List.length_cons,List.length_nil]at hn⊢;omega
 rw[zn h1]at hO;by_cases h2:j<i
 ·rw[zm h2]at hO;have hl1:decide ((i:Int)<j)=false:=zw (by omega);have hl2:decide ((j:Int)<i)=true:=zh (by omega);have hlt:=And.intro hl1 hl2;simp only[zp,List.length_nil,zl,List.length_cons,za,List.getElem?_cons_zero,zJ,zV,z0,z1,z2,z3,hall,hall2,htk,zO,qy,qr,qD,hlt,go_sem];refine jab 19 ?_;simp only[zp,List.length_nil,zl,List.length_cons,za,List.getElem?_cons_zero,zJ,zV,z0,z1,z2,z3,hall,hall2,htk,zO,qy,qr,qD,hlt,go_sem];refine jab 14 ?_;simp only[zp,List.length_nil,zl,List.length_cons,za,List.getElem?_cons_zero,zJ,zV,z0,z1,z2,z3,hall,hall2,htk,zO,qy,qr,qD,hlt,go_sem];refine jab 12 ?_;simp only[zp,List.length_nil,zl,List.length_cons,za,List.getElem?_cons_zero,zJ,zV,z0,z1,z2,z3,hall,hall2,htk,zO,qy,qr,qD,hlt,go_sem];refine ja4 kg (by decide) ?_
  simp only[zp,List.length_nil,zl,List.length_cons,za,List.getElem?_cons_zero,zJ,zV,z0,z1,z2,z3,hall,hall2,htk,zO,qy,qr,qD,hlt,go_sem];refine⟨hcl O,fun c hc=>by rw[zD.1 hc];rfl,by omega,?_⟩;refine jiw [0,1,5] [114,84] [(5,84,117,5)] ((i,c)::A,B,O++[(j,d)]) ?_ ?_ ?_ ?_
  ·simp only[zu,za,List.length_cons,List.length_nil,qw,zl,zp,go_sem]
  ·simp only[zu,za,List.length_cons,List.length_nil,qw,zl,zp,go_sem]
  ·show((i,c)::A).length+B.length<((i,c)::A).length+((j,d)::B).length;rw[List.length_cons,List.length_cons];omega
  ·refine⟨?_,hA,hB',?_⟩
   ·show O++[(j,d)]++plusF ((i,c)::A) B=_;rw[<-hO,zR];rfl
   ·simp only[zu,List.length_cons,List.length_nil]at hn⊢;omega
 rw[zn h2]at hO;obtain rfl:i=j:=by omega
 have hlt:decide ((i:Int)<i)=false:=zw (by omega);have kA:=f_add ((hA (i,c) zP).mono (by omega:100000000<=19000000000)) ((hB (i,d) zP).mono (by omega:100000000<=19000000000));have kS:=jqp ((jje (hA (i,c) zP) (hB (i,d) zP)).mono (by omega:100000000+100000000+1<=19000000000));have hz:c+d=0↔(c+d).num.sign=0:=sign_zero.symm;generalize c+d=s at*;simp only[frac,ints]at kA kS;clear kf kg;by_cases h0:s=0
 ·rw[zm h0]at hO;have hs:decide (s.num.sign=0)=true:=zh (hz.1 h0);have hlt:=And.intro hlt hs;simp only[zp,List.length_nil,zl,List.length_cons,za,List.getElem?_cons_zero,zJ,zV,z0,z1,z2,z3,hall,hall2,htk,zO,qy,qr,qD,hlt,go_sem];refine jab 19 ?_;simp only[zp,List.length_nil,zl,List.length_cons,za,List.getElem?_cons_zero,zJ,zV,z0,z1,z2,z3,hall,hall2,htk,zO,qy,qr,qD,hlt,go_sem];refine jab 14 ?_;simp only[zp,List.length_nil,zl,List.length_cons,za,List.getElem?_cons_zero,zJ,zV,z0,z1,z2,z3,hall,hall2,htk,zO,qy,qr,qD,hlt,go_sem];refine jap ?_;simp only[zp,List.length_nil,zl,List.length_cons,za,List.getElem?_cons_zero,zJ,zV,z0,z1,z2,z3,hall,hall2,htk,zO,qy,qr,qD,hlt,go_sem];refine ja4 kA (by decide) ?_;simp only[zp,List.length_nil,zl,List.length_cons,za,List.getElem?_cons_zero,zJ,zV,z0,z1,z2,z3,hall,hall2,htk,zO,qy,qr,qD,hlt,go_sem];refine ja1 kS ?_
  simp only[zp,List.length_nil,zl,List.length_cons,za,List.getElem?_cons_zero,zJ,zV,z0,z1,z2,z3,hall,hall2,htk,zO,qy,qr,qD,hlt,go_sem];refine jab 6 ?_;simp only[zp,List.length_nil,zl,List.length_cons,za,List.getElem?_cons_zero,zJ,zV,z0,z1,z2,z3,hall,hall2,htk,zO,qy,qr,qD,hlt,go_sem];refine jac (A,B,O) ?_ ?_ ?_
  ·simp only[zu,za,List.length_cons,List.length_nil,qw,zl,zp,go_sem]
  ·show A.length+B.length<((i,c)::A).length+((i,d)::B).length;rw[List.length_cons,List.length_cons];omega
  ·refine⟨hO,hA',hB',?_⟩;simp only[List.length_cons]at hn⊢;omega
 ·rw[zn h0]at hO;have hs:decide (s.num.sign=0)=false:=zw fun e=>h0 (hz.2 e);have hlt:=And.intro hlt hs;simp only[zp,List.length_nil,zl,List.length_cons,za,List.getElem?_cons_zero,zJ,zV,z0,z1,z2,z3,hall,hall2,htk,zO,qy,qr,qD,hlt,go_sem];refine jab 19 ?_;simp only[zp,List.length_nil,zl,List.length_cons,za,List.getElem?_cons_zero,zJ,zV,z0,z1,z2,z3,hall,hall2,htk,zO,qy,qr,qD,hlt,go_sem];refine jab 14 ?_;simp only[zp,List.length_nil,zl,List.length_cons,za,List.getElem?_cons_zero,zJ,zV,z0,z1,z2,z3,hall,hall2,htk,zO,qy,qr,qD,hlt,go_sem];refine jap ?_;simp only[zp,List.length_nil,zl,List.length_cons,za,List.getElem?_cons_zero,zJ,zV,z0,z1,z2,z3,hall,hall2,htk,zO,qy,qr,qD,hlt,go_sem];refine ja4 kA (by decide) ?_;simp only[zp,List.length_nil,zl,List.length_cons,za,List.getElem?_cons_zero,zJ,zV,z0,z1,z2,z3,hall,hall2,htk,zO,qy,qr,qD,hlt,go_sem]
  refine ja1 kS ?_;simp only[zp,List.length_nil,zl,List.length_cons,za,List.getElem?_cons_zero,zJ,zV,z0,z1,z2,z3,hall,hall2,htk,zO,qy,qr,qD,hlt,go_sem];refine jab 8 ?_;simp only[zp,List.length_nil,zl,List.length_cons,za,List.getElem?_cons_zero,zJ,zV,z0,z1,z2,z3,hall,hall2,htk,zO,qy,qr,qD,hlt,go_sem];refine⟨hcl O,fun c hc=>by rw[zD.1 hc];rfl,by omega,?_⟩;refine jab 6 ?_;simp only[zp,List.length_nil,zl,List.length_cons,za,List.getElem?_cons_zero,zJ,zV,z0,z1,z2,z3,hall,hall2,htk,zO,qy,qr,qD,hlt,go_sem];refine jiw [0,1,5] [47,84] [(5,84,117,5)] (A,B,O++[(i,s)]) ?_ ?_ ?_ ?_
  ·simp only[zu,za,List.length_cons,List.length_nil,qw,zl,zp,go_sem]
  ·simp only[zu,za,List.length_cons,List.length_nil,qw,zl,zp,go_sem]
  ·show A.length+B.length<((i,c)::A).length+((i,d)::B).length;rw[List.length_cons,List.length_cons];omega
  ·refine⟨?_,hA',hB',?_⟩
   ·show O++[(i,s)]++plusF A B=_;rw[<-hO,zR];rfl
   ·simp only[zu,List.length_cons,List.length_nil]at hn⊢;omega
end
section
open Go.Abs
attribute [local go_sem] Evid.iv Evid.c Place.c Move.c Cert.c Recall.c Purity.c ints ic pickC
theorem jey{i:Nat}:∀m,(rowP i m).length=m
 | 0=>rfl
 | m+1=>by rw[rowP,zu,jey m];rfl
theorem x_whole(e:Evid)(hc:jbi e=0)(ends:Bool):Ctr G.P 12 [e.iv,.bool ends] (· = .sl ((jb4 e ends e.moves.length).map pickC)):=by
 have hfit:=jip (jb3 hc).1;have hmt:=(jb3 hc).2.1;have hpc:∀(l:List (Int×Int)),∀c∈l.map pickC,c.length=2:=fun l c hc=>by
  obtain⟨z,_,rfl⟩:=qv.1 hc;rfl
 refine ja5 [.tmp 4] Tryz.func12 ?_;unfold Evid.iv Evid.c;simp only[go_sem];refine jfk [1,2,5,6] [2,65] [(5,65,83,2)] (fun i:Nat=>⟨[(1,.im (.bool ends)),(2,.loc 2 8 0 0),(5,.vec 65 83 2 ((jb4 e ends i).map pickC)),(6,.im (.int i))],[(2,8,[e.c])],[(65,2,(jb4 e ends i).length)]⟩)
  (fun i=>i<=e.moves.length/\(jb4 e ends i).length<=i*6) (fun i=>e.moves.length-i) 0 ?_ ?_ ⟨zH _,zB _⟩ ?_
 ·simp only[List.length_nil,go_sem];exact fun c hc=>by cases hc
 ·simp only[jb4,zp,List.length_nil,Int.natCast_zero,go_sem]
 intro i ⟨hi,hlen⟩;by_cases hp:(i:Int)<e.moves.length
 ·have hd:decide ((i:Int)<e.moves.length)=true:=zh hp;have hn:=ja8 (n:=(i:Int)+1) (by omega);have hi1:(0:Int)<=i:=by omega
  have hi2:(i:Int)<e.moves.length:=hp;obtain⟨x,hx⟩:=jd6 hp;obtain⟨⟨h3,h4⟩,h0,h1⟩:=jdw hc x (zr hx);obtain⟨q,hq⟩:∃q,e.places[x.to.toNat]? =some q:=⟨_,ze (by omega)⟩;have hS:=x_source e x.fr hc ⟨h3,h4⟩ (by omega);have hk:=jge hq;have hw:jb4 e ends (i+1)=jb4 e ends i++(if selB e ends x=true then rowP i e.mats.toNat else []):=by rw[jb4,hx]
  unfold Evid.iv Evid.c at hS;rcases ends with _ | _
  ·rcases dS:decide (jcz e x.fr=0)with _ | _
   ·have hsel:selB e false x=false:=dS;rw[dS]at hS;rw[hsel,zn (by decide)]at hw;have h6:True:=trivial;rcases h5:decide (q.kind=5)with _ | _
    all_goals
     simp only[hd,go_sem];refine jab 12 ?_;simp only[hd,zq,hx,hq,hi1,hi2,h0,h1,h3,h4,dS,h5,h6,go_sem];refine jab 20 ?_;simp only[hd,zq,hx,hq,hi1,hi2,h0,h1,h3,h4,dS,h5,h6,go_sem];refine ja4 hS (by decide) ?_;simp only[hd,zq,hx,hq,hi1,hi2,h0,h1,h3,h4,dS,h5,h6,go_sem];refine jac (i+1) ?_ (by omega) ⟨by omega,?_⟩
     ·simp only[hw,hn,hsel,qx,Int.natCast_add,go_sem]
     ·rw[hw,qx];omega
   ·have hsel:selB e false x=true:=dS;rw[dS]at hS;rw[hsel,zm rfl]at hw;have h6:True:=trivial;rcases h5:decide (q.kind=5)with _ | _
    all_goals
     simp only[hd,go_sem];refine jab 12 ?_;simp only[hd,zq,hx,hq,hi1,hi2,h0,h1,h3,h4,dS,h5,h6,go_sem];refine jab 20 ?_;simp only[hd,zq,hx,hq,hi1,hi2,h0,h1,h3,h4,dS,h5,h6,go_sem];refine ja4 hS (by decide) ?_;simp only[hd,zq,hx,hq,hi1,hi2,h0,h1,h3,h4,dS,h5,h6,go_sem];refine jau [1,2,5,6,9] [2,65] (fun m:Nat=>⟨[(1,.im (.bool false)),(2,.loc 2 8 0 0),(5,.vec 65 83 2 ((jb4 e false i++rowP i m).map pickC)),(6,.im (.int i)),(9,.im (.int m))],[(2,8,[e.c])],[(65,2,(jb4 e false i++rowP i m).length)]⟩)
      (fun m=>m<=e.mats.toNat) (fun m=>e.mats.toNat-m) 0 ?_ (zH _) ?_
     ·simp only[rowP,qx,Int.natCast_zero,go_sem]
     intro m hm;by_cases hmm:m<e.mats.toNat
     ·have dm:decide ((m:Int)<e.mats)=true:=zh (by omega);have hm1:=ja8 (n:=(m:Int)+1) (by omega);have hll:((jb4 e false i++rowP i m).map pickC).length=(jb4 e false i++rowP i m).length:=za _;have hac:(jb4 e false i++rowP i (m+1))=(jb4 e false i++rowP i m)++[((i:Int),(m:Int))]:=by rw[rowP,zR]
      have hal:(jb4 e false i++rowP i m).length<=20000:=by rw[zu,jey];omega
      generalize jb4 e false i++rowP i m=acc at*;simp only[dm,go_sem];refine⟨hpc acc,fun c hc=>by rw[zD.1 hc];rfl,by omega,?_⟩;refine jac (m+1) ?_ (by omega) hmm;simp only[hm1,hll,hac,Int.natCast_add,qw,zl,zp,zu,List.length_cons,List.length_nil,go_sem]
     ·have dm:decide ((m:Int)<e.mats)=false:=zw (by omega);obtain rfl:m=e.mats.toNat:=by omega
      simp only[dm,go_sem];refine jac (i+1) ?_ (by omega) ⟨by omega,?_⟩
      ·simp only[hw,hn,hsel,Int.natCast_add,go_sem]
      ·rw[hw,zu,jey];omega
  ·have dS:True:=trivial;rcases h5:decide (q.kind=5)with _ | _
   ·rcases h6:decide (q.kind=6)with _ | _
    ·have hsel:selB e true x=false:=by show endB e x=false;unfold endB;rw[hk,h5,h6];rfl
     rw[hsel,zn (by decide)]at hw;simp only[hd,go_sem];refine jab 12 ?_;simp only[hd,zq,hx,hq,hi1,hi2,h0,h1,h3,h4,dS,h5,h6,go_sem];refine jab 20 ?_;simp only[hd,zq,hx,hq,hi1,hi2,h0,h1,h3,h4,dS,h5,h6,go_sem];refine jac (i+1) ?_ (by omega) ⟨by omega,?_⟩
     ·simp only[hw,hn,hsel,qx,Int.natCast_add,go_sem]
     ·rw[hw,qx];omega
    ·have hsel:selB e true x=true:=by show endB e x=true;unfold endB;rw[hk,h5,h6];rfl
     rw[hsel,zm rfl]at hw;simp only[hd,go_sem];refine jab 12 ?_;simp only[hd,zq,hx,hq,hi1,hi2,h0,h1,h3,h4,dS,h5,h6,go_sem];refine jab 20 ?_;simp only[hd,zq,hx,hq,hi1,hi2,h0,h1,h3,h4,dS,h5,h6,go_sem];refine jau [1,2,5,6,9] [2,65] (fun m:Nat=>⟨[(1,.im (.bool true)),(2,.loc 2 8 0 0),(5,.vec 65 83 2 ((jb4 e true i++rowP i m).map pickC)),(6,.im (.int i)),(9,.im (.int m))],[(2,8,[e.c])],[(65,2,(jb4 e true i++rowP i m).length)]⟩)
      (fun m=>m<=e.mats.toNat) (fun m=>e.mats.toNat-m) 0 ?_ (zH _) ?_
     ·simp only[rowP,qx,Int.natCast_zero,go_sem]
     intro m hm;by_cases hmm:m<e.mats.toNat
     ·have dm:decide ((m:Int)<e.mats)=true:=zh (by omega);have hm1:=ja8 (n:=(m:Int)+1) (by omega);have hll:((jb4 e true i++rowP i m).map pickC).length=(jb4 e true i++rowP i m).length:=za _;have hac:(jb4 e true i++rowP i (m+1))=(jb4 e true i++rowP i m)++[((i:Int),(m:Int))]:=by rw[rowP,zR]
      have hal:(jb4 e true i++rowP i m).length<=20000:=by rw[zu,jey];omega
      generalize jb4 e true i++rowP i m=acc at*;simp only[dm,go_sem];refine⟨hpc acc,fun c hc=>by rw[zD.1 hc];rfl,by omega,?_⟩;refine jac (m+1) ?_ (by omega) hmm;simp only[hm1,hll,hac,Int.natCast_add,qw,zl,zp,zu,List.length_cons,List.length_nil,go_sem]
     ·have dm:decide ((m:Int)<e.mats)=false:=zw (by omega);obtain rfl:m=e.mats.toNat:=by omega
      simp only[dm,go_sem];refine jac (i+1) ?_ (by omega) ⟨by omega,?_⟩
      ·simp only[hw,hn,hsel,Int.natCast_add,go_sem]
      ·rw[hw,zu,jey];omega
   ·have hsel:selB e true x=true:=by show endB e x=true;unfold endB;rw[hk,h5];rfl
    rw[hsel,zm rfl]at hw;have h6:True:=trivial;simp only[hd,go_sem];refine jab 12 ?_;simp only[hd,zq,hx,hq,hi1,hi2,h0,h1,h3,h4,dS,h5,h6,go_sem];refine jab 20 ?_;simp only[hd,zq,hx,hq,hi1,hi2,h0,h1,h3,h4,dS,h5,h6,go_sem];refine jau [1,2,5,6,9] [2,65] (fun m:Nat=>⟨[(1,.im (.bool true)),(2,.loc 2 8 0 0),(5,.vec 65 83 2 ((jb4 e true i++rowP i m).map pickC)),(6,.im (.int i)),(9,.im (.int m))],[(2,8,[e.c])],[(65,2,(jb4 e true i++rowP i m).length)]⟩)
     (fun m=>m<=e.mats.toNat) (fun m=>e.mats.toNat-m) 0 ?_ (zH _) ?_
    ·simp only[rowP,qx,Int.natCast_zero,go_sem]
    intro m hm;by_cases hmm:m<e.mats.toNat
    ·have dm:decide ((m:Int)<e.mats)=true:=zh (by omega);have hm1:=ja8 (n:=(m:Int)+1) (by omega);have hll:((jb4 e true i++rowP i m).map pickC).length=(jb4 e true i++rowP i m).length:=za _;have hac:(jb4 e true i++rowP i (m+1))=(jb4 e true i++rowP i m)++[((i:Int),(m:Int))]:=by rw[rowP,zR]
     have hal:(jb4 e true i++rowP i m).length<=20000:=by rw[zu,jey];omega
     generalize jb4 e true i++rowP i m=acc at*;simp only[dm,go_sem];refine⟨hpc acc,fun c hc=>by rw[zD.1 hc];rfl,by omega,?_⟩;refine jac (m+1) ?_ (by omega) hmm;simp only[hm1,hll,hac,Int.natCast_add,qw,zl,zp,zu,List.length_cons,List.length_nil,go_sem]
    ·have dm:decide ((m:Int)<e.mats)=false:=zw (by omega);obtain rfl:m=e.mats.toNat:=by omega
     simp only[dm,go_sem];refine jac (i+1) ?_ (by omega) ⟨by omega,?_⟩
     ·simp only[hw,hn,hsel,Int.natCast_add,go_sem]
     ·rw[hw,zu,jey];omega
 ·have hd:decide ((i:Int)<e.moves.length)=false:=zw hp;obtain rfl:i=e.moves.length:=by omega
  simp only[hd,go_sem]
end
section
open Go.Abs
attribute [local go_sem] Evid.iv Evid.c Move.c Place.c ints ic big frac fc Raw.c
end
section
open Go.Abs
attribute [local go_sem] Evid.iv Evid.c Move.c Place.c ints ic big frac fc Raw.c
theorem Behind_pre{L L':Abs.Rows}:∀(pre:Abs.Rows),(∀p∈pre,Abs.look L p.1=none)->jf6 (pre++L) L L' (pre++L')
 | [],_=>fun _ _ h=> .inl h
 | (j,v)::pre,hp=>fun k x h=>by
  by_cases e:k=j
  ·subst e;rw[List.cons_append,ja2]at h⊢;exact .inr ⟨hp _ (zP ..),h⟩
  ·rw[List.cons_append,ja0 _ _ e]at h⊢;exact Behind_pre pre (fun p h=>hp p (qz _ h)) k x h
end
section
open Go.Abs
open Go.LP (Sol)
attribute [local go_sem] Evid.iv Evid.c Purity.c ints ic big frac fc
structure HistOf(e:Evid)(h:List (List Raw))(H:List (List Rat)):Prop where
 eq:h.map rowC=H.map stC
 len:H.length=e.moves.length
 row:∀l∈H,l.length=e.mats.toNat/\∀r∈l,FL 3 r
end
section
open Go.Abs
open Go.LP (Sol)
attribute [local go_sem] Evid.iv Evid.c Move.c ints ic big frac fc
def rawR(r:Rat):Raw:=⟨r.num.sign,dig r.num.natAbs,(r.den:Int).sign,dig (r.den:Int).natAbs⟩
def histR(H:List (List Rat)):List (List Raw):=H.map fun l=>l.map rawR
theorem histR_eq(H:List (List Rat)):(histR H).map rowC=H.map stC:=by
 unfold histR;rw[yn];refine yM fun l _=> ?_;show [IV.sl ((l.map rawR).map Raw.c)]=[IV.sl (l.map fc)];rw[yn];rfl
structure Shaped(e:Evid)(H:List (List Rat))(q:Nat):Prop where
 len:H.length=e.moves.length
 row:∀l∈H,l.length=e.mats.toNat/\∀r∈l,FL q r
 qb:q<=100000000
 mv:(q+q+2)*e.moves.length<=9000000000
 mt:e.mats.toNat*(q+1)<=8000000000
section
variable{e:Evid}{H:List (List Rat)}{q:Nat}
theorem Shaped.ok(h:Shaped e H q)(h0:jbi e=0):jh5 e (histR H)=true:=by
 unfold jh5 histR;rw[zC,zT,za,List.all_eq_true];refine⟨by rw[h.len],fun l hl=> ?_⟩;obtain⟨l',hl',rfl⟩:=qv.1 hl;unfold rowOk;have:=(jb3 h0).2.1;rw[zC,zT,za,(h.row l' hl').1,List.all_eq_true];refine⟨by omega,fun x hx=> ?_⟩;obtain⟨r,_,rfl⟩:=qv.1 hx;exact jlp r
theorem Shaped.sz(h:Shaped e H q):∀l∈histR H,∀x∈l,x.l.length<=50000000000/\x.m.length<=50000000000:=fun l hl x hx=>by
 obtain⟨l',hl',rfl⟩:=qv.1 hl;obtain⟨r,hr,rfl⟩:=qv.1 hx;have h1:=((h.row l' hl').2 r hr).mono (show q<=50000000000 by have:=h.qb;omega);exact⟨h1.1,by have:=h1.2;rw[<-Int.natAbs_natCast r.den]at this;exact this⟩
theorem Shaped.rows(h:Shaped e H q)(h0:jbi e=0):∀l∈histR H,l.length<=100000:=fun l hl=>by
 obtain⟨l',hl',rfl⟩:=qv.1 hl;have:=jl3 h0;rw[za,(h.row l' hl').1];omega
theorem Shaped.shaped(h:Shaped e H q)(h0:jbi e=0):Ctr G.P 68 [e.iv,.sl (H.map stC)] (· = .bool true):=by
 have hlx:=jl3 h0;have k2:=h_shaped e (histR H) (by have:=h.len;unfold histR;rw[za];omega) (h.rows h0) h.sz;rw[h.ok h0]at k2;unfold hist at k2;rw[histR_eq]at k2;exact k2
theorem h_stock(h:Shaped e H q)(h0:jbi e=0)(p n:Nat)(hp:p<e.places.length)(hn:n<=e.moves.length):
  Ctr G.P 23 [e.iv,.sl (H.map stC),.int p,.int n] (· =fcs ((stN e.moves H e.mats.toNat (S0 e) n).getD p [])):=by
 have hlx:=jl3 h0;have hmt:=(jb3 h0).2.1;have k1:=c21 e;rw[h0]at k1;have k2:=h.shaped h0;have k3:=h_none e (by omega) (by omega) (by omega);have hHl:=h.len;have hqm:=h.mv;have hF0:∀r∈S0 e,∀x∈r,FL 4 x:=fun r hr x hx=>by
  unfold S0 at hr;rw[(ji.1 hr).2]at hx;rw[(ji.1 hx).2];exact jbv (by omega)
 have hst:=stN_ok S0_stk hF0 (jdw h0) h.row;have hmove:=jdw h0;change CtrH G.P _ _ _ (fun r L'=>∃b0 bs,r=_/\_/\_/\L'=jci _ b0 bs (S0 e) e.mats.toNat)at k3;have hpi:decide ((e.places.length:Int)<=p)=false:=zw (by omega);have hp0:decide ((p:Int)<0)=false:=zw (by omega);have hn0:decide ((n:Int)<0)=false:=zw (by omega);have hni:decide ((H.length:Int)<n)=false:=zw (by omega);generalize S0 e=S0 at*;simp only[Evid.iv,Evid.c]at k1 k2 k3;refine ctrf_go (goodH [] []) _ _ [.tmp 8] Tryz.func23 rfl rfl (by decide+kernel) rfl ?_;unfold Evid.iv Evid.c;simp only[go_sem];refine ja1 k1 ?_;simp only[go_sem];refine ja1 k2 ?_;simp only[hpi,hp0,hn0,hni,za,go_sem];refine jcv k3 (by decide) rfl (fun _ _ h=>by cases h) (fun _ _ h=>by cases h) ?_;rintro r L' ⟨b0,bs,rfl,hnd,hbl,rfl⟩ hfresh;refine⟨(4,8,[e.c])::jci 35 b0 bs S0 e.mats.toNat,?_,?_⟩
 ·intro k x hk;by_cases e2:k=4
  ·subst e2;rw[ja2]at hk;exact .inr ⟨rfl,by rw[<-hk];exact ja2 _ _ _⟩
  ·rw[ja0 _ _ e2]at hk;exact .inl hk
 clear hfresh k1 k2 k3;have F1:=fun(S:List (List Rat)) (d:Nat) (h:d<100000)=>jjy (t:=35) (b0:=b0) (bs:=bs) (S:=S) (n:=e.mats.toNat) h;have G1:=fun(S:List (List Rat)) (d:Nat) (h:d<100000)=>jg2 (t:=35) (b0:=b0) (bs:=bs) (S:=S) (n:=e.mats.toNat) h;have K1:=fun(S:List (List Rat)) (d s:Nat) (es:List (List IV)) (h:d<100000)=>jnt (t:=35) (b0:=b0) (bs:=bs) (S:=S) (n:=e.mats.toNat) (s:=s) (es:=es) h;have hall:((e.moves.map Move.c).all fun c=>c.length==6)=true:=List.all_eq_true.2 fun c hc=>by
  obtain⟨z,_,rfl⟩:=qv.1 hc;rfl
 have hni':(n:Int)<=e.moves.length:=by omega
 have hn0':(0:Int)<=n:=by omega
 have htl:((e.moves.map Move.c).take n).length=n:=by rw[qh,za];omega
 simp only[hall,hni',hn0',F1,G1,K1,za,htl,go_sem];refine jay [1,2,9,47,48,49] (fun i:Nat=>⟨[(1,.im (.sl (H.map stC))),(2,.im (.int p)),(9,.im (.ref b0 36 1 e.places.length)),(47,.im (.sl ((e.moves.map Move.c).take n))),(48,.im (.int n)),(49,.im (.int i))],
   jci 35 b0 bs (stN e.moves H e.mats.toNat S0 i) e.mats.toNat,[]⟩)
  (fun i=>i<=n) (fun i=>n-i) 0 ?_ ?_ rfl (zH _) ?_
 ·simp only[Int.natCast_zero,Nat.sub_zero,htl,go_sem]
 ·exact jew (by show Abs.look (jci _ _ _ _ _) 4=none;rw[jg2 (by decide)]) (SubR.of_eq rfl)
 intro i hi;by_cases hlt:i<n
 ·have hd:decide ((i:Int)<n)=true:=zh (by omega);obtain⟨x,hx⟩:=jd6 (l:=e.moves) (i:=i) (by omega);have hxt:((e.moves.map Move.c).take n)[i]? =some x.c:=by rw[jf hlt,zq,hx];rfl
  obtain⟨l,hl⟩:∃l,H[i]? =some l:=⟨_,ze (by omega)⟩;have hiH:(i:Int)<H.length:=by omega
  have hin:(i:Int)<n:=by omega
  have h1:=ja8 (n:=(i:Int)+1) (by omega);obtain⟨hS1,hS2⟩:=hst i;obtain⟨hll,hlF⟩:=h.row l (zr hl);obtain⟨⟨p1,p2⟩,p3,p4⟩:=hmove x (zr hx);have hsucc:=jmp (n:=e.mats.toNat) (S:=S0) hx hl;have hqi:(q+q+2)*i<=(q+q+2)*e.moves.length:=jJ _ (by omega);have hqb:=h.qb;have q6:=h_carry b0 bs (stN e.moves H e.mats.toNat S0 i) x l e.places.length e.mats.toNat (4+(q+q+2)*i) q hnd hS1 hbl (by omega) (by omega) ⟨p1,p2⟩ ⟨p3,p4⟩ hll hlF (SL.of_all hS2) (by omega) (by omega);rw[<-hsucc]at q6;generalize hS1e:stN e.moves H e.mats.toNat S0 (i+1)=S1 at*;generalize stN e.moves H e.mats.toNat S0 i=S at*;unfold fcs at q6;simp only[Move.c]at q6 hxt;clear hst hmove;simp only[hd,hxt,htl,hin,F1,G1,K1,go_sem];refine jab 6 ?_;simp only[hd,zq,hl,hiH,stC,F1,G1,K1,go_sem];refine jag q6 (by decide) rfl st_blks ?_ ?_
  ·exact jew (by show Abs.look (jci _ _ _ _ _) 11=none;rw[jg2 (by decide)]) (SubR.of_eq rfl)
  rintro r L' ⟨rfl,rfl⟩ hfresh;clear hfresh;refine⟨(11,6,[x.c])::jci 35 b0 bs S1 e.mats.toNat,?_,?_⟩
  ·exact Behind_pre [(11,6,[x.c])] (by
    intro p hp;rw[zD.1 hp];exact jg2 (by dsimp only;decide))
  simp only[F1,G1,K1,go_sem];refine jaa (i+1) ?_ ?_ rfl (by omega) (by omega)
  ·simp only[h1,Int.natCast_add,go_sem]
  ·dsimp only;rw[hS1e];exact jew (by show Abs.look (jci _ _ _ _ _) 11=none;rw[jg2 (by decide)]) (SubR.of_eq rfl)
 ·have hd:decide ((i:Int)<n)=false:=zw (by omega);obtain rfl:i=n:=by omega
  obtain⟨hS1,hS2⟩:=hst i;obtain⟨bp,hbp⟩:∃b,bs[p]? =some b:=⟨_,ze (by omega)⟩;generalize stN e.moves H e.mats.toNat S0 i=S at*;obtain⟨r,hr⟩:∃r,S[p]? =some r:=⟨_,ze (by rw[hS1.1];exact hp)⟩;have hgr:S.getD p []=r:=by rw[qm,hr];rfl
  rw[hgr];have hrl:r.length=e.mats.toNat:=hS1.2 r (zr hr);have L0:=jpw (t:=35) (b0:=b0) (bs:=bs) (S:=S) (n:=e.mats.toNat);have L1:=jox (t:=35) (n:=e.mats.toNat) hnd hbp hr;have hp0':(0:Int)<=p:=by omega
  have hp1':(p:Int)<e.places.length:=by omega
  have hpn:((p:Nat):Int).toNat=p:=Int.toNat_natCast p;unfold fcs;simp only[hd,hp0',hp1',hpn,L0,L1,F1,G1,K1,outer,hbp,zq,go_sem];have htr:(r.map fc).take e.mats.toNat=r.map fc:=zG (by rw[za,hrl];exact zB _);have hln:e.mats.toNat<=r.length:=by omega
  refine RetF_of [bp] ?_;simp only[L1,List.foldl_cons,List.foldl_nil,Abs.St.frz,htr,hln,za,go_sem]
