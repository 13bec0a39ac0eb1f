/- A part of the proof. No further condition. -/
import Derived.Test.YtkcekimolppapaaGreatKS20
set_option linter.all false
set_option maxRecDepth 10000000
set_option maxHeartbeats 16000000
namespace Go.Proofs.YtkcekimolppapaaGreat
section
open Go.Abs
attribute [local go_sem] Evid.iv Evid.c Move.c Cert.c Recall.c Purity.c ints ic big frac fc
def negF(r:Rat):Bool:=decide (r.num.sign<0)
theorem h_negative(l:List Rat)(hl:l.length<=100000)(hf:∀r∈l,FL 19000000000 r):Ctr G.P 77 [fcs l] (· = .bool (l.any negF)):=by
 unfold fcs;refine ja5 [.tmp 2] Tryz.func77 ?_;simp only[go_sem];refine jan [5,6,7] [] (fun i:Nat=>⟨[(5,.im (.sl (l.map fc))),(6,.im (.int l.length)),(7,.im (.int i))],[],[]⟩)
  (fun i=>i<=l.length/\(l.take i).any negF=false) (fun i=>l.length-i) 0 ?_ ⟨zH _,rfl⟩ ?_
 ·simp only[Int.natCast_zero,go_sem]
 ·intro i ⟨hi,ha⟩;by_cases hp:(i:Int)<l.length
  ·have hd:decide ((i:Int)<l.length)=true:=zh hp;obtain⟨x,hx⟩:=jbf hp;have h1:=ja7 (n:=(i:Int)+1) (by omega);have hs:=jta (hf x (zk hx));have hat:=jcu (f:=negF) hx;simp only[frac,ints]at hs;rcases hn:negF x with _ | _
   ·have hn':decide (x.num.sign<0)=false:=hn;simp only[hd,za,hx,go_sem];refine ja1 hs ?_;simp only[hn',go_sem];refine jab (i+1) ?_ (by omega) ⟨by omega,by rw[hat,ha,hn];rfl⟩;simp only[h1,Int.natCast_add,go_sem]
   ·have hn':decide (x.num.sign<0)=true:=hn;rw[jtm hx hn];simp only[hd,za,hx,go_sem];refine ja1 hs ?_;simp only[hn',go_sem]
  ·have hd:decide ((i:Int)<l.length)=false:=zw hp;rw[zu (by omega)]at ha;rw[ha];simp only[hd,go_sem]
def sumF(l:List Rat):Rat:=l.foldl (· + ·) ((0:Int):Rat)
theorem jpf{l:List Rat}{i:Nat}{x:Rat}(h:l[i]? =some x):sumF (l.take (i+1))=sumF (l.take i)+x:=by
 rw[take_succ h,sumF,List.foldl_append];rfl
theorem FL_fold{k:Nat}:∀(l:List Rat) (a:Rat) (m:Nat),(∀r∈l,FL k r)->FL m a->FL (m+l.length*(k+1)) (l.foldl (· + ·) a)
 | [],a,m,_,ha=>ha.mono (by omega)
 | x::r,a,m,h,ha=>by
  have:=FL_fold r (a+x) (m+k+1) (fun y hy=>h y (by simp[hy])) (jk7 ha (h x (by simp)));refine this.mono ?_;rw[List.length_cons,qA];omega
theorem FL_sumF{k:Nat}{l:List Rat}(h:∀r∈l,FL k r):FL (4+l.length*(k+1)) (sumF l):=FL_fold l _ 4 h (jc5 (by omega))
theorem h_sum(l:List Rat)(hl:l.length<=100)(hf:∀r∈l,FL 100000000 r):Ctr G.P 79 [fcs l] (· =frac (sumF l)):=by
 have o1:=jcb 0 (by omega);have hz:((0:Int):Rat)=sumF (l.take 0):=by rw[List.take_zero];rfl
 rw[hz]at o1;unfold fcs;simp only[frac,ints]at o1⊢;refine ja5 [.cell 2 35] Tryz.func79 ?_;simp only[go_sem];refine ja1 o1 ?_;simp only[go_sem];refine jan [2,3,7,8,9] [2,3] (fun i:Nat=>⟨[(2,.loc 2 4 0 0),(3,.loc 3 4 0 0),(7,.im (.sl (l.map fc))),(8,.im (.int l.length)),(9,.im (.int i))],[(3,4,[fc (sumF (l.take i))]),(2,4,[[.int 0,.sl [],.int 0,.sl []]])],[]⟩)
  (fun i=>i<=l.length) (fun i=>l.length-i) 0 ?_ (zH _) ?_
 ·simp only[Int.natCast_zero,go_sem]
 ·intro i hi;by_cases hp:(i:Int)<l.length
  ·have hd:decide ((i:Int)<l.length)=true:=zh hp;obtain⟨x,hx⟩:=jbf hp;have h1:=ja7 (n:=(i:Int)+1) (by omega);have hk:FL 19000000000 (sumF (l.take i)):=by
    refine(FL_sumF (k:=100000000) fun r hr=>hf r (qT hr)).mono ?_;rw[zY];have:min i l.length*100000001<=100*100000001:=yK (by omega) (zt _);omega
   have hs:=f_add hk ((hf x (zk hx)).mono (by omega:100000000<=19000000000));rw[<-jpf hx]at hs;simp only[frac,ints]at hs;simp only[hd,za,hx,go_sem];refine ja1 hs ?_;simp only[go_sem];refine jab (i+1) ?_ (by omega) (by omega);simp only[h1,Int.natCast_add,go_sem]
  ·have hd:decide ((i:Int)<l.length)=false:=zw hp;rw[zu (by omega)];simp only[hd,go_sem]
end
section
open Go.Abs
attribute [local go_sem] Evid.iv Evid.c Move.c Cert.c Recall.c Purity.c ints ic big frac fc
def jdd(e:Evid)(x:Move)(mass:Rat):Bool:=decide (x.scale= -1) || match ivlF e.certs e.recalls x.scale x.reading x.day with
 | none=>true
 | some (lo,hi)=>decide (cmpR lo mass<=0)&&decide (cmpR mass hi<=0)
theorem h_weighed(e:Evid)(x:Move)(mass:Rat)(hm:FL 19000000000 mass)(l1:e.certs.length<=100000)(l2:e.recalls.length<=100000):
  Ctr G.P 80 [e.iv,.agg x.c,frac mass] (· = .bool (jdd e x mass)):=by
 rcases hs:decide (x.scale= -1)with _ | _
 ·have hi:=h_ivl e.certs e.recalls x.scale x.reading x.day l1 l2;rcases hv:ivlF e.certs e.recalls x.scale x.reading x.day with _ | ⟨lo,hi'⟩
  ·rw[hv]at hi;have hr:jdd e x mass=true:=by simp[jdd,hv]
   rw[hr];simp only[ivlIV,zf]at hi;refine ja5 [.tmp 6] Tryz.func80 ?_;unfold Evid.iv Evid.c Move.c;simp only[hs,go_sem];refine ja1 hi ?_;simp only[go_sem]
  ·rw[hv]at hi;obtain⟨k1,k2⟩:=FL_ivl hv;have c1:=f_cmp (k1.mono (by omega:14<=19000000000)) hm;have c2:=f_cmp hm (k2.mono (by omega:14<=19000000000));have hr:jdd e x mass=(decide (cmpR lo mass<=0)&&decide (cmpR mass hi'<=0)):=by simp only[jdd,hv,hs,qP]
   rw[hr];generalize cmpR lo mass=m1 at*;generalize cmpR mass hi'=m2 at*;simp only[ivlIV,frac,ints]at hi c1 c2⊢;rcases d1:decide (m1<=0)with _ | _
   ·refine ja5 [.tmp 6] Tryz.func80 ?_;unfold Evid.iv Evid.c Move.c;simp only[hs,go_sem];refine ja1 hi ?_;simp only[go_sem];refine ja1 c1 ?_;simp only[d1,go_sem]
   ·refine ja5 [.tmp 6] Tryz.func80 ?_;unfold Evid.iv Evid.c Move.c;simp only[hs,go_sem];refine ja1 hi ?_;simp only[go_sem];refine ja1 c1 ?_;simp only[d1,go_sem];refine ja1 c2 ?_;simp only[d1,go_sem]
 ·have hr:jdd e x mass=true:=by simp only[jdd,hs,ji]
  rw[hr];refine ja5 [.tmp 6] Tryz.func80 ?_;unfold Evid.iv Evid.c Move.c;simp only[hs,go_sem]
def keepF(l:List Rat)(mass:Rat)(p:Purity):Bool:=match l[p.mat.toNat]? with
 | none=>true
 | some f=> !(decide (cmpR (((1000:Int):Rat)*f) ((p.least:Rat)*mass)<0) || decide (0<cmpR (((1000:Int):Rat)*f) ((p.most:Rat)*mass)))
def pureP(move:Int)(l:List Rat)(mass:Rat)(p:Purity):Bool:= !decide (p.move=move) || keepF l mass p
def pureF(e:Evid)(move:Int)(l:List Rat)(mass:Rat):Bool:=e.purs.all (pureP move l mass)
theorem h_pure(e:Evid)(move:Int)(l:List Rat)(mass:Rat)(hl:e.purs.length<=100000)(hm:FL 9000000000 mass)(hf:∀r∈l,FL 9000000000 r)
  (hp:∀p∈e.purs,(0<=p.mat/\p.mat<l.length)/\(-9223372036854775808<=p.least/\p.least<=9223372036854775807)/\(-9223372036854775808<=p.most/\p.most<=9223372036854775807)):
  Ctr G.P 81 [e.iv,.int move,fcs l,frac mass] (· = .bool (pureF e move l mass)):=by
 unfold fcs pureF;have hmc:frac mass= .agg (fc mass):=rfl;rw[hmc];refine ja5 [.tmp 8] Tryz.func81 ?_;unfold Evid.iv Evid.c;simp only[go_sem];refine jan [1,2,4,7,18,19,20] [4,7] (fun i:Nat=>⟨[(1,.im (.int move)),(2,.im (.sl (l.map fc))),(4,.loc 4 8 0 0),(7,.loc 7 4 0 0),(18,.im (.sl (e.purs.map Purity.c))),(19,.im (.int e.purs.length)),(20,.im (.int i))],[(7,4,[fc mass]),(4,8,[e.c])],[]⟩)
  (fun i=>i<=e.purs.length/\(e.purs.take i).all (pureP move l mass)=true) (fun i=>e.purs.length-i) 0 ?_ ⟨zH _,rfl⟩ ?_
 ·simp only[Int.natCast_zero,go_sem]
 ·intro i ⟨hi,ha⟩;by_cases hpl:(i:Int)<e.purs.length
  ·have hd:decide ((i:Int)<e.purs.length)=true:=zh hpl;obtain⟨x,hx⟩:=jbf hpl;have h1:=ja7 (n:=(i:Int)+1) (by omega);have hat:=jcv (f:=pureP move l mass) hx;rcases dm:decide (x.move=move)with _ | _
   ·have hpp:pureP move l mass x=true:=by simp only[pureP,dm,Bool.not_false,ji]
    simp only[hd,za,hx,dm,go_sem];refine jab (i+1) ?_ (by omega) ⟨by omega,by rw[hat,ha,hpp];rfl⟩;simp only[h1,Int.natCast_add,go_sem]
   ·obtain⟨⟨hm1,hm2⟩,hb1,hb2⟩:=hp x (zk hx);obtain⟨f,hf'⟩:∃f,l[x.mat.toNat]? =some f:=⟨_,ze (by omega)⟩;have kf:=hf f (zk hf');have k0:FL 4 ((1000:Int):Rat):=jc5 (by omega);have k1:FL 4 (x.least:Rat):=jc5 hb1;have k2:FL 4 (x.most:Rat):=jc5 hb2;have i1:=jcb 1000 (by omega);have i2:=jcb x.least hb1;have i3:=jcb x.most hb2;have m1:=f_mul (k0.mono (by omega:4<=19000000000)) (kf.mono (by omega:9000000000<=19000000000));have m2:=f_mul (k1.mono (by omega:4<=19000000000)) (hm.mono (by omega:9000000000<=19000000000));have m3:=f_mul (k2.mono (by omega:4<=19000000000)) (hm.mono (by omega:9000000000<=19000000000));have c1:=f_cmp ((jme k0 kf).mono (by omega)) ((jme k1 hm).mono (by omega));have c2:=f_cmp ((jme k0 kf).mono (by omega)) ((jme k2 hm).mono (by omega));have hpp:pureP move l mass x= !(decide (cmpR (((1000:Int):Rat)*f) ((x.least:Rat)*mass)<0) || decide (0<cmpR (((1000:Int):Rat)*f) ((x.most:Rat)*mass))):=by
     simp only[pureP,dm,keepF,hf',jT,qP]
    have hf:=hf';generalize ((1000:Int):Rat)=q0 at*;generalize (x.least:Rat)=q1 at*;generalize (x.most:Rat)=q2 at*;generalize q0*f=p0 at*;generalize q1*mass=p1 at*;generalize q2*mass=p2 at*;generalize cmpR p0 p1=s1 at*;generalize cmpR p0 p2=s2 at*;simp only[frac,ints]at i1 i2 i3 m1 m2 m3 c1 c2;rcases d1:decide (s1<0)with _ | _
    ·rcases d2:decide (0<s2)with _ | _
     ·rw[d1,d2]at hpp;simp only[hd,za,hx,dm,go_sem];refine jam ?_;simp only[go_sem];refine ja4 i1 (by decide) ?_;simp only[hm1,hm2,hf,za,go_sem];refine ja4 m1 (by decide) ?_;simp only[go_sem];refine jam ?_;simp only[go_sem];refine ja4 i2 (by decide) ?_;simp only[go_sem];refine ja4 m2 (by decide) ?_;simp only[go_sem];refine jam ?_;simp only[go_sem];refine ja4 i3 (by decide) ?_;simp only[go_sem];refine ja4 m3 (by decide) ?_;simp only[go_sem];refine ja1 c1 ?_;simp only[d1,go_sem];refine ja1 c2 ?_;simp only[d2,go_sem];refine jab (i+1) ?_ (by omega) ⟨by omega,by rw[hat,ha,hpp];rfl⟩;simp only[h1,Int.natCast_add,go_sem]
     ·rw[d1,d2]at hpp;rw[jfz hx hpp];simp only[hd,za,hx,dm,go_sem];refine jam ?_;simp only[go_sem];refine ja4 i1 (by decide) ?_;simp only[hm1,hm2,hf,za,go_sem];refine ja4 m1 (by decide) ?_;simp only[go_sem];refine jam ?_;simp only[go_sem];refine ja4 i2 (by decide) ?_;simp only[go_sem];refine ja4 m2 (by decide) ?_;simp only[go_sem];refine jam ?_;simp only[go_sem];refine ja4 i3 (by decide) ?_;simp only[go_sem];refine ja4 m3 (by decide) ?_;simp only[go_sem];refine ja1 c1 ?_;simp only[d1,go_sem];refine ja1 c2 ?_;simp only[d2,go_sem]
    ·rw[d1,ji]at hpp;rw[jfz hx hpp];simp only[hd,za,hx,dm,go_sem];refine jam ?_;simp only[go_sem];refine ja4 i1 (by decide) ?_;simp only[hm1,hm2,hf,za,go_sem];refine ja4 m1 (by decide) ?_;simp only[go_sem];refine jam ?_;simp only[go_sem];refine ja4 i2 (by decide) ?_;simp only[go_sem];refine ja4 m2 (by decide) ?_;simp only[go_sem];refine jam ?_;simp only[go_sem];refine ja4 i3 (by decide) ?_;simp only[go_sem];refine ja4 m3 (by decide) ?_;simp only[go_sem];refine ja1 c1 ?_;simp only[d1,go_sem]
  ·have hd:decide ((i:Int)<e.purs.length)=false:=zw hpl;rw[zu (by omega)]at ha;rw[ha];simp only[hd,go_sem]
end
section
open Go.Abs
def inner:List Nat->List (List Rat)->Abs.Rows
 | b::bs,r::S=>(hp b,4,r.map fc)::inner bs S
 | _,_=>[]
def outer(t:Nat)(n:Nat)(bs:List Nat):List (List IV):=bs.map fun b=>[.ref b t 4 n]
def jbn(t b0:Nat)(bs:List Nat)(S:List (List Rat))(n:Nat):Abs.Rows:=(hp b0,1,outer t n bs)::inner bs S
theorem je1{bs:List Nat}{S:List (List Rat)}{k:Nat}(h:∀b∈bs,k≠hp b):Abs.look (inner bs S) k=none:=by
 induction bs generalizing S with
 | nil=>cases S<;>rfl
 | cons b bs ih=>
  cases S with
  | nil=>rfl
  | cons r S=>
   rw[inner,ja0 _ _ (h b (by simp))];exact ih fun c hc=>h c (by simp[hc])
theorem jn6{bs:List Nat}{S:List (List Rat)}{i b:Nat}{r:List Rat}(hn:bs.Nodup)(hb:bs[i]? =some b)(hr:S[i]? =some r):Abs.look (inner bs S) (hp b)=some (4,r.map fc):=by
 induction bs generalizing S i with
 | nil=>cases hb
 | cons c bs ih=>
  cases S with
  | nil=>cases hr
  | cons q S=>
   rw[qK]at hn;cases i with
   | zero=>
    simp only[List.getElem?_cons_zero,qz]at hb hr;subst hb hr;rw[inner,ja2]
   | succ i=>
    rw[List.getElem?_cons_succ]at hb hr;have hne:b≠c:=fun e=>hn.1 (e▸zk hb);rw[inner,ja0 _ _ (fun e=>hne (hp_inj.1 e))];exact ih hn.2 hb hr
theorem jgj{R:Abs.Rows}{k s:Nat}{es:List (List IV)}(h:Abs.look R k=none):setRow R k s es=R:=by
 induction R with
 | nil=>rfl
 | cons p R ih=>
  obtain⟨j,v⟩:=p;by_cases e:k=j
  ·subst e;rw[ja2]at h;cases h
  ·rw[ja0 _ _ e]at h;have:=ih h;simp only[setRow,zB]at this⊢;rw[this,zn (fun x=>e x.symm)]
theorem inner_set{bs:List Nat}{S:List (List Rat)}{i b:Nat}{r q:List Rat}(hn:bs.Nodup)(hb:bs[i]? =some b)(hr:S[i]? =some r):setRow (inner bs S) (hp b) 4 (q.map fc)=inner bs (S.set i q):=by
 induction bs generalizing S i with
 | nil=>cases hb
 | cons c bs ih=>
  cases S with
  | nil=>cases hr
  | cons p S=>
   rw[qK]at hn;cases i with
   | zero=>
    simp only[List.getElem?_cons_zero,qz]at hb hr;subst hb hr;have h0:Abs.look (inner bs S) (hp c)=none:=je1 fun d hd e=>hn.1 ((hp_inj.1 e)▸hd);have:=jgj (s:=4) (es:=q.map fc) h0;simp only[setRow]at this;simp only[setRow,inner,zB,List.set_cons_zero,this,qm]
   | succ i=>
    rw[List.getElem?_cons_succ]at hb hr;have hne:b≠c:=fun e=>hn.1 (e▸zk hb);have:=ih hn.2 hb hr;simp only[setRow]at this;simp only[setRow,inner,zB,List.set_cons_succ,this,zn (fun e=>hne (hp_inj.1 e).symm:¬hp c=hp b)]
section
variable{t b0 n:Nat}{bs:List Nat}{S:List (List Rat)}
theorem js8:Abs.look (jbn t b0 bs S n) (hp b0)=some (1,outer t n bs):=ja2 _ _ _
theorem jr6{i b:Nat}{r:List Rat}(hn:(b0::bs).Nodup)(hb:bs[i]? =some b)(hr:S[i]? =some r):Abs.look (jbn t b0 bs S n) (hp b)=some (4,r.map fc):=by
 rw[qK]at hn;have hne:b≠b0:=fun e=>hn.1 (e▸zk hb);rw[jbn,ja0 _ _ (fun e=>hne (hp_inj.1 e))];exact jn6 hn.2 hb hr
theorem st_set{i b:Nat}{r q:List Rat}(hn:(b0::bs).Nodup)(hb:bs[i]? =some b)(hr:S[i]? =some r):(jbn t b0 bs S n).map (fun p=>if p.1=hp b then(p.1,4,q.map fc)else p)=jbn t b0 bs (S.set i q) n:=by
 rw[qK]at hn;have hne:b≠b0:=fun e=>hn.1 (e▸zk hb);have:=inner_set (q:=q) hn.2 hb hr;simp only[setRow]at this;simp only[jbn,zB,this,zn (fun e=>hne (hp_inj.1 e).symm:¬hp b0=hp b)]
theorem jc7{d:Nat}(h:d<100000):Abs.look (jbn t b0 bs S n) d=none:=by
 have hl:∀b,d≠hp b:=fun b=>by unfold hp;omega
 rw[jbn,ja0 _ _ (hl b0)];exact je1 fun b _=>hl b
theorem jlr{R:Abs.Rows}{d:Nat}(h:Abs.look R d=none):R.filter (fun p=>p.1 !=d)=R:=by
 induction R with
 | nil=>rfl
 | cons p R ih=>
  obtain⟨j,v⟩:=p;by_cases e:d=j
  ·subst e;rw[ja2]at h;cases h
  ·rw[ja0 _ _ e]at h;rw[ym,ih h,zm (by simp only[z7,ne_eq];exact fun x=>e x.symm)]
theorem jik{d:Nat}(h:d<100000):(jbn t b0 bs S n).filter (fun p=>p.1 !=d)=jbn t b0 bs S n:=jlr (jc7 h)
theorem jkw{d s:Nat}{es:List (List IV)}(h:d<100000):(jbn t b0 bs S n).map (fun p=>if p.1=d then(p.1,s,es)else p)=jbn t b0 bs S n:=jgj (jc7 h)
theorem st_blks:blks (jbn t b0 bs S n):=by
 intro k x h;rcases Decidable.em (k<100000)with hk | hk
 ·rw[jc7 hk]at h;cases h
 ·exact⟨_,hp_of (by omega)⟩
end
theorem jbq{R' R:Abs.Rows}{p:Nat×Nat×List (List IV)}(h:Abs.look R' p.1=none)(hs:SubR R' R):SubR R' (p::R):=by
 intro k x hk;obtain⟨j,v⟩:=p;rw[ja0 _ _ (fun e=>by subst e;rw[h]at hk;cases hk)];exact hs k x hk
def stepS(fr to m:Nat)(f:Rat)(S:List (List Rat)):List (List Rat):=
 let a:=S.getD fr []
 let S1:=S.set fr (a.set m (a.getD m 0-f))
 let b:=S1.getD to []
 S1.set to (b.set m (b.getD m 0+f))
def carN(S:List (List Rat))(fr to:Nat)(l:List Rat):Nat->List (List Rat)
 | 0=>S
 | m+1=>stepS fr to m (l.getD m 0) (carN S fr to l m)
def Stk(p n:Nat)(S:List (List Rat)):Prop:=S.length=p/\∀r∈S,r.length=n
theorem jhs{S:List (List Rat)}{i:Nat}(h:i<S.length):S.getD i []∈S:=by
 rw[qi,ze h];exact js h
theorem Stk.set{p n:Nat}{S:List (List Rat)}(h:Stk p n S){i:Nat}{r:List Rat}(hr:r.length=n):Stk p n (S.set i r):=
 ⟨by rw[qa];exact h.1,fun q hq=>by
  rcases yo hq with h1 | h1
  ·exact h.2 q h1
  ·rw[h1];exact hr⟩
theorem Stk.step{p n fr to m:Nat}{f:Rat}{S:List (List Rat)}(h:Stk p n S)(h1:fr<p)(h2:to<p):Stk p n (stepS fr to m f S):=by
 have h3:=h.set (i:=fr) (r:=(S.getD fr []).set m ((S.getD fr []).getD m 0-f)) (by rw[qa];exact h.2 _ (jhs (by rw[h.1];exact h1)));exact h3.set (by rw[qa];exact h3.2 _ (jhs (by rw[h3.1];exact h2)))
theorem Stk.car{p n fr to:Nat}{l:List Rat}{S:List (List Rat)}(h:Stk p n S)(h1:fr<p)(h2:to<p):∀m,Stk p n (carN S fr to l m)
 | 0=>h
 | m+1=>(Stk.car h h1 h2 m).step h1 h2
def SL(k j m:Nat)(S:List (List Rat)):Prop:=∀r∈S,∀(i:Nat) x,r[i]? =some x->FL (if i<m then k else j) x
theorem SL.set{k j m c:Nat}{S:List (List Rat)}{r:List Rat}{x:Rat}(h:SL k j m S)(hr:r∈S)(hx:FL c x)(hc:∀q∈S,∀y,q[m]? =some y->FL c y){i:Nat}:
  ∀q∈S.set i (r.set m x),∀(n:Nat) y,q[n]? =some y->(n=m->FL c y)/\(n≠m->FL (if n<m then k else j) y):=by
 intro q hq n y hy;rcases yo hq with h1 | h1
 ·exact⟨fun e=>hc q h1 y (e▸hy),fun _=>h q h1 n y hy⟩
 ·rw[h1]at hy;refine⟨fun e=> ?_,fun e=> ?_⟩
  ·subst e;rw[List.getElem?_set_self']at hy;cases hz:r[n]? with
   | none=>rw[hz]at hy;cases hy
   | some z=>
    rw[hz]at hy;have hy:some x=some y:=hy;injection hy with hy;rw[<-hy];exact hx
  ·rw[yI (fun x=>e x.symm)]at hy;exact h r hr n y hy
theorem jrl{l:List Rat}{m:Nat}(h:m<l.length):l[m]? =some (l.getD m 0):=by
 rw[qi,ze h];rfl
theorem SL.step{k j m p n fr to:Nat}{f:Rat}{S:List (List Rat)}(h:SL k j m S)(hs:Stk p n S)(h1:fr<p)(h2:to<p)(hm:m<n)(c:Nat)(hc:∀x,FL j x->FL c x/\FL c (x-f))(hk:∀x,FL c x->FL k x/\FL k (x+f)):
  SL k j (m+1) (stepS fr to m f S)/\((∀x,(S.getD fr [])[m]? =some x->FL j x)/\∀x,((S.set fr ((S.getD fr []).set m ((S.getD fr []).getD m 0-f))).getD to [])[m]? =some x->FL c x):=by
 have ha:=jhs (S:=S) (i:=fr) (by rw[hs.1];exact h1);have hal:(S.getD fr []).length=n:=hs.2 _ ha;have hj:∀q∈S,∀x,q[m]? =some x->FL j x:=fun q hq x hx=>by
  have:=h q hq m x hx
  rwa [zn (by omega)]at this
 have hx0:FL j ((S.getD fr []).getD m 0):=hj _ ha _ (jrl (by rw[hal];exact hm));have e1:=SL.set (c:=c) (i:=fr) (x:=(S.getD fr []).getD m 0-f) h ha (hc _ hx0).2 (fun q hq y hy=>(hc y (hj q hq y hy)).1);have hs1:=hs.set (i:=fr) (r:=(S.getD fr []).set m ((S.getD fr []).getD m 0-f)) (by rw[qa];exact hal);unfold stepS;dsimp only;generalize S.set fr ((S.getD fr []).set m ((S.getD fr []).getD m 0-f))=S1 at*;have hb:=jhs (S:=S1) (i:=to) (by rw[hs1.1];exact h2);have hbl:(S1.getD to []).length=n:=hs1.2 _ hb;have hx1:FL c ((S1.getD to []).getD m 0):=(e1 _ hb m _ (jrl (by rw[hbl];exact hm))).1 rfl;refine⟨?_,fun x hx=>hj _ ha x hx,fun x hx=>(e1 _ hb m x hx).1 rfl⟩;intro q hq i y hy;rcases yo hq with h3 | h3
 ·obtain⟨g1,g2⟩:=e1 q h3 i y hy;by_cases e:i=m
  ·rw[zm (by omega)];exact(hk y (g1 e)).1
  ·have:=g2 e;by_cases hi:i<m
   ·rw[zm hi]at this;rw[zm (by omega)];exact this
   ·rw[zn hi]at this;rw[zn (by omega)];exact this
 ·rw[h3]at hy;by_cases e:i=m
  ·subst e;rw[vm (by rw[hbl];exact hm)]at hy;injection hy with hy;rw[<-hy,zm (by omega)];exact(hk _ hx1).2
  ·rw[yI (fun x=>e x.symm)]at hy;have:=(e1 _ hb i y hy).2 e;by_cases hi:i<m
   ·rw[zm hi]at this;rw[zm (by omega)];exact this
   ·rw[zn hi]at this;rw[zn (by omega)];exact this
end
section
open Go.Abs
attribute [local go_sem] Move.c ints ic big frac fc
theorem set_fc{a:List Rat}{m:Nat}{y:Rat}:(a.map fc).set m (fc y)=(a.set m y).map fc:=by rw[qD]
theorem carN_succ{S:List (List Rat)}{fr to m:Nat}{l:List Rat}{f am bm:Rat}{a b:List Rat}(hf:l[m]? =some f)(ha:(carN S fr to l m)[fr]? =some a)(ham:a[m]? =some am)
  (hb:((carN S fr to l m).set fr (a.set m (am-f)))[to]? =some b) (hbm:b[m]? =some bm):
  carN S fr to l (m+1)=((carN S fr to l m).set fr (a.set m (am-f))).set to (b.set m (bm+f)):=by
 have e0:l.getD m 0=f:=by rw[qi,hf];rfl
 have e1:(carN S fr to l m).getD fr []=a:=by rw[qi,ha];rfl
 have e2:a.getD m 0=am:=by rw[qi,ham];rfl
 have e3:((carN S fr to l m).set fr (a.set m (am-f))).getD to []=b:=by rw[qi,hb];rfl
 have e4:b.getD m 0=bm:=by rw[qi,hbm];rfl
 rw[carN,stepS];rw[e0,e1,e2,e3,e4]
theorem SL.car{q k p n fr to:Nat}{l:List Rat}{S:List (List Rat)}(h:SL (k+(q+q+2)) k 0 S)(hs:Stk p n S)(h1:fr<p)(h2:to<p)(hl:l.length=n)(hlF:∀r∈l,FL q r):
  ∀m,m<=n->SL (k+(q+q+2)) k m (carN S fr to l m)
 | 0,_=>h
 | m+1,hm=>by
  have ih:=SL.car h hs h1 h2 hl hlF m (by omega);have hf:FL q (l.getD m 0):=hlF _ (zk (jrl (l:=l) (m:=m) (by omega)));exact(SL.step ih (Stk.car hs h1 h2 m) h1 h2 (by omega) (k+q+1) (fun x hx=>⟨hx.mono (by omega),(jtu hx hf).mono (by omega)⟩) (fun x hx=>⟨hx.mono (by omega),(jk7 hx hf).mono (by omega)⟩)).1
theorem h_carry(b0:Nat)(bs:List Nat)(S:List (List Rat))(x:Move)(l:List Rat)(p n k q:Nat)(hnd:(b0::bs).Nodup)(hs:Stk p n S)(hbl:bs.length=p)(hp1:p<=1000)(hn1:n<=1000)
  (hfr:0<=x.fr/\x.fr<p) (hto:0<=x.to/\x.to<p) (hl:l.length=n) (hlF:∀r∈l,FL q r) (hS:SL (k+(q+q+2)) k 0 S) (hk:k<=18000000000) (hq:q<=500000000):
  CtrH G.P 70 [.im (.ref b0 36 1 p),.im (.agg x.c),.im (fcs l)] (jbn 35 b0 bs S n)
   (fun r L'=>r= .im (.tup [])/\L'=jbn 35 b0 bs (carN S x.fr.toNat x.to.toNat l n) n):=by
 obtain⟨hfr1,hfr2⟩:=hfr;obtain⟨hto1,hto2⟩:=hto;have q1:x.fr.toNat<p:=by omega
 have q2:x.to.toNat<p:=by omega
 have hp':((p:Nat):Int)=p:=rfl;unfold fcs;have F0:=fun(d:Nat) (h:d<100000)=>jik (t:=35) (b0:=b0) (bs:=bs) (S:=S) (n:=n) h;refine jao [] [] [] Tryz.func70 ?_;simp only[F0,go_sem];refine jap [0,4,8,9,10] (fun m:Nat=>⟨[(0,.im (.ref b0 36 1 p)),(4,.loc 4 6 0 0),(8,.im (.sl (l.map fc))),(9,.im (.int l.length)),(10,.im (.int m))],(4,6,[x.c])::jbn 35 b0 bs (carN S x.fr.toNat x.to.toNat l m) n,[]⟩)
  (fun m=>m<=l.length) (fun m=>l.length-m) 0 ?_ ?_ rfl (zH _) ?_
 ·simp only[Int.natCast_zero,go_sem]
 ·exact SubR.of_eq rfl
 ·intro m hm;by_cases hlt:(m:Int)<l.length
  ·have hd:decide ((m:Int)<l.length)=true:=zh hlt;obtain⟨f,hx⟩:=jbf hlt;have h1:=ja7 (n:=(m:Int)+1) (by omega);have hmn:(m:Int)<n:=by omega
   have kf:=hlF f (zk hx);have hA:=Stk.car (l:=l) hs q1 q2 m;have hAL:=SL.car hS hs q1 q2 hl hlF m (by omega);obtain⟨bf,hbf⟩:∃b,bs[x.fr.toNat]? =some b:=⟨_,ze (by omega)⟩;obtain⟨bt,hbt⟩:∃b,bs[x.to.toNat]? =some b:=⟨_,ze (by omega)⟩;have hcs:=fun a am b bm=>carN_succ (S:=S) (fr:=x.fr.toNat) (to:=x.to.toNat) (am:=am) (bm:=bm) (a:=a) (b:=b) hx;generalize carN S x.fr.toNat x.to.toNat l m=A at*;obtain⟨a,ha⟩:∃a,A[x.fr.toNat]? =some a:=⟨_,ze (by have:=hA.1;omega)⟩;have hal:a.length=n:=hA.2 a (zk ha);obtain⟨am,ham⟩:∃y,a[m]? =some y:=⟨_,ze (by omega)⟩;have kam:FL k am:=by
    have:=hAL a (zk ha) m am ham
    rwa [zn (by omega)]at this
   have s1:=f_sub (kam.mono (by omega:k<=19000000000)) (kf.mono (by omega:q<=19000000000));have ks:=jtu kam kf;have hB:=hA.set (i:=x.fr.toNat) (r:=a.set m (am-f)) (by rw[qa];exact hal);obtain⟨b,hb⟩:∃b,(A.set x.fr.toNat (a.set m (am-f)))[x.to.toNat]? =some b:=⟨_,ze (by have:=hB.1;omega)⟩;have hbL:b.length=n:=hB.2 b (zk hb);obtain⟨bm,hbm⟩:∃y,b[m]? =some y:=⟨_,ze (by omega)⟩;have kbm:FL (k+q+1) bm:=by
    have hset:=SL.set (c:=k+q+1) (i:=x.fr.toNat) (x:=am-f) hAL (zk ha) (ks.mono (by omega)) (fun q hq y hy=>by
     have:=hAL q hq m y hy;rw[zn (by omega)]at this;exact this.mono (by omega))
    exact(hset b (zk hb) m bm hbm).1 rfl
   have s2:=f_add (kbm.mono (by omega:k+q+1<=19000000000)) (kf.mono (by omega:q<=19000000000));have hstep:=hcs a am b bm ha ham hb hbm;have L0:=fun A'=>js8 (t:=35) (b0:=b0) (bs:=bs) (S:=A') (n:=n);have L1:=jr6 (t:=35) (n:=n) hnd hbf ha;have W1:=st_set (t:=35) (n:=n) (q:=a.set m (am-f)) hnd hbf ha;generalize A.set x.fr.toNat (a.set m (am-f))=B at*;have L2:=jr6 (t:=35) (n:=n) hnd hbt hb;have W2:=st_set (t:=35) (n:=n) (q:=b.set m (bm+f)) hnd hbt hb;have E1:=set_fc (a:=a) (m:=m) (y:=am-f);have E2:=set_fc (a:=b) (m:=m) (y:=bm+f);have F1:=fun(A':List (List Rat)) (d:Nat) (h:d<100000)=>jik (t:=35) (b0:=b0) (bs:=bs) (S:=A') (n:=n) h;have G1:=fun(A':List (List Rat)) (d:Nat) (h:d<100000)=>jc7 (t:=35) (b0:=b0) (bs:=bs) (S:=A') (n:=n) h;have K1:=fun(A':List (List Rat)) (d s:Nat) (es:List (List IV)) (h:d<100000)=>jkw (t:=35) (b0:=b0) (bs:=bs) (S:=A') (n:=n) (s:=s) (es:=es) h;generalize am-f=y1 at*;generalize bm+f=y2 at*;simp only[frac,ints]at s1 s2;simp only[fc]at E1 E2;simp only[hd,za,hx,F1,K1,go_sem];refine jam ?_;simp only[hfr1,hfr2,hto1,hto2,hmn,hal,L0,L1,W1,E1,F1,G1,K1,outer,za,hbf,hbt,ham,hx,go_sem];refine ja4 s1 (by decide) ?_
   simp only[hfr1,hfr2,hto1,hto2,hmn,hal,L0,L1,W1,E1,F1,G1,K1,outer,za,hbf,hbt,ham,hx,go_sem];refine jam ?_;simp only[hfr1,hfr2,hto1,hto2,hmn,hbL,L0,L2,W2,E2,F1,G1,K1,outer,za,hbf,hbt,hbm,hx,go_sem];refine ja4 s2 (by decide) ?_;simp only[hfr1,hfr2,hto1,hto2,hmn,hbL,L0,L2,W2,E2,F1,G1,K1,outer,za,hbf,hbt,hbm,hx,go_sem];refine ja6 (m+1) ?_ ?_ rfl (by omega) (by omega)
   ·simp only[h1,Int.natCast_add,go_sem]
   ·rw[hstep];exact jbq (by show Abs.look (_::jbn _ _ _ _ _) 7=none;rw[ja0 _ _ (by decide),jc7 (by decide)]) (SubR.of_eq rfl)
  ·have hd:decide ((m:Int)<l.length)=false:=zw hlt;have:m=n:=by omega
   subst this;simp only[hd,go_sem];refine jfl (jbn 35 b0 bs (carN S x.fr.toNat x.to.toNat l m) m) (fun k' x' h'=> ?_) ?_
   ·have hk':¬k'<100000:=fun h=>by rw[jc7 h]at h';cases h'
    refine⟨by omega,?_⟩;rw[ja0 _ _ (by omega)];exact h'
   ·simp only[go_sem]
end
section
open Go.Abs
attribute [local go_sem] Evid.iv Evid.c Move.c Place.c ints ic big frac fc
structure Raw where
 s:Int
 l:List Int
 t:Int
 m:List Int
def Raw.c(x:Raw):List IV:=[.int x.s,.sl (x.l.map ic),.int x.t,.sl (x.m.map ic)]
attribute [local go_sem] Raw.c
def rowC(l:List Raw):List IV:=[.sl (l.map Raw.c)]
def hist(h:List (List Raw)):IV:= .sl (h.map rowC)
def Raw.ok(x:Raw):Bool:=fracF x.s x.l x.t x.m
def rowOk(e:Evid)(l:List Raw):Bool:=decide ((l.length:Int)=e.mats)&&l.all Raw.ok
def jew(e:Evid)(h:List (List Raw)):Bool:=decide ((h.length:Int)=e.moves.length)&&h.all (rowOk e)
theorem jt0(e:Evid)(h:List (List Raw))(hl:h.length<=100000)(hr:∀l∈h,l.length<=100000)(hx:∀l∈h,∀x∈l,x.l.length<=50000000000/\x.m.length<=50000000000):
  Ctr G.P 68 [e.iv,hist h] (· = .bool (jew e h)):=by
 unfold hist;rcases d0:decide ((h.length:Int)=e.moves.length)with _ | _
 ·have hs:jew e h=false:=by simp only[jew,d0,qL]
  rw[hs];refine ja5 [.tmp 4] Tryz.func68 ?_;unfold Evid.iv Evid.c;simp only[d0,go_sem]
 ·have hs:jew e h=h.all (rowOk e):=by simp only[jew,d0,qu]
  rw[hs];refine ja5 [.tmp 4] Tryz.func68 ?_;unfold Evid.iv Evid.c;simp only[d0,go_sem];refine jan [2,15,16,17] [2] (fun i:Nat=>⟨[(2,.loc 2 8 0 0),(15,.im (.sl (h.map rowC))),(16,.im (.int h.length)),(17,.im (.int i))],[(2,8,[e.c])],[]⟩)
   (fun i=>i<=h.length/\(h.take i).all (rowOk e)=true) (fun i=>h.length-i) 0 ?_ ⟨zH _,rfl⟩ ?_
  ·simp only[Int.natCast_zero,go_sem]
  ·intro i ⟨hi,ha⟩;by_cases hp:(i:Int)<h.length
   ·have hd:decide ((i:Int)<h.length)=true:=zh hp;obtain⟨l,hxl⟩:=jbf hp;have h1:=ja7 (n:=(i:Int)+1) (by omega);have hat:=jcv (f:=rowOk e) hxl;have hll:=hr l (zk hxl);have hxx:=hx l (zk hxl);rcases d1:decide ((l.length:Int)=e.mats)with _ | _
    ·have hno:rowOk e l=false:=by simp only[rowOk,d1,qL]
     rw[jfz hxl hno];simp only[hd,za,hxl,rowC,d1,go_sem]
    ·simp only[hd,za,hxl,rowC,d1,go_sem];refine jan [2,15,16,17,26,27,28] [2] (fun j:Nat=>⟨[(2,.loc 2 8 0 0),(15,.im (.sl (h.map rowC))),(16,.im (.int h.length)),(17,.im (.int i)),(26,.im (.sl (l.map Raw.c))),(27,.im (.int l.length)),(28,.im (.int j))],[(2,8,[e.c])],[]⟩)
      (fun j=>j<=l.length/\(l.take j).all Raw.ok=true) (fun j=>l.length-j) 0 ?_ ⟨zH _,rfl⟩ ?_
     ·simp only[Int.natCast_zero,go_sem]
     ·intro j ⟨hj,hb⟩;by_cases hq:(j:Int)<l.length
      ·have hd2:decide ((j:Int)<l.length)=true:=zh hq;obtain⟨y,hy⟩:=jbf hq;have h2:=ja7 (n:=(j:Int)+1) (by omega);have hbt:=jcv (f:=Raw.ok) hy;obtain⟨y1,y2⟩:=hxx y (zk hy);have ht:=jks y.s y.t y.l y.m y1 y2;simp only[ints]at ht;rcases ok:y.ok with _ | _
       ·have hno:rowOk e l=false:=by simp only[rowOk,jfz hy ok,yV]
        rw[show fracF y.s y.l y.t y.m=false from ok]at ht;rw[jfz hxl hno];simp only[hd2,za,hy,go_sem];refine ja1 ht ?_;simp only[go_sem]
       ·rw[show fracF y.s y.l y.t y.m=true from ok]at ht;simp only[hd2,za,hy,go_sem];refine ja1 ht ?_;simp only[go_sem];refine jab (j+1) ?_ (by omega) ⟨by omega,by rw[hbt,hb,ok];rfl⟩;simp only[h2,Int.natCast_add,go_sem]
      ·have hd2:decide ((j:Int)<l.length)=false:=zw hq;rw[zu (by omega)]at hb;have hyes:rowOk e l=true:=by simp only[rowOk,d1,hb,Bool.and_self]
       simp only[hd2,go_sem];refine jab (i+1) ?_ (by omega) ⟨by omega,by rw[hat,ha,hyes];rfl⟩;simp only[h1,Int.natCast_add,go_sem]
   ·have hd:decide ((i:Int)<h.length)=false:=zw hp;rw[zu (by omega)]at ha;rw[ha];simp only[hd,go_sem]
def stC(r:List Rat):List IV:=[.sl (r.map fc)]
def gtP(p:Rat×Rat):Bool:=decide (cmpR p.1 p.2=1)
def ltP(p:Rat×Rat):Bool:=decide (cmpR p.1 p.2= -1)
def jg2(kind:Int)(a:List Rat)(x:Move)(l:List Rat):Int:=if kind=0 then 0 else if(l.zip a).any gtP=true then 4 else if((l.zip a).any ltP&&x.all)=true then 7 else 0
end
section
open Go.Abs
attribute [local go_sem] Evid.iv Evid.c Place.c ints ic big frac fc
theorem jlk{bs:List Nat}{S:List (List Rat)}{d:Nat}(h:d<100000):Abs.look (inner bs S) d=none:=je1 fun b _=>by unfold hp;omega
theorem jqe{bs:List Nat}{S:List (List Rat)}{b:Nat}(h:b∉bs):Abs.look (inner bs S) (hp b)=none:=je1 fun c hc e=>h ((hp_inj.1 e)▸hc)
theorem inner_filter{bs:List Nat}{S:List (List Rat)}{d:Nat}(h:d<100000):(inner bs S).filter (fun p=>p.1 !=d)=inner bs S:=jlr (jlk h)
theorem inner_setlow{bs:List Nat}{S:List (List Rat)}{d s:Nat}{es:List (List IV)}(h:d<100000):(inner bs S).map (fun p=>if p.1=d then(p.1,s,es)else p)=inner bs S:=jgj (jlk h)
theorem jk1{bs:List Nat}{S:List (List Rat)}{b s:Nat}{es:List (List IV)}(h:b∉bs):(inner bs S).map (fun p=>if p.1=hp b then(p.1,s,es)else p)=inner bs S:=jgj (jqe h)
def z4:List IV:=[.int 0,.emp,.int 0,.emp]
def nRow(t n P:Nat)(bs:List Nat):List (List IV):=outer t n bs++List.replicate (P-bs.length) [.emp]
def nIn(n:Nat)(z:Rat)(bs:List Nat):Abs.Rows:=inner bs (List.replicate bs.length (List.replicate n z))
def fRow(n:Nat)(z:Rat)(m:Nat):List (List IV):=List.replicate m (fc z)++List.replicate (n-m) z4
theorem set_app{α:Type}(l:List α)(k:Nat)(x y:α)(h:0<k):(l++List.replicate k x).set l.length y=(l++[y])++List.replicate (k-1) x:=by
 obtain⟨j,rfl⟩:∃j,k=j+1:=⟨k-1,by omega⟩;rw[List.replicate_succ,jK _ _ (zt _),j7,List.set_cons_zero,zS];rfl
theorem get_app{α:Type}(l:List α)(k:Nat)(x:α)(h:0<k):(l++List.replicate k x)[l.length]? =some x:=by
 rw[zL (zt _),j7,qF,zm h]
theorem jl7{t n:Nat}{bs:List Nat}:(outer t n bs).length=bs.length:=by rw[outer,zq]
theorem nRow_get{t n P:Nat}{bs:List Nat}(h:bs.length<P):(nRow t n P bs)[bs.length]? =some [.emp]:=by
 have:=get_app (outer t n bs) (P-bs.length) [IV.emp] (by omega)
 rwa [jl7]at this
theorem nRow_set{t n P b:Nat}{bs:List Nat}(h:bs.length<P):(nRow t n P bs).set bs.length [.ref b t 4 n]=nRow t n P (bs++[b]):=by
 have:=set_app (outer t n bs) (P-bs.length) [IV.emp] [.ref b t 4 n] (by omega);rw[jl7]at this;rw[nRow,this,nRow,zG,List.length_singleton,Nat.sub_sub];simp only[outer,qf,zB,zF]
theorem nRow_last{t n P b:Nat}{bs:List Nat}:(nRow t n P (bs++[b]))[bs.length]? =some [.ref b t 4 n]:=by
 rw[nRow,zM (by rw[jl7,zG,List.length_singleton];omega)];simp[outer]
theorem fRow_zero{n:Nat}{z:Rat}:List.replicate n z4=fRow n z 0:=by simp[fRow]
theorem fRow_get{n m:Nat}{z:Rat}(h:m<n):(fRow n z m)[m]? =some z4:=by
 have:=get_app (List.replicate m (fc z)) (n-m) z4 (by omega)
 rwa [zT]at this
theorem fRow_set{n m:Nat}{z:Rat}(h:m<n):(fRow n z m).set m (fc z)=fRow n z (m+1):=by
 have:=set_app (List.replicate m (fc z)) (n-m) z4 (fc z) (by omega);rw[zT,<-List.replicate_succ']at this;rw[fRow,this,fRow,Nat.sub_sub]
theorem fRow_end{n:Nat}{z:Rat}:fRow n z n=(List.replicate n z).map fc:=by simp[fRow]
theorem jn5{b:Nat}{r:List Rat}:∀{bs:List Nat},inner (bs++[b]) (List.replicate (bs.length+1) r)=inner bs (List.replicate bs.length r)++[(hp b,4,r.map fc)]
 | []=>rfl
 | c::bs=>by
  have:=jn5 (b:=b) (r:=r) (bs:=bs);rw[List.length_cons,List.replicate_succ,List.cons_append,inner,this,List.replicate_succ,inner,List.cons_append]
theorem jsl{n b:Nat}{z:Rat}{bs:List Nat}{k:Nat}{x:Nat×List (List IV)}(h:Abs.look (nIn n z (bs++[b])) k=some x):(k=hp b/\x=(4,(List.replicate n z).map fc))\/Abs.look (nIn n z bs) k=some x:=by
 rw[nIn,zG,List.length_singleton,jn5,look_app]at h;split at h
 ·rename_i y hy;right;rw[nIn,hy];exact h
 ·left;by_cases e:k=hp b
  ·subst e;rw[ja2]at h;exact⟨rfl,(yE h).symm⟩
  ·rw[ja0 _ _ e]at h;cases h
theorem h_none(e:Evid)(hp1:e.places.length<=1000)(hm1:0<=e.mats)(hm2:e.mats<=1000):
  CtrH G.P 69 [.im e.iv] [] (fun r L'=>∃b0 bs,r= .im (.ref b0 36 1 e.places.length)/\(b0::bs).Nodup/\bs.length=e.places.length/\
   L'=jbn 35 b0 bs (List.replicate e.places.length (List.replicate e.mats.toNat ((0:Int):Rat))) e.mats.toNat):=by
 have o1:=jcb 0 (by omega);generalize ((0:Int):Rat)=z at*;simp only[frac,ints]at o1;have hp2:e.places.length<=16777216:=by omega
 refine jao [9,19] [] [.tmp 2] Tryz.func69 ?_;unfold Evid.iv Evid.c;simp only[hp2,go_sem];refine⟨by omega,je5 (fun b0 hb0=> ?_)⟩;clear hb0;simp only[zT,go_sem];refine jap [1,3,11,12] (fun bs:List Nat=>⟨[(1,.loc 1 8 0 0),(3,.im (.ref b0 36 1 e.places.length)),(11,.im (.int e.places.length)),(12,.im (.int bs.length))],
   (hp b0,1,nRow 35 e.mats.toNat e.places.length bs)::(1,8,[e.c])::nIn e.mats.toNat z bs,[]⟩)
  (fun bs=>bs.length<=e.places.length/\(b0::bs).Nodup) (fun bs=>e.places.length-bs.length) [] ?_ ?_ rfl ⟨zH _,by simp⟩ ?_
 ·simp only[Int.natCast_zero,go_sem]
 ·exact SubR.of_eq rfl
 ·intro bs ⟨hi,hnd⟩;by_cases hlt:(bs.length:Int)<e.places.length
  ·have hd:decide ((bs.length:Int)<e.places.length)=true:=zh hlt;have h1:=ja7 (n:=(bs.length:Int)+1) (by omega);have hi':(bs.length:Int)<e.places.length:=hlt;have K1:=fun(bs:List Nat) (S:List (List Rat)) (d:Nat) (h:d<100000)=>inner_filter (bs:=bs) (S:=S) h;have K2:=fun(bs:List Nat) (S:List (List Rat)) (d s:Nat) (es:List (List IV)) (h:d<100000)=>inner_setlow (bs:=bs) (S:=S) (s:=s) (es:=es) h;have K3:=fun(bs:List Nat) (S:List (List Rat)) (d:Nat) (h:d<100000)=>jlk (bs:=bs) (S:=S) h;obtain⟨n,hn⟩:∃n:Nat,e.mats.toNat=n:=⟨_,rfl⟩;have hmn:e.mats=(n:Int):=by omega
   rw[hn];simp only[hd,nIn,K1,K2,hn,go_sem];refine⟨hm1,by omega,je5 (fun b hb=> ?_)⟩;replace hb:Abs.look ((hp b0,1,nRow 35 n e.places.length bs)::(1,8,[e.c])::nIn n z bs) (hp b)=none:=hb;have hne:b≠b0:=fun h=>by rw[h,ja2]at hb;cases hb
   rw[ja0 _ _ (fun h=>hne (hp_inj.1 h)),ja0 _ _ (by unfold hp;omega)]at hb;have hnb:b∉bs:=fun h=>by
    obtain⟨i,hi2,he⟩:=j4 h;have:=jn6 (bs:=bs) (S:=List.replicate bs.length (List.replicate n z)) (i:=i) (b:=b) (r:=List.replicate n z) (qK.1 hnd).2 (by rw[ze hi2,he]) (by rw[qF,zm hi2]);rw[nIn,this]at hb;cases hb
   have hnb0:b0∉bs:=(qK.1 hnd).1;have e1:(b=b0)=False:=eq_false hne;have e2:(b0=b)=False:=eq_false fun h=>hne h.symm;have K4:=fun(S:List (List Rat)) (s:Nat) (es:List (List IV))=>jk1 (bs:=bs) (S:=S) (b:=b) (s:=s) (es:=es) hnb;have K5:=fun(S:List (List Rat)) (s:Nat) (es:List (List IV))=>jk1 (bs:=bs) (S:=S) (b:=b0) (s:=s) (es:=es) hnb0;have g1:=nRow_get (t:=35) (n:=n) (P:=e.places.length) (bs:=bs) (by omega);have g2:=nRow_set (t:=35) (n:=n) (P:=e.places.length) (bs:=bs) (b:=b) (by omega);have g3:=nRow_last (t:=35) (n:=n) (P:=e.places.length) (bs:=bs) (b:=b);clear hb;simp only[zT,K1,K2,K3,K4,K5,e1,e2,g1,g2,g3,hi',hn,go_sem];refine jap [1,3,4,11,12,25,26] (fun m:Nat=>⟨[(1,.loc 1 8 0 0),(3,.im (.ref b0 36 1 e.places.length)),(4,.im (.int bs.length)),(11,.im (.int e.places.length)),(12,.im (.int bs.length)),(25,.im (.int n)),(26,.im (.int m))],
     (hp b,4,fRow n z m)::(hp b0,1,nRow 35 n e.places.length (bs++[b]))::(1,8,[e.c])::nIn n z bs,[]⟩)
    (fun m=>m<=n) (fun m=>n-m) 0 ?_ ?_ rfl (zH _) ?_
   ·simp only[Int.natCast_zero,zT,hn,hmn,go_sem]
   ·rw[<-fRow_zero];exact SubR.of_eq rfl
   ·intro m hm;by_cases hq:(m:Int)<n
    ·have hd2:decide ((m:Int)<n)=true:=zh hq;have h2:=ja7 (n:=(m:Int)+1) (by omega);have f1:=fRow_get (n:=n) (m:=m) (z:=z) (by omega);have f2:=fRow_set (n:=n) (m:=m) (z:=z) (by omega);simp only[fc]at f2;simp only[z4]at f1;simp only[hd2,nIn,go_sem];refine jam ?_;simp only[zT,K1,K2,K3,K4,K5,e1,e2,g3,hi',hq,f1,f2,go_sem];refine ja4 o1 (by decide) ?_;simp only[zT,K1,K2,K3,K4,K5,e1,e2,g3,hi',hq,f1,f2,go_sem];refine ja6 (m+1) ?_ ?_ rfl (by omega) (by omega)
     ·simp only[h2,Int.natCast_add,go_sem]
     ·exact SubR.of_eq rfl
    ·have hd2:decide ((m:Int)<n)=false:=zw hq;have hmn':m=n:=by omega
     subst hmn';simp only[hd2,go_sem];refine ja6 (bs++[b]) ?_ ?_ rfl ?_ ⟨?_,?_⟩
     ·simp only[h1,Int.natCast_add,zG,go_sem]
     ·intro k x hk;show Abs.look ((hp b,4,fRow m z m)::(hp b0,1,nRow 35 m e.places.length (bs++[b]))::(1,8,[e.c])::nIn m z bs) k=some x;replace hk:Abs.look ((hp b0,1,nRow 35 m e.places.length (bs++[b]))::(1,8,[e.c])::nIn m z (bs++[b])) k=some x:=hk;by_cases k0:k=hp b0
      ·rw[ja0 _ _ (fun h=>hne (hp_inj.1 (h.symm.trans k0)))];rw[k0,ja2]at hk⊢;exact hk
      ·rw[ja0 _ _ k0]at hk;by_cases k1:k=1
       ·rw[ja0 _ _ (fun h=>by unfold hp at h;omega),ja0 _ _ k0];rw[k1,ja2]at hk⊢;exact hk
       ·rw[ja0 _ _ k1]at hk;by_cases kb:k=hp b
        ·rcases jsl hk with ⟨_,hx⟩ | hx
         ·rw[kb,ja2,hx,fRow_end]
         ·rw[kb,nIn,jqe hnb]at hx;cases hx
        ·rw[ja0 _ _ kb,ja0 _ _ k0,ja0 _ _ k1];rcases jsl hk with ⟨hx,_⟩ | hx
         ·exact absurd hx kb
         ·exact hx
     ·show e.places.length-(bs++[b]).length<e.places.length-bs.length;rw[zG,List.length_singleton];omega
     ·show(bs++[b]).length<=e.places.length;rw[zG,List.length_singleton];omega
     ·rw[qK,List.nodup_append];have:=qK.1 hnd;refine⟨by simp[this.1,hne.symm],this.2,by simp,?_⟩;intro c hc d hd' h;rw[zC]at hd';exact hnb (by rw[<-hd',<-h];exact hc)
  ·have hd:decide ((bs.length:Int)<e.places.length)=false:=zw hlt;have hle:bs.length=e.places.length:=by omega
   simp only[hd,go_sem];refine jfl (jbn 35 b0 bs (List.replicate e.places.length (List.replicate e.mats.toNat z)) e.mats.toNat) (fun k' x' h'=> ?_) ?_
   ·have hk':¬k'<100000:=fun h=>by rw[jc7 h]at h';cases h'
    refine⟨by omega,?_⟩;show Abs.look ((hp b0,1,nRow _ _ _ bs)::(1,8,_)::nIn _ z bs) k'=some x';rw[show nRow 35 e.mats.toNat e.places.length bs=outer 35 e.mats.toNat bs by rw[nRow,hle,j7,List.replicate_zero,zX]];rw[nIn,hle];unfold jbn at h';by_cases hk0:k'=hp b0
    ·rw[hk0,ja2]at h'⊢;exact h'
    ·rw[ja0 _ _ hk0]at h'⊢;rw[ja0 _ _ (by omega)];exact h'
   ·simp only[go_sem];exact⟨b0,bs,rfl,hnd,hle,rfl⟩
end
section
open Go.Abs
theorem raw_of{x:Raw}(h:x.ok=true):∃r:Rat,x.c=fc r/\x.l=dig r.num.natAbs/\x.m=dig (r.den:Int).natAbs:=by
 obtain⟨r,e1,e2,e3,e4⟩:=frac_of h;exact⟨r,by rw[Raw.c,fc,e1,e2,e3,e4],e2,e4⟩
theorem jpz{k:Nat}:∀{l:List Raw},l.all Raw.ok=true->(∀x∈l,x.l.length<=k/\x.m.length<=k)->∃rs:List Rat,rs.length=l.length/\l.map Raw.c=rs.map fc/\∀r∈rs,FL k r
 | [],_,_=>⟨[],rfl,rfl,by simp⟩
 | x::l,h,hk=>by
  rw[List.all_cons,zD]at h;obtain⟨rs,e1,e2,e3⟩:=jpz h.2 (fun y hy=>hk y (by simp[hy]));obtain⟨r,g1,g2,g3⟩:=raw_of h.1;obtain⟨k1,k2⟩:=hk x (by simp);refine⟨r::rs,by simp[e1],by rw[zB,zB,g1,e2],fun q hq=> ?_⟩;rcases zP.1 hq with rfl | hq
  ·rw[g2]at k1;rw[g3,Int.natAbs_natCast]at k2;exact⟨k1,k2⟩
  ·exact e3 q hq
theorem hist_of{e:Evid}{k:Nat}:∀{h:List (List Raw)},h.all (rowOk e)=true->(∀l∈h,∀x∈l,x.l.length<=k/\x.m.length<=k)->
  ∃H:List (List Rat),H.length=h.length/\h.map rowC=H.map stC/\∀l∈H,(l.length:Int)=e.mats/\∀r∈l,FL k r
 | [],_,_=>⟨[],rfl,rfl,by simp⟩
 | l::h,ho,hk=>by
  rw[List.all_cons,zD,rowOk,zD,zW]at ho;obtain⟨H,e1,e2,e3⟩:=hist_of ho.2 (fun y hy=>hk y (by simp[hy]));obtain⟨rs,g1,g2,g3⟩:=jpz ho.1.2 (hk l (by simp));refine⟨rs::H,by simp[e1],by rw[zB,zB,e2,rowC,stC,g2],fun q hq=> ?_⟩;rcases zP.1 hq with rfl | hq
  ·exact⟨by rw[g1];exact ho.1.1,g3⟩
  ·exact e3 q hq
def stN(ms:List Move)(H:List (List Rat))(n:Nat)(S:List (List Rat)):Nat->List (List Rat)
 | 0=>S
 | i+1=>match ms[i]?,H[i]? with
  | some x,some l=>carN (stN ms H n S i) x.fr.toNat x.to.toNat l n
  | _,_=>stN ms H n S i
theorem jnw{ms:List Move}{H:List (List Rat)}{n i:Nat}{S:List (List Rat)}{x:Move}{l:List Rat}(hx:ms[i]? =some x)(hl:H[i]? =some l):
  stN ms H n S (i+1)=carN (stN ms H n S i) x.fr.toNat x.to.toNat l n:=by rw[stN,hx,hl]
theorem SL.all{k j p n:Nat}{S:List (List Rat)}(hs:Stk p n S)(h:SL k j n S):∀r∈S,∀x∈r,FL k x:=by
 intro r hr x hx;obtain⟨i,hi,he⟩:=j4 hx;have:=h r hr i x (by rw[ze hi,he])
 rwa [zm (by rw[<-hs.2 r hr];exact hi)]at this
theorem SL.of_all{k j:Nat}{S:List (List Rat)}(h:∀r∈S,∀x∈r,FL k x):SL j k 0 S:=fun r hr i x hx=>by
 rw[zn (by omega)];exact h r hr x (zk hx)
theorem stN_ok{ms:List Move}{H:List (List Rat)}{p n k q:Nat}{S:List (List Rat)}(hs:Stk p n S)(hS:∀r∈S,∀x∈r,FL k x)(hm:∀x∈ms,(0<=x.fr/\x.fr<p)/\(0<=x.to/\x.to<p))
  (hH:∀l∈H,l.length=n/\∀r∈l,FL q r):∀i,Stk p n (stN ms H n S i)/\∀r∈stN ms H n S i,∀x∈r,FL (k+(q+q+2)*i) x
 | 0=>⟨hs,hS⟩
 | i+1=>by
  obtain⟨h1,h2⟩:=stN_ok hs hS hm hH i;cases hx:ms[i]? with
  | none=>
   have e:stN ms H n S (i+1)=stN ms H n S i:=by rw[stN,hx]
   rw[e];exact⟨h1,fun r hr x hx=>(h2 r hr x hx).mono (by rw[Nat.mul_succ];omega)⟩
  | some x=>
   cases hl:H[i]? with
   | none=>
    have e:stN ms H n S (i+1)=stN ms H n S i:=by rw[stN,hx,hl]
    rw[e];exact⟨h1,fun r hr x hx=>(h2 r hr x hx).mono (by rw[Nat.mul_succ];omega)⟩
   | some l=>
    rw[jnw hx hl];obtain⟨⟨a1,a2⟩,b1,b2⟩:=hm x (zk hx);obtain⟨c1,c2⟩:=hH l (zk hl);have q1:x.fr.toNat<p:=by omega
    have q2:x.to.toNat<p:=by omega
    have h3:=SL.car (k:=k+(q+q+2)*i) (SL.of_all h2) h1 q1 q2 c1 c2 n (zt _);have h4:=Stk.car (l:=l) h1 q1 q2 n;exact⟨h4,fun r hr y hy=>(SL.all h4 h3 r hr y hy).mono (by rw[Nat.mul_succ];omega)⟩
def jh0(e:Evid)(H:List (List Rat))(S:List (List Rat)):Nat->List Move->Int
 | _,[]=>0
 | i,x::ms=>match H[i]? with
  | none=>0
  | some l=>
   if l.any negF=true then 3
   else if jg2 ((e.places[x.fr.toNat]?.map Place.kind).getD 0) ((stN e.moves H e.mats.toNat S i).getD x.fr.toNat []) x l≠0 then jg2 ((e.places[x.fr.toNat]?.map Place.kind).getD 0) ((stN e.moves H e.mats.toNat S i).getD x.fr.toNat []) x l
   else if jdd e x (sumF l)=false then 24
   else if pureF e i l (sumF l)=false then 13
   else jh0 e H S (i+1) ms
