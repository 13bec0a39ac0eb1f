/- A part of the proof. No further condition. -/
import Derived.Test.YthahgoopboilkaaGreatKE37
set_option linter.all false
set_option maxRecDepth 10000000
set_option maxHeartbeats 16000000
namespace Go.Proofs.YthahgoopboilkaaGreat
section
open Go.Abs
attribute [local go_sem] Evid.iv Evid.c Move.c Cert.c Recall.c Purity.c ints ic big frac fc
def jd6(e:Evid)(x:Move)(mass:Rat):Bool:=decide (x.scale= -1) || match ivlF e.certs e.recalls x.scale x.reading x.day with
 | none=>true
 | some (lo,hi)=>decide (cmpR lo mass<=0)&&decide (cmpR mass hi<=0)
theorem h_weighed(e:Evid)(x:Move)(mass:Rat)(hm:FL 19000000000 mass)(l1:e.certs.length<=100000)(l2:e.recalls.length<=100000):
  Ctr G.P 44 [e.iv,.agg x.c,frac mass] (· = .bool (jd6 e x mass)):=by
 rcases hs:decide (x.scale= -1)with _ | _
 ·have hi:=h_ivl e.certs e.recalls x.scale x.reading x.day l1 l2;rcases hv:ivlF e.certs e.recalls x.scale x.reading x.day with _ | ⟨lo,hi'⟩
  ·rw[hv]at hi;have hr:jd6 e x mass=true:=by simp[jd6,hv]
   rw[hr];simp only[ivlIV,zf]at hi;refine ja5 [.tmp 6] Tryz.func44 ?_;unfold Evid.iv Evid.c Move.c;simp only[hs,go_sem];refine ja1 hi ?_;simp only[go_sem]
  ·rw[hv]at hi;obtain⟨k1,k2⟩:=FL_ivl hv;have c1:=f_cmp (k1.mono (by omega:14<=19000000000)) hm;have c2:=f_cmp hm (k2.mono (by omega:14<=19000000000));have hr:jd6 e x mass=(decide (cmpR lo mass<=0)&&decide (cmpR mass hi'<=0)):=by simp only[jd6,hv,hs,yk]
   rw[hr];generalize cmpR lo mass=m1 at*;generalize cmpR mass hi'=m2 at*;simp only[ivlIV,frac,ints]at hi c1 c2⊢;rcases d1:decide (m1<=0)with _ | _
   ·refine ja5 [.tmp 6] Tryz.func44 ?_;unfold Evid.iv Evid.c Move.c;simp only[hs,go_sem];refine ja1 hi ?_;simp only[go_sem];refine ja1 c1 ?_;simp only[d1,go_sem]
   ·refine ja5 [.tmp 6] Tryz.func44 ?_;unfold Evid.iv Evid.c Move.c;simp only[hs,go_sem];refine ja1 hi ?_;simp only[go_sem];refine ja1 c1 ?_;simp only[d1,go_sem];refine ja1 c2 ?_;simp only[d1,go_sem]
 ·have hr:jd6 e x mass=true:=by simp only[jd6,hs,vj]
  rw[hr];refine ja5 [.tmp 6] Tryz.func44 ?_;unfold Evid.iv Evid.c Move.c;simp only[hs,go_sem]
def keepF(l:List Rat)(mass:Rat)(p:Purity):Bool:=match l[p.mat.toNat]? with
 | none=>true
 | some f=> !(decide (cmpR (((1000:Int):Rat)*f) ((p.least:Rat)*mass)<0) || decide (0<cmpR (((1000:Int):Rat)*f) ((p.most:Rat)*mass)))
def pureP(move:Int)(l:List Rat)(mass:Rat)(p:Purity):Bool:= !decide (p.move=move) || keepF l mass p
def pureF(e:Evid)(move:Int)(l:List Rat)(mass:Rat):Bool:=e.purs.all (pureP move l mass)
theorem h_pure(e:Evid)(move:Int)(l:List Rat)(mass:Rat)(hl:e.purs.length<=100000)(hm:FL 9000000000 mass)(hf:∀r∈l,FL 9000000000 r)
  (hp:∀p∈e.purs,(0<=p.mat/\p.mat<l.length)/\(-9223372036854775808<=p.least/\p.least<=9223372036854775807)/\(-9223372036854775808<=p.most/\p.most<=9223372036854775807)):
  Ctr G.P 45 [e.iv,.int move,fcs l,frac mass] (· = .bool (pureF e move l mass)):=by
 unfold fcs pureF;have hmc:frac mass= .agg (fc mass):=rfl;rw[hmc];refine ja5 [.tmp 8] Tryz.func45 ?_;unfold Evid.iv Evid.c;simp only[go_sem];refine jal [1,2,4,7,18,19,20] [4,7] (fun i:Nat=>⟨[(1,.im (.int move)),(2,.im (.sl (l.map fc))),(4,.loc 4 8 0 0),(7,.loc 7 4 0 0),(18,.im (.sl (e.purs.map Purity.c))),(19,.im (.int e.purs.length)),(20,.im (.int i))],[(7,4,[fc mass]),(4,8,[e.c])],[]⟩)
  (fun i=>i<=e.purs.length/\(e.purs.take i).all (pureP move l mass)=true) (fun i=>e.purs.length-i) 0 ?_ ⟨zE _,rfl⟩ ?_
 ·simp only[Int.natCast_zero,go_sem]
 ·intro i ⟨hi,ha⟩;by_cases hpl:(i:Int)<e.purs.length
  ·have hd:decide ((i:Int)<e.purs.length)=true:=za hpl;obtain⟨x,hx⟩:=jby hpl;have h1:=ja9 (n:=(i:Int)+1) (by omega);have hat:=jc4 (f:=pureP move l mass) hx;rcases dm:decide (x.move=move)with _ | _
   ·have hpp:pureP move l mass x=true:=by simp only[pureP,dm,Bool.not_false,vj]
    simp only[hd,ze,hx,dm,go_sem];refine jab (i+1) ?_ (by omega) ⟨by omega,by rw[hat,ha,hpp];rfl⟩;simp only[h1,Int.natCast_add,go_sem]
   ·obtain⟨⟨hm1,hm2⟩,hb1,hb2⟩:=hp x (zk hx);obtain⟨f,hf'⟩:∃f,l[x.mat.toNat]? =some f:=⟨_,zh (by omega)⟩;have kf:=hf f (zk hf');have k0:FL 4 ((1000:Int):Rat):=jb3 (by omega);have k1:FL 4 (x.least:Rat):=jb3 hb1;have k2:FL 4 (x.most:Rat):=jb3 hb2;have i1:=jbt 1000 (by omega);have i2:=jbt x.least hb1;have i3:=jbt x.most hb2;have m1:=f_mul (k0.mono (by omega:4<=19000000000)) (kf.mono (by omega:9000000000<=19000000000));have m2:=f_mul (k1.mono (by omega:4<=19000000000)) (hm.mono (by omega:9000000000<=19000000000));have m3:=f_mul (k2.mono (by omega:4<=19000000000)) (hm.mono (by omega:9000000000<=19000000000));have c1:=f_cmp ((jh4 k0 kf).mono (by omega)) ((jh4 k1 hm).mono (by omega));have c2:=f_cmp ((jh4 k0 kf).mono (by omega)) ((jh4 k2 hm).mono (by omega));have hpp:pureP move l mass x= !(decide (cmpR (((1000:Int):Rat)*f) ((x.least:Rat)*mass)<0) || decide (0<cmpR (((1000:Int):Rat)*f) ((x.most:Rat)*mass))):=by
     simp only[pureP,dm,keepF,hf',jL,yk]
    have hf:=hf';generalize ((1000:Int):Rat)=q0 at*;generalize (x.least:Rat)=q1 at*;generalize (x.most:Rat)=q2 at*;generalize q0*f=p0 at*;generalize q1*mass=p1 at*;generalize q2*mass=p2 at*;generalize cmpR p0 p1=s1 at*;generalize cmpR p0 p2=s2 at*;simp only[frac,ints]at i1 i2 i3 m1 m2 m3 c1 c2;rcases d1:decide (s1<0)with _ | _
    ·rcases d2:decide (0<s2)with _ | _
     ·rw[d1,d2]at hpp;simp only[hd,ze,hx,dm,go_sem];refine jaf ?_;simp only[go_sem];refine ja4 i1 (by decide) ?_;simp only[hm1,hm2,hf,ze,go_sem];refine ja4 m1 (by decide) ?_;simp only[go_sem];refine jaf ?_;simp only[go_sem];refine ja4 i2 (by decide) ?_;simp only[go_sem];refine ja4 m2 (by decide) ?_;simp only[go_sem];refine jaf ?_;simp only[go_sem];refine ja4 i3 (by decide) ?_;simp only[go_sem];refine ja4 m3 (by decide) ?_;simp only[go_sem];refine ja1 c1 ?_;simp only[d1,go_sem];refine ja1 c2 ?_;simp only[d2,go_sem];refine jab (i+1) ?_ (by omega) ⟨by omega,by rw[hat,ha,hpp];rfl⟩;simp only[h1,Int.natCast_add,go_sem]
     ·rw[d1,d2]at hpp;rw[jes hx hpp];simp only[hd,ze,hx,dm,go_sem];refine jaf ?_;simp only[go_sem];refine ja4 i1 (by decide) ?_;simp only[hm1,hm2,hf,ze,go_sem];refine ja4 m1 (by decide) ?_;simp only[go_sem];refine jaf ?_;simp only[go_sem];refine ja4 i2 (by decide) ?_;simp only[go_sem];refine ja4 m2 (by decide) ?_;simp only[go_sem];refine jaf ?_;simp only[go_sem];refine ja4 i3 (by decide) ?_;simp only[go_sem];refine ja4 m3 (by decide) ?_;simp only[go_sem];refine ja1 c1 ?_;simp only[d1,go_sem];refine ja1 c2 ?_;simp only[d2,go_sem]
    ·rw[d1,vj]at hpp;rw[jes hx hpp];simp only[hd,ze,hx,dm,go_sem];refine jaf ?_;simp only[go_sem];refine ja4 i1 (by decide) ?_;simp only[hm1,hm2,hf,ze,go_sem];refine ja4 m1 (by decide) ?_;simp only[go_sem];refine jaf ?_;simp only[go_sem];refine ja4 i2 (by decide) ?_;simp only[go_sem];refine ja4 m2 (by decide) ?_;simp only[go_sem];refine jaf ?_;simp only[go_sem];refine ja4 i3 (by decide) ?_;simp only[go_sem];refine ja4 m3 (by decide) ?_;simp only[go_sem];refine ja1 c1 ?_;simp only[d1,go_sem]
  ·have hd:decide ((i:Int)<e.purs.length)=false:=zq hpl;rw[zt (by omega)]at ha;rw[ha];simp only[hd,go_sem]
end
section
open Go.Abs
def inner:List Nat->List (List Rat)->Abs.Rows
 | b::bs,r::S=>(hp b,4,r.map fc)::inner bs S
 | _,_=>[]
def outer(t:Nat)(n:Nat)(bs:List Nat):List (List IV):=bs.map fun b=>[.ref b t 4 n]
def jbi(t b0:Nat)(bs:List Nat)(S:List (List Rat))(n:Nat):Abs.Rows:=(hp b0,1,outer t n bs)::inner bs S
theorem jdw{bs:List Nat}{S:List (List Rat)}{k:Nat}(h:∀b∈bs,k≠hp b):Abs.look (inner bs S) k=none:=by
 induction bs generalizing S with
 | nil=>cases S<;>rfl
 | cons b bs ih=>
  cases S with
  | nil=>rfl
  | cons r S=>
   rw[inner,ja0 _ _ (h b (by simp))];exact ih fun c hc=>h c (by simp[hc])
theorem jmu{bs:List Nat}{S:List (List Rat)}{i b:Nat}{r:List Rat}(hn:bs.Nodup)(hb:bs[i]? =some b)(hr:S[i]? =some r):Abs.look (inner bs S) (hp b)=some (4,r.map fc):=by
 induction bs generalizing S i with
 | nil=>cases hb
 | cons c bs ih=>
  cases S with
  | nil=>cases hr
  | cons q S=>
   rw[qJ]at hn;cases i with
   | zero=>
    simp only[List.getElem?_cons_zero,qz]at hb hr;subst hb hr;rw[inner,ja2]
   | succ i=>
    rw[List.getElem?_cons_succ]at hb hr;have hne:b≠c:=fun e=>hn.1 (e▸zk hb);rw[inner,ja0 _ _ (fun e=>hne (hp_inj.1 e))];exact ih hn.2 hb hr
theorem jg6{R:Abs.Rows}{k s:Nat}{es:List (List IV)}(h:Abs.look R k=none):setRow R k s es=R:=by
 induction R with
 | nil=>rfl
 | cons p R ih=>
  obtain⟨j,v⟩:=p;by_cases e:k=j
  ·subst e;rw[ja2]at h;cases h
  ·rw[ja0 _ _ e]at h;have:=ih h;simp only[setRow,zl]at this⊢;rw[this,zn (fun x=>e x.symm)]
theorem inner_set{bs:List Nat}{S:List (List Rat)}{i b:Nat}{r q:List Rat}(hn:bs.Nodup)(hb:bs[i]? =some b)(hr:S[i]? =some r):setRow (inner bs S) (hp b) 4 (q.map fc)=inner bs (S.set i q):=by
 induction bs generalizing S i with
 | nil=>cases hb
 | cons c bs ih=>
  cases S with
  | nil=>cases hr
  | cons p S=>
   rw[qJ]at hn;cases i with
   | zero=>
    simp only[List.getElem?_cons_zero,qz]at hb hr;subst hb hr;have h0:Abs.look (inner bs S) (hp c)=none:=jdw fun d hd e=>hn.1 ((hp_inj.1 e)▸hd);have:=jg6 (s:=4) (es:=q.map fc) h0;simp only[setRow]at this;simp only[setRow,inner,zl,List.set_cons_zero,this,qC]
   | succ i=>
    rw[List.getElem?_cons_succ]at hb hr;have hne:b≠c:=fun e=>hn.1 (e▸zk hb);have:=ih hn.2 hb hr;simp only[setRow]at this;simp only[setRow,inner,zl,List.set_cons_succ,this,zn (fun e=>hne (hp_inj.1 e).symm:¬hp c=hp b)]
section
variable{t b0 n:Nat}{bs:List Nat}{S:List (List Rat)}
theorem jrb:Abs.look (jbi t b0 bs S n) (hp b0)=some (1,outer t n bs):=ja2 _ _ _
theorem jqc{i b:Nat}{r:List Rat}(hn:(b0::bs).Nodup)(hb:bs[i]? =some b)(hr:S[i]? =some r):Abs.look (jbi t b0 bs S n) (hp b)=some (4,r.map fc):=by
 rw[qJ]at hn;have hne:b≠b0:=fun e=>hn.1 (e▸zk hb);rw[jbi,ja0 _ _ (fun e=>hne (hp_inj.1 e))];exact jmu hn.2 hb hr
theorem st_set{i b:Nat}{r q:List Rat}(hn:(b0::bs).Nodup)(hb:bs[i]? =some b)(hr:S[i]? =some r):(jbi t b0 bs S n).map (fun p=>if p.1=hp b then(p.1,4,q.map fc)else p)=jbi t b0 bs (S.set i q) n:=by
 rw[qJ]at hn;have hne:b≠b0:=fun e=>hn.1 (e▸zk hb);have:=inner_set (q:=q) hn.2 hb hr;simp only[setRow]at this;simp only[jbi,zl,this,zn (fun e=>hne (hp_inj.1 e).symm:¬hp b0=hp b)]
theorem jc6{d:Nat}(h:d<100000):Abs.look (jbi t b0 bs S n) d=none:=by
 have hl:∀b,d≠hp b:=fun b=>by unfold hp;omega
 rw[jbi,ja0 _ _ (hl b0)];exact jdw fun b _=>hl b
theorem jlg{R:Abs.Rows}{d:Nat}(h:Abs.look R d=none):R.filter (fun p=>p.1 !=d)=R:=by
 induction R with
 | nil=>rfl
 | cons p R ih=>
  obtain⟨j,v⟩:=p;by_cases e:d=j
  ·subst e;rw[ja2]at h;cases h
  ·rw[ja0 _ _ e]at h;rw[jK,ih h,zm (by simp only[qk,ne_eq];exact fun x=>e x.symm)]
theorem ji3{d:Nat}(h:d<100000):(jbi t b0 bs S n).filter (fun p=>p.1 !=d)=jbi t b0 bs S n:=jlg (jc6 h)
theorem jkk{d s:Nat}{es:List (List IV)}(h:d<100000):(jbi t b0 bs S n).map (fun p=>if p.1=d then(p.1,s,es)else p)=jbi t b0 bs S n:=jg6 (jc6 h)
theorem st_blks:blks (jbi t b0 bs S n):=by
 intro k x h;rcases Decidable.em (k<100000)with hk | hk
 ·rw[jc6 hk]at h;cases h
 ·exact⟨_,hp_of (by omega)⟩
end
theorem jbo{R' R:Abs.Rows}{p:Nat×Nat×List (List IV)}(h:Abs.look R' p.1=none)(hs:SubR R' R):SubR R' (p::R):=by
 intro k x hk;obtain⟨j,v⟩:=p;rw[ja0 _ _ (fun e=>by subst e;rw[h]at hk;cases hk)];exact hs k x hk
def stepS(fr to m:Nat)(f:Rat)(S:List (List Rat)):List (List Rat):=
 let a:=S.getD fr []
 let S1:=S.set fr (a.set m (a.getD m 0-f))
 let b:=S1.getD to []
 S1.set to (b.set m (b.getD m 0+f))
def carN(S:List (List Rat))(fr to:Nat)(l:List Rat):Nat->List (List Rat)
 | 0=>S
 | m+1=>stepS fr to m (l.getD m 0) (carN S fr to l m)
def Stk(p n:Nat)(S:List (List Rat)):Prop:=S.length=p/\∀r∈S,r.length=n
theorem jha{S:List (List Rat)}{i:Nat}(h:i<S.length):S.getD i []∈S:=by
 rw[qo,zh h];exact jn h
theorem Stk.set{p n:Nat}{S:List (List Rat)}(h:Stk p n S){i:Nat}{r:List Rat}(hr:r.length=n):Stk p n (S.set i r):=
 ⟨by rw[qf];exact h.1,fun q hq=>by
  rcases yn hq with h1 | h1
  ·exact h.2 q h1
  ·rw[h1];exact hr⟩
theorem Stk.step{p n fr to m:Nat}{f:Rat}{S:List (List Rat)}(h:Stk p n S)(h1:fr<p)(h2:to<p):Stk p n (stepS fr to m f S):=by
 have h3:=h.set (i:=fr) (r:=(S.getD fr []).set m ((S.getD fr []).getD m 0-f)) (by rw[qf];exact h.2 _ (jha (by rw[h.1];exact h1)));exact h3.set (by rw[qf];exact h3.2 _ (jha (by rw[h3.1];exact h2)))
theorem Stk.car{p n fr to:Nat}{l:List Rat}{S:List (List Rat)}(h:Stk p n S)(h1:fr<p)(h2:to<p):∀m,Stk p n (carN S fr to l m)
 | 0=>h
 | m+1=>(Stk.car h h1 h2 m).step h1 h2
def SL(k j m:Nat)(S:List (List Rat)):Prop:=∀r∈S,∀(i:Nat) x,r[i]? =some x->FL (if i<m then k else j) x
theorem SL.set{k j m c:Nat}{S:List (List Rat)}{r:List Rat}{x:Rat}(h:SL k j m S)(hr:r∈S)(hx:FL c x)(hc:∀q∈S,∀y,q[m]? =some y->FL c y){i:Nat}:
  ∀q∈S.set i (r.set m x),∀(n:Nat) y,q[n]? =some y->(n=m->FL c y)/\(n≠m->FL (if n<m then k else j) y):=by
 intro q hq n y hy;rcases yn hq with h1 | h1
 ·exact⟨fun e=>hc q h1 y (e▸hy),fun _=>h q h1 n y hy⟩
 ·rw[h1]at hy;refine⟨fun e=> ?_,fun e=> ?_⟩
  ·subst e;rw[List.getElem?_set_self']at hy;cases hz:r[n]? with
   | none=>rw[hz]at hy;cases hy
   | some z=>
    rw[hz]at hy;have hy:some x=some y:=hy;injection hy with hy;rw[<-hy];exact hx
  ·rw[yT (fun x=>e x.symm)]at hy;exact h r hr n y hy
theorem jqr{l:List Rat}{m:Nat}(h:m<l.length):l[m]? =some (l.getD m 0):=by
 rw[qo,zh h];rfl
theorem SL.step{k j m p n fr to:Nat}{f:Rat}{S:List (List Rat)}(h:SL k j m S)(hs:Stk p n S)(h1:fr<p)(h2:to<p)(hm:m<n)(c:Nat)(hc:∀x,FL j x->FL c x/\FL c (x-f))(hk:∀x,FL c x->FL k x/\FL k (x+f)):
  SL k j (m+1) (stepS fr to m f S)/\((∀x,(S.getD fr [])[m]? =some x->FL j x)/\∀x,((S.set fr ((S.getD fr []).set m ((S.getD fr []).getD m 0-f))).getD to [])[m]? =some x->FL c x):=by
 have ha:=jha (S:=S) (i:=fr) (by rw[hs.1];exact h1);have hal:(S.getD fr []).length=n:=hs.2 _ ha;have hj:∀q∈S,∀x,q[m]? =some x->FL j x:=fun q hq x hx=>by
  have:=h q hq m x hx
  rwa [zn (by omega)]at this
 have hx0:FL j ((S.getD fr []).getD m 0):=hj _ ha _ (jqr (by rw[hal];exact hm));have e1:=SL.set (c:=c) (i:=fr) (x:=(S.getD fr []).getD m 0-f) h ha (hc _ hx0).2 (fun q hq y hy=>(hc y (hj q hq y hy)).1);have hs1:=hs.set (i:=fr) (r:=(S.getD fr []).set m ((S.getD fr []).getD m 0-f)) (by rw[qf];exact hal);unfold stepS;dsimp only;generalize S.set fr ((S.getD fr []).set m ((S.getD fr []).getD m 0-f))=S1 at*;have hb:=jha (S:=S1) (i:=to) (by rw[hs1.1];exact h2);have hbl:(S1.getD to []).length=n:=hs1.2 _ hb;have hx1:FL c ((S1.getD to []).getD m 0):=(e1 _ hb m _ (jqr (by rw[hbl];exact hm))).1 rfl;refine⟨?_,fun x hx=>hj _ ha x hx,fun x hx=>(e1 _ hb m x hx).1 rfl⟩;intro q hq i y hy;rcases yn hq with h3 | h3
 ·obtain⟨g1,g2⟩:=e1 q h3 i y hy;by_cases e:i=m
  ·rw[zm (by omega)];exact(hk y (g1 e)).1
  ·have:=g2 e;by_cases hi:i<m
   ·rw[zm hi]at this;rw[zm (by omega)];exact this
   ·rw[zn hi]at this;rw[zn (by omega)];exact this
 ·rw[h3]at hy;by_cases e:i=m
  ·subst e;rw[List.getElem?_set_self (by rw[hbl];exact hm)]at hy;injection hy with hy;rw[<-hy,zm (by omega)];exact(hk _ hx1).2
  ·rw[yT (fun x=>e x.symm)]at hy;have:=(e1 _ hb i y hy).2 e;by_cases hi:i<m
   ·rw[zm hi]at this;rw[zm (by omega)];exact this
   ·rw[zn hi]at this;rw[zn (by omega)];exact this
end
section
open Go.Abs
attribute [local go_sem] Move.c ints ic big frac fc
theorem set_fc{a:List Rat}{m:Nat}{y:Rat}:(a.map fc).set m (fc y)=(a.set m y).map fc:=by rw[qP]
theorem carN_succ{S:List (List Rat)}{fr to m:Nat}{l:List Rat}{f am bm:Rat}{a b:List Rat}(hf:l[m]? =some f)(ha:(carN S fr to l m)[fr]? =some a)(ham:a[m]? =some am)
  (hb:((carN S fr to l m).set fr (a.set m (am-f)))[to]? =some b) (hbm:b[m]? =some bm):
  carN S fr to l (m+1)=((carN S fr to l m).set fr (a.set m (am-f))).set to (b.set m (bm+f)):=by
 have e0:l.getD m 0=f:=by rw[qo,hf];rfl
 have e1:(carN S fr to l m).getD fr []=a:=by rw[qo,ha];rfl
 have e2:a.getD m 0=am:=by rw[qo,ham];rfl
 have e3:((carN S fr to l m).set fr (a.set m (am-f))).getD to []=b:=by rw[qo,hb];rfl
 have e4:b.getD m 0=bm:=by rw[qo,hbm];rfl
 rw[carN,stepS];rw[e0,e1,e2,e3,e4]
theorem SL.car{q k p n fr to:Nat}{l:List Rat}{S:List (List Rat)}(h:SL (k+(q+q+2)) k 0 S)(hs:Stk p n S)(h1:fr<p)(h2:to<p)(hl:l.length=n)(hlF:∀r∈l,FL q r):
  ∀m,m<=n->SL (k+(q+q+2)) k m (carN S fr to l m)
 | 0,_=>h
 | m+1,hm=>by
  have ih:=SL.car h hs h1 h2 hl hlF m (by omega);have hf:FL q (l.getD m 0):=hlF _ (zk (jqr (l:=l) (m:=m) (by omega)));exact(SL.step ih (Stk.car hs h1 h2 m) h1 h2 (by omega) (k+q+1) (fun x hx=>⟨hx.mono (by omega),(jsw hx hf).mono (by omega)⟩) (fun x hx=>⟨hx.mono (by omega),(jfc hx hf).mono (by omega)⟩)).1
theorem h_carry(b0:Nat)(bs:List Nat)(S:List (List Rat))(x:Move)(l:List Rat)(p n k q:Nat)(hnd:(b0::bs).Nodup)(hs:Stk p n S)(hbl:bs.length=p)(hp1:p<=1000)(hn1:n<=1000)
  (hfr:0<=x.fr/\x.fr<p) (hto:0<=x.to/\x.to<p) (hl:l.length=n) (hlF:∀r∈l,FL q r) (hS:SL (k+(q+q+2)) k 0 S) (hk:k<=18000000000) (hq:q<=500000000):
  CtrH G.P 46 [.im (.ref b0 36 1 p),.im (.agg x.c),.im (fcs l)] (jbi 35 b0 bs S n)
   (fun r L'=>r= .im (.tup [])/\L'=jbi 35 b0 bs (carN S x.fr.toNat x.to.toNat l n) n):=by
 obtain⟨hfr1,hfr2⟩:=hfr;obtain⟨hto1,hto2⟩:=hto;have q1:x.fr.toNat<p:=by omega
 have q2:x.to.toNat<p:=by omega
 have hp':((p:Nat):Int)=p:=rfl;unfold fcs;have F0:=fun(d:Nat) (h:d<100000)=>ji3 (t:=35) (b0:=b0) (bs:=bs) (S:=S) (n:=n) h;refine jav [] [] [] Tryz.func46 ?_;simp only[F0,go_sem];refine jaz [0,4,8,9,10] (fun m:Nat=>⟨[(0,.im (.ref b0 36 1 p)),(4,.loc 4 6 0 0),(8,.im (.sl (l.map fc))),(9,.im (.int l.length)),(10,.im (.int m))],(4,6,[x.c])::jbi 35 b0 bs (carN S x.fr.toNat x.to.toNat l m) n,[]⟩)
  (fun m=>m<=l.length) (fun m=>l.length-m) 0 ?_ ?_ rfl (zE _) ?_
 ·simp only[Int.natCast_zero,go_sem]
 ·exact SubR.of_eq rfl
 ·intro m hm;by_cases hlt:(m:Int)<l.length
  ·have hd:decide ((m:Int)<l.length)=true:=za hlt;obtain⟨f,hx⟩:=jby hlt;have h1:=ja9 (n:=(m:Int)+1) (by omega);have hmn:(m:Int)<n:=by omega
   have kf:=hlF f (zk hx);have hA:=Stk.car (l:=l) hs q1 q2 m;have hAL:=SL.car hS hs q1 q2 hl hlF m (by omega);obtain⟨bf,hbf⟩:∃b,bs[x.fr.toNat]? =some b:=⟨_,zh (by omega)⟩;obtain⟨bt,hbt⟩:∃b,bs[x.to.toNat]? =some b:=⟨_,zh (by omega)⟩;have hcs:=fun a am b bm=>carN_succ (S:=S) (fr:=x.fr.toNat) (to:=x.to.toNat) (am:=am) (bm:=bm) (a:=a) (b:=b) hx;generalize carN S x.fr.toNat x.to.toNat l m=A at*;obtain⟨a,ha⟩:∃a,A[x.fr.toNat]? =some a:=⟨_,zh (by have:=hA.1;omega)⟩;have hal:a.length=n:=hA.2 a (zk ha);obtain⟨am,ham⟩:∃y,a[m]? =some y:=⟨_,zh (by omega)⟩;have kam:FL k am:=by
    have:=hAL a (zk ha) m am ham
    rwa [zn (by omega)]at this
   have s1:=f_sub (kam.mono (by omega:k<=19000000000)) (kf.mono (by omega:q<=19000000000));have ks:=jsw kam kf;have hB:=hA.set (i:=x.fr.toNat) (r:=a.set m (am-f)) (by rw[qf];exact hal);obtain⟨b,hb⟩:∃b,(A.set x.fr.toNat (a.set m (am-f)))[x.to.toNat]? =some b:=⟨_,zh (by have:=hB.1;omega)⟩;have hbL:b.length=n:=hB.2 b (zk hb);obtain⟨bm,hbm⟩:∃y,b[m]? =some y:=⟨_,zh (by omega)⟩;have kbm:FL (k+q+1) bm:=by
    have hset:=SL.set (c:=k+q+1) (i:=x.fr.toNat) (x:=am-f) hAL (zk ha) (ks.mono (by omega)) (fun q hq y hy=>by
     have:=hAL q hq m y hy;rw[zn (by omega)]at this;exact this.mono (by omega))
    exact(hset b (zk hb) m bm hbm).1 rfl
   have s2:=f_add (kbm.mono (by omega:k+q+1<=19000000000)) (kf.mono (by omega:q<=19000000000));have hstep:=hcs a am b bm ha ham hb hbm;have L0:=fun A'=>jrb (t:=35) (b0:=b0) (bs:=bs) (S:=A') (n:=n);have L1:=jqc (t:=35) (n:=n) hnd hbf ha;have W1:=st_set (t:=35) (n:=n) (q:=a.set m (am-f)) hnd hbf ha;generalize A.set x.fr.toNat (a.set m (am-f))=B at*;have L2:=jqc (t:=35) (n:=n) hnd hbt hb;have W2:=st_set (t:=35) (n:=n) (q:=b.set m (bm+f)) hnd hbt hb;have E1:=set_fc (a:=a) (m:=m) (y:=am-f);have E2:=set_fc (a:=b) (m:=m) (y:=bm+f);have F1:=fun(A':List (List Rat)) (d:Nat) (h:d<100000)=>ji3 (t:=35) (b0:=b0) (bs:=bs) (S:=A') (n:=n) h;have G1:=fun(A':List (List Rat)) (d:Nat) (h:d<100000)=>jc6 (t:=35) (b0:=b0) (bs:=bs) (S:=A') (n:=n) h;have K1:=fun(A':List (List Rat)) (d s:Nat) (es:List (List IV)) (h:d<100000)=>jkk (t:=35) (b0:=b0) (bs:=bs) (S:=A') (n:=n) (s:=s) (es:=es) h;generalize am-f=y1 at*;generalize bm+f=y2 at*;simp only[frac,ints]at s1 s2;simp only[fc]at E1 E2;simp only[hd,ze,hx,F1,K1,go_sem];refine jaf ?_;simp only[hfr1,hfr2,hto1,hto2,hmn,hal,L0,L1,W1,E1,F1,G1,K1,outer,ze,hbf,hbt,ham,hx,go_sem];refine ja4 s1 (by decide) ?_
   simp only[hfr1,hfr2,hto1,hto2,hmn,hal,L0,L1,W1,E1,F1,G1,K1,outer,ze,hbf,hbt,ham,hx,go_sem];refine jaf ?_;simp only[hfr1,hfr2,hto1,hto2,hmn,hbL,L0,L2,W2,E2,F1,G1,K1,outer,ze,hbf,hbt,hbm,hx,go_sem];refine ja4 s2 (by decide) ?_;simp only[hfr1,hfr2,hto1,hto2,hmn,hbL,L0,L2,W2,E2,F1,G1,K1,outer,ze,hbf,hbt,hbm,hx,go_sem];refine jaa (m+1) ?_ ?_ rfl (by omega) (by omega)
   ·simp only[h1,Int.natCast_add,go_sem]
   ·rw[hstep];exact jbo (by show Abs.look (_::jbi _ _ _ _ _) 7=none;rw[ja0 _ _ (by decide),jc6 (by decide)]) (SubR.of_eq rfl)
  ·have hd:decide ((m:Int)<l.length)=false:=zq hlt;have:m=n:=by omega
   subst this;simp only[hd,go_sem];refine jgh (jbi 35 b0 bs (carN S x.fr.toNat x.to.toNat l m) m) (fun k' x' h'=> ?_) ?_
   ·have hk':¬k'<100000:=fun h=>by rw[jc6 h]at h';cases h'
    refine⟨by omega,?_⟩;rw[ja0 _ _ (by omega)];exact h'
   ·simp only[go_sem]
end
section
open Go.Abs
attribute [local go_sem] Evid.iv Evid.c Place.c ints ic big frac fc
theorem jl7{bs:List Nat}{S:List (List Rat)}{d:Nat}(h:d<100000):Abs.look (inner bs S) d=none:=jdw fun b _=>by unfold hp;omega
theorem jpm{bs:List Nat}{S:List (List Rat)}{b:Nat}(h:b∉bs):Abs.look (inner bs S) (hp b)=none:=jdw fun c hc e=>h ((hp_inj.1 e)▸hc)
theorem inner_filter{bs:List Nat}{S:List (List Rat)}{d:Nat}(h:d<100000):(inner bs S).filter (fun p=>p.1 !=d)=inner bs S:=jlg (jl7 h)
theorem inner_setlow{bs:List Nat}{S:List (List Rat)}{d s:Nat}{es:List (List IV)}(h:d<100000):(inner bs S).map (fun p=>if p.1=d then(p.1,s,es)else p)=inner bs S:=jg6 (jl7 h)
theorem jjt{bs:List Nat}{S:List (List Rat)}{b s:Nat}{es:List (List IV)}(h:b∉bs):(inner bs S).map (fun p=>if p.1=hp b then(p.1,s,es)else p)=inner bs S:=jg6 (jpm h)
def z4:List IV:=[.int 0,.emp,.int 0,.emp]
def nRow(t n P:Nat)(bs:List Nat):List (List IV):=outer t n bs++List.replicate (P-bs.length) [.emp]
def nIn(n:Nat)(z:Rat)(bs:List Nat):Abs.Rows:=inner bs (List.replicate bs.length (List.replicate n z))
def fRow(n:Nat)(z:Rat)(m:Nat):List (List IV):=List.replicate m (fc z)++List.replicate (n-m) z4
theorem set_app{α:Type}(l:List α)(k:Nat)(x y:α)(h:0<k):(l++List.replicate k x).set l.length y=(l++[y])++List.replicate (k-1) x:=by
 obtain⟨j,rfl⟩:∃j,k=j+1:=⟨k-1,by omega⟩;rw[List.replicate_succ,List.set_append_right _ _ (zB _),vB,List.set_cons_zero,qv];rfl
theorem get_app{α:Type}(l:List α)(k:Nat)(x:α)(h:0<k):(l++List.replicate k x)[l.length]? =some x:=by
 rw[zR (zB _),vB,qY,zm h]
theorem jkv{t n:Nat}{bs:List Nat}:(outer t n bs).length=bs.length:=by rw[outer,zw]
theorem nRow_get{t n P:Nat}{bs:List Nat}(h:bs.length<P):(nRow t n P bs)[bs.length]? =some [.emp]:=by
 have:=get_app (outer t n bs) (P-bs.length) [IV.emp] (by omega)
 rwa [jkv]at this
theorem nRow_set{t n P b:Nat}{bs:List Nat}(h:bs.length<P):(nRow t n P bs).set bs.length [.ref b t 4 n]=nRow t n P (bs++[b]):=by
 have:=set_app (outer t n bs) (P-bs.length) [IV.emp] [.ref b t 4 n] (by omega);rw[jkv]at this;rw[nRow,this,nRow,zH,List.length_singleton,Nat.sub_sub];simp only[outer,qW,zl,zC]
theorem nRow_last{t n P b:Nat}{bs:List Nat}:(nRow t n P (bs++[b]))[bs.length]? =some [.ref b t 4 n]:=by
 rw[nRow,zM (by rw[jkv,zH,List.length_singleton];omega)];simp[outer]
theorem fRow_zero{n:Nat}{z:Rat}:List.replicate n z4=fRow n z 0:=by simp[fRow]
theorem fRow_get{n m:Nat}{z:Rat}(h:m<n):(fRow n z m)[m]? =some z4:=by
 have:=get_app (List.replicate m (fc z)) (n-m) z4 (by omega)
 rwa [zW]at this
theorem fRow_set{n m:Nat}{z:Rat}(h:m<n):(fRow n z m).set m (fc z)=fRow n z (m+1):=by
 have:=set_app (List.replicate m (fc z)) (n-m) z4 (fc z) (by omega);rw[zW,<-List.replicate_succ']at this;rw[fRow,this,fRow,Nat.sub_sub]
theorem fRow_end{n:Nat}{z:Rat}:fRow n z n=(List.replicate n z).map fc:=by simp[fRow]
theorem jmt{b:Nat}{r:List Rat}:∀{bs:List Nat},inner (bs++[b]) (List.replicate (bs.length+1) r)=inner bs (List.replicate bs.length r)++[(hp b,4,r.map fc)]
 | []=>rfl
 | c::bs=>by
  have:=jmt (b:=b) (r:=r) (bs:=bs);rw[List.length_cons,List.replicate_succ,List.cons_append,inner,this,List.replicate_succ,inner,List.cons_append]
theorem jrl{n b:Nat}{z:Rat}{bs:List Nat}{k:Nat}{x:Nat×List (List IV)}(h:Abs.look (nIn n z (bs++[b])) k=some x):(k=hp b/\x=(4,(List.replicate n z).map fc))\/Abs.look (nIn n z bs) k=some x:=by
 rw[nIn,zH,List.length_singleton,jmt,look_app]at h;split at h
 ·rename_i y hy;right;rw[nIn,hy];exact h
 ·left;by_cases e:k=hp b
  ·subst e;rw[ja2]at h;exact⟨rfl,(jP h).symm⟩
  ·rw[ja0 _ _ e]at h;cases h
theorem h_none(e:Evid)(hp1:e.places.length<=1000)(hm1:0<=e.mats)(hm2:e.mats<=1000):
  CtrH G.P 40 [.im e.iv] [] (fun r L'=>∃b0 bs,r= .im (.ref b0 36 1 e.places.length)/\(b0::bs).Nodup/\bs.length=e.places.length/\
   L'=jbi 35 b0 bs (List.replicate e.places.length (List.replicate e.mats.toNat ((0:Int):Rat))) e.mats.toNat):=by
 have o1:=jbt 0 (by omega);generalize ((0:Int):Rat)=z at*;simp only[frac,ints]at o1;have hp2:e.places.length<=16777216:=by omega
 refine jav [9,19] [] [.tmp 2] Tryz.func40 ?_;unfold Evid.iv Evid.c;simp only[hp2,go_sem];refine⟨by omega,jhw (fun b0 hb0=> ?_)⟩;clear hb0;simp only[zW,go_sem];refine jaz [1,3,11,12] (fun bs:List Nat=>⟨[(1,.loc 1 8 0 0),(3,.im (.ref b0 36 1 e.places.length)),(11,.im (.int e.places.length)),(12,.im (.int bs.length))],
   (hp b0,1,nRow 35 e.mats.toNat e.places.length bs)::(1,8,[e.c])::nIn e.mats.toNat z bs,[]⟩)
  (fun bs=>bs.length<=e.places.length/\(b0::bs).Nodup) (fun bs=>e.places.length-bs.length) [] ?_ ?_ rfl ⟨zE _,by simp⟩ ?_
 ·simp only[Int.natCast_zero,go_sem]
 ·exact SubR.of_eq rfl
 ·intro bs ⟨hi,hnd⟩;by_cases hlt:(bs.length:Int)<e.places.length
  ·have hd:decide ((bs.length:Int)<e.places.length)=true:=za hlt;have h1:=ja9 (n:=(bs.length:Int)+1) (by omega);have hi':(bs.length:Int)<e.places.length:=hlt;have K1:=fun(bs:List Nat) (S:List (List Rat)) (d:Nat) (h:d<100000)=>inner_filter (bs:=bs) (S:=S) h;have K2:=fun(bs:List Nat) (S:List (List Rat)) (d s:Nat) (es:List (List IV)) (h:d<100000)=>inner_setlow (bs:=bs) (S:=S) (s:=s) (es:=es) h;have K3:=fun(bs:List Nat) (S:List (List Rat)) (d:Nat) (h:d<100000)=>jl7 (bs:=bs) (S:=S) h;obtain⟨n,hn⟩:∃n:Nat,e.mats.toNat=n:=⟨_,rfl⟩;have hmn:e.mats=(n:Int):=by omega
   rw[hn];simp only[hd,nIn,K1,K2,hn,go_sem];refine⟨hm1,by omega,jhw (fun b hb=> ?_)⟩;replace hb:Abs.look ((hp b0,1,nRow 35 n e.places.length bs)::(1,8,[e.c])::nIn n z bs) (hp b)=none:=hb;have hne:b≠b0:=fun h=>by rw[h,ja2]at hb;cases hb
   rw[ja0 _ _ (fun h=>hne (hp_inj.1 h)),ja0 _ _ (by unfold hp;omega)]at hb;have hnb:b∉bs:=fun h=>by
    obtain⟨i,hi2,he⟩:=jT h;have:=jmu (bs:=bs) (S:=List.replicate bs.length (List.replicate n z)) (i:=i) (b:=b) (r:=List.replicate n z) (qJ.1 hnd).2 (by rw[zh hi2,he]) (by rw[qY,zm hi2]);rw[nIn,this]at hb;cases hb
   have hnb0:b0∉bs:=(qJ.1 hnd).1;have e1:(b=b0)=False:=eq_false hne;have e2:(b0=b)=False:=eq_false fun h=>hne h.symm;have K4:=fun(S:List (List Rat)) (s:Nat) (es:List (List IV))=>jjt (bs:=bs) (S:=S) (b:=b) (s:=s) (es:=es) hnb;have K5:=fun(S:List (List Rat)) (s:Nat) (es:List (List IV))=>jjt (bs:=bs) (S:=S) (b:=b0) (s:=s) (es:=es) hnb0;have g1:=nRow_get (t:=35) (n:=n) (P:=e.places.length) (bs:=bs) (by omega);have g2:=nRow_set (t:=35) (n:=n) (P:=e.places.length) (bs:=bs) (b:=b) (by omega);have g3:=nRow_last (t:=35) (n:=n) (P:=e.places.length) (bs:=bs) (b:=b);clear hb;simp only[zW,K1,K2,K3,K4,K5,e1,e2,g1,g2,g3,hi',hn,go_sem];refine jaz [1,3,4,11,12,25,26] (fun m:Nat=>⟨[(1,.loc 1 8 0 0),(3,.im (.ref b0 36 1 e.places.length)),(4,.im (.int bs.length)),(11,.im (.int e.places.length)),(12,.im (.int bs.length)),(25,.im (.int n)),(26,.im (.int m))],
     (hp b,4,fRow n z m)::(hp b0,1,nRow 35 n e.places.length (bs++[b]))::(1,8,[e.c])::nIn n z bs,[]⟩)
    (fun m=>m<=n) (fun m=>n-m) 0 ?_ ?_ rfl (zE _) ?_
   ·simp only[Int.natCast_zero,zW,hn,hmn,go_sem]
   ·rw[<-fRow_zero];exact SubR.of_eq rfl
   ·intro m hm;by_cases hq:(m:Int)<n
    ·have hd2:decide ((m:Int)<n)=true:=za hq;have h2:=ja9 (n:=(m:Int)+1) (by omega);have f1:=fRow_get (n:=n) (m:=m) (z:=z) (by omega);have f2:=fRow_set (n:=n) (m:=m) (z:=z) (by omega);simp only[fc]at f2;simp only[z4]at f1;simp only[hd2,nIn,go_sem];refine jaf ?_;simp only[zW,K1,K2,K3,K4,K5,e1,e2,g3,hi',hq,f1,f2,go_sem];refine ja4 o1 (by decide) ?_;simp only[zW,K1,K2,K3,K4,K5,e1,e2,g3,hi',hq,f1,f2,go_sem];refine jaa (m+1) ?_ ?_ rfl (by omega) (by omega)
     ·simp only[h2,Int.natCast_add,go_sem]
     ·exact SubR.of_eq rfl
    ·have hd2:decide ((m:Int)<n)=false:=zq hq;have hmn':m=n:=by omega
     subst hmn';simp only[hd2,go_sem];refine jaa (bs++[b]) ?_ ?_ rfl ?_ ⟨?_,?_⟩
     ·simp only[h1,Int.natCast_add,zH,go_sem]
     ·intro k x hk;show Abs.look ((hp b,4,fRow m z m)::(hp b0,1,nRow 35 m e.places.length (bs++[b]))::(1,8,[e.c])::nIn m z bs) k=some x;replace hk:Abs.look ((hp b0,1,nRow 35 m e.places.length (bs++[b]))::(1,8,[e.c])::nIn m z (bs++[b])) k=some x:=hk;by_cases k0:k=hp b0
      ·rw[ja0 _ _ (fun h=>hne (hp_inj.1 (h.symm.trans k0)))];rw[k0,ja2]at hk⊢;exact hk
      ·rw[ja0 _ _ k0]at hk;by_cases k1:k=1
       ·rw[ja0 _ _ (fun h=>by unfold hp at h;omega),ja0 _ _ k0];rw[k1,ja2]at hk⊢;exact hk
       ·rw[ja0 _ _ k1]at hk;by_cases kb:k=hp b
        ·rcases jrl hk with ⟨_,hx⟩ | hx
         ·rw[kb,ja2,hx,fRow_end]
         ·rw[kb,nIn,jpm hnb]at hx;cases hx
        ·rw[ja0 _ _ kb,ja0 _ _ k0,ja0 _ _ k1];rcases jrl hk with ⟨hx,_⟩ | hx
         ·exact absurd hx kb
         ·exact hx
     ·show e.places.length-(bs++[b]).length<e.places.length-bs.length;rw[zH,List.length_singleton];omega
     ·show(bs++[b]).length<=e.places.length;rw[zH,List.length_singleton];omega
     ·rw[qJ,vE];have:=qJ.1 hnd;refine⟨by simp[this.1,hne.symm],this.2,by simp,?_⟩;intro c hc d hd' h;rw[zF]at hd';exact hnb (by rw[<-hd',<-h];exact hc)
  ·have hd:decide ((bs.length:Int)<e.places.length)=false:=zq hlt;have hle:bs.length=e.places.length:=by omega
   simp only[hd,go_sem];refine jgh (jbi 35 b0 bs (List.replicate e.places.length (List.replicate e.mats.toNat z)) e.mats.toNat) (fun k' x' h'=> ?_) ?_
   ·have hk':¬k'<100000:=fun h=>by rw[jc6 h]at h';cases h'
    refine⟨by omega,?_⟩;show Abs.look ((hp b0,1,nRow _ _ _ bs)::(1,8,_)::nIn _ z bs) k'=some x';rw[show nRow 35 e.mats.toNat e.places.length bs=outer 35 e.mats.toNat bs by rw[nRow,hle,vB,List.replicate_zero,qr]];rw[nIn,hle];unfold jbi at h';by_cases hk0:k'=hp b0
    ·rw[hk0,ja2]at h'⊢;exact h'
    ·rw[ja0 _ _ hk0]at h'⊢;rw[ja0 _ _ (by omega)];exact h'
   ·simp only[go_sem];exact⟨b0,bs,rfl,hnd,hle,rfl⟩
end
section
open Go.Abs
theorem raw_of{x:Raw}(h:x.ok=true):∃r:Rat,x.c=fc r/\x.l=dig r.num.natAbs/\x.m=dig (r.den:Int).natAbs:=by
 obtain⟨r,e1,e2,e3,e4⟩:=frac_of h;exact⟨r,by rw[Raw.c,fc,e1,e2,e3,e4],e2,e4⟩
theorem jpa{k:Nat}:∀{l:List Raw},l.all Raw.ok=true->(∀x∈l,x.l.length<=k/\x.m.length<=k)->∃rs:List Rat,rs.length=l.length/\l.map Raw.c=rs.map fc/\∀r∈rs,FL k r
 | [],_,_=>⟨[],rfl,rfl,by simp⟩
 | x::l,h,hk=>by
  rw[List.all_cons,zr]at h;obtain⟨rs,e1,e2,e3⟩:=jpa h.2 (fun y hy=>hk y (by simp[hy]));obtain⟨r,g1,g2,g3⟩:=raw_of h.1;obtain⟨k1,k2⟩:=hk x (by simp);refine⟨r::rs,by simp[e1],by rw[zl,zl,g1,e2],fun q hq=> ?_⟩;rcases zS.1 hq with rfl | hq
  ·rw[g2]at k1;rw[g3,Int.natAbs_natCast]at k2;exact⟨k1,k2⟩
  ·exact e3 q hq
theorem hist_of{e:Evid}{k:Nat}:∀{h:List (List Raw)},h.all (rowOk e)=true->(∀l∈h,∀x∈l,x.l.length<=k/\x.m.length<=k)->
  ∃H:List (List Rat),H.length=h.length/\h.map rowC=H.map stC/\∀l∈H,(l.length:Int)=e.mats/\∀r∈l,FL k r
 | [],_,_=>⟨[],rfl,rfl,by simp⟩
 | l::h,ho,hk=>by
  rw[List.all_cons,zr,rowOk,zr,zK]at ho;obtain⟨H,e1,e2,e3⟩:=hist_of ho.2 (fun y hy=>hk y (by simp[hy]));obtain⟨rs,g1,g2,g3⟩:=jpa ho.1.2 (hk l (by simp));refine⟨rs::H,by simp[e1],by rw[zl,zl,e2,rowC,stC,g2],fun q hq=> ?_⟩;rcases zS.1 hq with rfl | hq
  ·exact⟨by rw[g1];exact ho.1.1,g3⟩
  ·exact e3 q hq
def stN(ms:List Move)(H:List (List Rat))(n:Nat)(S:List (List Rat)):Nat->List (List Rat)
 | 0=>S
 | i+1=>match ms[i]?,H[i]? with
  | some x,some l=>carN (stN ms H n S i) x.fr.toNat x.to.toNat l n
  | _,_=>stN ms H n S i
theorem jng{ms:List Move}{H:List (List Rat)}{n i:Nat}{S:List (List Rat)}{x:Move}{l:List Rat}(hx:ms[i]? =some x)(hl:H[i]? =some l):
  stN ms H n S (i+1)=carN (stN ms H n S i) x.fr.toNat x.to.toNat l n:=by rw[stN,hx,hl]
theorem SL.all{k j p n:Nat}{S:List (List Rat)}(hs:Stk p n S)(h:SL k j n S):∀r∈S,∀x∈r,FL k x:=by
 intro r hr x hx;obtain⟨i,hi,he⟩:=jT hx;have:=h r hr i x (by rw[zh hi,he])
 rwa [zm (by rw[<-hs.2 r hr];exact hi)]at this
theorem SL.of_all{k j:Nat}{S:List (List Rat)}(h:∀r∈S,∀x∈r,FL k x):SL j k 0 S:=fun r hr i x hx=>by
 rw[zn (by omega)];exact h r hr x (zk hx)
theorem stN_ok{ms:List Move}{H:List (List Rat)}{p n k q:Nat}{S:List (List Rat)}(hs:Stk p n S)(hS:∀r∈S,∀x∈r,FL k x)(hm:∀x∈ms,(0<=x.fr/\x.fr<p)/\(0<=x.to/\x.to<p))
  (hH:∀l∈H,l.length=n/\∀r∈l,FL q r):∀i,Stk p n (stN ms H n S i)/\∀r∈stN ms H n S i,∀x∈r,FL (k+(q+q+2)*i) x
 | 0=>⟨hs,hS⟩
 | i+1=>by
  obtain⟨h1,h2⟩:=stN_ok hs hS hm hH i;cases hx:ms[i]? with
  | none=>
   have e:stN ms H n S (i+1)=stN ms H n S i:=by rw[stN,hx]
   rw[e];exact⟨h1,fun r hr x hx=>(h2 r hr x hx).mono (by rw[Nat.mul_succ];omega)⟩
  | some x=>
   cases hl:H[i]? with
   | none=>
    have e:stN ms H n S (i+1)=stN ms H n S i:=by rw[stN,hx,hl]
    rw[e];exact⟨h1,fun r hr x hx=>(h2 r hr x hx).mono (by rw[Nat.mul_succ];omega)⟩
   | some l=>
    rw[jng hx hl];obtain⟨⟨a1,a2⟩,b1,b2⟩:=hm x (zk hx);obtain⟨c1,c2⟩:=hH l (zk hl);have q1:x.fr.toNat<p:=by omega
    have q2:x.to.toNat<p:=by omega
    have h3:=SL.car (k:=k+(q+q+2)*i) (SL.of_all h2) h1 q1 q2 c1 c2 n (zB _);have h4:=Stk.car (l:=l) h1 q1 q2 n;exact⟨h4,fun r hr y hy=>(SL.all h4 h3 r hr y hy).mono (by rw[Nat.mul_succ];omega)⟩
def jgk(e:Evid)(H:List (List Rat))(S:List (List Rat)):Nat->List Move->Int
 | _,[]=>0
 | i,x::ms=>match H[i]? with
  | none=>0
  | some l=>
   if l.any negF=true then 3
   else if jfr ((e.places[x.fr.toNat]?.map Place.kind).getD 0) ((stN e.moves H e.mats.toNat S i).getD x.fr.toNat []) x l≠0 then jfr ((e.places[x.fr.toNat]?.map Place.kind).getD 0) ((stN e.moves H e.mats.toNat S i).getD x.fr.toNat []) x l
   else if jd6 e x (sumF l)=false then 24
   else if pureF e i l (sumF l)=false then 13
   else jgk e H S (i+1) ms
end
section
open Go.Abs
open Go.LP (Rw RT tsum Sol tsum_app)
def ptH(M:Nat)(H:List (List Rat))(k:Nat):Rat:=(H.getD (k/M) []).getD (k % M) 0
theorem pt_at{M:Nat}{H:List (List Rat)}(i:Nat){m:Nat}(hm:m<M):ptH M H (i*M+m)=(H.getD i []).getD m 0:=by
 unfold ptH;rw[yl i M,Nat.mul_add_div (by omega),jH hm,Nat.add_zero,vQ,jm hm]
theorem getD_some{α:Type}{l:List α}{i:Nat}{x d:α}(h:l[i]? =some x):l.getD i d=x:=by rw[qo,h];rfl
theorem jfo{α:Type}{l:List α}{i:Nat}(h:i<l.length):∃x,l[i]? =some x:=⟨_,zh h⟩
theorem jop(ts:List (Nat×Rat))(t:Nat×Rat)(x:Nat->Rat):tsum (ts++[t]) x=tsum ts x+t.2*x t.1:=by
 rw[tsum_app];show tsum ts x+(t.2*x t.1+0)=_;rw[yI]
theorem jk2{M mv:Nat}{b own more:Int}{H:List (List Rat)}{l:List Rat}(hl:H[mv]? =some l)(hM:l.length=M):∀k,k<=M->tsum (sumT M mv b own more k) (ptH M H)=(b:Rat)*sumF (l.take k)+(if 0<=own/\own<(k:Int)then(more:Rat)*l.getD own.toNat 0 else 0)
 | 0,_=>by
  rw[zn (by omega)];show(0:Rat)=(b:Rat)*((0:Int):Rat)+0;rw[show((0:Int):Rat)=0 from rfl,Rat.mul_zero,yI]
 | k+1,hk=>by
  have ih:=jk2 (b:=b) (own:=own) (more:=more) hl hM k (by omega);obtain⟨f,hf⟩:=jfo (l:=l) (i:=k) (by omega);have hx:ptH M H (mv*M+k)=f:=by rw[pt_at mv (by omega),getD_some hl,getD_some hf]
  have hs:tsum (sumT M mv b own more (k+1)) (ptH M H)=tsum (sumT M mv b own more k) (ptH M H)+((coF b own more k:Int):Rat)*f:=by
   rw[sumT];split
   ·rename_i h;rw[h,show((0:Int):Rat)=0 from rfl,Rat.zero_mul,yI]
   ·rw[jop,hx]
  rw[hs,ih,jow hf];unfold coF;by_cases ho:(k:Int)=own
  ·have h1:own.toNat=k:=by omega
   rw[zn (by omega),zm ho,zm (by omega),h1,getD_some hf,vP];grind
  ·rw[zn ho];by_cases h2:0<=own/\own<(k:Int)
   ·rw[zm h2,zm (by omega)];grind
   ·rw[zn h2,zn (by omega)];grind
def flowS(M:Nat)(fr:Int)(mat:Nat)(ms:List Move)(x:Nat->Rat):Nat->Rat
 | 0=>0
 | i+1=>match ms[i]? with
  | some y=>flowS M fr mat ms x i+((sgnF fr y:Int):Rat)*x (i*M+mat)
  | none=>flowS M fr mat ms x i
theorem jm9{M:Nat}{fr:Int}{mat:Nat}{ms:List Move}{x:Nat->Rat}:∀i,tsum (jah M fr mat ms i) x=flowS M fr mat ms x i
 | 0=>rfl
 | i+1=>by
  have ih:=jm9 (M:=M) (fr:=fr) (mat:=mat) (ms:=ms) (x:=x) i;rw[jah,flowS];cases ms[i]? with
  | none=>exact ih
  | some y=>
   dsimp only;split
   ·rename_i h;rw[ih,h,show((0:Int):Rat)=0 from rfl,Rat.zero_mul,yI]
   ·rw[jop,ih]
theorem jih{α:Type}{l:List α}{i p:Nat}{v d:α}:(l.set i v).getD p d=if p=i/\i<l.length then v else l.getD p d:=by
 rw[qo,qo,jC];by_cases h:i=p
 ·subst h;rw[zm rfl];by_cases h2:i<l.length
  ·rw[zm h2,zm ⟨rfl,h2⟩];rfl
  ·rw[zn h2,zn (fun h=>h2 h.2),qA (by omega)]
 ·rw[zn h,zn (fun e=>h e.1.symm)]
def dl(fr to p:Nat)(f:Rat):Rat:=if p=fr then-f else if p=to then f else 0
theorem step_get{P n fr to m k p:Nat}{f:Rat}{T:List (List Rat)}(hT:Stk P n T)(h1:fr<P)(h2:to<P)(hne:fr≠to)(hm:m<n)(hp:p<P):
  ((stepS fr to k f T).getD p []).getD m 0=(T.getD p []).getD m 0+(if m=k then dl fr to p f else 0):=by
 have hr:∀q,q<P->(T.getD q []).length=n:=fun q hq=>hT.2 _ (jha (by rw[hT.1];exact hq));have e1:(T.set fr ((T.getD fr []).set k ((T.getD fr []).getD k 0-f))).getD to []=T.getD to []:=by
  rw[jih,zn (fun h=>hne h.1.symm)]
 unfold stepS;dsimp only;rw[e1,jih,qf,hT.1];by_cases ht:p=to
 ·subst ht;have hd:dl fr p p f=f:=by unfold dl;rw[zn (fun e=>hne e.symm),zm rfl]
  rw[zm ⟨rfl,h2⟩,jih,hr p hp,hd];by_cases hk:m=k
  ·subst hk;rw[zm ⟨rfl,hm⟩,zm rfl]
  ·rw[zn (fun h=>hk h.1),zn hk,yI]
 ·rw[zn (fun h=>ht h.1),jih,hT.1];by_cases hf:p=fr
  ·subst hf;have hd:dl p to p f= -f:=by unfold dl;rw[zm rfl]
   rw[zm ⟨rfl,h1⟩,jih,hr p hp,hd];by_cases hk:m=k
   ·subst hk;rw[zm ⟨rfl,hm⟩,zm rfl];grind
   ·rw[zn (fun h=>hk h.1),zn hk,yI]
  ·have hd:dl fr to p f=0:=by unfold dl;rw[zn hf,zn ht]
   rw[zn (fun h=>hf h.1),hd];split<;>rw[yI]
theorem car_get{P n fr to m p:Nat}{l:List Rat}{S:List (List Rat)}(hS:Stk P n S)(h1:fr<P)(h2:to<P)(hne:fr≠to)(hm:m<n)(hp:p<P):∀k,((carN S fr to l k).getD p []).getD m 0=(S.getD p []).getD m 0+(if m<k then dl fr to p (l.getD m 0)else 0)
 | 0=>by rw[carN,zn (by omega),yI]
 | k+1=>by
  rw[carN,step_get (hS.car h1 h2 k) h1 h2 hne hm hp,car_get hS h1 h2 hne hm hp k];by_cases hk:m=k
  ·subst hk;rw[zn (qO _),zm rfl,zm (qE _),yI]
  ·rw[zn hk,yI];by_cases h3:m<k
   ·rw[zm h3,zm (by omega)]
   ·rw[zn h3,zn (by omega)]
section
variable{e:Evid}{H:List (List Rat)}
def S0(e:Evid):List (List Rat):=List.replicate e.places.length (List.replicate e.mats.toNat ((0:Int):Rat))
theorem S0_stk:Stk e.places.length e.mats.toNat (S0 e):=⟨by unfold S0;simp,fun r hr=>by rw[(jW.1 hr).2];simp⟩
theorem S0_get{p m:Nat}:((S0 e).getD p []).getD m 0=0:=by
 rcases zT p e.places.length with h | h
 ·rw[getD_some (l:=S0 e) (x:=List.replicate e.mats.toNat ((0:Int):Rat)) (by unfold S0;rw[qY,zm h])];rcases zT m e.mats.toNat with h2 | h2
  ·rw[getD_some (x:=((0:Int):Rat)) (by rw[qY,zm h2])];rfl
  ·rw[qo,qA (by simp;omega)];rfl
 ·rw[qo (l:=S0 e),qA (by unfold S0;simp;omega)];rfl
theorem move_at{x:Move}(h:moveF e x=true):((0<=x.fr/\x.fr<(e.places.length:Int))/\(0<=x.to/\x.to<(e.places.length:Int)))/\x.fr≠x.to:=by
 simp only[moveF,zr,yL,qg,jnw]at h;exact⟨⟨h.1.1.1.1.1.1.1,h.1.1.1.1.1.1.2⟩,h.1.1.1.1.1.2⟩
theorem st_get(hm:∀x∈e.moves,moveF e x=true)(hH:H.length=e.moves.length)(hl:∀l∈H,l.length=e.mats.toNat){p m:Nat}(hp:p<e.places.length)(hmm:m<e.mats.toNat):∀i,i<=e.moves.length->
  Stk e.places.length e.mats.toNat (stN e.moves H e.mats.toNat (S0 e) i)/\((stN e.moves H e.mats.toNat (S0 e) i).getD p []).getD m 0=flowS e.mats.toNat (p:Int) m e.moves (ptH e.mats.toNat H) i
 | 0,_=>⟨S0_stk,S0_get⟩
 | i+1,hi=>by
  obtain⟨ih1,ih2⟩:=st_get hm hH hl hp hmm i (by omega);obtain⟨x,hx⟩:=jfo (l:=e.moves) (i:=i) (by omega);obtain⟨l,hli⟩:=jfo (l:=H) (i:=i) (by omega);obtain⟨⟨⟨a1,a2⟩,b1,b2⟩,hne⟩:=move_at (hm x (zk hx));have q1:x.fr.toNat<e.places.length:=by omega
  have q2:x.to.toNat<e.places.length:=by omega
  rw[jng hx hli];refine⟨Stk.car ih1 q1 q2 _,?_⟩;rw[car_get ih1 q1 q2 (by omega) hmm hp,ih2,flowS,hx,zm hmm,pt_at i hmm,getD_some hli];dsimp only;refine qd _ ?_;by_cases h1:p=x.fr.toNat
  ·have e1:dl x.fr.toNat x.to.toNat p (l.getD m 0)= -l.getD m 0:=by unfold dl;rw[zm h1]
   have e2:sgnF (p:Int) x= -1:=by unfold sgnF;rw[zm (by omega)]
   rw[e1,e2,show((-1:Int):Rat)= -1 by decide];grind
  ·by_cases h2:p=x.to.toNat
   ·have e1:dl x.fr.toNat x.to.toNat p (l.getD m 0)=l.getD m 0:=by unfold dl;rw[zn h1,zm h2]
    have e2:sgnF (p:Int) x=1:=by unfold sgnF;rw[zn (by omega),zm (by omega)]
    rw[e1,e2,show((1:Int):Rat)=1 by decide];grind
   ·have e1:dl x.fr.toNat x.to.toNat p (l.getD m 0)=0:=by unfold dl;rw[zn h1,zn h2]
    have e2:sgnF (p:Int) x=0:=by unfold sgnF;rw[zn (by omega),zn (by omega)]
    rw[e1,e2,show((0:Int):Rat)=0 by decide,Rat.zero_mul]
def okAt(e:Evid)(H:List (List Rat))(k:Nat)(x:Move)(l:List Rat):Prop:=
 l.any negF=false/\jfr ((e.places[x.fr.toNat]?.map Place.kind).getD 0) ((stN e.moves H e.mats.toNat (S0 e) k).getD x.fr.toNat []) x l=0/\jd6 e x (sumF l)=true/\pureF e k l (sumF l)=true
theorem go_iff(hH:H.length=e.moves.length):∀(ms:List Move) (i:Nat),e.moves.drop i=ms->(jgk e H (S0 e) i ms=0↔∀k x l,i<=k->e.moves[k]? =some x->H[k]? =some l->okAt e H k x l)
 | [],i,h=>by
  have hi:=List.drop_eq_nil_iff.1 h;refine⟨fun _ k x l hk hx=> ?_,fun _=>rfl⟩;rw[qA (by omega)]at hx;cases hx
 | x::ms,i,h=>by
  have hi:i<e.moves.length:=by
   rcases zT i e.moves.length with h1 | h1
   ·exact h1
   ·rw[qw h1]at h;cases h
  have hx:e.moves[i]? =some x:=by
   have:=qM (xs:=e.moves) (i:=i) (j:=0);rw[h]at this;simpa using this.symm
  obtain⟨l,hl⟩:=jfo (l:=H) (i:=i) (by omega);have ih:=go_iff hH ms (i+1) (by rw[<-vd,h];rfl);have key:(∀k x l,i<=k->e.moves[k]? =some x->H[k]? =some l->okAt e H k x l)↔okAt e H i x l/\∀k x l,i+1<=k->e.moves[k]? =some x->H[k]? =some l->okAt e H k x l:=by
   refine⟨fun h=>⟨h i x l (zB _) hx hl,fun k y q hk=>h k y q (by omega)⟩,fun h k y q hk hy hq=> ?_⟩;by_cases e1:k=i
   ·subst e1;rw[hx]at hy;rw[hl]at hq;cases hy;cases hq;exact h.1
   ·exact h.2 k y q (by omega) hy hq
  rw[key,<-ih,jgk,hl];dsimp only;unfold okAt;generalize jfr ((e.places[x.fr.toNat]?.map Place.kind).getD 0) ((stN e.moves H e.mats.toNat (S0 e) i).getD x.fr.toNat []) x l=T;generalize l.any negF=N;generalize jd6 e x (sumF l)=W;generalize pureF e i l (sumF l)=P;generalize jgk e H (S0 e) (i+1) ms=R;by_cases hT:T=0
  ·cases N<;>cases W<;>cases P<;>simp[hT]
  ·cases N<;>cases W<;>cases P<;>simp[hT]
theorem taken_iff{kind:Int}{a l:List Rat}{x:Move}{n:Nat}(ha:a.length=n)(hl:l.length=n):jfr kind a x l=0↔kind=0\/((∀m,m<n->l.getD m 0<=a.getD m 0)/\(x.all=true->∀m,m<n->a.getD m 0<=l.getD m 0)):=by
 have gt:∀p:Rat×Rat,gtP p=true↔p.2<p.1:=fun p=>by
  rw[gtP,qx,<-cmpR_pos (a:=p.1) (b:=p.2)];constructor
  ·intro h;omega
  ·intro h;unfold cmpR cmpI at h⊢;split at h
   ·omega
   ·split at h
    ·omega
    ·rename_i h1 h2;rw[zn h1,zn h2]
 have lt:∀p:Rat×Rat,ltP p=true↔p.1<p.2:=fun p=>by
  rw[ltP,qx,<-cmpR_neg (a:=p.1) (b:=p.2)];constructor
  ·intro h;omega
  ·intro h;unfold cmpR cmpI at h⊢;split at h
   ·rename_i h1;rw[zm h1]
   ·split at h<;>omega
 have zip:∀(f:Rat×Rat->Bool),(l.zip a).any f=true↔∃m,m<n/\f (l.getD m 0,a.getD m 0)=true:=fun f=>by
  rw[jw];constructor
  ·rintro⟨p,hp,hf⟩;obtain⟨m,hm,e⟩:=jT hp;rw[vS,ha,hl]at hm;rw[List.getElem_zip]at e;refine⟨m,by omega,?_⟩;rw[getD_some (zh (by omega)),getD_some (zh (by omega)),e];exact hf
  ·rintro⟨m,hm,hf⟩;refine⟨(l.getD m 0,a.getD m 0),?_,hf⟩;rw[getD_some (zh (by omega)),getD_some (zh (by omega))];exact List.mem_iff_getElem.2 ⟨m,by rw[vS];omega,List.getElem_zip⟩
 have hg:(l.zip a).any gtP=true↔¬∀m,m<n->l.getD m 0<=a.getD m 0:=by
  rw[zip];constructor
  ·rintro⟨m,hm,h⟩ hh;have h1:=(gt _).1 h;have h2:=hh m hm;dsimp only at h1;grind
  ·intro h;rcases Classical.not_forall.1 h with ⟨m,hm⟩;rcases Classical.not_imp.1 hm with ⟨h1,h2⟩;exact⟨m,h1,(gt _).2 (by dsimp only;grind)⟩
 have hlt:(l.zip a).any ltP=true↔¬∀m,m<n->a.getD m 0<=l.getD m 0:=by
  rw[zip];constructor
  ·rintro⟨m,hm,h⟩ hh;have h1:=(lt _).1 h;have h2:=hh m hm;dsimp only at h1;grind
  ·intro h;rcases Classical.not_forall.1 h with ⟨m,hm⟩;rcases Classical.not_imp.1 hm with ⟨h1,h2⟩;exact⟨m,h1,(lt _).2 (by dsimp only;grind)⟩
 unfold jfr;by_cases hk:kind=0
 ·simp[hk]
 rw[zn hk];by_cases h1:∀m,m<n->l.getD m 0<=a.getD m 0
 ·rw[zn (fun h=>hg.1 h h1)];by_cases h2:∀m,m<n->a.getD m 0<=l.getD m 0
  ·have:(l.zip a).any ltP=false:=by
    rcases h:(l.zip a).any ltP with _ | _
    ·rfl
    ·exact absurd h2 (hlt.1 h)
   rw[this];exact⟨fun _=> .inr ⟨h1,fun _=>h2⟩,fun _=>rfl⟩
  ·rw[hlt.2 h2,qe];rcases hx:x.all with _ | _
   ·exact⟨fun _=> .inr ⟨h1,fun h=>(by cases h)⟩,fun _=>rfl⟩
   ·refine⟨fun h=>(by cases h),fun h=> ?_⟩;rcases h with h | h
    ·exact absurd h hk
    ·exact absurd (h.2 rfl) h2
 ·rw[zm (hg.2 h1)];refine⟨fun h=>(by cases h),fun h=> ?_⟩;rcases h with h | h
  ·exact absurd h hk
  ·exact absurd h.1 h1
