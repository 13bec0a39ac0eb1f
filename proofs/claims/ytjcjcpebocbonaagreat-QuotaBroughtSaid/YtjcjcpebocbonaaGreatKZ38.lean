/- A part of the proof. No further condition. -/
import Derived.Test.YtjcjcpebocbonaaGreatKZ37
set_option linter.all false
set_option maxRecDepth 10000000
set_option maxHeartbeats 16000000
namespace Go.Proofs.YtjcjcpebocbonaaGreat
section
set_option maxRecDepth 1000000
open Go.Abs
open Go.LP (Rw RT tsum Sol Bds)
def picksB(b:Bat):List (Int×Int):=b.mv.map fun i=>(i,b.mat)
def jlv(r:Rat):Int:=r.num.fdiv r.den
structure CSay(e:Evid)(b:Bat)(n f:Int):Prop where
 bad:fitsF e b=false->n=0/\f=1
 ok:fitsF e b=true->(f=15/\n=0/\∀x,¬Sol (nV e) (rowsE e) x)\/(f=0/\∃lo hi,BSay e (picksB b) (some (lo,hi))/\n=intF (jlv lo))
def jsp(e:Evid):Bool:=decide ((e.moves.length:Int)<=6)&&(decide ((e.places.length:Int)<=14)&&(decide ((e.certs.length:Int)<=6)&&(decide ((e.recalls.length:Int)<=4)&&(decide ((e.purs.length:Int)<=4)&&(decide (e.mats<=3) || decide (6<e.mats))))))
theorem pb_light(e:Evid):Ctr G.P 7 [e.iv] (· = .bool (jsp e)):=by
 refine ja4 [.tmp 2] Tryz.func7 ?_;unfold jsp Evid.iv Evid.c;simp only[za,go_sem]
 repeat' (first | (refine jc5 (fun hd=> ?_) (fun hd=> ?_)<;>simp only[*,go_sem]))
 all_goals simp[*]
end
section
set_option maxRecDepth 1000000
open Go.Abs
open Go.LP (Dic Rw RT Ov OvRw tsum Sol IsMin NoMin Bds)
section
variable{e:Evid}{ps:List (Int×Int)}
theorem okP_to{e':Evid}(h:okP e ps=true)(hc:jbb e'=0)(h1:e'.mats=e.mats)(h2:e'.moves=e.moves):okP e' ps=true:=by
 obtain⟨_,g2,g3⟩:=okP_iff.1 h;refine okP_iff.2 ⟨hc,fun p hp=> ?_,by rw[h1];exact g3⟩;have:=g2 p hp;unfold je3 at this⊢;rw[h1,h2];exact this
theorem wgt_to{e':Evid}(h1:e'.mats=e.mats):wgt e' ps=wgt e ps:=by unfold wgt;rw[h1]
theorem nV_to{e':Evid}(h1:e'.mats=e.mats)(h2:e'.moves=e.moves):nV e'=nV e:=by unfold nV;rw[h1,h2]
theorem BSay.wider{e':Evid}{b b':Option (Rat×Option Rat)}{a6:Rat}{a7:Option Rat}(h:BSay e ps b)(h':BSay e' ps b')(a8:b'=Option.some (a6,a7))(hc:jbb e=0)(h1:e'.mats=e.mats)(h2:e'.moves=e.moves)
  (hr:∀w∈rowsE e,w∈rowsE e'):∃lo hi,b=Option.some (lo,hi)/\lo<=a6/\(∀w,hi=Option.some w->∃w',a7=Option.some w'/\w'<=w)/\FL 4000000000 lo/\(∀w,hi=Option.some w->FL 4000000000 w)/\FL 4000000000 a6/\(∀w,a7=Option.some w->FL 4000000000 w):=by
 subst a8;obtain⟨g1,g2,g3,g4⟩:=h'.inv;rw[wgt_to h1,nV_to h1 h2]at g2;obtain⟨x,hx,_⟩:=g2.low_at;obtain⟨lo,hi,rfl,q2,q3,q4⟩:=h.get (okP_to g1 hc h1.symm h2.symm) ⟨x,hx.sub hr⟩;obtain⟨a1,a2⟩:=q2.sub g2 hr;exact⟨lo,hi,rfl,a1,a2,q3,q4,g3,g4⟩
end
end
section
set_option maxRecDepth 1000000
open Go.Abs
attribute [local go_sem] Evid.iv Evid.c Move.c Cert.c Recall.c Purity.c ints ic big frac fc
def negF(r:Rat):Bool:=decide (r.num.sign<0)
theorem h_negative(l:List Rat)(hl:l.length<=100000)(hf:∀r∈l,FL 19000000000 r):Ctr G.P 33 [fcs l] (· = .bool (l.any negF)):=by
 unfold fcs;refine ja4 [.tmp 2] Tryz.func33 ?_;simp only[go_sem];refine jai [5,6,7] [] (fun i:Nat=>⟨[(5,.im (.sl (l.map fc))),(6,.im (.int l.length)),(7,.im (.int i))],[],[]⟩)
  (fun i=>i<=l.length/\(l.take i).any negF=false) (fun i=>l.length-i) 0 ?_ ⟨zG _,rfl⟩ ?_
 ·simp only[Int.natCast_zero,go_sem]
 ·intro i ⟨hi,ha⟩;by_cases hp:(i:Int)<l.length
  ·have hd:decide ((i:Int)<l.length)=true:=zp hp;obtain⟨x,hx⟩:=jcf hp;have h1:=ja8 ((i:Int)+1);have hs:=f_sign (hf x (zk hx));have a6:=jf1 (f:=negF) hx;simp only[frac,ints]at hs;rcases hn:negF x with _ | _
   ·have a1:decide (x.num.sign<0)=false:=hn;simp only[hd,zq,hx,go_sem];refine ja0 hs ?_;simp only[a1,go_sem];refine ja7 (i+1) ?_ (by omega) ⟨by omega,by rw[a6,ha,hn];rfl⟩;simp only[h1,Int.natCast_add,go_sem]
   ·have a1:decide (x.num.sign<0)=true:=hn;rw[any_at hx hn];simp only[hd,zq,hx,go_sem];refine ja0 hs ?_;simp only[a1,go_sem]
  ·have hd:decide ((i:Int)<l.length)=false:=ze hp;rw[tLo]at ha;rw[ha];simp only[hd,go_sem]
def sumF(l:List Rat):Rat:=l.foldl (· + ·) ((0:Int):Rat)
theorem jpr{l:List Rat}{i:Nat}{x:Rat}(h:l[i]? =some x):sumF (l.take (i+1))=sumF (l.take i)+x:=by
 rw[take_succ h,sumF,jU];rfl
theorem FL_fold{k:Nat}:∀(l:List Rat) (a:Rat) (m:Nat),(∀r∈l,FL k r)->FL m a->FL (m+l.length*(k+1)) (l.foldl (· + ·) a)
 | [],a,m,_,ha=>ha.mono (by omega)
 | x::r,a,m,h,ha=>by
  have:=FL_fold r (a+x) (m+k+1) (fun y hy=>h y (by simp[hy])) (ji8 ha (h x (by simp)));refine this.mono ?_;rw[List.length_cons,qD];omega
theorem FL_sumF{k:Nat}{l:List Rat}(h:∀r∈l,FL k r):FL (4+l.length*(k+1)) (sumF l):=FL_fold l _ 4 h (jbn (by omega))
theorem h_sum(l:List Rat)(hl:l.length<=100)(hf:∀r∈l,FL 100000000 r):Ctr G.P 35 [fcs l] (· =frac (sumF l)):=by
 have o1:=jcj 0 (by omega);have hz:((0:Int):Rat)=sumF (l.take 0):=by rw[List.take_zero];rfl
 rw[hz]at o1;unfold fcs;simp only[frac,ints]at o1⊢;refine ja4 [.cell 2 48] Tryz.func35 ?_;simp only[go_sem];refine ja0 o1 ?_;simp only[go_sem];refine jai [2,3,7,8,9] [2,3] (fun i:Nat=>⟨[(2,.loc 2 4 0 0),(3,.loc 3 4 0 0),(7,.im (.sl (l.map fc))),(8,.im (.int l.length)),(9,.im (.int i))],[(3,4,[fc (sumF (l.take i))]),(2,4,[[.int 0,.sl [],.int 0,.sl []]])],[]⟩)
  (fun i=>i<=l.length) (fun i=>l.length-i) 0 ?_ (zG _) ?_
 ·simp only[Int.natCast_zero,go_sem]
 ·intro i hi;by_cases hp:(i:Int)<l.length
  ·have hd:decide ((i:Int)<l.length)=true:=zp hp;obtain⟨x,hx⟩:=jcf hp;have h1:=ja8 ((i:Int)+1);have hk:FL 19000000000 (sumF (l.take i)):=by
    refine(FL_sumF (k:=100000000) fun r hr=>hf r (yz hr)).mono ?_;rw[qb];have:min i l.length*100000001<=100*100000001:=yl (by omega) (zu _);omega
   have hs:=f_add hk ((hf x (zk hx)).mono (by omega:100000000<=19000000000));rw[<-jpr hx]at hs;simp only[frac,ints]at hs;simp only[hd,zq,hx,go_sem];refine ja0 hs ?_;simp only[go_sem];refine ja7 (i+1) ?_ (by omega) (by omega);simp only[h1,Int.natCast_add,go_sem]
  ·have hd:decide ((i:Int)<l.length)=false:=ze hp;rw[tLo];simp only[hd,go_sem]
end
section
set_option maxRecDepth 1000000
open Go.Abs
attribute [local go_sem] Evid.iv Evid.c Move.c Cert.c Recall.c Purity.c ints ic big frac fc
def jda(e:Evid)(x:Move)(a1:Rat):Bool:=decide (x.scale= -1) || match ivlF e.certs e.recalls x.scale x.reading x.day with
 | none=>true
 | some (lo,hi)=>decide (cmpR lo a1<=0)&&decide (cmpR a1 hi<=0)
theorem h_weighed(e:Evid)(x:Move)(a1:Rat)(hm:FL 19000000000 a1)(l1:e.certs.length<=100000)(l2:e.recalls.length<=100000):
  Ctr G.P 36 [e.iv,.agg x.c,frac a1] (· = .bool (jda e x a1)):=by
 rcases hs:decide (x.scale= -1)with _ | _
 ·have hi:=h_ivl e.certs e.recalls x.scale x.reading x.day l1 l2;rcases hv:ivlF e.certs e.recalls x.scale x.reading x.day with _ | ⟨lo,hi'⟩
  ·rw[hv]at hi;have hr:jda e x a1=true:=by simp[jda,hv]
   rw[hr];simp only[ivlIV,zf]at hi;refine ja4 [.tmp 6] Tryz.func36 ?_;unfold Evid.iv Evid.c Move.c;simp only[hs,go_sem];refine ja0 hi ?_;simp only[go_sem]
  ·rw[hv]at hi;obtain⟨k1,k2⟩:=FL_ivl hv;have c1:=f_cmp (k1.mono (by omega:14<=19000000000)) hm;have c2:=f_cmp hm (k2.mono (by omega:14<=19000000000));have hr:jda e x a1=(decide (cmpR lo a1<=0)&&decide (cmpR a1 hi'<=0)):=by simp only[jda,hv,hs,yn]
   rw[hr];generalize cmpR lo a1=m1 at*;generalize cmpR a1 hi'=m2 at*;simp only[ivlIV,frac,ints]at hi c1 c2⊢;rcases d1:decide (m1<=0)with _ | _
   ·refine ja4 [.tmp 6] Tryz.func36 ?_;unfold Evid.iv Evid.c Move.c;simp only[hs,go_sem];refine ja0 hi ?_;simp only[go_sem];refine ja0 c1 ?_;simp only[d1,go_sem]
   ·refine ja4 [.tmp 6] Tryz.func36 ?_;unfold Evid.iv Evid.c Move.c;simp only[hs,go_sem];refine ja0 hi ?_;simp only[go_sem];refine ja0 c1 ?_;simp only[d1,go_sem];refine ja0 c2 ?_;simp only[d1,go_sem]
 ·have hr:jda e x a1=true:=by simp only[jda,hs,vt]
  rw[hr];refine ja4 [.tmp 6] Tryz.func36 ?_;unfold Evid.iv Evid.c Move.c;simp only[hs,go_sem]
def keepF(l:List Rat)(a1:Rat)(p:Purity):Bool:=match l[p.mat.toNat]? with
 | none=>true
 | some f=> !(decide (cmpR (((1000:Int):Rat)*f) ((p.least:Rat)*a1)<0) || decide (0<cmpR (((1000:Int):Rat)*f) ((p.most:Rat)*a1)))
def pureP(move:Int)(l:List Rat)(a1:Rat)(p:Purity):Bool:= !decide (p.move=move) || keepF l a1 p
def pureF(e:Evid)(move:Int)(l:List Rat)(a1:Rat):Bool:=e.purs.all (pureP move l a1)
theorem h_pure(e:Evid)(move:Int)(l:List Rat)(a1:Rat)(hl:e.purs.length<=100000)(hm:FL 9000000000 a1)(hf:∀r∈l,FL 9000000000 r)
  (hp:∀p∈e.purs,(0<=p.mat/\p.mat<l.length)/\(-9223372036854775808<=p.least/\p.least<=9223372036854775807)/\(-9223372036854775808<=p.most/\p.most<=9223372036854775807)):
  Ctr G.P 37 [e.iv,.int move,fcs l,frac a1] (· = .bool (pureF e move l a1)):=by
 unfold fcs pureF;have b4:frac a1= .agg (fc a1):=rfl;rw[b4];refine ja4 [.tmp 8] Tryz.func37 ?_;unfold Evid.iv Evid.c;simp only[go_sem];refine jai [1,2,4,7,18,19,20] [4,7] (fun i:Nat=>⟨[(1,.im (.int move)),(2,.im (.sl (l.map fc))),(4,.loc 4 8 0 0),(7,.loc 7 4 0 0),(18,.im (.sl (e.purs.map Purity.c))),(19,.im (.int e.purs.length)),(20,.im (.int i))],[(7,4,[fc a1]),(4,8,[e.c])],[]⟩)
  (fun i=>i<=e.purs.length/\(e.purs.take i).all (pureP move l a1)=true) (fun i=>e.purs.length-i) 0 ?_ ⟨zG _,rfl⟩ ?_
 ·simp only[Int.natCast_zero,go_sem]
 ·intro i ⟨hi,ha⟩;by_cases a7:(i:Int)<e.purs.length
  ·have hd:decide ((i:Int)<e.purs.length)=true:=zp a7;obtain⟨x,hx⟩:=jcf a7;have h1:=ja8 ((i:Int)+1);have b3:=jcn (f:=pureP move l a1) hx;rcases dm:decide (x.move=move)with _ | _
   ·have a6:pureP move l a1 x=true:=by simp only[pureP,dm,Bool.not_false,vt]
    simp only[hd,zq,hx,dm,go_sem];refine ja7 (i+1) ?_ (by omega) ⟨by omega,by rw[b3,ha,a6];rfl⟩;simp only[h1,Int.natCast_add,go_sem]
   ·obtain⟨⟨b0,a8⟩,b2,b1⟩:=hp x (zk hx);obtain⟨f,hf'⟩:∃f,l[x.mat.toNat]? =some f:=⟨_,zw (by omega)⟩;have kf:=hf f (zk hf');have k0:FL 4 ((1000:Int):Rat):=jbn (by omega);have k1:FL 4 (x.least:Rat):=jbn b2;have k2:FL 4 (x.most:Rat):=jbn b1;have i1:=jcj 1000 (by omega);have i2:=jcj x.least b2;have i3:=jcj x.most b1;have m1:=f_mul (k0.mono (by omega:4<=19000000000)) (kf.mono (by omega:9000000000<=19000000000));have m2:=f_mul (k1.mono (by omega:4<=19000000000)) (hm.mono (by omega:9000000000<=19000000000));have m3:=f_mul (k2.mono (by omega:4<=19000000000)) (hm.mono (by omega:9000000000<=19000000000));have c1:=f_cmp ((jje k0 kf).mono (by omega)) ((jje k1 hm).mono (by omega));have c2:=f_cmp ((jje k0 kf).mono (by omega)) ((jje k2 hm).mono (by omega));have a6:pureP move l a1 x= !(decide (cmpR (((1000:Int):Rat)*f) ((x.least:Rat)*a1)<0) || decide (0<cmpR (((1000:Int):Rat)*f) ((x.most:Rat)*a1))):=by
     simp only[pureP,dm,keepF,hf',j3,yn]
    have hf:=hf';generalize ((1000:Int):Rat)=q0 at*;generalize (x.least:Rat)=q1 at*;generalize (x.most:Rat)=q2 at*;generalize q0*f=p0 at*;generalize q1*a1=p1 at*;generalize q2*a1=p2 at*;generalize cmpR p0 p1=s1 at*;generalize cmpR p0 p2=s2 at*;simp only[frac,ints]at i1 i2 i3 m1 m2 m3 c1 c2;rcases d1:decide (s1<0)with _ | _
    ·rcases d2:decide (0<s2)with _ | _
     ·rw[d1,d2]at a6;simp only[hd,zq,hx,dm,go_sem];refine jah ?_;simp only[go_sem];refine ja3 i1 (by decide) ?_;simp only[b0,a8,hf,zq,go_sem];refine ja3 m1 (by decide) ?_;simp only[go_sem];refine jah ?_;simp only[go_sem];refine ja3 i2 (by decide) ?_;simp only[go_sem];refine ja3 m2 (by decide) ?_;simp only[go_sem];refine jah ?_;simp only[go_sem];refine ja3 i3 (by decide) ?_;simp only[go_sem];refine ja3 m3 (by decide) ?_;simp only[go_sem];refine ja0 c1 ?_;simp only[d1,go_sem];refine ja0 c2 ?_;simp only[d2,go_sem];refine ja7 (i+1) ?_ (by omega) ⟨by omega,by rw[b3,ha,a6];rfl⟩;simp only[h1,Int.natCast_add,go_sem]
     ·rw[d1,d2]at a6;rw[jfw hx a6];simp only[hd,zq,hx,dm,go_sem];refine jah ?_;simp only[go_sem];refine ja3 i1 (by decide) ?_;simp only[b0,a8,hf,zq,go_sem];refine ja3 m1 (by decide) ?_;simp only[go_sem];refine jah ?_;simp only[go_sem];refine ja3 i2 (by decide) ?_;simp only[go_sem];refine ja3 m2 (by decide) ?_;simp only[go_sem];refine jah ?_;simp only[go_sem];refine ja3 i3 (by decide) ?_;simp only[go_sem];refine ja3 m3 (by decide) ?_;simp only[go_sem];refine ja0 c1 ?_;simp only[d1,go_sem];refine ja0 c2 ?_;simp only[d2,go_sem]
    ·rw[d1,vt]at a6;rw[jfw hx a6];simp only[hd,zq,hx,dm,go_sem];refine jah ?_;simp only[go_sem];refine ja3 i1 (by decide) ?_;simp only[b0,a8,hf,zq,go_sem];refine ja3 m1 (by decide) ?_;simp only[go_sem];refine jah ?_;simp only[go_sem];refine ja3 i2 (by decide) ?_;simp only[go_sem];refine ja3 m2 (by decide) ?_;simp only[go_sem];refine jah ?_;simp only[go_sem];refine ja3 i3 (by decide) ?_;simp only[go_sem];refine ja3 m3 (by decide) ?_;simp only[go_sem];refine ja0 c1 ?_;simp only[d1,go_sem]
  ·have hd:decide ((i:Int)<e.purs.length)=false:=ze a7;rw[tLo]at ha;rw[ha];simp only[hd,go_sem]
end
section
set_option maxRecDepth 1000000
open Go.Abs
def inner:List Nat->List (List Rat)->Abs.Rows
 | b::bs,r::S=>(hp b,4,r.map fc)::inner bs S
 | _,_=>[]
def outer(t:Nat)(n:Nat)(bs:List Nat):List (List IV):=bs.map fun b=>[.ref b t 4 n]
def jbk(t b0:Nat)(bs:List Nat)(S:List (List Rat))(n:Nat):Abs.Rows:=(hp b0,1,outer t n bs)::inner bs S
theorem je5{bs:List Nat}{S:List (List Rat)}{k:Nat}(h:∀b∈bs,k≠hp b):Abs.look (inner bs S) k=none:=by
 induction bs generalizing S with
 | nil=>cases S<;>rfl
 | cons b bs ih=>
  cases S with
  | nil=>rfl
  | cons r S=>
   rw[inner,ja1 _ _ (h b (by simp))];exact ih fun c hc=>h c (by simp[hc])
theorem jnd{bs:List Nat}{S:List (List Rat)}{i b:Nat}{r:List Rat}(hn:bs.Nodup)(hb:bs[i]? =some b)(hr:S[i]? =some r):Abs.look (inner bs S) (hp b)=some (4,r.map fc):=by
 induction bs generalizing S i with
 | nil=>cases hb
 | cons c bs ih=>
  cases S with
  | nil=>cases hr
  | cons q S=>
   rw[qJ]at hn;cases i with
   | zero=>
    simp only[List.getElem?_cons_zero,qa]at hb hr;subst hb hr;rw[inner,ja2]
   | succ i=>
    rw[List.getElem?_cons_succ]at hb hr;have a1:b≠c:=fun e=>hn.1 (e▸zk hb);rw[inner,ja1 _ _ (fun e=>a1 (hp_inj.1 e))];exact ih hn.2 hb hr
theorem jgj{R:Abs.Rows}{k s:Nat}{es:List (List IV)}(h:Abs.look R k=none):setRow R k s es=R:=by
 induction R with
 | nil=>rfl
 | cons p R ih=>
  obtain⟨j,v⟩:=p;by_cases e:k=j
  ·subst e;rw[ja2]at h;cases h
  ·rw[ja1 _ _ e]at h;have:=ih h;simp only[setRow,zt]at this⊢;rw[this,zl (fun x=>e x.symm)]
theorem inner_set{bs:List Nat}{S:List (List Rat)}{i b:Nat}{r q:List Rat}(hn:bs.Nodup)(hb:bs[i]? =some b)(hr:S[i]? =some r):setRow (inner bs S) (hp b) 4 (q.map fc)=inner bs (S.set i q):=by
 induction bs generalizing S i with
 | nil=>cases hb
 | cons c bs ih=>
  cases S with
  | nil=>cases hr
  | cons p S=>
   rw[qJ]at hn;cases i with
   | zero=>
    simp only[List.getElem?_cons_zero,qa]at hb hr;subst hb hr;have h0:Abs.look (inner bs S) (hp c)=none:=je5 fun d hd e=>hn.1 ((hp_inj.1 e)▸hd);have:=jgj (s:=4) (es:=q.map fc) h0;simp only[setRow]at this;simp only[setRow,inner,zt,List.set_cons_zero,this,qA]
   | succ i=>
    rw[List.getElem?_cons_succ]at hb hr;have a1:b≠c:=fun e=>hn.1 (e▸zk hb);have:=ih hn.2 hb hr;simp only[setRow]at this;simp only[setRow,inner,zt,List.set_cons_succ,this,zl (fun e=>a1 (hp_inj.1 e).symm:¬hp c=hp b)]
section
variable{t b0 n:Nat}{bs:List Nat}{S:List (List Rat)}
theorem js4:Abs.look (jbk t b0 bs S n) (hp b0)=some (1,outer t n bs):=ja2 _ _ _
theorem jr9{i b:Nat}{r:List Rat}(hn:(b0::bs).Nodup)(hb:bs[i]? =some b)(hr:S[i]? =some r):Abs.look (jbk t b0 bs S n) (hp b)=some (4,r.map fc):=by
 rw[qJ]at hn;have a1:b≠b0:=fun e=>hn.1 (e▸zk hb);rw[jbk,ja1 _ _ (fun e=>a1 (hp_inj.1 e))];exact jnd hn.2 hb hr
theorem st_set{i b:Nat}{r q:List Rat}(hn:(b0::bs).Nodup)(hb:bs[i]? =some b)(hr:S[i]? =some r):(jbk t b0 bs S n).map (fun p=>if p.1=hp b then(p.1,4,q.map fc)else p)=jbk t b0 bs (S.set i q) n:=by
 rw[qJ]at hn;have a1:b≠b0:=fun e=>hn.1 (e▸zk hb);have:=inner_set (q:=q) hn.2 hb hr;simp only[setRow]at this;simp only[jbk,zt,this,zl (fun e=>a1 (hp_inj.1 e).symm:¬hp b0=hp b)]
theorem jc4{d:Nat}(h:d<100000):Abs.look (jbk t b0 bs S n) d=none:=by
 have hl:∀b,d≠hp b:=fun b=>by unfold hp;omega
 rw[jbk,ja1 _ _ (hl b0)];exact je5 fun b _=>hl b
theorem jm3{R:Abs.Rows}{d:Nat}(h:Abs.look R d=none):R.filter (fun p=>p.1 !=d)=R:=by
 induction R with
 | nil=>rfl
 | cons p R ih=>
  obtain⟨j,v⟩:=p;by_cases e:d=j
  ·subst e;rw[ja2]at h;cases h
  ·rw[ja1 _ _ e]at h;rw[j0,ih h,zh (by simp only[qh,ne_eq];exact fun x=>e x.symm)]
theorem jim{d:Nat}(h:d<100000):(jbk t b0 bs S n).filter (fun p=>p.1 !=d)=jbk t b0 bs S n:=jm3 (jc4 h)
theorem jl2{d s:Nat}{es:List (List IV)}(h:d<100000):(jbk t b0 bs S n).map (fun p=>if p.1=d then(p.1,s,es)else p)=jbk t b0 bs S n:=jgj (jc4 h)
theorem st_blks:blks (jbk t b0 bs S n):=by
 intro k x h;rcases Decidable.em (k<100000)with hk | hk
 ·rw[jc4 hk]at h;cases h
 ·exact⟨_,hp_of (by omega)⟩
end
theorem jbo{R' R:Abs.Rows}{p:Nat×Nat×List (List IV)}(h:Abs.look R' p.1=none)(hs:SubR R' R):SubR R' (p::R):=by
 intro k x hk;obtain⟨j,v⟩:=p;rw[ja1 _ _ (fun e=>by subst e;rw[h]at hk;cases hk)];exact hs k x hk
def stepS(fr to m:Nat)(f:Rat)(S:List (List Rat)):List (List Rat):=
 let a:=S.getD fr []
 let S1:=S.set fr (a.set m (a.getD m 0-f))
 let b:=S1.getD to []
 S1.set to (b.set m (b.getD m 0+f))
def carN(S:List (List Rat))(fr to:Nat)(l:List Rat):Nat->List (List Rat)
 | 0=>S
 | m+1=>stepS fr to m (l.getD m 0) (carN S fr to l m)
def Stk(p n:Nat)(S:List (List Rat)):Prop:=S.length=p/\∀r∈S,r.length=n
theorem mem_getD{S:List (List Rat)}{i:Nat}(h:i<S.length):S.getD i []∈S:=by
 rw[zX,zw h];exact yN h
theorem Stk.set{p n:Nat}{S:List (List Rat)}(h:Stk p n S){i:Nat}{r:List Rat}(hr:r.length=n):Stk p n (S.set i r):=
 ⟨by rw[qd];exact h.1,fun q hq=>by
  rcases yy hq with h1 | h1
  ·exact h.2 q h1
  ·rw[h1];exact hr⟩
theorem Stk.step{p n fr to m:Nat}{f:Rat}{S:List (List Rat)}(h:Stk p n S)(h1:fr<p)(h2:to<p):Stk p n (stepS fr to m f S):=by
 have h3:=h.set (i:=fr) (r:=(S.getD fr []).set m ((S.getD fr []).getD m 0-f)) (by rw[qd];exact h.2 _ (mem_getD (by rw[h.1];exact h1)));exact h3.set (by rw[qd];exact h3.2 _ (mem_getD (by rw[h3.1];exact h2)))
theorem Stk.car{p n fr to:Nat}{l:List Rat}{S:List (List Rat)}(h:Stk p n S)(h1:fr<p)(h2:to<p):∀m,Stk p n (carN S fr to l m)
 | 0=>h
 | m+1=>(Stk.car h h1 h2 m).step h1 h2
def SL(k j m:Nat)(S:List (List Rat)):Prop:=∀r∈S,∀(i:Nat) x,r[i]? =some x->FL (if i<m then k else j) x
theorem SL.set{k j m c:Nat}{S:List (List Rat)}{r:List Rat}{x:Rat}(h:SL k j m S)(hr:r∈S)(hx:FL c x)(hc:∀q∈S,∀y,q[m]? =some y->FL c y){i:Nat}:
  ∀q∈S.set i (r.set m x),∀(n:Nat) y,q[n]? =some y->(n=m->FL c y)/\(n≠m->FL (if n<m then k else j) y):=by
 intro q hq n y hy;rcases yy hq with h1 | h1
 ·exact⟨fun e=>hc q h1 y (e▸hy),fun _=>h q h1 n y hy⟩
 ·rw[h1]at hy;refine⟨fun e=> ?_,fun e=> ?_⟩
  ·subst e;rw[List.getElem?_set_self']at hy;cases hz:r[n]? with
   | none=>rw[hz]at hy;cases hy
   | some z=>
    rw[hz]at hy;have hy:some x=some y:=hy;injection hy with hy;rw[<-hy];exact hx
  ·rw[jx (fun x=>e x.symm)]at hy;exact h r hr n y hy
theorem jrk{l:List Rat}{m:Nat}(h:m<l.length):l[m]? =some (l.getD m 0):=by
 rw[zX,zw h];rfl
theorem SL.step{k j m p n fr to:Nat}{f:Rat}{S:List (List Rat)}(h:SL k j m S)(hs:Stk p n S)(h1:fr<p)(h2:to<p)(hm:m<n)(c:Nat)(hc:∀x,FL j x->FL c x/\FL c (x-f))(hk:∀x,FL c x->FL k x/\FL k (x+f)):
  SL k j (m+1) (stepS fr to m f S)/\((∀x,(S.getD fr [])[m]? =some x->FL j x)/\∀x,((S.set fr ((S.getD fr []).set m ((S.getD fr []).getD m 0-f))).getD to [])[m]? =some x->FL c x):=by
 have ha:=mem_getD (S:=S) (i:=fr) (by rw[hs.1];exact h1);have a6:(S.getD fr []).length=n:=hs.2 _ ha;have hj:∀q∈S,∀x,q[m]? =some x->FL j x:=fun q hq x hx=>by
  have:=h q hq m x hx
  rwa [iNo]at this
 have a8:FL j ((S.getD fr []).getD m 0):=hj _ ha _ (jrk (by rw[a6];exact hm));have e1:=SL.set (c:=c) (i:=fr) (x:=(S.getD fr []).getD m 0-f) h ha (hc _ a8).2 (fun q hq y hy=>(hc y (hj q hq y hy)).1);have hs1:=hs.set (i:=fr) (r:=(S.getD fr []).set m ((S.getD fr []).getD m 0-f)) (by rw[qd];exact a6);unfold stepS;dsimp only;generalize S.set fr ((S.getD fr []).set m ((S.getD fr []).getD m 0-f))=S1 at*;have hb:=mem_getD (S:=S1) (i:=to) (by rw[hs1.1];exact h2);have a1:(S1.getD to []).length=n:=hs1.2 _ hb;have a7:FL c ((S1.getD to []).getD m 0):=(e1 _ hb m _ (jrk (by rw[a1];exact hm))).1 rfl;refine⟨?_,fun x hx=>hj _ ha x hx,fun x hx=>(e1 _ hb m x hx).1 rfl⟩;intro q hq i y hy;rcases yy hq with h3 | h3
 ·obtain⟨g1,g2⟩:=e1 q h3 i y hy;by_cases e:i=m
  ·rw[iPo];exact(hk y (g1 e)).1
  ·have:=g2 e;by_cases hi:i<m
   ·rw[zh hi]at this;rw[iPo];exact this
   ·rw[zl hi]at this;rw[iNo];exact this
 ·rw[h3]at hy;by_cases e:i=m
  ·subst e;rw[List.getElem?_set_self (by rw[a1];exact hm)]at hy;injection hy with hy;rw[<-hy,iPo];exact(hk _ a7).2
  ·rw[jx (fun x=>e x.symm)]at hy;have:=(e1 _ hb i y hy).2 e;by_cases hi:i<m
   ·rw[zh hi]at this;rw[iPo];exact this
   ·rw[zl hi]at this;rw[iNo];exact this
end
section
set_option maxRecDepth 1000000
open Go.Abs
attribute [local go_sem] Move.c ints ic big frac fc
theorem set_fc{a:List Rat}{m:Nat}{y:Rat}:(a.map fc).set m (fc y)=(a.set m y).map fc:=by rw[qm]
theorem carN_succ{S:List (List Rat)}{fr to m:Nat}{l:List Rat}{f am bm:Rat}{a b:List Rat}(hf:l[m]? =some f)(ha:(carN S fr to l m)[fr]? =some a)(a6:a[m]? =some am)
  (hb:((carN S fr to l m).set fr (a.set m (am-f)))[to]? =some b) (a1:b[m]? =some bm):
  carN S fr to l (m+1)=((carN S fr to l m).set fr (a.set m (am-f))).set to (b.set m (bm+f)):=by
 have e0:l.getD m 0=f:=by rw[zX,hf];rfl
 have e1:(carN S fr to l m).getD fr []=a:=by rw[zX,ha];rfl
 have e2:a.getD m 0=am:=by rw[zX,a6];rfl
 have e3:((carN S fr to l m).set fr (a.set m (am-f))).getD to []=b:=by rw[zX,hb];rfl
 have e4:b.getD m 0=bm:=by rw[zX,a1];rfl
 rw[carN,stepS];rw[e0,e1,e2,e3,e4]
theorem SL.car{q k p n fr to:Nat}{l:List Rat}{S:List (List Rat)}(h:SL (k+(q+q+2)) k 0 S)(hs:Stk p n S)(h1:fr<p)(h2:to<p)(hl:l.length=n)(a1:∀r∈l,FL q r):
  ∀m,m<=n->SL (k+(q+q+2)) k m (carN S fr to l m)
 | 0,_=>h
 | m+1,hm=>by
  have ih:=SL.car h hs h1 h2 hl a1 m (by omega);have hf:FL q (l.getD m 0):=a1 _ (zk (jrk (l:=l) (m:=m) (by omega)));exact(SL.step ih (Stk.car hs h1 h2 m) h1 h2 (by omega) (k+q+1) (fun x hx=>⟨hx.mono (by omega),(jtn hx hf).mono (by omega)⟩) (fun x hx=>⟨hx.mono (by omega),(ji8 hx hf).mono (by omega)⟩)).1
theorem h_carry(b0:Nat)(bs:List Nat)(S:List (List Rat))(x:Move)(l:List Rat)(p n k q:Nat)(b1:(b0::bs).Nodup)(hs:Stk p n S)(e1:bs.length=p)(c7:p<=1000)(c9:n<=1000)
  (c5:0<=x.fr/\x.fr<p) (c4:0<=x.to/\x.to<p) (hl:l.length=n) (b9:∀r∈l,FL q r) (hS:SL (k+(q+q+2)) k 0 S) (hk:k<=18000000000) (hq:q<=500000000):
  CtrH G.P 38 [.im (.ref b0 72 1 p),.im (.agg x.c),.im (fcs l)] (jbk 48 b0 bs S n)
   (fun r L'=>r= .im (.tup [])/\L'=jbk 48 b0 bs (carN S x.fr.toNat x.to.toNat l n) n):=by
 obtain⟨a8,a7⟩:=c5;obtain⟨a6,a1⟩:=c4;have q1:x.fr.toNat<p:=by omega
 have q2:x.to.toNat<p:=by omega
 have c8:((p:Nat):Int)=p:=rfl;unfold fcs;have F0:=fun(d:Nat) (h:d<100000)=>jim (t:=48) (b0:=b0) (bs:=bs) (S:=S) (n:=n) h;refine jap [] [] [] Tryz.func38 ?_;simp only[F0,go_sem];refine jar [0,4,8,9,10] (fun m:Nat=>⟨[(0,.im (.ref b0 72 1 p)),(4,.loc 4 6 0 0),(8,.im (.sl (l.map fc))),(9,.im (.int l.length)),(10,.im (.int m))],(4,6,[x.c])::jbk 48 b0 bs (carN S x.fr.toNat x.to.toNat l m) n,[]⟩)
  (fun m=>m<=l.length) (fun m=>l.length-m) 0 ?_ ?_ rfl (zG _) ?_
 ·simp only[Int.natCast_zero,go_sem]
 ·exact ja5
 ·intro m hm;by_cases b4:(m:Int)<l.length
  ·have hd:decide ((m:Int)<l.length)=true:=zp b4;obtain⟨f,hx⟩:=jcf b4;have h1:=ja8 ((m:Int)+1);have b2:(m:Int)<n:=by omega
   have kf:=b9 f (zk hx);have hA:=Stk.car (l:=l) hs q1 q2 m;have b6:=SL.car hS hs q1 q2 hl b9 m (by omega);obtain⟨bf,hbf⟩:∃b,bs[x.fr.toNat]? =some b:=⟨_,zw (by omega)⟩;obtain⟨bt,hbt⟩:∃b,bs[x.to.toNat]? =some b:=⟨_,zw (by omega)⟩;have c6:=fun a am b bm=>carN_succ (S:=S) (fr:=x.fr.toNat) (to:=x.to.toNat) (am:=am) (bm:=bm) (a:=a) (b:=b) hx;generalize carN S x.fr.toNat x.to.toNat l m=A at*;obtain⟨a,ha⟩:∃a,A[x.fr.toNat]? =some a:=⟨_,zw (by have:=hA.1;omega)⟩;have b5:a.length=n:=hA.2 a (zk ha);obtain⟨am,ham⟩:∃y,a[m]? =some y:=⟨_,zw (by omega)⟩;have b7:FL k am:=by
    have:=b6 a (zk ha) m am ham
    rwa [iNo]at this
   have s1:=f_sub (b7.mono (by omega:k<=19000000000)) (kf.mono (by omega:q<=19000000000));have ks:=jtn b7 kf;have hB:=hA.set (i:=x.fr.toNat) (r:=a.set m (am-f)) (by rw[qd];exact b5);obtain⟨b,hb⟩:∃b,(A.set x.fr.toNat (a.set m (am-f)))[x.to.toNat]? =some b:=⟨_,zw (by have:=hB.1;omega)⟩;have c0:b.length=n:=hB.2 b (zk hb);obtain⟨bm,hbm⟩:∃y,b[m]? =some y:=⟨_,zw (by omega)⟩;have c3:FL (k+q+1) bm:=by
    have b8:=SL.set (c:=k+q+1) (i:=x.fr.toNat) (x:=am-f) b6 (zk ha) (ks.mono (by omega)) (fun q hq y hy=>by
     have:=b6 q hq m y hy;rw[iNo]at this;exact this.mono (by omega))
    exact(b8 b (zk hb) m bm hbm).1 rfl
   have s2:=f_add (c3.mono (by omega:k+q+1<=19000000000)) (kf.mono (by omega:q<=19000000000));have b3:=c6 a am b bm ha ham hb hbm;have L0:=fun A'=>js4 (t:=48) (b0:=b0) (bs:=bs) (S:=A') (n:=n);have L1:=jr9 (t:=48) (n:=n) b1 hbf ha;have W1:=st_set (t:=48) (n:=n) (q:=a.set m (am-f)) b1 hbf ha;generalize A.set x.fr.toNat (a.set m (am-f))=B at*;have L2:=jr9 (t:=48) (n:=n) b1 hbt hb;have W2:=st_set (t:=48) (n:=n) (q:=b.set m (bm+f)) b1 hbt hb;have E1:=set_fc (a:=a) (m:=m) (y:=am-f);have E2:=set_fc (a:=b) (m:=m) (y:=bm+f);have F1:=fun(A':List (List Rat)) (d:Nat) (h:d<100000)=>jim (t:=48) (b0:=b0) (bs:=bs) (S:=A') (n:=n) h;have G1:=fun(A':List (List Rat)) (d:Nat) (h:d<100000)=>jc4 (t:=48) (b0:=b0) (bs:=bs) (S:=A') (n:=n) h;have K1:=fun(A':List (List Rat)) (d s:Nat) (es:List (List IV)) (h:d<100000)=>jl2 (t:=48) (b0:=b0) (bs:=bs) (S:=A') (n:=n) (s:=s) (es:=es) h;generalize am-f=y1 at*;generalize bm+f=y2 at*;simp only[frac,ints]at s1 s2;simp only[fc]at E1 E2;simp only[hd,zq,hx,F1,K1,go_sem];refine jah ?_;simp only[a8,a7,a6,a1,b2,b5,L0,L1,W1,E1,F1,G1,K1,outer,zq,hbf,hbt,ham,hx,go_sem];refine ja3 s1 (by decide) ?_;simp only[a8,a7,a6,a1,b2,b5,L0,L1,W1,E1,F1,G1,K1,outer,zq,hbf,hbt,ham,hx,go_sem];refine jah ?_
   simp only[a8,a7,a6,a1,b2,c0,L0,L2,W2,E2,F1,G1,K1,outer,zq,hbf,hbt,hbm,hx,go_sem];refine ja3 s2 (by decide) ?_;simp only[a8,a7,a6,a1,b2,c0,L0,L2,W2,E2,F1,G1,K1,outer,zq,hbf,hbt,hbm,hx,go_sem];refine jac (m+1) ?_ ?_ rfl (by omega) (by omega)
   ·simp only[h1,Int.natCast_add,go_sem]
   ·rw[b3];exact jbo (by show Abs.look (_::jbk _ _ _ _ _) 7=none;rw[ja1 _ _ (by decide),jc4 (by decide)]) ja5
  ·have hd:decide ((m:Int)<l.length)=false:=ze b4;have:m=n:=by omega
   subst this;simp only[hd,go_sem];refine jgt (jbk 48 b0 bs (carN S x.fr.toNat x.to.toNat l m) m) (fun k' x' h'=> ?_) ?_
   ·have e0:¬k'<100000:=fun h=>by rw[jc4 h]at h';cases h'
    refine⟨by omega,?_⟩;rw[ja1 _ _ (by omega)];exact h'
   ·simp only[go_sem]
end
section
set_option maxRecDepth 1000000
open Go.Abs
attribute [local go_sem] Evid.iv Evid.c Move.c Place.c ints ic big frac fc
structure Raw where
 s:Int
 l:List Int
 t:Int
 m:List Int
def Raw.c(x:Raw):List IV:=[.int x.s,.sl (x.l.map ic),.int x.t,.sl (x.m.map ic)]
attribute [local go_sem] Raw.c
def rowC(l:List Raw):List IV:=[.sl (l.map Raw.c)]
def hist(h:List (List Raw)):IV:= .sl (h.map rowC)
def Raw.ok(x:Raw):Bool:=fracF x.s x.l x.t x.m
def rowOk(e:Evid)(l:List Raw):Bool:=decide ((l.length:Int)=e.mats)&&l.all Raw.ok
def jgi(e:Evid)(h:List (List Raw)):Bool:=decide ((h.length:Int)=e.moves.length)&&h.all (rowOk e)
theorem jsy(e:Evid)(h:List (List Raw))(hl:h.length<=100000)(hr:∀l∈h,l.length<=100000)(hx:∀l∈h,∀x∈l,x.l.length<=50000000000/\x.m.length<=50000000000):
  Ctr G.P 31 [e.iv,hist h] (· = .bool (jgi e h)):=by
 unfold hist;rcases d0:decide ((h.length:Int)=e.moves.length)with _ | _
 ·have hs:jgi e h=false:=by simp only[jgi,d0,qZ]
  rw[hs];refine ja4 [.tmp 4] Tryz.func31 ?_;unfold Evid.iv Evid.c;simp only[d0,go_sem]
 ·have hs:jgi e h=h.all (rowOk e):=by simp only[jgi,d0,qu]
  rw[hs];refine ja4 [.tmp 4] Tryz.func31 ?_;unfold Evid.iv Evid.c;simp only[d0,go_sem];refine jai [2,15,16,17] [2] (fun i:Nat=>⟨[(2,.loc 2 8 0 0),(15,.im (.sl (h.map rowC))),(16,.im (.int h.length)),(17,.im (.int i))],[(2,8,[e.c])],[]⟩)
   (fun i=>i<=h.length/\(h.take i).all (rowOk e)=true) (fun i=>h.length-i) 0 ?_ ⟨zG _,rfl⟩ ?_
  ·simp only[Int.natCast_zero,go_sem]
  ·intro i ⟨hi,ha⟩;by_cases hp:(i:Int)<h.length
   ·have hd:decide ((i:Int)<h.length)=true:=zp hp;obtain⟨l,a1⟩:=jcf hp;have h1:=ja8 ((i:Int)+1);have b2:=jcn (f:=rowOk e) a1;have b3:=hr l (zk a1);have b0:=hx l (zk a1);rcases d1:decide ((l.length:Int)=e.mats)with _ | _
    ·have a7:rowOk e l=false:=by simp only[rowOk,d1,qZ]
     rw[jfw a1 a7];simp only[hd,zq,a1,rowC,d1,go_sem]
    ·simp only[hd,zq,a1,rowC,d1,go_sem];refine jai [2,15,16,17,26,27,28] [2] (fun j:Nat=>⟨[(2,.loc 2 8 0 0),(15,.im (.sl (h.map rowC))),(16,.im (.int h.length)),(17,.im (.int i)),(26,.im (.sl (l.map Raw.c))),(27,.im (.int l.length)),(28,.im (.int j))],[(2,8,[e.c])],[]⟩)
      (fun j=>j<=l.length/\(l.take j).all Raw.ok=true) (fun j=>l.length-j) 0 ?_ ⟨zG _,rfl⟩ ?_
     ·simp only[Int.natCast_zero,go_sem]
     ·intro j ⟨hj,hb⟩;by_cases hq:(j:Int)<l.length
      ·have a6:decide ((j:Int)<l.length)=true:=zp hq;obtain⟨y,hy⟩:=jcf hq;have h2:=ja8 ((j:Int)+1);have b1:=jcn (f:=Raw.ok) hy;obtain⟨y1,y2⟩:=b0 y (zk hy);have ht:=jkz y.s y.t y.l y.m y1 y2;simp only[ints]at ht;rcases ok:y.ok with _ | _
       ·have a7:rowOk e l=false:=by simp only[rowOk,jfw hy ok,jl]
        rw[show fracF y.s y.l y.t y.m=false from ok]at ht;rw[jfw a1 a7];simp only[a6,zq,hy,go_sem];refine ja0 ht ?_;simp only[go_sem]
       ·rw[show fracF y.s y.l y.t y.m=true from ok]at ht;simp only[a6,zq,hy,go_sem];refine ja0 ht ?_;simp only[go_sem];refine ja7 (j+1) ?_ (by omega) ⟨by omega,by rw[b1,hb,ok];rfl⟩;simp only[h2,Int.natCast_add,go_sem]
      ·have a6:decide ((j:Int)<l.length)=false:=ze hq;rw[tLo]at hb;have a8:rowOk e l=true:=by simp only[rowOk,d1,hb,Bool.and_self]
       simp only[a6,go_sem];refine ja7 (i+1) ?_ (by omega) ⟨by omega,by rw[b2,ha,a8];rfl⟩;simp only[h1,Int.natCast_add,go_sem]
   ·have hd:decide ((i:Int)<h.length)=false:=ze hp;rw[tLo]at ha;rw[ha];simp only[hd,go_sem]
def stC(r:List Rat):List IV:=[.sl (r.map fc)]
def gtP(p:Rat×Rat):Bool:=decide (cmpR p.1 p.2=1)
def ltP(p:Rat×Rat):Bool:=decide (cmpR p.1 p.2= -1)
def jfy(kind:Int)(a:List Rat)(x:Move)(l:List Rat):Int:=if kind=0 then 0 else if(l.zip a).any gtP=true then 4 else if((l.zip a).any ltP&&x.all)=true then 7 else 0
end
section
set_option maxRecDepth 1000000
open Go.Abs
attribute [local go_sem] Evid.iv Evid.c Place.c ints ic big frac fc
theorem jls{bs:List Nat}{S:List (List Rat)}{d:Nat}(h:d<100000):Abs.look (inner bs S) d=none:=je5 fun b _=>by unfold hp;omega
theorem jqo{bs:List Nat}{S:List (List Rat)}{b:Nat}(h:b∉bs):Abs.look (inner bs S) (hp b)=none:=je5 fun c hc e=>h ((hp_inj.1 e)▸hc)
theorem inner_filter{bs:List Nat}{S:List (List Rat)}{d:Nat}(h:d<100000):(inner bs S).filter (fun p=>p.1 !=d)=inner bs S:=jm3 (jls h)
theorem inner_setlow{bs:List Nat}{S:List (List Rat)}{d s:Nat}{es:List (List IV)}(h:d<100000):(inner bs S).map (fun p=>if p.1=d then(p.1,s,es)else p)=inner bs S:=jgj (jls h)
theorem jka{bs:List Nat}{S:List (List Rat)}{b s:Nat}{es:List (List IV)}(h:b∉bs):(inner bs S).map (fun p=>if p.1=hp b then(p.1,s,es)else p)=inner bs S:=jgj (jqo h)
def z4:List IV:=[.int 0,.emp,.int 0,.emp]
def nRow(t n P:Nat)(bs:List Nat):List (List IV):=outer t n bs++List.replicate (P-bs.length) [.emp]
def nIn(n:Nat)(z:Rat)(bs:List Nat):Abs.Rows:=inner bs (List.replicate bs.length (List.replicate n z))
def fRow(n:Nat)(z:Rat)(m:Nat):List (List IV):=List.replicate m (fc z)++List.replicate (n-m) z4
theorem set_app{α:Type}(l:List α)(k:Nat)(x y:α)(h:0<k):(l++List.replicate k x).set l.length y=(l++[y])++List.replicate (k-1) x:=by
 obtain⟨j,rfl⟩:∃j,k=j+1:=⟨k-1,by omega⟩;rw[List.replicate_succ,List.set_append_right _ _ (zu _),vY,List.set_cons_zero,qe];rfl
theorem get_app{α:Type}(l:List α)(k:Nat)(x:α)(h:0<k):(l++List.replicate k x)[l.length]? =some x:=by
 rw[zP (zu _),vY,yi,zh h]
theorem jlc{t n:Nat}{bs:List Nat}:(outer t n bs).length=bs.length:=by rw[outer,za]
theorem nRow_get{t n P:Nat}{bs:List Nat}(h:bs.length<P):(nRow t n P bs)[bs.length]? =some [.emp]:=by
 have:=get_app (outer t n bs) (P-bs.length) [IV.emp] (by omega)
 rwa [jlc]at this
theorem nRow_set{t n P b:Nat}{bs:List Nat}(h:bs.length<P):(nRow t n P bs).set bs.length [.ref b t 4 n]=nRow t n P (bs++[b]):=by
 have:=set_app (outer t n bs) (P-bs.length) [IV.emp] [.ref b t 4 n] (by omega);rw[jlc]at this;rw[nRow,this,nRow,zB,List.length_singleton,Nat.sub_sub];simp only[outer,qv,zt,zF]
theorem nRow_last{t n P b:Nat}{bs:List Nat}:(nRow t n P (bs++[b]))[bs.length]? =some [.ref b t 4 n]:=by
 rw[nRow,zK (by rw[jlc,zB,List.length_singleton];omega)];simp[outer]
theorem fRow_zero{n:Nat}{z:Rat}:List.replicate n z4=fRow n z 0:=by simp[fRow]
theorem fRow_get{n m:Nat}{z:Rat}(h:m<n):(fRow n z m)[m]? =some z4:=by
 have:=get_app (List.replicate m (fc z)) (n-m) z4 (by omega)
 rwa [zQ]at this
theorem fRow_set{n m:Nat}{z:Rat}(h:m<n):(fRow n z m).set m (fc z)=fRow n z (m+1):=by
 have:=set_app (List.replicate m (fc z)) (n-m) z4 (fc z) (by omega);rw[zQ,<-List.replicate_succ']at this;rw[fRow,this,fRow,Nat.sub_sub]
theorem fRow_end{n:Nat}{z:Rat}:fRow n z n=(List.replicate n z).map fc:=by simp[fRow]
theorem jnc{b:Nat}{r:List Rat}:∀{bs:List Nat},inner (bs++[b]) (List.replicate (bs.length+1) r)=inner bs (List.replicate bs.length r)++[(hp b,4,r.map fc)]
 | []=>rfl
 | c::bs=>by
  have:=jnc (b:=b) (r:=r) (bs:=bs);rw[List.length_cons,List.replicate_succ,List.cons_append,inner,this,List.replicate_succ,inner,List.cons_append]
theorem jsh{n b:Nat}{z:Rat}{bs:List Nat}{k:Nat}{x:Nat×List (List IV)}(h:Abs.look (nIn n z (bs++[b])) k=some x):(k=hp b/\x=(4,(List.replicate n z).map fc))\/Abs.look (nIn n z bs) k=some x:=by
 rw[nIn,zB,List.length_singleton,jnc,look_app]at h;split at h
 ·rename_i y hy;right;rw[nIn,hy];exact h
 ·left;by_cases e:k=hp b
  ·subst e;rw[ja2]at h;exact⟨rfl,(jJ h).symm⟩
  ·rw[ja1 _ _ e]at h;cases h
theorem h_none(e:Evid)(c3:e.places.length<=1000)(b9:0<=e.mats)(c4:e.mats<=1000):
  CtrH G.P 32 [.im e.iv] [] (fun r L'=>∃b0 bs,r= .im (.ref b0 72 1 e.places.length)/\(b0::bs).Nodup/\bs.length=e.places.length/\
   L'=jbk 48 b0 bs (List.replicate e.places.length (List.replicate e.mats.toNat ((0:Int):Rat))) e.mats.toNat):=by
 have o1:=jcj 0 (by omega);generalize ((0:Int):Rat)=z at*;simp only[frac,ints]at o1;have hp2:e.places.length<=16777216:=by omega
 refine jap [9,19] [] [.tmp 2] Tryz.func32 ?_;unfold Evid.iv Evid.c;simp only[hp2,go_sem];refine⟨by omega,jgu (fun b0 c0=> ?_)⟩;clear c0;simp only[zQ,go_sem];refine jar [1,3,11,12] (fun bs:List Nat=>⟨[(1,.loc 1 8 0 0),(3,.im (.ref b0 72 1 e.places.length)),(11,.im (.int e.places.length)),(12,.im (.int bs.length))],
   (hp b0,1,nRow 48 e.mats.toNat e.places.length bs)::(1,8,[e.c])::nIn e.mats.toNat z bs,[]⟩)
  (fun bs=>bs.length<=e.places.length/\(b0::bs).Nodup) (fun bs=>e.places.length-bs.length) [] ?_ ?_ rfl ⟨zG _,by simp⟩ ?_
 ·simp only[Int.natCast_zero,go_sem]
 ·exact ja5
 ·intro bs ⟨hi,a6⟩;by_cases a8:(bs.length:Int)<e.places.length
  ·have hd:decide ((bs.length:Int)<e.places.length)=true:=zp a8;have h1:=ja8 ((bs.length:Int)+1);have b1:(bs.length:Int)<e.places.length:=a8;have K1:=fun(bs:List Nat) (S:List (List Rat)) (d:Nat) (h:d<100000)=>inner_filter (bs:=bs) (S:=S) h;have K2:=fun(bs:List Nat) (S:List (List Rat)) (d s:Nat) (es:List (List IV)) (h:d<100000)=>inner_setlow (bs:=bs) (S:=S) (s:=s) (es:=es) h;have K3:=fun(bs:List Nat) (S:List (List Rat)) (d:Nat) (h:d<100000)=>jls (bs:=bs) (S:=S) h;obtain⟨n,hn⟩:∃n:Nat,e.mats.toNat=n:=⟨_,rfl⟩;have b8:e.mats=(n:Int):=by omega
   rw[hn];simp only[hd,nIn,K1,K2,hn,go_sem];refine⟨b9,by omega,jgu (fun b hb=> ?_)⟩;replace hb:Abs.look ((hp b0,1,nRow 48 n e.places.length bs)::(1,8,[e.c])::nIn n z bs) (hp b)=none:=hb;have a1:b≠b0:=fun h=>by rw[h,ja2]at hb;cases hb
   rw[ja1 _ _ (fun h=>a1 (hp_inj.1 h)),ja1 _ _ (by unfold hp;omega)]at hb;have a7:b∉bs:=fun h=>by
    obtain⟨i,b6,he⟩:=j9 h;have:=jnd (bs:=bs) (S:=List.replicate bs.length (List.replicate n z)) (i:=i) (b:=b) (r:=List.replicate n z) (qJ.1 a6).2 (by rw[zw b6,he]) (by rw[yi,zh b6]);rw[nIn,this]at hb;cases hb
   have b3:b0∉bs:=(qJ.1 a6).1;have e1:(b=b0)=False:=eq_false a1;have e2:(b0=b)=False:=eq_false fun h=>a1 h.symm;have K4:=fun(S:List (List Rat)) (s:Nat) (es:List (List IV))=>jka (bs:=bs) (S:=S) (b:=b) (s:=s) (es:=es) a7;have K5:=fun(S:List (List Rat)) (s:Nat) (es:List (List IV))=>jka (bs:=bs) (S:=S) (b:=b0) (s:=s) (es:=es) b3;have g1:=nRow_get (t:=48) (n:=n) (P:=e.places.length) (bs:=bs) (by omega);have g2:=nRow_set (t:=48) (n:=n) (P:=e.places.length) (bs:=bs) (b:=b) (by omega);have g3:=nRow_last (t:=48) (n:=n) (P:=e.places.length) (bs:=bs) (b:=b);clear hb;simp only[zQ,K1,K2,K3,K4,K5,e1,e2,g1,g2,g3,b1,hn,go_sem];refine jar [1,3,4,11,12,25,26] (fun m:Nat=>⟨[(1,.loc 1 8 0 0),(3,.im (.ref b0 72 1 e.places.length)),(4,.im (.int bs.length)),(11,.im (.int e.places.length)),(12,.im (.int bs.length)),(25,.im (.int n)),(26,.im (.int m))],
     (hp b,4,fRow n z m)::(hp b0,1,nRow 48 n e.places.length (bs++[b]))::(1,8,[e.c])::nIn n z bs,[]⟩)
    (fun m=>m<=n) (fun m=>n-m) 0 ?_ ?_ rfl (zG _) ?_
   ·simp only[Int.natCast_zero,zQ,hn,b8,go_sem]
   ·rw[<-fRow_zero];exact ja5
   ·intro m hm;by_cases hq:(m:Int)<n
    ·have b2:decide ((m:Int)<n)=true:=zp hq;have h2:=ja8 ((m:Int)+1);have f1:=fRow_get (n:=n) (m:=m) (z:=z) (by omega);have f2:=fRow_set (n:=n) (m:=m) (z:=z) (by omega);simp only[fc]at f2;simp only[z4]at f1;simp only[b2,nIn,go_sem];refine jah ?_;simp only[zQ,K1,K2,K3,K4,K5,e1,e2,g3,b1,hq,f1,f2,go_sem];refine ja3 o1 (by decide) ?_;simp only[zQ,K1,K2,K3,K4,K5,e1,e2,g3,b1,hq,f1,f2,go_sem];refine jac (m+1) ?_ ?_ rfl (by omega) (by omega)
     ·simp only[h2,Int.natCast_add,go_sem]
     ·exact ja5
    ·have b2:decide ((m:Int)<n)=false:=ze hq;have b4:m=n:=by omega
     subst b4;simp only[b2,go_sem];refine jac (bs++[b]) ?_ ?_ rfl ?_ ⟨?_,?_⟩
     ·simp only[h1,Int.natCast_add,zB,go_sem]
     ·intro k x hk;show Abs.look ((hp b,4,fRow m z m)::(hp b0,1,nRow 48 m e.places.length (bs++[b]))::(1,8,[e.c])::nIn m z bs) k=some x;replace hk:Abs.look ((hp b0,1,nRow 48 m e.places.length (bs++[b]))::(1,8,[e.c])::nIn m z (bs++[b])) k=some x:=hk;by_cases k0:k=hp b0
      ·rw[ja1 _ _ (fun h=>a1 (hp_inj.1 (h.symm.trans k0)))];rw[k0,ja2]at hk⊢;exact hk
      ·rw[ja1 _ _ k0]at hk;by_cases k1:k=1
       ·rw[ja1 _ _ (fun h=>by unfold hp at h;omega),ja1 _ _ k0];rw[k1,ja2]at hk⊢;exact hk
       ·rw[ja1 _ _ k1]at hk;by_cases kb:k=hp b
        ·rcases jsh hk with ⟨_,hx⟩ | hx
         ·rw[kb,ja2,hx,fRow_end]
         ·rw[kb,nIn,jqo a7]at hx;cases hx
        ·rw[ja1 _ _ kb,ja1 _ _ k0,ja1 _ _ k1];rcases jsh hk with ⟨hx,_⟩ | hx
         ·exact absurd hx kb
         ·exact hx
     ·show e.places.length-(bs++[b]).length<e.places.length-bs.length;rw[zB,List.length_singleton];omega
     ·show(bs++[b]).length<=e.places.length;rw[zB,List.length_singleton];omega
     ·rw[qJ,js];have:=qJ.1 a6;refine⟨by simp[this.1,a1.symm],this.2,by simp,?_⟩;intro c hc d b7 h;rw[zE]at b7;exact a7 (by rw[<-b7,<-h];exact hc)
  ·have hd:decide ((bs.length:Int)<e.places.length)=false:=ze a8;have hle:bs.length=e.places.length:=by omega
   simp only[hd,go_sem];refine jgt (jbk 48 b0 bs (List.replicate e.places.length (List.replicate e.mats.toNat z)) e.mats.toNat) (fun k' x' h'=> ?_) ?_
   ·have c5:¬k'<100000:=fun h=>by rw[jc4 h]at h';cases h'
    refine⟨by omega,?_⟩;show Abs.look ((hp b0,1,nRow _ _ _ bs)::(1,8,_)::nIn _ z bs) k'=some x';rw[show nRow 48 e.mats.toNat e.places.length bs=outer 48 e.mats.toNat bs by rw[nRow,hle,vY,List.replicate_zero,qr]];rw[nIn,hle];unfold jbk at h';by_cases b5:k'=hp b0
    ·rw[b5,ja2]at h'⊢;exact h'
    ·rw[ja1 _ _ b5]at h'⊢;rw[ja1 _ _ (by omega)];exact h'
   ·simp only[go_sem];exact⟨b0,bs,rfl,a6,hle,rfl⟩
end
section
set_option maxRecDepth 1000000
open Go.Abs
theorem raw_of{x:Raw}(h:x.ok=true):∃r:Rat,x.c=fc r/\x.l=dig r.num.natAbs/\x.m=dig (r.den:Int).natAbs:=by
 obtain⟨r,e1,e2,e3,e4⟩:=frac_of h;exact⟨r,by rw[Raw.c,fc,e1,e2,e3,e4],e2,e4⟩
theorem jq4{k:Nat}:∀{l:List Raw},l.all Raw.ok=true->(∀x∈l,x.l.length<=k/\x.m.length<=k)->∃rs:List Rat,rs.length=l.length/\l.map Raw.c=rs.map fc/\∀r∈rs,FL k r
 | [],_,_=>⟨[],rfl,rfl,by simp⟩
 | x::l,h,hk=>by
  rw[List.all_cons,zn]at h;obtain⟨rs,e1,e2,e3⟩:=jq4 h.2 (fun y hy=>hk y (by simp[hy]));obtain⟨r,g1,g2,g3⟩:=raw_of h.1;obtain⟨k1,k2⟩:=hk x (by simp);refine⟨r::rs,by simp[e1],by rw[zt,zt,g1,e2],fun q hq=> ?_⟩;rcases zL.1 hq with rfl | hq
  ·rw[g2]at k1;rw[g3,Int.natAbs_natCast]at k2;exact⟨k1,k2⟩
  ·exact e3 q hq
theorem hist_of{e:Evid}{k:Nat}:∀{h:List (List Raw)},h.all (rowOk e)=true->(∀l∈h,∀x∈l,x.l.length<=k/\x.m.length<=k)->
  ∃H:List (List Rat),H.length=h.length/\h.map rowC=H.map stC/\∀l∈H,(l.length:Int)=e.mats/\∀r∈l,FL k r
 | [],_,_=>⟨[],rfl,rfl,by simp⟩
 | l::h,ho,hk=>by
  rw[List.all_cons,zn,rowOk,zn,zO]at ho;obtain⟨H,e1,e2,e3⟩:=hist_of ho.2 (fun y hy=>hk y (by simp[hy]));obtain⟨rs,g1,g2,g3⟩:=jq4 ho.1.2 (hk l (by simp));refine⟨rs::H,by simp[e1],by rw[zt,zt,e2,rowC,stC,g2],fun q hq=> ?_⟩;rcases zL.1 hq with rfl | hq
  ·exact⟨by rw[g1];exact ho.1.1,g3⟩
  ·exact e3 q hq
def stN(ms:List Move)(H:List (List Rat))(n:Nat)(S:List (List Rat)):Nat->List (List Rat)
 | 0=>S
 | i+1=>match ms[i]?,H[i]? with
  | some x,some l=>carN (stN ms H n S i) x.fr.toNat x.to.toNat l n
  | _,_=>stN ms H n S i
theorem jo6{ms:List Move}{H:List (List Rat)}{n i:Nat}{S:List (List Rat)}{x:Move}{l:List Rat}(hx:ms[i]? =some x)(hl:H[i]? =some l):
  stN ms H n S (i+1)=carN (stN ms H n S i) x.fr.toNat x.to.toNat l n:=by rw[stN,hx,hl]
theorem SL.all{k j p n:Nat}{S:List (List Rat)}(hs:Stk p n S)(h:SL k j n S):∀r∈S,∀x∈r,FL k x:=by
 intro r hr x hx;obtain⟨i,hi,he⟩:=j9 hx;have:=h r hr i x (by rw[zw hi,he])
 rwa [zh (by rw[<-hs.2 r hr];exact hi)]at this
theorem SL.of_all{k j:Nat}{S:List (List Rat)}(h:∀r∈S,∀x∈r,FL k x):SL j k 0 S:=fun r hr i x hx=>by
 rw[iNo];exact h r hr x (zk hx)
theorem stN_ok{ms:List Move}{H:List (List Rat)}{p n k q:Nat}{S:List (List Rat)}(hs:Stk p n S)(hS:∀r∈S,∀x∈r,FL k x)(hm:∀x∈ms,(0<=x.fr/\x.fr<p)/\(0<=x.to/\x.to<p))
  (hH:∀l∈H,l.length=n/\∀r∈l,FL q r):∀i,Stk p n (stN ms H n S i)/\∀r∈stN ms H n S i,∀x∈r,FL (k+(q+q+2)*i) x
 | 0=>⟨hs,hS⟩
 | i+1=>by
  obtain⟨h1,h2⟩:=stN_ok hs hS hm hH i;cases hx:ms[i]? with
  | none=>
   have e:stN ms H n S (i+1)=stN ms H n S i:=by rw[stN,hx]
   rw[e];exact⟨h1,fun r hr x hx=>(h2 r hr x hx).mono (by rw[Nat.mul_succ];omega)⟩
  | some x=>
   cases hl:H[i]? with
   | none=>
    have e:stN ms H n S (i+1)=stN ms H n S i:=by rw[stN,hx,hl]
    rw[e];exact⟨h1,fun r hr x hx=>(h2 r hr x hx).mono (by rw[Nat.mul_succ];omega)⟩
   | some l=>
    rw[jo6 hx hl];obtain⟨⟨a1,a2⟩,b1,b2⟩:=hm x (zk hx);obtain⟨c1,c2⟩:=hH l (zk hl);have q1:x.fr.toNat<p:=by omega
    have q2:x.to.toNat<p:=by omega
    have h3:=SL.car (k:=k+(q+q+2)*i) (SL.of_all h2) h1 q1 q2 c1 c2 n (zu _);have h4:=Stk.car (l:=l) h1 q1 q2 n;exact⟨h4,fun r hr y hy=>(SL.all h4 h3 r hr y hy).mono (by rw[Nat.mul_succ];omega)⟩
def jgy(e:Evid)(H:List (List Rat))(S:List (List Rat)):Nat->List Move->Int
 | _,[]=>0
 | i,x::ms=>match H[i]? with
  | none=>0
  | some l=>
   if l.any negF=true then 3
   else if jfy ((e.places[x.fr.toNat]?.map Place.kind).getD 0) ((stN e.moves H e.mats.toNat S i).getD x.fr.toNat []) x l≠0 then jfy ((e.places[x.fr.toNat]?.map Place.kind).getD 0) ((stN e.moves H e.mats.toNat S i).getD x.fr.toNat []) x l
   else if jda e x (sumF l)=false then 24
   else if pureF e i l (sumF l)=false then 13
   else jgy e H S (i+1) ms
