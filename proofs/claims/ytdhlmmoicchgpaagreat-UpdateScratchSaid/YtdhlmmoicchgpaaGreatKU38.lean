/- A part of the proof. No further condition. -/
import Derived.Test.YtdhlmmoicchgpaaGreatKU37
set_option linter.all false
set_option maxRecDepth 10000000
set_option maxHeartbeats 16000000
namespace Go.Proofs.YtdhlmmoicchgpaaGreat
section
open Go.Abs
open Go.LP (Dic Rw RT Ov OvRw tsum Sol IsMin NoMin Bds)
section
variable{e:Evid}{ps:List (Int×Int)}
theorem jka(h:okP e ps=true):jb5 e=0:=(jhy h).1
theorem okP_to{e':Evid}(h:okP e ps=true)(hc:jb5 e'=0)(h1:e'.mats=e.mats)(h2:e'.moves=e.moves):okP e' ps=true:=by
 obtain⟨_,g2,g3⟩:=okP_iff.1 h;refine okP_iff.2 ⟨hc,fun p hp=> ?_,by rw[h1];exact g3⟩;have:=g2 p hp;unfold jc4 at this⊢;rw[h1,h2];exact this
theorem wgt_to{e':Evid}(h1:e'.mats=e.mats):wgt e' ps=wgt e ps:=by unfold wgt;rw[h1]
theorem nV_to{e':Evid}(h1:e'.mats=e.mats)(h2:e'.moves=e.moves):nV e'=nV e:=by unfold nV;rw[h1,h2]
theorem BSay.wider{e':Evid}{b b':Option (Rat×Option Rat)}{lo':Rat}{hi':Option Rat}(h:BSay e ps b)(h':BSay e' ps b')(hb':b'=Option.some (lo',hi'))(hc:jb5 e=0)(h1:e'.mats=e.mats)(h2:e'.moves=e.moves)
  (hr:∀w∈rowsE e,w∈rowsE e'):∃lo hi,b=Option.some (lo,hi)/\lo<=lo'/\(∀w,hi=Option.some w->∃w',hi'=Option.some w'/\w'<=w)/\FL 4000000000 lo/\(∀w,hi=Option.some w->FL 4000000000 w)/\FL 4000000000 lo'/\(∀w,hi'=Option.some w->FL 4000000000 w):=by
 subst hb';obtain⟨g1,g2,g3,g4⟩:=h'.inv;rw[wgt_to h1,nV_to h1 h2]at g2;obtain⟨x,hx,_⟩:=g2.low_at;obtain⟨lo,hi,rfl,q2,q3,q4⟩:=h.get (okP_to g1 hc h1.symm h2.symm) ⟨x,hx.sub hr⟩;obtain⟨a1,a2⟩:=q2.sub g2 hr;exact⟨lo,hi,rfl,a1,a2,q3,q4,g3,g4⟩
theorem BSay.same{e':Evid}{b b':Option (Rat×Option Rat)}(h:BSay e ps b)(h':BSay e' ps b')(hc:jb5 e=0)(hc':jb5 e'=0)(h1:e'.mats=e.mats)(h2:e'.moves=e.moves)(hr:∀w,w∈rowsE e↔w∈rowsE e'):b=b':=by
 cases b' with
 | none=>
  cases b with
  | none=>rfl
  | some p=>
   obtain⟨lo,hi⟩:=p;obtain⟨_,_,e1,_⟩:=h'.wider h rfl hc' h1.symm h2.symm fun w hw=>(hr w).2 hw;cases e1
 | some p=>
  obtain⟨lo,hi⟩:=p;obtain⟨lo2,hi2,rfl,_⟩:=h.wider h' rfl hc h1 h2 fun w hw=>(hr w).1 hw;obtain⟨_,g2,_⟩:=h.inv;obtain⟨_,g2',_⟩:=h'.inv;rw[wgt_to h1,nV_to h1 h2]at g2';obtain⟨e1,e2⟩:=g2.uniq g2' hr;rw[e1,e2]
end
end
section
open Go.Abs
open Go.LP (Dic Rw RT Ov OvRw tsum Sol IsMin NoMin Bds)
section
variable{cs cs':List Cert}{rs rs':List Recall}{sc rd day:Int}
def bestS(sc day:Int)(b:Option Cert)(c:Cert):Option Cert:=if(decide (c.scale=sc)&&je5 c day&&b.elim true fun b=>decide (b.fr<=c.fr))=true then some c else b
def bestF(l:List Cert)(sc day:Int):Option Cert:=l.foldl (bestS sc day) none
end
section
variable{e:Evid}
end
end
section
open Go.Abs
open Go.LP (Dic Rw RT Ov OvRw tsum Sol IsMin NoMin Bds)
structure Stp where
 kind:Int
 m:Move
 c:Cert
 r:Recall
 p:Purity
def jc9(e:Evid)(x:Stp):Evid:=if x.kind=0 then{e with moves:=e.moves++[x.m]}else if x.kind=1 then{e with certs:=e.certs++[x.c]}else if x.kind=2 then{e with recalls:=e.recalls++[x.r]}else{e with purs:=e.purs++[x.p]}
def putF(e:Evid)(x:Stp):Evid:=if jb5 (jc9 e x)=0 then jc9 e x else e
section
variable{e:Evid}{x y:Stp}
theorem aft0(h:x.kind=0):jc9 e x={e with moves:=e.moves++[x.m]}:=zp h
theorem aft1(h:x.kind=1):jc9 e x={e with certs:=e.certs++[x.c]}:=by unfold jc9;rw[zu (by omega),zp h]
theorem aft2(h:x.kind=2):jc9 e x={e with recalls:=e.recalls++[x.r]}:=by unfold jc9;rw[zu (by omega),zu (by omega),zp h]
theorem aft3(h0:x.kind≠0)(h1:x.kind≠1)(h2:x.kind≠2):jc9 e x={e with purs:=e.purs++[x.p]}:=by unfold jc9;rw[zu h0,zu h1,zu h2]
theorem jr0(hk:x.kind≠0):(jc9 e x).mats=e.mats/\(jc9 e x).houses=e.houses/\(jc9 e x).scales=e.scales/\(jc9 e x).places=e.places/\(jc9 e x).moves=e.moves:=by
 unfold jc9;rw[zu hk];split
 ·exact⟨rfl,rfl,rfl,rfl,rfl⟩
 ·split<;>exact⟨rfl,rfl,rfl,rfl,rfl⟩
structure Alike(e e':Evid):Prop where
 mats:e'.mats=e.mats
 moves:e'.moves=e.moves
 places:e'.places=e.places
 best:∀sc day,bestF e'.certs sc day=bestF e.certs sc day
 recs:∀f:Recall->Bool,e'.recalls.any f=e.recalls.any f
 purs:∀p,p∈e'.purs↔p∈e.purs
theorem aft_certs(hk:x.kind≠0):(jc9 e x).certs=e.certs++(if x.kind=1 then [x.c]else [])/\(jc9 e x).recalls=e.recalls++(if x.kind=2 then [x.r]else [])/\(jc9 e x).purs=e.purs++(if x.kind=1\/x.kind=2 then []else [x.p]):=by
 by_cases k1:x.kind=1
 ·rw[aft1 k1,zp k1,zu (by omega),zp (.inl k1)];exact⟨rfl,(qw _).symm,(qw _).symm⟩
 ·by_cases k2:x.kind=2
  ·rw[aft2 k2,zu k1,zp k2,zp (.inr k2)];exact⟨(qw _).symm,rfl,(qw _).symm⟩
  ·rw[aft3 hk k1 k2,zu k1,zu k2,zu (by omega)];exact⟨(qw _).symm,(qw _).symm,rfl⟩
structure Few3(e:Evid)(k:Nat):Prop where
 certs:e.certs.length<=10+k
 recalls:e.recalls.length<=4+k
 purs:e.purs.length<=6+k
end
end
section
open Go.Abs
open Go.LP (Dic Rw RT Ov OvRw tsum Sol IsMin NoMin Bds)
section
variable{e:Evid}{q:List (Int×Int)}{b b':Option (Rat×Option Rat)}
theorem BSay.uniq(h:BSay e q b)(h':BSay e q b'):b=b':=by
 cases hk:okP e q with
 | true=>exact h.same h' (jka hk) (jka hk) rfl rfl fun w=>Iff.rfl
 | false=>
  cases h with
  | none _=>cases h' with
   | none _=>rfl
   | some _ _ h1=>rw[hk]at h1;cases h1
  | some _ _ h1=>rw[hk]at h1;cases h1
open Classical in
noncomputable def bO(e:Evid)(q:List (Int×Int)):Option (Rat×Option Rat):=if h:∃b,BSay e q b then Classical.choose h else none
theorem bO_of(h:BSay e q b):bO e q=b:=by
 have hx:∃b,BSay e q b:=⟨b,h⟩;have:bO e q=Classical.choose hx:=dif_pos hx;rw[this];exact(jo hx).uniq h
noncomputable def posF(e:Evid):Bool:=(bO e []).isSome
theorem pos_iff(hc:jb5 e=0)(h:BSay e [] b):posF e=true↔∃x,Sol (nV e) (rowsE e) x:=by
 unfold posF;rw[bO_of h];constructor
 ·intro hs;obtain⟨⟨lo,hi⟩,rfl⟩:=zh.1 hs;obtain⟨_,h2,_⟩:=h.inv;exact h2.sol
 ·intro hx;obtain⟨lo,hi,rfl,_⟩:=h.get (okP_nil hc) hx;rfl
theorem bO_pos(hk:okP e q=true)(h0:BSay e [] b)(h:BSay e q b'):(bO e q).isSome=posF e:=by
 have hc:=jka hk;rw[bO_of h];cases hp:posF e with
 | true=>
  obtain⟨lo,hi,rfl,_⟩:=h.get hk ((pos_iff hc h0).1 hp);rfl
 | false=>
  cases hb:b' with
  | none=>rfl
  | some p=>
   obtain⟨lo,hi⟩:=p;subst hb;obtain⟨_,h2,_⟩:=h.inv;rw[(pos_iff hc h0).2 h2.sol]at hp;cases hp
theorem pickK_inj{M:Nat}{p r:Int×Int}(h1:0<=p.1)(h2:0<=p.2/\p.2<M)(h3:0<=r.1)(h4:0<=r.2/\r.2<M)(h:pickK M p=pickK M r):p=r:=by
 unfold pickK at h;have key:∀{a c u v:Nat},u<M->v<M->a*M+u=c*M+v->¬a<c:=fun{a c u v} hu hv he hl=>by
  have:=zY M (show a+1<=c from hl);rw[jk]at this;omega
 have e1:=key (by omega) (by omega) h;have e2:=key (by omega) (by omega) h.symm;have e3:p.1.toNat=r.1.toNat:=by omega
 rw[e3]at h;exact Prod.ext (by omega) (by omega)
def jcd(e:Evid)(q:List (Int×Int)):Bool:=q.all (jc4 e)&&decide q.Nodup
theorem okP_right(hc:jb5 e=0):okP e q=jcd e q:=by
 have key:okP e q=true↔jcd e q=true:=by
  rw[okP_iff];simp only[jcd,zE,List.all_eq_true,zP];constructor
  ·rintro⟨_,h1,h2⟩;exact⟨h1,(List.pairwise_map.1 h2).imp fun h e=>h (by rw[e])⟩
  ·rintro⟨h1,h2⟩;have hm:1<=e.mats:=(jcn hc).2.1;have hp:∀p∈q,0<=p.1/\0<=p.2/\p.2<((e.mats.toNat:Nat):Int):=fun p hp=>by
    have:=h1 p hp;simp only[jc4,zE,zP]at this;omega
   refine⟨hc,h1,List.pairwise_map.2 (h2.imp_of_mem fun{a b} ha hb hab he=>hab ?_)⟩;exact pickK_inj (hp a ha).1 (hp a ha).2 (hp b hb).1 (hp b hb).2 he
 cases h:jcd e q with
 | true=>exact key.2 h
 | false=>
  cases h':okP e q with
  | false=>rfl
  | true=>rw[key.1 h']at h;cases h
theorem rightQ_aft{x:Stp}(h:jcd e q=true):jcd (jc9 e x) q=true:=by
 simp only[jcd,zE,List.all_eq_true]at h⊢;refine⟨fun p hp=> ?_,h.2⟩;have:=h.1 p hp;simp only[jc4,zE,zP]at this⊢;by_cases k0:x.kind=0
 ·rw[aft0 k0];dsimp only;rw[zF];refine⟨this.1,?_,this.2.2.1,this.2.2.2⟩;have:=this.2.1;simp only[List.length_singleton];omega
 ·obtain⟨b1,_,_,_,b5⟩:=jr0 (e:=e) k0;rw[b1,b5];exact this
end
end
section
open Go.Abs
attribute [local go_sem] ints ic big frac fc zc
theorem u_equal(l m:List Int)(hl:l.length<=1000000000000000):Ctr G.P 105 [ints l,ints m] (· = .bool (decide (l=m))):=by
 by_cases h2:(l.length:Int)=m.length
 ·have d2:decide ((l.length:Int)=m.length)=true:=ze h2;refine ja6 [.tmp 4] Tryz.func105 ?_;simp only[d2,zq,go_sem];refine jb4 [0,1,12,13] [] (fun i:Nat=>⟨[(0,.im (ints l)),(1,.im (ints m)),(12,.im (.int l.length)),(13,.im (.int i))],[],[]⟩) (fun i=>i<=l.length/\l.take i=m.take i) (fun i=>l.length-i) 0 ?_ ⟨zI _,rfl⟩ ?_
  ·simp only[Int.natCast_zero,go_sem]
  ·intro i ⟨hi,ha⟩;by_cases hp:(i:Int)<l.length
   ·have hp':(i:Int)<m.length:=by omega
    have hd:decide ((i:Int)<l.length)=true:=ze hp;have hx:=jb7 hp;have hy:=jb7 hp';have hw:=jaa (n:=(i:Int)+1) (by omega);simp only[hd,go_sem];refine jah 9 ?_;simp only[hd,za,hx,hy,go_sem];refine jcy (fun he he'=> ?_) (fun he he'=> ?_)
    ·simp only[go_sem];refine jaj (i+1) ?_ (by omega) ⟨by omega,jnj ha hp hp' he'⟩;simp only[hw,Int.natCast_add,go_sem]
    ·have hf:decide (l=m)=false:=zw (jo7 he');rw[hf];simp only[go_sem]
   ·have hd:decide ((i:Int)<l.length)=false:=zw hp;have hf:decide (l=m)=true:=ze (by
     rw[zr (by omega),zr (by omega)]at ha;exact ha)
    rw[hf];simp only[hd,go_sem]
 ·have d2:decide ((l.length:Int)=m.length)=false:=zw h2;have d3:decide (l=m)=false:=zw fun e=>h2 (by rw[e]);rw[d3];refine ja6 [.tmp 4] Tryz.func105 ?_;simp only[d2,zq,go_sem]
theorem u_big(s t:Int)(l m:List Int)(hl:l.length<=1000000000000000):Ctr G.P 76 [.agg [.int s,ints l],.agg [.int t,ints m]] (· = .bool (decide (s=t)&&decide (l=m))):=by
 have k:=u_equal l m hl;unfold ints at*;rcases d:decide (s=t)with _ | _
 ·rw[qp];generalize l.map ic=l' at*;generalize m.map ic=m' at*;refine ja6 [.tmp 4] Tryz.func76 ?_;simp only[d,go_sem]
 ·rw[qi];generalize decide (l=m)=q at*;generalize l.map ic=l' at*;generalize m.map ic=m' at*;refine ja6 [.tmp 4] Tryz.func76 ?_;simp only[d,go_sem];refine ja2 k ?_;simp only[go_sem]
theorem u_frac(s t:Int)(l m:List Int)(s' t':Int)(l' m':List Int)(hl:l.length<=1000000000000000)(hm:m.length<=1000000000000000):
  Ctr G.P 51 [.agg [.int s,ints l,.int t,ints m],.agg [.int s',ints l',.int t',ints m']] (· = .bool ((decide (s=s')&&decide (l=l'))&&(decide (t=t')&&decide (m=m')))):=by
 have k1:=u_big s s' l l' hl;have k2:=u_big t t' m m' hm;unfold ints at*;generalize (decide (s=s')&&decide (l=l'))=p at*;generalize (decide (t=t')&&decide (m=m'))=q at*;generalize l.map ic=l1 at*;generalize m.map ic=m1 at*;generalize l'.map ic=l2 at*;generalize m'.map ic=m2 at*;refine ja6 [.tmp 4] Tryz.func51 ?_;simp only[go_sem];refine ja2 k1 ?_;cases p
 ·simp only[go_sem]
 ·simp only[go_sem];refine ja2 k2 ?_;simp only[go_sem]
end
section
open Go.Abs
attribute [local go_sem] ints ic pickC Evid.iv Evid.c
def eqP(v p:Int×Int):Bool:=decide (v.1=p.1)&&decide (v.2=p.2)
theorem eqP_iff{v p:Int×Int}:eqP v p=true↔v=p:=by
 simp only[eqP,zE,zP];exact⟨fun h=>Prod.ext h.1 h.2,fun h=>by rw[h];exact⟨rfl,rfl⟩⟩
theorem anyP_at{l:List (Int×Int)}{i:Nat}{x v:Int×Int}(hx:l[i]? =some x)(h:eqP v x=true):l.any (eqP v)=true:=ye.2 ⟨x,zG hx,h⟩
theorem jpu{α:Type}{l:List α}{i:Nat}{x:α}(hx:l[i]? =some x):l.take (i+1)=l.take i++[x]:=by rw[qT,hx];rfl
theorem u_index(l:List (Int×Int))(v:Int×Int)(hl:l.length<=100000):Ctr G.P 81 [.sl (l.map pickC),.agg (pickC v)] (fun r=>∃k:Int,r= .int k/\decide (0<=k)=l.any (eqP v)):=by
 refine ja6 [.tmp 4] Tryz.func81 ?_;simp only[go_sem];refine jb4 [0,3,7,8] [3] (fun i:Nat=>⟨[(0,.im (.sl (l.map pickC))),(3,.loc 3 2 0 0),(7,.im (.int l.length)),(8,.im (.int i))],[(3,2,[pickC v])],[]⟩)
  (fun i=>i<=l.length/\(l.take i).any (eqP v)=false) (fun i=>l.length-i) 0 ?_ ⟨zI _,rfl⟩ ?_
 ·simp only[Int.natCast_zero,zq,go_sem]
 ·intro i ⟨hi,ha⟩;by_cases hp:(i:Int)<l.length
  ·have hd:decide ((i:Int)<l.length)=true:=ze hp;obtain⟨x,hx⟩:=jce hp;have h1:=jaa (n:=(i:Int)+1) (by omega);simp only[hd,za,hx,go_sem];refine jah 6 ?_;simp only[hd,za,hx,go_sem];refine jd9 (fun he=> ?_) (fun he=> ?_)
   ·simp only[go_sem];exact⟨i,rfl,by rw[anyP_at hx he];simp⟩
   ·simp only[go_sem];refine jaj (i+1) ?_ (by omega) ⟨by omega,by rw[jpu hx,List.any_append,ha,List.any_cons,show eqP v x=false from he];rfl⟩;simp only[h1,Int.natCast_add,go_sem]
  ·have hd:decide ((i:Int)<l.length)=false:=zw hp;rw[zr (by omega)]at ha;simp only[hd,go_sem];exact⟨-1,rfl,by rw[ha];rfl⟩
theorem u_contains(l:List (Int×Int))(v:Int×Int)(hl:l.length<=100000):Ctr G.P 61 [.sl (l.map pickC),.agg (pickC v)] (· = .bool (l.any (eqP v))):=by
 have h:=u_index l v hl;refine ja6 [.tmp 4] Tryz.func61 ?_;simp only[go_sem];refine jih h ?_;rintro r ⟨k,rfl,hk⟩;rw[<-hk];simp only[go_sem]
section
variable{e:Evid}{q:List (Int×Int)}{i:Nat}{x:Int×Int}
theorem jhv(hx:q[i]? =some x)(h:jc4 e x=false):jcd e q=false:=by
 cases hr:jcd e q with
 | false=>rfl
 | true=>
  simp only[jcd,zE,List.all_eq_true]at hr;rw[hr.1 x (zG hx)]at h;cases h
theorem right_dup(hx:q[i]? =some x)(h:(q.take i).any (eqP x)=true):jcd e q=false:=by
 cases hr:jcd e q with
 | false=>rfl
 | true=>
  simp only[jcd,zE,zP]at hr;obtain⟨y,hy,he⟩:=ye.1 h;rw[<-eqP_iff.1 he]at hy;have hn:=hr.2;have hi:i<q.length:=(zC.1 hx).1;have e1:q=q.take i++q.drop i:=(yG i q).symm;rw[e1]at hn;have hd:x∈q.drop i:=by
   refine zG (i:=0) ?_;rw[qO,Nat.add_zero];exact hx
  exact absurd rfl ((va.1 hn).2.2 x hy x hd)
theorem right_next(hx:q[i]? =some x)(h:(q.take i).all (jc4 e)=true)(hn:(q.take i).Nodup)(h1:jc4 e x=true)(h2:(q.take i).any (eqP x)=false):(q.take (i+1)).all (jc4 e)=true/\(q.take (i+1)).Nodup:=by
 rw[jpu hx];refine⟨by rw[jY,h,List.all_cons,h1];rfl,va.2 ⟨hn,yo.2 ⟨yO,jL⟩,fun y hy z hz=> ?_⟩⟩;rw[zm.1 hz];intro he;subst he;rw[ye.2 ⟨y,hy,eqP_iff.2 rfl⟩]at h2;cases h2
theorem u_right(hl:q.length<=100000)(hm:e.moves.length<=100000):Ctr G.P 32 [e.iv,.sl (q.map pickC)] (· = .bool (jcd e q)):=by
 refine ja6 [.tmp 4] Tryz.func32 ?_;simp only[go_sem];refine jb4 [1,2,7,8,9] [2] (fun i:Nat=>⟨[(1,.im (.sl (q.map pickC))),(2,.loc 2 8 0 0),(7,.im (.sl (q.map pickC))),(8,.im (.int q.length)),(9,.im (.int i))],[(2,8,[e.c])],[]⟩)
  (fun i=>i<=q.length/\(q.take i).all (jc4 e)=true/\(q.take i).Nodup) (fun i=>q.length-i) 0 ?_ ⟨zI _,rfl,jL⟩ ?_
 ·simp only[Int.natCast_zero,zq,go_sem]
 intro i ⟨hi,ha,hb⟩;by_cases hp:(i:Int)<q.length
 ·have hd:decide ((i:Int)<q.length)=true:=ze hp;obtain⟨x,hx⟩:=jce hp;have h1:=jaa (n:=(i:Int)+1) (by omega);have kC:=u_contains (q.take i) x (by rw[qa];omega);rw[List.map_take]at kC;have hi1:(i:Int)<=q.length:=by omega
  have hal:((q.map pickC).all fun c=>c.length==2)=true:=List.all_eq_true.2 fun c hc=>by obtain⟨z,_,rfl⟩:=zV.1 hc;rfl
  rcases g1:decide (x.1<0)with _ | _
  ·rcases g2:decide ((e.moves.length:Int)<=x.1)with _ | _
   ·rcases g3:decide (x.2<0)with _ | _
    ·rcases g4:decide (e.mats<=x.2)with _ | _
     ·have hok:jc4 e x=true:=by
       have:=zJ g1;have:=zJ g2;have:=zJ g3;have:=zJ g4;unfold jc4;simp only[zE,zP];omega
      simp only[g1,g2,g3,g4,hd,za,hx,zq,go_sem];refine jah 30 ?_;simp only[g1,g2,g3,g4,zq,hi1,hal,Nat.sub_zero,go_sem];refine ja4 kC (by decide) ?_;simp only[go_sem];rcases hc:(q.take i).any (eqP x)with _ | _
      ·obtain⟨n1,n2⟩:=right_next hx ha hb hok hc;simp only[go_sem];refine jaj (i+1) ?_ (by show q.length-(i+1)<q.length-i;omega) ⟨by show i+1<=q.length;omega,n1,n2⟩;simp only[h1,Int.natCast_add,go_sem]
      ·rw[right_dup (e:=e) hx hc];simp only[go_sem]
     ·have g5:=zK g4;rw[jhv (e:=e) hx (by unfold jc4;simp only[q6,qy];omega)];simp only[g1,g2,g3,g4,hd,za,hx,zq,go_sem];refine jah 30 ?_;simp only[g1,g2,g3,g4,zq,go_sem]
    ·have g5:=zK g3;rw[jhv (e:=e) hx (by unfold jc4;simp only[q6,qy];omega)];simp only[g1,g2,g3,hd,za,hx,zq,go_sem];refine jah 30 ?_;simp only[g1,g2,g3,zq,go_sem]
   ·have g5:=zK g2;rw[jhv (e:=e) hx (by unfold jc4;simp only[q6,qy];omega)];simp only[g1,g2,hd,za,hx,zq,go_sem];refine jah 30 ?_;simp only[g1,g2,zq,go_sem]
  ·have g5:=zK g1;rw[jhv (e:=e) hx (by unfold jc4;simp only[q6,qy];omega)];simp only[g1,hd,za,hx,zq,go_sem];refine jah 30 ?_;simp only[g1,zq,go_sem]
 ·have hd:decide ((i:Int)<q.length)=false:=zw hp;rw[zr (by omega)]at ha hb;have hr:jcd e q=true:=by unfold jcd;rw[ha,ze hb];rfl
  rw[hr];simp only[hd,go_sem]
