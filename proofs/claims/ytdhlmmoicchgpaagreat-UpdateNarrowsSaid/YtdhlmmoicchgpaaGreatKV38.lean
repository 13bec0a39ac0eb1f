/- A part of the proof. No further condition. -/
import Derived.Test.YtdhlmmoicchgpaaGreatKV37
set_option linter.all false
set_option maxRecDepth 10000000
set_option maxHeartbeats 16000000
namespace Go.Proofs.YtdhlmmoicchgpaaGreat
section
open Go.Abs
open Go.LP (Dic Rw RT Ov OvRw tsum Sol IsMin NoMin Bds)
theorem jil{e e':Evid}(h:moveF e'=moveF e):∀(ms:List Move) (d:Int),jcs e' d ms=jcs e d ms
 | [],_=>rfl
 | m::r,d=>by rw[jcs,jcs,jil h r,h]
theorem jr6{e:Evid}:saidF e=true↔e.certs.all (certF e)=true/\e.recalls.all (jfg e)=true/\e.purs.all (purF e)=true:=by
 simp only[saidF,zC,and_assoc]
theorem checkF_mk{e:Evid}(h1:(pairs e).all fitP=true)(h2:1<=e.mats)(h3:0<=e.houses)(h4:0<=e.scales)(h5:e.places.all (jg2 e)=true)(h6:jcs e 0 e.moves=0)(h7:saidF e=true):jar e=0:=by
 unfold jar;rw[zr (by rw[h1];simp),zr (by simp;omega),zr (by simp;omega),zr (by simp;omega),zr (by rw[h5];simp),zr (by simpa using h6),zm h7]
section
variable{e:Evid}{ps:List (Int×Int)}
theorem jkx(h:okP e ps=true):jar e=0:=(jik h).1
theorem okP_to{e':Evid}(h:okP e ps=true)(hc:jar e'=0)(h1:e'.mats=e.mats)(h2:e'.moves=e.moves):okP e' ps=true:=by
 obtain⟨_,g2,g3⟩:=okP_iff.1 h;refine okP_iff.2 ⟨hc,fun p hp=> ?_,by rw[h1];exact g3⟩;have:=g2 p hp;unfold jc9 at this⊢;rw[h1,h2];exact this
theorem wgt_to{e':Evid}(h1:e'.mats=e.mats):wgt e' ps=wgt e ps:=by unfold wgt;rw[h1]
theorem nV_to{e':Evid}(h1:e'.mats=e.mats)(h2:e'.moves=e.moves):nV e'=nV e:=by unfold nV;rw[h1,h2]
theorem BSay.wider{e':Evid}{b b':Option (Rat×Option Rat)}{lo':Rat}{hi':Option Rat}(h:BSay e ps b)(h':BSay e' ps b')(hb':b'=Option.some (lo',hi'))(hc:jar e=0)(h1:e'.mats=e.mats)(h2:e'.moves=e.moves)
  (hr:∀w∈rowsE e,w∈rowsE e'):∃lo hi,b=Option.some (lo,hi)/\lo<=lo'/\(∀w,hi=Option.some w->∃w',hi'=Option.some w'/\w'<=w)/\FL 4000000000 lo/\(∀w,hi=Option.some w->FL 4000000000 w)/\FL 4000000000 lo'/\(∀w,hi'=Option.some w->FL 4000000000 w):=by
 subst hb';obtain⟨g1,g2,g3,g4⟩:=h'.inv;rw[wgt_to h1,nV_to h1 h2]at g2;obtain⟨x,hx,_⟩:=g2.low_at;obtain⟨lo,hi,rfl,q2,q3,q4⟩:=h.get (okP_to g1 hc h1.symm h2.symm) ⟨x,hx.sub hr⟩;obtain⟨a1,a2⟩:=q2.sub g2 hr;exact⟨lo,hi,rfl,a1,a2,q3,q4,g3,g4⟩
theorem BSay.same{e':Evid}{b b':Option (Rat×Option Rat)}(h:BSay e ps b)(h':BSay e' ps b')(hc:jar e=0)(hc':jar e'=0)(h1:e'.mats=e.mats)(h2:e'.moves=e.moves)(hr:∀w,w∈rowsE e↔w∈rowsE e'):b=b':=by
 cases b' with
 | none=>
  cases b with
  | none=>rfl
  | some p=>
   obtain⟨lo,hi⟩:=p;obtain⟨_,_,e1,_⟩:=h'.wider h rfl hc' h1.symm h2.symm fun w hw=>(hr w).2 hw;cases e1
 | some p=>
  obtain⟨lo,hi⟩:=p;obtain⟨lo2,hi2,rfl,_⟩:=h.wider h' rfl hc h1 h2 fun w hw=>(hr w).1 hw;obtain⟨_,g2,_⟩:=h.inv;obtain⟨_,g2',_⟩:=h'.inv;rw[wgt_to h1,nV_to h1 h2]at g2';obtain⟨e1,e2⟩:=g2.uniq g2' hr;rw[e1,e2]
end
end
section
open Go.Abs
open Go.LP (Dic Rw RT Ov OvRw tsum Sol IsMin NoMin Bds)
section
variable{cs cs':List Cert}{rs rs':List Recall}{sc rd day:Int}
def bestS(sc day:Int)(b:Option Cert)(c:Cert):Option Cert:=if(decide (c.scale=sc)&&jde c day&&b.elim true fun b=>decide (b.fr<=c.fr))=true then some c else b
def bestF(l:List Cert)(sc day:Int):Option Cert:=l.foldl (bestS sc day) none
theorem best_go:∀i,i<=cs.length->bestF (cs.take i) sc day=if(jcj cs sc day i).2=true then cs[(jcj cs sc day i).1]? else none
 | 0,_=>rfl
 | i+1,h=>by
  have ih:=best_go i (by omega);obtain⟨c,hc⟩:∃c,cs[i]? =some c:=⟨_,zk (by omega)⟩;have e1:cs.take (i+1)=cs.take i++[c]:=by rw[qN,hc];rfl
  have e2:bestF (cs.take i++[c]) sc day=bestS sc day (bestF (cs.take i) sc day) c:=by unfold bestF;rw[List.foldl_append];rfl
  rw[e1,e2,ih,jek hc];have hs:=jfh cs sc day i;generalize jcj cs sc day i=z at*;obtain⟨k,b⟩:=z;unfold bestS pickF;cases b with
  | false=>
   simp only[qb,z8,Option.elim,Bool.not_false,Bool.true_or];split
   ·simp only[qv,hc]
   ·simp only[qb,z8]
  | true=>
   have hk:k<cs.length:=by have:=(hs rfl).1;dsimp only at this;omega
   obtain⟨d,hd⟩:∃d,cs[k]? =some d:=⟨_,zk hk⟩;simp only[qv,hd,Option.elim,jX,yk];split
   ·simp only[qv,hc]
   ·simp only[qv,hd]
theorem best_find:bestF cs sc day=if(findF cs sc day).2=true then cs[(findF cs sc day).1]? else none:=by
 have:=best_go (cs:=cs) (sc:=sc) (day:=day) cs.length (zn _)
 rwa [qL]at this
theorem jrr:ivlF cs rs sc rd day=(bestF cs sc day).elim none fun c=>if rs.any (recF sc day)=true then none else if(jde c day&&btw rd 0 1099511627776)=true then
  some (if(rd:Rat)-errF c rd day<((0:Int):Rat)then((0:Int):Rat)else(rd:Rat)-errF c rd day,(rd:Rat)+errF c rd day)else none:=by
 rw[best_find];unfold ivlF;cases h:(findF cs sc day).2 with
 | false=>rfl
 | true=>
  simp only[vx,z8,qv];cases hc:cs[(findF cs sc day).1]? with
  | none=>simp only[Option.elim,ite_self]
  | some c=>rfl
theorem ivl_congr(h:bestF cs' sc day=bestF cs sc day)(hr:rs'.any (recF sc day)=rs.any (recF sc day)):ivlF cs' rs' sc rd day=ivlF cs rs sc rd day:=by
 rw[jrr,jrr,h,hr]
theorem jpl(c:Cert):bestF (cs++[c]) sc day=bestS sc day (bestF cs sc day) c:=by unfold bestF;rw[List.foldl_append];rfl
theorem jhm{b:Option Cert}{c:Cert}(h:c.scale≠sc):bestS sc day b c=b:=by unfold bestS;rw[zw h];rfl
theorem best_swap{c d:Cert}(h:c.scale≠d.scale):bestF (cs++[c]++[d]) sc day=bestF (cs++[d]++[c]) sc day:=by
 simp only[jpl];by_cases h1:c.scale=sc
 ·have h2:d.scale≠sc:=fun e=>h (h1.trans e.symm);rw[jhm h2,jhm h2]
 ·rw[jhm h1,jhm h1]
theorem best_dup{c:Cert}:bestF (cs++[c]++[c]) sc day=bestF (cs++[c]) sc day:=by
 simp only[jpl];generalize bestF cs sc day=b;unfold bestS;by_cases h:(decide (c.scale=sc)&&jde c day&&b.elim true fun b=>decide (b.fr<=c.fr))=true
 ·have h1:(decide (c.scale=sc)&&jde c day)=true:=by rw[zC]at h;exact h.1
  rw[zm h,zm (by rw[h1];exact ze (yw _))]
 ·rw[zr h,zr h]
end
theorem Sol.less{N N':Nat}{ws ws':List Rw}{x:Nat->Rat}(h:Sol N' ws' x)(hN:N<=N')(hs:∀w∈ws,w∈ws'):Sol N ws x:=⟨fun k hk=>h.pos k (by omega),fun w hw=>h.row w (hs w hw)⟩
theorem Bds.less{N N':Nat}{ws ws':List Rw}{f:(Nat->Rat)->Rat}{lo lo':Rat}{hi hi':Option Rat}(h:Bds N ws f lo hi)(h':Bds N' ws' f lo' hi')(hN:N<=N')(hs:∀w∈ws,w∈ws'):
  lo<=lo'/\∀w,hi=some w->∃w',hi'=some w'/\w'<=w:=by
 constructor
 ·obtain⟨x,hx,rfl⟩:=h'.low_at;exact h.low x (Sol.less hx hN hs)
 ·intro w hw;cases hh:hi' with
  | none=>
   obtain⟨x,hx,hlt⟩:=h'.wide hh w;have:=h.high w hw x (Sol.less hx hN hs);grind
  | some w'=>
   obtain⟨x,hx,rfl⟩:=h'.high_at w' hh;exact⟨_,rfl,h.high w hw x (Sol.less hx hN hs)⟩
section
variable{e:Evid}
theorem jm5{M:Nat}{fr:Int}{mat:Nat}{ms ms':List Move}:∀i,i<=ms.length->jam M fr mat (ms++ms') i=jam M fr mat ms i
 | 0,_=>rfl
 | i+1,h=>by
  have ih:=jm5 (fr:=fr) (mat:=mat) (ms:=ms) (ms':=ms') (M:=M) i (by omega);rw[jam,jam,ih,zL (by omega)]
theorem jm6{M:Nat}{ms ms':List Move}{mv:Nat}{x:Move}(h:mv<ms.length):∀k,jdx M (ms++ms') mv x k=jdx M ms mv x k
 | 0=>rfl
 | k+1=>by rw[jdx,jdx,jm6 h k,jm5 _ h]
theorem jot(e:Evid)(m:Move):∀w∈rowsE e,w∈rowsE {e with moves:=e.moves++[m]}:=fun w hm=>by
 obtain⟨k,x,hk,hx,hm⟩:=mem_rowsU.1 hm;refine mem_rowsU.2 ⟨k,x,?_,?_,?_⟩
 ·dsimp only;rw[zD];omega
 ·dsimp only;rw[zL hk];exact hx
 ·unfold moveR at hm⊢;dsimp only;rw[jm6 hk];exact hm
end
end
section
open Go.Abs
open Go.LP (Dic Rw RT Ov OvRw tsum Sol IsMin NoMin Bds)
structure Stp where
 kind:Int
 m:Move
 c:Cert
 r:Recall
 p:Purity
def jah(e:Evid)(x:Stp):Evid:=if x.kind=0 then{e with moves:=e.moves++[x.m]}else if x.kind=1 then{e with certs:=e.certs++[x.c]}else if x.kind=2 then{e with recalls:=e.recalls++[x.r]}else{e with purs:=e.purs++[x.p]}
def putF(e:Evid)(x:Stp):Evid:=if jar (jah e x)=0 then jah e x else e
def jgs(e:Evid)(x:Stp):Bool:=if x.kind=1 then certF e x.c else if x.kind=2 then jfg e x.r else purF e x.p
section
variable{e:Evid}{x y:Stp}
theorem aft0(h:x.kind=0):jah e x={e with moves:=e.moves++[x.m]}:=zm h
theorem aft1(h:x.kind=1):jah e x={e with certs:=e.certs++[x.c]}:=by unfold jah;rw[zr (by omega),zm h]
theorem aft2(h:x.kind=2):jah e x={e with recalls:=e.recalls++[x.r]}:=by unfold jah;rw[zr (by omega),zr (by omega),zm h]
theorem aft3(h0:x.kind≠0)(h1:x.kind≠1)(h2:x.kind≠2):jah e x={e with purs:=e.purs++[x.p]}:=by unfold jah;rw[zr h0,zr h1,zr h2]
theorem jeb(hk:x.kind≠0):(jah e x).mats=e.mats/\(jah e x).houses=e.houses/\(jah e x).scales=e.scales/\(jah e x).places=e.places/\(jah e x).moves=e.moves:=by
 unfold jah;rw[zr hk];split
 ·exact⟨rfl,rfl,rfl,rfl,rfl⟩
 ·split<;>exact⟨rfl,rfl,rfl,rfl,rfl⟩
theorem jos{e e':Evid}(h1:e'.mats=e.mats)(h3:e'.scales=e.scales)(h4:e'.moves=e.moves):certF e'=certF e/\jfg e'=jfg e/\purF e'=purF e:=by
 refine⟨funext fun c=> ?_,funext fun r=> ?_,funext fun p=> ?_⟩
 ·unfold certF;rw[h3]
 ·unfold jfg;rw[h3]
 ·unfold purF;rw[h1,h4]
theorem jig(hk:y.kind≠0):jgs (jah e y) x=jgs e x:=by
 obtain⟨h1,_,h3,_,h4⟩:=jeb (e:=e) hk;obtain⟨a,b,c⟩:=jos h1 h3 h4;unfold jgs;rw[a,b,c]
theorem check_more(h:jar e=0)(hk:x.kind≠0)(l1:e.certs.length<100)(l2:e.recalls.length<30)(l3:e.purs.length<200):jar (jah e x)=0↔jgs e x=true:=by
 obtain⟨b1,b2,b3,b4,b5⟩:=jeb (e:=e) hk;obtain⟨s1,s2,s3⟩:=jos b1 b3 b5;obtain⟨g1,g2,g3,g4,g5,g6,g7⟩:=jc5 h;rw[jr6]at g7;have key:saidF (jah e x)=true↔jgs e x=true:=by
  rw[jr6,s1,s2,s3];unfold jgs;by_cases k1:x.kind=1
  ·rw[zm k1,aft1 k1];simp only[jz,List.all_cons,List.all_nil,je,zC,g7,yZ,jL]
  ·rw[zr k1];by_cases k2:x.kind=2
   ·rw[zm k2,aft2 k2];simp only[jz,List.all_cons,List.all_nil,je,zC,g7,yZ,jL]
   ·rw[zr k2,aft3 hk k1 k2];simp only[jz,List.all_cons,List.all_nil,je,zC,g7,yZ,jL]
 constructor
 ·intro hc;exact key.1 (jc5 hc).2.2.2.2.2.2
 ·intro hs;refine checkF_mk ?_ (by rw[b1];exact g2) (by rw[b2];exact g3) (by rw[b3];exact g4) ?_ ?_ (key.2 hs)
  ·have hl:(jah e x).certs.length<=100/\(jah e x).recalls.length<=30/\(jah e x).purs.length<=200:=by
    by_cases k1:x.kind=1
    ·rw[aft1 k1];dsimp only;rw[zD,List.length_singleton];omega
    ·by_cases k2:x.kind=2
     ·rw[aft2 k2];dsimp only;rw[zD,List.length_singleton];omega
     ·rw[aft3 hk k1 k2];dsimp only;rw[zD,List.length_singleton];omega
   simp only[pairs,List.all_cons,List.all_nil,je,zC,b1,b2,b3,b4,b5]at g1⊢;obtain⟨a1,a2,a3,a4,a5,a6,a7,a8⟩:=g1;refine⟨a1,a2,a3,a4,a5,?_,?_,?_⟩<;>(simp only[fitP,q6,zT];omega)
  ·rw[b4];have:jg2 (jah e x)=jg2 e:=by funext p;unfold jg2;rw[b1,b2]
   rw[this];exact g5
  ·have:moveF (jah e x)=moveF e:=by
    funext p;unfold moveF jl6;rw[b3,b4]
   rw[b5,jil this];exact g6
structure Alike(e e':Evid):Prop where
 mats:e'.mats=e.mats
 moves:e'.moves=e.moves
 places:e'.places=e.places
 best:∀sc day,bestF e'.certs sc day=bestF e.certs sc day
 recs:∀f:Recall->Bool,e'.recalls.any f=e.recalls.any f
 purs:∀p,p∈e'.purs↔p∈e.purs
theorem Alike.refl(e:Evid):Alike e e:=⟨rfl,rfl,rfl,fun _ _=>rfl,fun _=>rfl,fun _=>Iff.rfl⟩
theorem Alike.symm{e e':Evid}(h:Alike e e'):Alike e' e:=⟨h.mats.symm,h.moves.symm,h.places.symm,fun a b=>(h.best a b).symm,fun f=>(h.recs f).symm,fun p=>(h.purs p).symm⟩
theorem Alike.sub{e e':Evid}(h:Alike e e'):∀w∈rowsE e,w∈rowsE e':=
 jk5 h.mats h.moves h.places (fun M k x hx=>jga (.inr (ivl_congr (h.best _ _) (h.recs _)))) fun q hq=>(h.purs q).2 hq
theorem Alike.rows{e e':Evid}(h:Alike e e')(w:Rw):w∈rowsE e↔w∈rowsE e':=⟨h.sub w,h.symm.sub w⟩
theorem Alike.bnd{e e':Evid}{ps:List (Int×Int)}{b b':Option (Rat×Option Rat)}(h:Alike e e')(hc:jar e=0)(hc':jar e'=0)(hb:BSay e ps b)(hb':BSay e' ps b'):b=b':=
 hb.same hb' hc hc' h.mats h.moves h.rows
theorem jez(hk:x.kind≠0):(jah e x).certs=e.certs++(if x.kind=1 then [x.c]else [])/\(jah e x).recalls=e.recalls++(if x.kind=2 then [x.r]else [])/\(jah e x).purs=e.purs++(if x.kind=1\/x.kind=2 then []else [x.p]):=by
 by_cases k1:x.kind=1
 ·rw[aft1 k1,zm k1,zr (by omega),zm (.inl k1)];exact⟨rfl,(zW _).symm,(zW _).symm⟩
 ·by_cases k2:x.kind=2
  ·rw[aft2 k2,zr k1,zm k2,zm (.inr k2)];exact⟨(zW _).symm,rfl,(zW _).symm⟩
  ·rw[aft3 hk k1 k2,zr k1,zr k2,zr (by omega)];exact⟨(zW _).symm,(zW _).symm,rfl⟩
theorem any_app3{α:Type}{f:α->Bool}(l a b:List α):(l++a++b).any f=(l++b++a).any f:=by
 simp only[jh];rw[Bool.or_assoc,Bool.or_assoc,Bool.or_comm (a.any f)]
theorem aft_swap(hx:x.kind≠0)(hy:y.kind≠0)(hc:x.kind=1->y.kind=1->x.c.scale≠y.c.scale):Alike (jah (jah e x) y) (jah (jah e y) x):=by
 obtain⟨p1,p2,p3⟩:=jez (e:=jah e x) hy;obtain⟨q1,q2,q3⟩:=jez (e:=jah e y) hx;obtain⟨u1,u2,u3⟩:=jez (e:=e) hx;obtain⟨v1,v2,v3⟩:=jez (e:=e) hy;obtain⟨a1,_,_,a4,a5⟩:=jeb (e:=e) hx;obtain⟨b1,_,_,b4,b5⟩:=jeb (e:=e) hy;obtain⟨c1,_,_,c4,c5⟩:=jeb (e:=jah e x) hy;obtain⟨d1,_,_,d4,d5⟩:=jeb (e:=jah e y) hx;refine⟨by rw[c1,d1,a1,b1],by rw[c5,d5,a5,b5],by rw[c4,d4,a4,b4],fun sc day=> ?_,fun f=> ?_,fun p=> ?_⟩
 ·rw[p1,q1,u1,v1];by_cases k1:x.kind=1
  ·by_cases k2:y.kind=1
   ·rw[zm k1,zm k2];exact best_swap fun e=>hc k1 k2 e.symm
   ·rw[zm k1,zr k2,zW,zW]
  ·rw[zr k1,zW,zW]
 ·rw[p2,q2,u2,v2];exact any_app3 _ _ _
 ·rw[p3,q3,u3,v3];simp only[qp,or_assoc];constructor
  ·rintro(h | h | h)
   ·exact .inl h
   ·exact .inr (.inr h)
   ·exact .inr (.inl h)
  ·rintro(h | h | h)
   ·exact .inl h
   ·exact .inr (.inr h)
   ·exact .inr (.inl h)
theorem aft_dup(hx:x.kind≠0):Alike (jah (jah e x) x) (jah e x):=by
 obtain⟨p1,p2,p3⟩:=jez (e:=jah e x) hx;obtain⟨u1,u2,u3⟩:=jez (e:=e) hx;obtain⟨c1,_,_,c4,c5⟩:=jeb (e:=jah e x) hx;refine⟨c1.symm,c5.symm,c4.symm,fun sc day=> ?_,fun f=> ?_,fun p=> ?_⟩
 ·rw[p1,u1];by_cases k1:x.kind=1
  ·rw[zm k1];exact best_dup.symm
  ·rw[zr k1,zW,zW]
 ·rw[p2,u2];simp only[jh];rw[Bool.or_assoc,Bool.or_self]
 ·rw[p3,u3];simp only[qp,or_assoc,or_self]
structure Few3(e:Evid)(k:Nat):Prop where
 certs:e.certs.length<=10+k
 recalls:e.recalls.length<=4+k
 purs:e.purs.length<=6+k
theorem Few3.put{k:Nat}(h:Few3 e k):Few3 (putF e x) (k+1):=by
 unfold putF;split
 ·by_cases k0:x.kind=0
  ·rw[aft0 k0];exact⟨by have:=h.certs;dsimp only;omega,by have:=h.recalls;dsimp only;omega,by have:=h.purs;dsimp only;omega⟩
  ·obtain⟨p1,p2,p3⟩:=jez (e:=e) k0;refine⟨?_,?_,?_⟩
   ·rw[p1,zD];have:=h.certs;split<;>simp only[List.length_cons,List.length_nil]<;>omega
   ·rw[p2,zD];have:=h.recalls;split<;>simp only[List.length_cons,List.length_nil]<;>omega
   ·rw[p3,zD];have:=h.purs;split<;>simp only[List.length_cons,List.length_nil]<;>omega
 ·exact⟨by have:=h.certs;omega,by have:=h.recalls;omega,by have:=h.purs;omega⟩
theorem jkt(h:jar e=0):jar (putF e x)=0:=by
 unfold putF;split
 ·assumption
 ·exact h
theorem jhi{k:Nat}(h:jar e=0)(hf:Few3 e k)(hk:k<=15)(hx:x.kind≠0):putF e x=if jgs e x=true then jah e x else e:=by
 have:=check_more (x:=x) h hx (by have:=hf.certs;omega) (by have:=hf.recalls;omega) (by have:=hf.purs;omega);unfold putF;by_cases hs:jgs e x=true
 ·rw[zm hs,zm (this.2 hs)]
 ·rw[zr hs,zr fun hc=>hs (this.1 hc)]
theorem put_swap(h:jar e=0)(hf:Few3 e 0)(hx:x.kind≠0)(hy:y.kind≠0)(hc:x.kind=1->y.kind=1->x.c.scale≠y.c.scale):Alike (putF (putF e x) y) (putF (putF e y) x):=by
 rw[jhi (jkt h) hf.put (by decide) hy,jhi (jkt h) hf.put (by decide) hx,jhi h hf (by decide) hx,jhi h hf (by decide) hy];by_cases sx:jgs e x=true
 ·by_cases sy:jgs e y=true
  ·rw[zm sx,zm sy,jig hx,jig hy,zm sx,zm sy];exact aft_swap hx hy hc
  ·rw[zm sx,zr sy,jig hx,zr sy,zm sx];exact .refl _
 ·by_cases sy:jgs e y=true
  ·simp only[sx,sy,jig hy,qv,z8,qb];exact .refl _
  ·simp only[sx,sy,z8,qb];exact .refl _
theorem put_dup{k:Nat}(h:jar e=0)(hf:Few3 e k)(hk:k<=10)(hx:x.kind≠0):Alike (putF (putF e x) x) (putF e x):=by
 rw[jhi (jkt h) hf.put (by omega) hx,jhi h hf (by omega) hx];by_cases sx:jgs e x=true
 ·rw[zm sx,jig hx,zm sx];exact aft_dup hx
 ·rw[zr sx,zr sx];exact .refl _
theorem step_in{ps:List (Int×Int)}{b b':Option (Rat×Option Rat)}{lo':Rat}{hi':Option Rat}(h:jar e=0)(hk:x.kind≠2)(hf:x.kind=1->∀c∈e.certs,c.scale≠x.c.scale)
  (hok:okP e ps=true) (hb:BSay e ps b) (hb':BSay (jah e x) ps b') (he:b'=some (lo',hi')):∃lo hi,b=some (lo,hi)/\lo<=lo'/\∀w,hi=some w->∃w',hi'=some w'/\w'<=w:=by
 subst he;obtain⟨g1,g2,g3,g4⟩:=hb'.inv;by_cases k0:x.kind=0
 ·rw[aft0 k0]at g2;have hN:nV e<=nV {e with moves:=e.moves++[x.m]}:=by
   unfold nV;dsimp only;rw[zD];exact zZ _ (Nat.le_add_right _ _)
  obtain⟨z,hz,_⟩:=g2.low_at;obtain⟨lo,hi,rfl,q2,q3,q4⟩:=hb.get hok ⟨z,Sol.less hz hN (jot e x.m)⟩;obtain⟨a1,a2⟩:=Bds.less q2 g2 hN (jot e x.m);exact⟨lo,hi,rfl,a1,a2⟩
 ·obtain⟨b1,_,_,_,b5⟩:=jeb (e:=e) k0;have hr:∀w∈rowsE e,w∈rowsE (jah e x):=by
   by_cases k1:x.kind=1
   ·rw[aft1 k1];exact rows_sure e x.c (hf k1)
   ·rw[aft3 k0 k1 hk];exact rows_pure e x.p
  obtain⟨lo,hi,h1,h2,h3,_⟩:=hb.wider hb' rfl h b1 b5 hr;exact⟨lo,hi,h1,h2,h3⟩
theorem jr4{ps:List (Int×Int)}{b b':Option (Rat×Option Rat)}{lo:Rat}{hi:Option Rat}(h':jar (jah e x)=0)(hk:x.kind=2)
  (hb:BSay e ps b) (hb':BSay (jah e x) ps b') (he:b=some (lo,hi)):∃lo' hi',b'=some (lo',hi')/\lo'<=lo/\∀w,hi'=some w->∃w',hi=some w'/\w'<=w:=by
 obtain⟨b1,_,_,_,b5⟩:=jeb (e:=e) (show x.kind≠0 by omega);have hr:∀w∈rowsE (jah e x),w∈rowsE e:=by rw[aft2 hk];exact rows_wrong e x.r
 obtain⟨lo',hi',h1,h2,h3,_⟩:=hb'.wider hb he h' b1.symm b5.symm hr;exact⟨lo',hi',h1,h2,h3⟩
end
end
section
open Go.Abs
open Go.LP (Dic Rw RT Ov OvRw tsum Sol IsMin NoMin Bds)
section
variable{e:Evid}{q:List (Int×Int)}{b b':Option (Rat×Option Rat)}
theorem BSay.uniq(h:BSay e q b)(h':BSay e q b'):b=b':=by
 cases hk:okP e q with
 | true=>exact h.same h' (jkx hk) (jkx hk) rfl rfl fun w=>Iff.rfl
 | false=>
  cases h with
  | none _=>cases h' with
   | none _=>rfl
   | some _ _ h1=>rw[hk]at h1;cases h1
  | some _ _ h1=>rw[hk]at h1;cases h1
open Classical in
noncomputable def bO(e:Evid)(q:List (Int×Int)):Option (Rat×Option Rat):=if h:∃b,BSay e q b then Classical.choose h else none
theorem bO_of(h:BSay e q b):bO e q=b:=by
 have hx:∃b,BSay e q b:=⟨b,h⟩;have:bO e q=Classical.choose hx:=dif_pos hx;rw[this];exact(jr hx).uniq h
noncomputable def posF(e:Evid):Bool:=(bO e []).isSome
theorem pos_iff(hc:jar e=0)(h:BSay e [] b):posF e=true↔∃x,Sol (nV e) (rowsE e) x:=by
 unfold posF;rw[bO_of h];constructor
 ·intro hs;obtain⟨⟨lo,hi⟩,rfl⟩:=zh.1 hs;obtain⟨_,h2,_⟩:=h.inv;exact h2.sol
 ·intro hx;obtain⟨lo,hi,rfl,_⟩:=h.get (okP_nil hc) hx;rfl
theorem bO_pos(hk:okP e q=true)(h0:BSay e [] b)(h:BSay e q b'):(bO e q).isSome=posF e:=by
 have hc:=jkx hk;rw[bO_of h];cases hp:posF e with
 | true=>
  obtain⟨lo,hi,rfl,_⟩:=h.get hk ((pos_iff hc h0).1 hp);rfl
 | false=>
  cases hb:b' with
  | none=>rfl
  | some p=>
   obtain⟨lo,hi⟩:=p;subst hb;obtain⟨_,h2,_⟩:=h.inv;rw[(pos_iff hc h0).2 h2.sol]at hp;cases hp
theorem pickK_inj{M:Nat}{p r:Int×Int}(h1:0<=p.1)(h2:0<=p.2/\p.2<M)(h3:0<=r.1)(h4:0<=r.2/\r.2<M)(h:pickK M p=pickK M r):p=r:=by
 unfold pickK at h;have key:∀{a c u v:Nat},u<M->v<M->a*M+u=c*M+v->¬a<c:=fun{a c u v} hu hv he hl=>by
  have:=zZ M (show a+1<=c from hl);rw[jm]at this;omega
 have e1:=key (by omega) (by omega) h;have e2:=key (by omega) (by omega) h.symm;have e3:p.1.toNat=r.1.toNat:=by omega
 rw[e3]at h;exact Prod.ext (by omega) (by omega)
def jdc(e:Evid)(q:List (Int×Int)):Bool:=q.all (jc9 e)&&decide q.Nodup
theorem jkw(hc:jar e=0):okP e q=jdc e q:=by
 have key:okP e q=true↔jdc e q=true:=by
  rw[okP_iff];simp only[jdc,zC,List.all_eq_true,zO];constructor
  ·rintro⟨_,h1,h2⟩;exact⟨h1,(List.pairwise_map.1 h2).imp fun h e=>h (by rw[e])⟩
  ·rintro⟨h1,h2⟩;have hm:1<=e.mats:=(jc5 hc).2.1;have hp:∀p∈q,0<=p.1/\0<=p.2/\p.2<((e.mats.toNat:Nat):Int):=fun p hp=>by
    have:=h1 p hp;simp only[jc9,zC,zO]at this;omega
   refine⟨hc,h1,List.pairwise_map.2 (h2.imp_of_mem fun{a b} ha hb hab he=>hab ?_)⟩;exact pickK_inj (hp a ha).1 (hp a ha).2 (hp b hb).1 (hp b hb).2 he
 cases h:jdc e q with
 | true=>exact key.2 h
 | false=>
  cases h':okP e q with
  | false=>rfl
  | true=>rw[key.1 h']at h;cases h
theorem rightQ_aft{x:Stp}(h:jdc e q=true):jdc (jah e x) q=true:=by
 simp only[jdc,zC,List.all_eq_true]at h⊢;refine⟨fun p hp=> ?_,h.2⟩;have:=h.1 p hp;simp only[jc9,zC,zO]at this⊢;by_cases k0:x.kind=0
 ·rw[aft0 k0];dsimp only;rw[zD];refine⟨this.1,?_,this.2.2.1,this.2.2.2⟩;have:=this.2.1;simp only[List.length_singleton];omega
 ·obtain⟨b1,_,_,_,b5⟩:=jeb (e:=e) k0;rw[b1,b5];exact this
end
end
section
open Go.Abs
attribute [local go_sem] ints ic big frac fc zc
theorem u_equal(l m:List Int)(hl:l.length<=1000000000000000):Ctr G.P 105 [ints l,ints m] (· = .bool (decide (l=m))):=by
 by_cases h2:(l.length:Int)=m.length
 ·have d2:decide ((l.length:Int)=m.length)=true:=ze h2;refine ja5 [.tmp 4] Tryz.func105 ?_;simp only[d2,zq,go_sem];refine jaw [0,1,12,13] [] (fun i:Nat=>⟨[(0,.im (ints l)),(1,.im (ints m)),(12,.im (.int l.length)),(13,.im (.int i))],[],[]⟩) (fun i=>i<=l.length/\l.take i=m.take i) (fun i=>l.length-i) 0 ?_ ⟨zI _,rfl⟩ ?_
  ·simp only[Int.natCast_zero,go_sem]
  ·intro i ⟨hi,ha⟩;by_cases hp:(i:Int)<l.length
   ·have hp':(i:Int)<m.length:=by omega
    have hd:decide ((i:Int)<l.length)=true:=ze hp;have hx:=jba hp;have hy:=jba hp';have hw:=jaa (n:=(i:Int)+1) (by omega);simp only[hd,go_sem];refine jaf 9 ?_;simp only[hd,za,hx,hy,go_sem];refine jd5 (fun he he'=> ?_) (fun he he'=> ?_)
    ·simp only[go_sem];refine jai (i+1) ?_ (by omega) ⟨by omega,joe ha hp hp' he'⟩;simp only[hw,Int.natCast_add,go_sem]
    ·have hf:decide (l=m)=false:=zw (jp3 he');rw[hf];simp only[go_sem]
   ·have hd:decide ((i:Int)<l.length)=false:=zw hp;have hf:decide (l=m)=true:=ze (by
     rw[zu (by omega),zu (by omega)]at ha;exact ha)
    rw[hf];simp only[hd,go_sem]
 ·have d2:decide ((l.length:Int)=m.length)=false:=zw h2;have d3:decide (l=m)=false:=zw fun e=>h2 (by rw[e]);rw[d3];refine ja5 [.tmp 4] Tryz.func105 ?_;simp only[d2,zq,go_sem]
theorem u_big(s t:Int)(l m:List Int)(hl:l.length<=1000000000000000):Ctr G.P 76 [.agg [.int s,ints l],.agg [.int t,ints m]] (· = .bool (decide (s=t)&&decide (l=m))):=by
 have k:=u_equal l m hl;unfold ints at*;rcases d:decide (s=t)with _ | _
 ·rw[qm];generalize l.map ic=l' at*;generalize m.map ic=m' at*;refine ja5 [.tmp 4] Tryz.func76 ?_;simp only[d,go_sem]
 ·rw[qg];generalize decide (l=m)=q at*;generalize l.map ic=l' at*;generalize m.map ic=m' at*;refine ja5 [.tmp 4] Tryz.func76 ?_;simp only[d,go_sem];refine ja2 k ?_;simp only[go_sem]
theorem u_frac(s t:Int)(l m:List Int)(s' t':Int)(l' m':List Int)(hl:l.length<=1000000000000000)(hm:m.length<=1000000000000000):
  Ctr G.P 51 [.agg [.int s,ints l,.int t,ints m],.agg [.int s',ints l',.int t',ints m']] (· = .bool ((decide (s=s')&&decide (l=l'))&&(decide (t=t')&&decide (m=m')))):=by
 have k1:=u_big s s' l l' hl;have k2:=u_big t t' m m' hm;unfold ints at*;generalize (decide (s=s')&&decide (l=l'))=p at*;generalize (decide (t=t')&&decide (m=m'))=q at*;generalize l.map ic=l1 at*;generalize m.map ic=m1 at*;generalize l'.map ic=l2 at*;generalize m'.map ic=m2 at*;refine ja5 [.tmp 4] Tryz.func51 ?_;simp only[go_sem];refine ja2 k1 ?_;cases p
 ·simp only[go_sem]
 ·simp only[go_sem];refine ja2 k2 ?_;simp only[go_sem]
end
section
open Go.Abs
attribute [local go_sem] ints ic pickC Evid.iv Evid.c
def eqP(v p:Int×Int):Bool:=decide (v.1=p.1)&&decide (v.2=p.2)
theorem eqP_iff{v p:Int×Int}:eqP v p=true↔v=p:=by
 simp only[eqP,zC,zO];exact⟨fun h=>Prod.ext h.1 h.2,fun h=>by rw[h];exact⟨rfl,rfl⟩⟩
theorem anyP_at{l:List (Int×Int)}{i:Nat}{x v:Int×Int}(hx:l[i]? =some x)(h:eqP v x=true):l.any (eqP v)=true:=qZ.2 ⟨x,zE hx,h⟩
theorem jqz{α:Type}{l:List α}{i:Nat}{x:α}(hx:l[i]? =some x):l.take (i+1)=l.take i++[x]:=by rw[qN,hx];rfl
theorem u_index(l:List (Int×Int))(v:Int×Int)(hl:l.length<=100000):Ctr G.P 81 [.sl (l.map pickC),.agg (pickC v)] (fun r=>∃k:Int,r= .int k/\decide (0<=k)=l.any (eqP v)):=by
 refine ja5 [.tmp 4] Tryz.func81 ?_;simp only[go_sem];refine jaw [0,3,7,8] [3] (fun i:Nat=>⟨[(0,.im (.sl (l.map pickC))),(3,.loc 3 2 0 0),(7,.im (.int l.length)),(8,.im (.int i))],[(3,2,[pickC v])],[]⟩)
  (fun i=>i<=l.length/\(l.take i).any (eqP v)=false) (fun i=>l.length-i) 0 ?_ ⟨zI _,rfl⟩ ?_
 ·simp only[Int.natCast_zero,zq,go_sem]
 ·intro i ⟨hi,ha⟩;by_cases hp:(i:Int)<l.length
  ·have hd:decide ((i:Int)<l.length)=true:=ze hp;obtain⟨x,hx⟩:=jby hp;have h1:=jaa (n:=(i:Int)+1) (by omega);simp only[hd,za,hx,go_sem];refine jaf 6 ?_;simp only[hd,za,hx,go_sem];refine jdf (fun he=> ?_) (fun he=> ?_)
   ·simp only[go_sem];exact⟨i,rfl,by rw[anyP_at hx he];simp⟩
   ·simp only[go_sem];refine jai (i+1) ?_ (by omega) ⟨by omega,by rw[jqz hx,jh,ha,List.any_cons,show eqP v x=false from he];rfl⟩;simp only[h1,Int.natCast_add,go_sem]
  ·have hd:decide ((i:Int)<l.length)=false:=zw hp;rw[zu (by omega)]at ha;simp only[hd,go_sem];exact⟨-1,rfl,by rw[ha];rfl⟩
theorem u_contains(l:List (Int×Int))(v:Int×Int)(hl:l.length<=100000):Ctr G.P 61 [.sl (l.map pickC),.agg (pickC v)] (· = .bool (l.any (eqP v))):=by
 have h:=u_index l v hl;refine ja5 [.tmp 4] Tryz.func61 ?_;simp only[go_sem];refine jhe h ?_;rintro r ⟨k,rfl,hk⟩;rw[<-hk];simp only[go_sem]
section
variable{e:Evid}{q:List (Int×Int)}{i:Nat}{x:Int×Int}
theorem jii(hx:q[i]? =some x)(h:jc9 e x=false):jdc e q=false:=by
 cases hr:jdc e q with
 | false=>rfl
 | true=>
  simp only[jdc,zC,List.all_eq_true]at hr;rw[hr.1 x (zE hx)]at h;cases h
theorem right_dup(hx:q[i]? =some x)(h:(q.take i).any (eqP x)=true):jdc e q=false:=by
 cases hr:jdc e q with
 | false=>rfl
 | true=>
  simp only[jdc,zC,zO]at hr;obtain⟨y,hy,he⟩:=qZ.1 h;rw[<-eqP_iff.1 he]at hy;have hn:=hr.2;have hi:i<q.length:=(zt.1 hx).1;have e1:q=q.take i++q.drop i:=(yJ i q).symm;rw[e1]at hn;have hd:x∈q.drop i:=by
   refine zE (i:=0) ?_;rw[qQ,Nat.add_zero];exact hx
  exact absurd rfl ((ve.1 hn).2.2 x hy x hd)
theorem right_next(hx:q[i]? =some x)(h:(q.take i).all (jc9 e)=true)(hn:(q.take i).Nodup)(h1:jc9 e x=true)(h2:(q.take i).any (eqP x)=false):(q.take (i+1)).all (jc9 e)=true/\(q.take (i+1)).Nodup:=by
 rw[jqz hx];refine⟨by rw[jz,h,List.all_cons,h1];rfl,ve.2 ⟨hn,yu.2 ⟨yQ,jN⟩,fun y hy z hz=> ?_⟩⟩;rw[zp.1 hz];intro he;subst he;rw[qZ.2 ⟨y,hy,eqP_iff.2 rfl⟩]at h2;cases h2
theorem u_right(hl:q.length<=100000)(hm:e.moves.length<=100000):Ctr G.P 32 [e.iv,.sl (q.map pickC)] (· = .bool (jdc e q)):=by
 refine ja5 [.tmp 4] Tryz.func32 ?_;simp only[go_sem];refine jaw [1,2,7,8,9] [2] (fun i:Nat=>⟨[(1,.im (.sl (q.map pickC))),(2,.loc 2 8 0 0),(7,.im (.sl (q.map pickC))),(8,.im (.int q.length)),(9,.im (.int i))],[(2,8,[e.c])],[]⟩)
  (fun i=>i<=q.length/\(q.take i).all (jc9 e)=true/\(q.take i).Nodup) (fun i=>q.length-i) 0 ?_ ⟨zI _,rfl,jN⟩ ?_
 ·simp only[Int.natCast_zero,zq,go_sem]
 intro i ⟨hi,ha,hb⟩;by_cases hp:(i:Int)<q.length
 ·have hd:decide ((i:Int)<q.length)=true:=ze hp;obtain⟨x,hx⟩:=jby hp;have h1:=jaa (n:=(i:Int)+1) (by omega);have kC:=u_contains (q.take i) x (by rw[qa];omega);rw[List.map_take]at kC;have hi1:(i:Int)<=q.length:=by omega
  have hal:((q.map pickC).all fun c=>c.length==2)=true:=List.all_eq_true.2 fun c hc=>by obtain⟨z,_,rfl⟩:=zU.1 hc;rfl
  rcases g1:decide (x.1<0)with _ | _
  ·rcases g2:decide ((e.moves.length:Int)<=x.1)with _ | _
   ·rcases g3:decide (x.2<0)with _ | _
    ·rcases g4:decide (e.mats<=x.2)with _ | _
     ·have hok:jc9 e x=true:=by
       have:=zJ g1;have:=zJ g2;have:=zJ g3;have:=zJ g4;unfold jc9;simp only[zC,zO];omega
      simp only[g1,g2,g3,g4,hd,za,hx,zq,go_sem];refine jaf 30 ?_;simp only[g1,g2,g3,g4,zq,hi1,hal,Nat.sub_zero,go_sem];refine ja4 kC (by decide) ?_;simp only[go_sem];rcases hc:(q.take i).any (eqP x)with _ | _
      ·obtain⟨n1,n2⟩:=right_next hx ha hb hok hc;simp only[go_sem];refine jai (i+1) ?_ (by show q.length-(i+1)<q.length-i;omega) ⟨by show i+1<=q.length;omega,n1,n2⟩;simp only[h1,Int.natCast_add,go_sem]
      ·rw[right_dup (e:=e) hx hc];simp only[go_sem]
     ·have g5:=zK g4;rw[jii (e:=e) hx (by unfold jc9;simp only[q7,zT];omega)];simp only[g1,g2,g3,g4,hd,za,hx,zq,go_sem];refine jaf 30 ?_;simp only[g1,g2,g3,g4,zq,go_sem]
    ·have g5:=zK g3;rw[jii (e:=e) hx (by unfold jc9;simp only[q7,zT];omega)];simp only[g1,g2,g3,hd,za,hx,zq,go_sem];refine jaf 30 ?_;simp only[g1,g2,g3,zq,go_sem]
   ·have g5:=zK g2;rw[jii (e:=e) hx (by unfold jc9;simp only[q7,zT];omega)];simp only[g1,g2,hd,za,hx,zq,go_sem];refine jaf 30 ?_;simp only[g1,g2,zq,go_sem]
  ·have g5:=zK g1;rw[jii (e:=e) hx (by unfold jc9;simp only[q7,zT];omega)];simp only[g1,hd,za,hx,zq,go_sem];refine jaf 30 ?_;simp only[g1,zq,go_sem]
 ·have hd:decide ((i:Int)<q.length)=false:=zw hp;rw[zu (by omega)]at ha hb;have hr:jdc e q=true:=by unfold jdc;rw[ha,ze hb];rfl
  rw[hr];simp only[hd,go_sem]
