/- A part of the proof. No further condition. -/
import Derived.Test.YthahgoopboilkaaGreatKE20
set_option linter.all false
set_option maxRecDepth 10000000
set_option maxHeartbeats 16000000
namespace Go.Proofs.YthahgoopboilkaaGreat
section
open Go.Abs
structure Place where
 (kind house mat:Int)
 deriving DecidableEq,Inhabited
structure Move where
 (day fr to scale reading:Int)
 all:Bool
 deriving DecidableEq,Inhabited
structure Cert where
 (scale fr until' grams perMille drift:Int)
 deriving DecidableEq,Inhabited
structure Recall where
 (scale since:Int)
 deriving DecidableEq,Inhabited
structure Purity where
 (move mat least most:Int)
 deriving DecidableEq,Inhabited
structure Evid where
 (mats houses scales:Int)
 places:List Place
 moves:List Move
 certs:List Cert
 recalls:List Recall
 purs:List Purity
 deriving DecidableEq,Inhabited
structure Sample where
 move:Int
 grams:List Int
 slack:Int
 deriving DecidableEq,Inhabited
structure Recipe where
 (fr to mat least most:Int)
 deriving DecidableEq,Inhabited
def Place.c(p:Place):List IV:=[.int p.kind,.int p.house,.int p.mat]
def Move.c(p:Move):List IV:=[.int p.day,.int p.fr,.int p.to,.int p.scale,.int p.reading,.bool p.all]
def Cert.c(p:Cert):List IV:=[.int p.scale,.int p.fr,.int p.until',.int p.grams,.int p.perMille,.int p.drift]
def Recall.c(p:Recall):List IV:=[.int p.scale,.int p.since]
def Purity.c(p:Purity):List IV:=[.int p.move,.int p.mat,.int p.least,.int p.most]
def Sample.c(p:Sample):List IV:=[.int p.move,ints p.grams,.int p.slack]
def Recipe.c(p:Recipe):List IV:=[.int p.fr,.int p.to,.int p.mat,.int p.least,.int p.most]
def Evid.c(e:Evid):List IV:=[.int e.mats,.int e.houses,.int e.scales,.sl (e.places.map Place.c),.sl (e.moves.map Move.c),.sl (e.certs.map Cert.c),.sl (e.recalls.map Recall.c),.sl (e.purs.map Purity.c)]
def Evid.iv(e:Evid):IV:= .agg e.c
theorem Place.len(p:Place):p.c.length=3:=rfl
theorem Move.len(p:Move):p.c.length=6:=rfl
theorem Cert.len(p:Cert):p.c.length=6:=rfl
theorem Recall.len(p:Recall):p.c.length=2:=rfl
theorem Purity.len(p:Purity):p.c.length=4:=rfl
theorem Sample.len(p:Sample):p.c.length=3:=rfl
theorem Recipe.len(p:Recipe):p.c.length=5:=rfl
theorem take_succ{α:Type}{l:List α}{i:Nat}{x:α}(h:l[i]? =some x):l.take (i+1)=l.take i++[x]:=by
 rw[yJ,h];rfl
end
section
open Go.Abs
def idx(i n:Int):Bool:=decide (0<=i)&&decide (i<n)
def btw(n a b:Int):Bool:=decide (a<=n)&&decide (n<=b)
theorem jnw{i n:Int}:idx i n=true↔0<=i/\i<n:=by simp[idx]
theorem btw_iff{n a b:Int}:btw n a b=true↔a<=n/\n<=b:=by simp[btw]
theorem c68(n a b:Int):Ctr G.P 115 [.int n,.int a,.int b] (· = .bool (btw n a b)):=by
 unfold btw;refine ja5 [.tmp 6] Tryz.func115 ?_;simp only[go_sem]
 repeat' (refine jcy (fun hd hp=> ?_) (fun hd hp=> ?_)<;>simp only[hd,go_sem])
theorem c67(i n:Int):Ctr G.P 106 [.int i,.int n] (· = .bool (idx i n)):=by
 unfold idx;refine ja5 [.tmp 4] Tryz.func106 ?_;simp only[go_sem]
 repeat' (refine jcy (fun hd hp=> ?_) (fun hd hp=> ?_)<;>simp only[hd,go_sem])
attribute [irreducible] idx btw
end
section
open Go.Abs
attribute [local go_sem] Evid.iv Evid.c Place.c Move.c Cert.c Recall.c Purity.c Sample.c Recipe.c ints ic
theorem jc4{α:Type}{l:List α}{f:α->Bool}{i:Nat}{x:α}(h:l[i]? =some x):(l.take (i+1)).all f=((l.take i).all f&&f x):=by
 rw[take_succ h,js];simp
theorem jes{α:Type}{l:List α}{f:α->Bool}{i:Nat}{x:α}(h:l[i]? =some x)(hf:f x=false):l.all f=false:=by
 rw[List.all_eq_false];exact⟨x,zk h,by simp[hf]⟩
def jib(e:Evid)(p:Place):Bool:=idx p.kind 7&&(if p.kind=0 then idx p.house e.houses&&idx p.mat e.mats else decide (p.house= -1)&&decide (p.mat= -1))
theorem c47(e:Evid)(hl:e.places.length<=1000):Ctr G.P 79 [e.iv] (· = .bool (e.places.all (jib e))):=by
 refine ja5 [.tmp 2] Tryz.func79 ?_;unfold Evid.iv Evid.c;simp only[go_sem];refine jal [1,6,7,8] [1] (fun i:Nat=>⟨[(1,.loc 1 8 0 0),(6,.im (.sl (e.places.map Place.c))),(7,.im (.int e.places.length)),(8,.im (.int i))],[(1,8,[e.c])],[]⟩)
  (fun i=>i<=e.places.length/\(e.places.take i).all (jib e)=true) (fun i=>e.places.length-i) 0 ?_ ⟨zE _,rfl⟩ ?_
 ·simp only[Evid.c,Int.natCast_zero,go_sem]
 ·intro i ⟨hi,ha⟩;simp only[go_sem];refine jcy (fun hd hp=> ?_) (fun hd hp=> ?_)
  ·obtain⟨x,hx⟩:∃x,e.places[i]? =some x:=⟨_,zh (by omega)⟩;have h1:=ja9 (n:=(i:Int)+1) (by omega);have hat:=jc4 (f:=jib e) hx;simp only[hd,ze,hx,Place.c,Evid.c,go_sem]
   repeat' (first | (refine jcq (fun hd=> ?_) (fun hd=> ?_)<;>simp only[*,go_sem]) | (refine jc0 (c67 _ _) (by first | decide | assumption) ?_;simp only[*,go_sem]) | (refine ja4 (c67 _ _) (by decide) ?_;simp only[*,go_sem]))
   all_goals first
    | (refine jab (i+1) ?_ ?_ ⟨?_,?_⟩
       ·simp only[h1,Evid.c,Int.natCast_add,go_sem]
       ·omega
       ·omega
       ·rw[hat,ha,qe];clear hat ha h1;simp_all[jib]
       done)
    | (rw[jes hx (by clear hat ha h1;simp_all[jib])];done)
  ·simp only[hd,go_sem];rw[zt (by omega)]at ha;rw[ha]
end
section
open Go.Abs
attribute [local go_sem] Evid.iv Evid.c Place.c Move.c Cert.c Recall.c Purity.c Sample.c Recipe.c ints ic
def certF(e:Evid)(c:Cert):Bool:=decide (0<=c.fr)&&decide (c.fr<=c.until')&&decide (c.until'<=100000)&&idx c.scale e.scales&&btw c.grams 0 1099511627776&&btw c.perMille 0 1000&&btw c.drift 0 10000000
def jj3(e:Evid)(r:Recall):Bool:=idx r.scale e.scales&&btw r.since 0 100000
def purF(e:Evid)(p:Purity):Bool:=idx p.move e.moves.length&&idx p.mat e.mats&& !decide (p.least<0)&& !decide (p.most<p.least)&& !decide (1000<p.most)
def saidF(e:Evid):Bool:=e.certs.all (certF e)&&e.recalls.all (jj3 e)&&e.purs.all (purF e)
theorem jby{α:Type}{l:List α}{i:Nat}(h:(i:Int)<l.length):∃x,l[i]? =some x:=⟨_,zh (by omega)⟩
theorem c49(e:Evid)(h5:e.certs.length<=1000)(h6:e.recalls.length<=1000)(h7:e.purs.length<=1000):Ctr G.P 81 [e.iv] (· = .bool (saidF e)):=by
 refine ja5 [.tmp 2] Tryz.func81 ?_;unfold Evid.iv Evid.c;simp only[go_sem];refine jal [1,11,12,13] [1] (fun i:Nat=>⟨[(1,.loc 1 8 0 0),(11,.im (.sl (e.certs.map Cert.c))),(12,.im (.int e.certs.length)),(13,.im (.int i))],[(1,8,[e.c])],[]⟩)
  (fun i=>i<=e.certs.length/\(e.certs.take i).all (certF e)=true) (fun i=>e.certs.length-i) 0 ?_ ⟨zE _,rfl⟩ ?_
 ·simp only[Evid.c,Int.natCast_zero,go_sem]
 ·intro i ⟨hi,ha⟩;by_cases hp:(i:Int)<e.certs.length
  ·have hd:decide ((i:Int)<e.certs.length)=true:=za hp;obtain⟨x,hx⟩:=jby hp;have h1:=ja9 (n:=(i:Int)+1) (by omega);have hat:=jc4 (f:=certF e) hx;have hn:certF e x=false->saidF e=false:=fun h=>by simp[saidF,jes hx h]
   simp only[hd,ze,hx,Cert.c,Evid.c,go_sem]
   repeat' (first | (refine jcq (fun hd=> ?_) (fun hd=> ?_)<;>simp only[*,go_sem]) | (refine jc0 (c67 _ _) (by first | decide | assumption) ?_;simp only[*,go_sem]) | (refine jc0 (c68 _ _ _) (by first | decide | assumption) ?_;simp only[*,go_sem]) | (refine ja4 (c67 _ _) (by decide) ?_;simp only[*,go_sem]) | (refine ja4 (c68 _ _ _) (by decide) ?_;simp only[*,go_sem]))
   all_goals first
    | (refine jab (i+1) ?_ ?_ ⟨?_,?_⟩
       ·simp only[h1,Evid.c,Int.natCast_add,go_sem]
       ·omega
       ·omega
       ·rw[hat,ha,qe];clear hn hat ha h1;simp_all[certF]
       done)
    | (rw[hn (by clear hn hat ha h1;simp_all[certF]<;>(intros;omega))];done)
  ·have hd:decide ((i:Int)<e.certs.length)=false:=zq hp;rw[zt (by omega)]at ha;simp only[hd,Evid.c,go_sem];clear hd hp hi;refine jal [1,62,63,64] [1] (fun i:Nat=>⟨[(1,.loc 1 8 0 0),(62,.im (.sl (e.recalls.map Recall.c))),(63,.im (.int e.recalls.length)),(64,.im (.int i))],[(1,8,[e.c])],[]⟩)
    (fun i=>i<=e.recalls.length/\(e.recalls.take i).all (jj3 e)=true) (fun i=>e.recalls.length-i) 0 ?_ ⟨zE _,rfl⟩ ?_
   ·simp only[Evid.c,Int.natCast_zero,go_sem]
   ·intro i ⟨hi,hb⟩;by_cases hp:(i:Int)<e.recalls.length
    ·have hd:decide ((i:Int)<e.recalls.length)=true:=za hp;obtain⟨x,hx⟩:=jby hp;have h1:=ja9 (n:=(i:Int)+1) (by omega);have hat:=jc4 (f:=jj3 e) hx;have hn:jj3 e x=false->saidF e=false:=fun h=>by simp[saidF,jes hx h]
     simp only[hd,ze,hx,Recall.c,Evid.c,go_sem]
     repeat' (first | (refine jcq (fun hd=> ?_) (fun hd=> ?_)<;>simp only[*,go_sem]) | (refine jc0 (c67 _ _) (by first | decide | assumption) ?_;simp only[*,go_sem]) | (refine jc0 (c68 _ _ _) (by first | decide | assumption) ?_;simp only[*,go_sem]) | (refine ja4 (c67 _ _) (by decide) ?_;simp only[*,go_sem]) | (refine ja4 (c68 _ _ _) (by decide) ?_;simp only[*,go_sem]))
     all_goals first
      | (refine jab (i+1) ?_ ?_ ⟨?_,?_⟩
         ·simp only[h1,Evid.c,Int.natCast_add,go_sem]
         ·omega
         ·omega
         ·rw[hat,hb,qe];clear hn hat hb h1;simp_all[jj3]
         done)
      | (rw[hn (by clear hn hat hb h1;simp_all[jj3])];done)
    ·have hd:decide ((i:Int)<e.recalls.length)=false:=zq hp;rw[zt (by omega)]at hb;simp only[hd,Evid.c,go_sem];clear hd hp hi;refine jal [1,82,83,84] [1] (fun i:Nat=>⟨[(1,.loc 1 8 0 0),(82,.im (.sl (e.purs.map Purity.c))),(83,.im (.int e.purs.length)),(84,.im (.int i))],[(1,8,[e.c])],[]⟩)
      (fun i=>i<=e.purs.length/\(e.purs.take i).all (purF e)=true) (fun i=>e.purs.length-i) 0 ?_ ⟨zE _,rfl⟩ ?_
     ·simp only[Evid.c,Int.natCast_zero,go_sem]
     ·intro i ⟨hi,hc⟩;by_cases hp:(i:Int)<e.purs.length
      ·have hd:decide ((i:Int)<e.purs.length)=true:=za hp;obtain⟨x,hx⟩:=jby hp;have h1:=ja9 (n:=(i:Int)+1) (by omega);have hat:=jc4 (f:=purF e) hx;have hn:purF e x=false->saidF e=false:=fun h=>by simp[saidF,jes hx h]
       simp only[hd,ze,hx,Purity.c,Evid.c,go_sem]
       repeat' (first | (refine jcq (fun hd=> ?_) (fun hd=> ?_)<;>simp only[*,go_sem]) | (refine jc0 (c67 _ _) (by first | decide | assumption) ?_;simp only[*,go_sem]) | (refine jc0 (c68 _ _ _) (by first | decide | assumption) ?_;simp only[*,go_sem]) | (refine ja4 (c67 _ _) (by decide) ?_;simp only[*,go_sem]) | (refine ja4 (c68 _ _ _) (by decide) ?_;simp only[*,go_sem]))
       all_goals first
        | (refine jab (i+1) ?_ ?_ ⟨?_,?_⟩
           ·simp only[h1,Evid.c,Int.natCast_add,go_sem]
           ·omega
           ·omega
           ·rw[hat,hc,qe];clear hn hat hc h1;simp_all[purF]
           done)
        | (rw[hn (by clear hn hat hc h1;simp_all[purF])];done)
      ·have hd:decide ((i:Int)<e.purs.length)=false:=zq hp;rw[zt (by omega)]at hc;simp only[hd,go_sem];simp[saidF,ha,hb,hc]
end
end Go.Proofs.YthahgoopboilkaaGreat
namespace Go.LP
section
structure Rw where
 ts:List (Nat×Rat)
 kind:Int
 val:Rat
def tsum:List (Nat×Rat)->(Nat->Rat)->Rat
 | [],_=>0
 | t::ts,x=>t.2*x t.1+tsum ts x
def cf:List (Nat×Rat)->Nat->Rat
 | [],_=>0
 | t::ts,k=>if k=t.1 then t.2 else cf ts k
def RT:List (Nat×Rat)->Nat->Nat->Prop
 | [],_,_=>True
 | t::ts,lo,N=>lo<=t.1/\t.1<N/\t.2≠0/\RT ts (t.1+1) N
theorem RT.mono:∀{ts:List (Nat×Rat)} {lo lo' N:Nat},RT ts lo N->lo'<=lo->RT ts lo' N
 | [],_,_,_,_,_=>trivial
 | t::ts,lo,lo',N,h,hl=>⟨qn hl h.1,h.2.1,h.2.2.1,h.2.2.2⟩
theorem RT.mem:∀{ts:List (Nat×Rat)} {lo N:Nat},RT ts lo N->∀t∈ts,lo<=t.1/\t.1<N/\t.2≠0
 | t::ts,lo,N,h,u,hu=>by
  rcases zS.1 hu with rfl | hu
  ·exact⟨h.1,h.2.1,h.2.2.1⟩
  ·have h1:=RT.mem h.2.2.2 u hu;have h2:=h.1;exact⟨by omega,h1.2⟩
theorem cf_low:∀{ts:List (Nat×Rat)} {lo N k:Nat},RT ts lo N->k<lo->cf ts k=0
 | [],_,_,_,_,_=>rfl
 | t::ts,lo,N,k,h,hk=>by
  rw[cf,zn (by have:=h.1;omega)];exact cf_low h.2.2.2 (by have:=h.1;omega)
theorem tsum_eq:∀{ts:List (Nat×Rat)} {lo N:Nat} (x:Nat->Rat),RT ts lo N->tsum ts x=S N (fun j=>cf ts j*x j)
 | [],_,N,x,_=>by
  rw[jfj fun j _=> ?_];rfl;simp only[cf];grind
 | t::ts,lo,N,x,h=>by
  rw[tsum,tsum_eq x h.2.2.2,jfp (f:=fun j=>cf (t::ts) j*x j) h.2.1,jfp (f:=fun j=>cf ts j*x j) h.2.1];have e1:cf ts t.1=0:=cf_low h.2.2.2 (by omega);have e2:cf (t::ts) t.1=t.2:=by rw[cf,zm rfl]
  rw[S_congr (f:=fun j=>if j=t.1 then 0 else cf (t::ts) j*x j) (g:=fun j=>if j=t.1 then 0 else cf ts j*x j) fun j _=>by
   by_cases e:j=t.1
   ·simp only[zm e]
   ·simp only[zn e,cf]]
  rw[e1,e2];grind
theorem tsum_congr:∀{ts:List (Nat×Rat)} {x y:Nat->Rat},(∀t∈ts,x t.1=y t.1)->tsum ts x=tsum ts y
 | [],_,_,_=>rfl
 | t::ts,x,y,h=>by rw[tsum,tsum,h t (zN ..),tsum_congr fun u hu=>h u (zQ _ hu)]
theorem tsum_app:∀(ts us:List (Nat×Rat)) (x:Nat->Rat),tsum (ts++us) x=tsum ts x+tsum us x
 | [],us,x=>by simp only[List.nil_append,tsum];grind
 | t::ts,us,x=>by rw[List.cons_append,tsum,tsum_app ts us x,tsum];grind
def Rw.sat(w:Rw)(x:Nat->Rat):Prop:=(w.kind≠1->w.val<=tsum w.ts x)/\(w.kind≠0->tsum w.ts x<=w.val)
structure Rw.Ok(w:Rw)(N:Nat):Prop where
 ts:RT w.ts 0 N
 kind:0<=w.kind/\w.kind<3
structure Sol(N:Nat)(ws:List Rw)(x:Nat->Rat):Prop where
 pos:∀k,k<N->0<=x k
 row:∀w∈ws,w.sat x
def Dic.put(D:Dic)(w:Rw)(t:Bool):Dic:=
 {D with
  m:=D.m+1
  own:=fun i=>if i=D.m then D.n+D.m else D.own i
  v:=fun i=>if i=D.m then(if t=true then-w.val else w.val)else D.v i
  a:=fun i=>if i=D.m then(fun j=>if t=true then-cf w.ts j else cf w.ts j)else D.a i}
def jcd(D:Dic)(src:Nat->Int×Bool)(row:Nat)(t:Bool)(i:Nat):Int×Bool:=if i=D.m then((row:Int),t)else src i
def rowD(p:Dic×(Nat->Int×Bool))(row:Nat)(w:Rw):Dic×(Nat->Int×Bool):=
 let p1:=if w.kind≠0 then(p.1.put w false,jcd p.1 p.2 row false)else p
 if w.kind≠1 then(p1.1.put w true,jcd p1.1 p1.2 row true)else p1
def rowsD(ws:List Rw)(p:Dic×(Nat->Int×Bool)):Nat->Dic×(Nat->Int×Bool)
 | 0=>p
 | i+1=>match ws[i]? with
  | some w=>rowD (rowsD ws p i) i w
  | none=>rowsD ws p i
def dic0(N:Nat):Dic:=⟨0,N,fun _=>0,fun j=>j,fun _=>0,fun _=>0,fun _ _=>0⟩
def src0:Nat->Int×Bool:=fun _=>(0,false)
def jb7(N:Nat)(ws:List Rw):Dic×(Nat->Int×Bool):=rowsD ws (dic0 N,src0) ws.length
def first(N:Nat)(ws:List Rw)(goal:List (Nat×Rat)):Dic:={(jb7 N ws).1 with g:=fun j=> -cf goal j}
structure Mk(N:Nat)(D:Dic)(P:(Nat->Rat)->Prop):Prop where
 n:D.n=N
 own:∀i,i<D.m->D.own i=N+i
 free:∀j,D.free j=j
 sat:∀x,P x↔∀i,i<D.m->S N (fun j=>D.a i j*x j)<=D.v i
theorem Mk.congr{N:Nat}{D:Dic}{P Q:(Nat->Rat)->Prop}(h:Mk N D P)(hq:∀x,Q x↔P x):Mk N D Q:=⟨h.n,h.own,h.free,fun x=>(hq x).trans (h.sat x)⟩
theorem mk0(N:Nat):Mk N (dic0 N) (fun _=>True):=⟨rfl,fun i hi=>absurd hi (yC _),fun _=>rfl,fun x=>⟨fun _ i hi=>absurd hi (yC _),fun _=>trivial⟩⟩
theorem S_negc(f g:Nat->Rat)(n:Nat):S n (fun j=> -f j*g j)= -S n (fun j=>f j*g j):=by
 rw[<-S_neg];exact S_congr fun j _=>by grind
theorem Mk.put{N:Nat}{D:Dic}{P:(Nat->Rat)->Prop}(h:Mk N D P)(w:Rw)(hw:RT w.ts 0 N)(t:Bool):Mk N (D.put w t) (fun x=>P x/\(if t=true then w.val<=tsum w.ts x else tsum w.ts x<=w.val)) where
 n:=h.n
 own i hi:=by
  show(if i=D.m then D.n+D.m else D.own i)=_;by_cases e:i=D.m
  ·rw[zm e,h.n,e]
  ·rw[zn e];exact h.own i (by have:i<D.m+1:=hi;omega)
 free:=h.free
 sat x:=by
  have key:(if t=true then w.val<=tsum w.ts x else tsum w.ts x<=w.val)↔S N (fun j=>(D.put w t).a D.m j*x j)<=(D.put w t).v D.m:=by
   have e1:(D.put w t).a D.m=fun j=>if t=true then-cf w.ts j else cf w.ts j:=zm rfl
   have e2:(D.put w t).v D.m=if t=true then-w.val else w.val:=zm rfl
   rw[e1,e2,tsum_eq x hw];cases t
   ·simp only[qS,qt]
   ·simp only[qC];rw[S_negc];constructor<;>intro h<;>grind
  rw[key,h.sat x];constructor
  ·rintro⟨h1,h2⟩ i hi;by_cases e:i=D.m
   ·subst e;exact h2
   ·have e1:(D.put w t).a i=D.a i:=zn e;have e2:(D.put w t).v i=D.v i:=zn e;rw[e1,e2];exact h1 i (by have:i<D.m+1:=hi;omega)
  ·intro h1;refine⟨fun i hi=> ?_,h1 D.m (qE _)⟩;have e1:(D.put w t).a i=D.a i:=zn (by omega);have e2:(D.put w t).v i=D.v i:=zn (by omega);have:=h1 i (Nat.lt_succ_of_lt hi)
   rwa [e1,e2]at this
theorem mk_row{N:Nat}{p:Dic×(Nat->Int×Bool)}{P:(Nat->Rat)->Prop}(h:Mk N p.1 P)(row:Nat)(w:Rw)(hw:RT w.ts 0 N):Mk N (rowD p row w).1 (fun x=>P x/\w.sat x):=by
 unfold rowD Rw.sat;dsimp only;by_cases h0:w.kind=0
 ·have h1:w.kind≠1:=by omega
  rw[zn (show ¬(w.kind≠0)from fun h=>h h0),zm h1];refine(h.put w hw true).congr fun x=> ?_;rw[zm rfl];constructor
  ·rintro⟨a,b,c⟩;exact⟨a,b h1⟩
  ·rintro⟨a,b⟩;exact⟨a,fun _=>b,fun h=>absurd h0 h⟩
 ·rw[zm h0];by_cases h1:w.kind=1
  ·rw[zn (show ¬(w.kind≠1)from fun h=>h h1)];refine(h.put w hw false).congr fun x=> ?_;rw[zn (by decide)];constructor
   ·rintro⟨a,b,c⟩;exact⟨a,c h0⟩
   ·rintro⟨a,b⟩;exact⟨a,fun h=>absurd h1 h,fun _=>b⟩
  ·rw[zm h1];refine((h.put w hw false).put w hw true).congr fun x=> ?_;rw[zn (by decide),zm rfl];constructor
   ·rintro⟨a,b,c⟩;exact⟨⟨a,c h0⟩,b h1⟩
   ·rintro⟨⟨a,b⟩,c⟩;exact⟨a,fun _=>c,fun _=>b⟩
theorem mk_rows{N:Nat}{ws:List Rw}(hw:∀w∈ws,w.Ok N):∀i,i<=ws.length->Mk N (rowsD ws (dic0 N,src0) i).1 (fun x=>∀w∈ws.take i,w.sat x)
 | 0,_=>(mk0 N).congr fun x=>⟨fun _=>trivial,fun _ w hw=>by rw[List.take_zero]at hw;cases hw⟩
 | i+1,hi=>by
  have hlt:i<ws.length:=hi;have hg:ws[i]? =some ws[i]:=zh hlt;rw[rowsD,hg];refine(mk_row (mk_rows hw i (by omega)) i ws[i] (hw _ (jn hlt)).ts).congr fun x=> ?_;rw[yJ,hg];simp only[Option.toList_some,qu,zF];constructor
  ·intro h;exact⟨fun w hw=>h w (.inl hw),h _ (.inr rfl)⟩
  ·rintro⟨h1,h2⟩ w (hw | rfl)
   ·exact h1 w hw
   ·exact h2
section
variable{N:Nat}{ws:List Rw}{goal:List (Nat×Rat)}{E:Dic}
theorem mk_first(hw:∀w∈ws,w.Ok N):Mk N (first N ws goal) (fun x=>∀w∈ws,w.sat x):=by
 have h:=mk_rows hw ws.length (zB _);rw[yj]at h;exact⟨h.n,h.own,h.free,h.sat⟩
theorem Mk.ok{D:Dic}{P:(Nat->Rat)->Prop}(h:Mk N D P):D.Ok where
 own i i' hi hi' e:=by rw[h.own i hi,h.own i' hi']at e;omega
 free j j' hj hj' e:=by rw[h.free,h.free]at e;exact e
 apart i j hi hj:=by rw[h.own i hi,h.free];have:=h.n;omega
def ext(D:Dic)(N:Nat)(x:Nat->Rat)(k:Nat):Rat:=if k<N then x k else D.v (k-N)-S N (fun j=>D.a (k-N) j*x j)
theorem ext_low{D:Dic}{x:Nat->Rat}{k:Nat}(h:k<N):ext D N x k=x k:=zm h
theorem Mk.ext_sat{D:Dic}{P:(Nat->Rat)->Prop}(h:Mk N D P)(x:Nat->Rat):D.Sat (ext D N x):=fun i hi=>by
 unfold Dic.row;rw[h.own i hi,h.n,S_congr (f:=fun j=>D.a i j*ext D N x (D.free j)) (g:=fun j=>D.a i j*x j) fun j hj=>by rw[h.free,ext_low hj]];unfold ext;rw[zn (by omega),show N+i-N=i by omega];grind
theorem Mk.sat_iff{D:Dic}{P:(Nat->Rat)->Prop}(h:Mk N D P){y:Nat->Rat}(hy:D.Sat y)(hp:∀k,0<=y k):P y:=(h.sat y).2 fun i hi=>by
 have h1:=hy i hi;unfold Dic.row at h1;rw[h.own i hi,h.n,S_congr (f:=fun j=>D.a i j*y (D.free j)) (g:=fun j=>D.a i j*y j) fun j hj=>by rw[h.free]]at h1;have:=hp (N+i);grind
theorem Mk.ext_nonneg{D:Dic}{P:(Nat->Rat)->Prop}(h:Mk N D P){x:Nat->Rat}(hx:P x)(hp:∀k,k<N->0<=x k):∀k,k<N+D.m->0<=ext D N x k:=fun k hk=>by
 by_cases e:k<N
 ·rw[ext_low e];exact hp k e
 ·unfold ext;rw[zn e];have:=(h.sat x).1 hx (k-N) (by omega);grind
theorem own_lt{D:Dic}{P:(Nat->Rat)->Prop}(h:Mk N D P)(k:Nat):(Own D k\/Free D k)↔k<N+D.m:=by
 constructor
 ·rintro(⟨i,hi,rfl⟩ | ⟨j,hj,rfl⟩)
  ·rw[h.own i hi];omega
  ·rw[h.free,<-h.n];omega
 ·intro hk;by_cases e:k<N
  ·exact .inr ⟨k,by rw[h.n];exact e,h.free k⟩
  ·exact .inl ⟨k-N,by omega,by rw[h.own _ (by omega)];omega⟩
theorem first_lin(hw:∀w∈ws,w.Ok N)(hg:RT goal 0 N)(y:Nat->Rat):(first N ws goal).lin y= -tsum goal y:=by
 have h:=mk_first (goal:=goal) hw;unfold Dic.lin;rw[h.n,tsum_eq y hg,S_congr (f:=fun j=>(first N ws goal).g j*y ((first N ws goal).free j)) (g:=fun j=> -cf goal j*y j) fun j hj=>by rw[h.free];rfl,S_negc]
theorem pt_nn(hE:E.Ok)(hv:∀i,i<E.m->0<=E.v i)(k:Nat):0<=E.pt k:=jgr hE (K:=k+1) (fun i hi _=>hv i hi) (qE _)
theorem final_best(hw:∀w∈ws,w.Ok N)(hg:RT goal 0 N)(hE:E.Ok)(hq:Eqv (first N ws goal) E)(hv:SameV (first N ws goal) E)(h1:∀i,i<E.m->0<=E.v i)(h2:∀j,j<E.n->E.g j<=0):
  Sol N ws E.pt/\∀x,Sol N ws x->tsum goal E.pt<=tsum goal x:=by
 have h:=mk_first (goal:=goal) hw;have hp:=pt_nn hE h1;have hs:(first N ws goal).Sat E.pt:=(hq.sat _).2 (pt_sat hE);refine⟨⟨fun k _=>hp k,h.sat_iff hs hp⟩,fun x hx=> ?_⟩;have hy:=h.ext_sat x;have hn:=h.ext_nonneg hx.row hx.pos;obtain⟨c,hc⟩:=hq.lin;have e1:=hc _ hy;have e2:=hc _ hs;rw[first_lin hw hg]at e1 e2;rw[pt_lin hE]at e2;have e3:tsum goal (ext (first N ws goal) N x)=tsum goal x:=tsum_congr fun t ht=>ext_low (hg.mem t ht).2.1;have e4:E.lin (ext (first N ws goal) N x)<=0:=by
  have:0<=S E.n (fun j=> -(E.g j*ext (first N ws goal) N x (E.free j))):=je1 fun j hj=>by
   have a1:=h2 j hj;have a2:0<=ext (first N ws goal) N x (E.free j):=hn _ ((own_lt h _).1 ((hv _).2 (.inr ⟨j,hj,rfl⟩)));exact jro a1 a2
  rw[S_neg]at this;unfold Dic.lin;grind
 rw[e3]at e1;grind
theorem final_none(hw:∀w∈ws,w.Ok N)(hq:Eqv (first N ws goal) E)(hv:SameV (first N ws goal) E){r:Nat}(hr:r<E.m)(h1:E.v r<0)(h2:∀j,j<E.n->0<=E.a r j):∀x,¬Sol N ws x:=fun x hx=>by
 have h:=mk_first (goal:=goal) hw;have hy:=(hq.sat _).1 (h.ext_sat x) r hr;have hn:=h.ext_nonneg hx.row hx.pos;unfold Dic.row at hy;have a1:0<=ext (first N ws goal) N x (E.own r):=hn _ ((own_lt h _).1 ((hv _).2 (.inl ⟨r,hr,rfl⟩)));have a2:0<=S E.n (fun j=>E.a r j*ext (first N ws goal) N x (E.free j)):=je1 fun j hj=>qG (h2 j hj) (hn _ ((own_lt h _).1 ((hv _).2 (.inr ⟨j,hj,rfl⟩))));grind
theorem final_free(hw:∀w∈ws,w.Ok N)(hg:RT goal 0 N)(hE:E.Ok)(hq:Eqv (first N ws goal) E)(hv:SameV (first N ws goal) E){s:Nat}(hs:s<E.n)(h1:0<E.g s)(h2:∀i,i<E.m->E.a i s<=0){x:Nat->Rat}(hx:Sol N ws x):
  ∀c:Rat,∃y,Sol N ws y/\tsum goal y<c:=fun c=>by
 have h:=mk_first (goal:=goal) hw;have hy:=h.ext_sat x;have hn:=h.ext_nonneg hx.row hx.pos;have hd:∀k,0<=E.dir s k:=fun k=>dir_nonneg hE (K:=k+1) hs (fun i hi _=>h2 i hi) (qE _);obtain⟨c0,hc⟩:=hq.lin;have key:∀t:Rat,0<=t->Sol N ws (fun k=>ext (first N ws goal) N x k+t*E.dir s k)/\tsum goal (fun k=>ext (first N ws goal) N x k+t*E.dir s k)=tsum goal x-t*E.g s:=fun t ht=>by
  have e0:E.Sat (fun k=>ext (first N ws goal) N x k+t*E.dir s k):=dir_sat hE hs ((hq.sat _).1 hy) t;have e1:=(hq.sat _).2 e0;refine⟨⟨fun k hk=> ?_,?_⟩,?_⟩
  ·have a1:=hn k (by omega);have a2:=qG ht (hd k);show 0<=ext (first N ws goal) N x k+t*E.dir s k;grind
  ·refine(h.sat _).2 fun i hi=> ?_;have b1:=e1 i hi;unfold Dic.row at b1;rw[h.own i hi,h.n]at b1;rw[S_congr (f:=fun j=>(first N ws goal).a i j*(fun k=>ext (first N ws goal) N x k+t*E.dir s k) ((first N ws goal).free j)) (g:=fun j=>(first N ws goal).a i j*(fun k=>ext (first N ws goal) N x k+t*E.dir s k) j) fun j hj=>by rw[h.free]]at b1;have a1:=hn (N+i) (by omega);have a2:=qG ht (hd (N+i));dsimp only at b1⊢;grind
  ·have c1:=hc _ e1;have c2:=hc _ hy;rw[first_lin hw hg]at c1 c2;rw[lin_add,dir_lin hE hs]at c1;have e3:tsum goal (ext (first N ws goal) N x)=tsum goal x:=tsum_congr fun t ht=>ext_low (hg.mem t ht).2.1;rw[e3]at c2;grind
 by_cases hlt:tsum goal x<c
 ·exact⟨x,hx,hlt⟩
 ·have hgi:E.g s*(E.g s)⁻¹=1:=vm _ (by grind);have hi:0<=(E.g s)⁻¹:=Rat.le_of_lt (Rat.inv_pos.2 h1);have ht:0<=(tsum goal x-c+1)*(E.g s)⁻¹:=qG (by grind) hi;obtain⟨k1,k2⟩:=key _ ht;refine⟨_,k1,?_⟩;rw[k2];have:(tsum goal x-c+1)*(E.g s)⁻¹*E.g s=tsum goal x-c+1:=by
   rw[Rat.mul_assoc,Rat.mul_comm _ (E.g s),hgi];grind
  rw[this];grind
theorem final_nil(hw:∀w∈ws,w.Ok N)(hE:E.Ok)(hq:Eqv (first N ws []) E){s:Nat}(hs:s<E.n):E.g s=0:=by
 obtain⟨c,hc⟩:=hq.lin;have e1:=hc _ ((hq.sat _).2 (pt_sat hE));have e2:=hc _ ((hq.sat _).2 (dir_sat hE hs (pt_sat hE) 1));have hr:RT [] 0 N:=trivial;rw[first_lin hw hr]at e1 e2;rw[lin_add,dir_lin hE hs]at e2;simp only[tsum]at e1 e2;grind
end
end
section
theorem Ov_neg{B q:Nat}{x:Rat}(h:Ov B q x):Ov B q (-x):=by
 obtain⟨z,h1,h2⟩:=h;exact⟨-z,by rw[Rat.intCast_neg,<-h1];grind,by rw[yu];exact h2⟩
structure OvRw(B q:Nat)(w:Rw):Prop where
 val:Ov B q w.val
 ts:∀t∈w.ts,Ov B q t.2
theorem Ov_cf{B q:Nat}:∀{ts:List (Nat×Rat)},(∀t∈ts,Ov B q t.2)->∀k,Ov B q (cf ts k)
 | [],_,k=>Ov_zero
 | t::ts,h,k=>by
  rw[cf];split
  ·exact h t (zN ..)
  ·exact Ov_cf (fun u hu=>h u (zQ _ hu)) k
def OvD(B q:Nat)(D:Dic):Prop:=∀i,i<D.m->Ov B q (D.v i)/\∀j,Ov B q (D.a i j)
theorem OvD.put{B q:Nat}{D:Dic}(h:OvD B q D){w:Rw}(hw:OvRw B q w)(t:Bool):OvD B q (D.put w t):=fun i hi=>by
 by_cases e:i=D.m
 ·have e1:(D.put w t).a i=fun j=>if t=true then-cf w.ts j else cf w.ts j:=zm e
  have e2:(D.put w t).v i=if t=true then-w.val else w.val:=zm e
  rw[e1,e2];cases t
  ·exact⟨hw.val,fun j=>Ov_cf hw.ts j⟩
  ·exact⟨Ov_neg hw.val,fun j=>Ov_neg (Ov_cf hw.ts j)⟩
 ·have e1:(D.put w t).a i=D.a i:=zn e;have e2:(D.put w t).v i=D.v i:=zn e;rw[e1,e2];exact h i (by have:i<D.m+1:=hi;omega)
theorem OvD.rowD{B q:Nat}{p:Dic×(Nat->Int×Bool)}(h:OvD B q p.1){w:Rw}(hw:OvRw B q w)(row:Nat):OvD B q (rowD p row w).1:=by
 unfold Go.LP.rowD;dsimp only;by_cases h0:w.kind≠0
 ·rw[zm h0];by_cases h1:w.kind≠1
  ·rw[zm h1];exact(h.put hw false).put hw true
  ·rw[zn h1];exact h.put hw false
 ·rw[zn h0];by_cases h1:w.kind≠1
  ·rw[zm h1];exact h.put hw true
  ·rw[zn h1];exact h
theorem OvD.rows{B q:Nat}{N:Nat}{ws:List Rw}(hw:∀w∈ws,OvRw B q w):∀i,OvD B q (rowsD ws (dic0 N,src0) i).1
 | 0=>fun i hi=>absurd hi (yC _)
 | i+1=>by
  rw[rowsD];split
  ·rename_i w hg;exact(OvD.rows hw i).rowD (hw w (zk hg)) i
  ·exact OvD.rows hw i
theorem small_first{B q N:Nat}{ws:List Rw}{goal:List (Nat×Rat)}(q0:0<q)(hq:q<=B)(hw:∀w∈ws,OvRw B q w)(hg:∀t∈goal,Ov B q t.2):Small B q (first N ws goal) where
 q0:=q0
 qB:=hq
 v i hi:=(OvD.rows hw ws.length i hi).1
 g j _:=Ov_neg (Ov_cf hg j)
 a i j hi _:=(OvD.rows hw ws.length i hi).2 j
structure Src(p:Dic×(Nat->Int×Bool))(R:Nat):Prop where
 row:∀i,i<p.1.m->0<=(p.2 i).1/\(p.2 i).1<(R:Int)
theorem Src.put{p:Dic×(Nat->Int×Bool)}{R:Nat}(h:Src p R)(w:Rw)(row:Nat)(t:Bool)(hr:row<R):Src (p.1.put w t,jcd p.1 p.2 row t) R where
 row i hi:=by
  dsimp only[jcd];by_cases e:i=p.1.m
  ·rw[zm e];dsimp only;omega
  ·rw[zn e];exact h.row i (by have:i<p.1.m+1:=hi;omega)
theorem Src.mono{p:Dic×(Nat->Int×Bool)}{R R':Nat}(h:Src p R)(hR:R<=R'):Src p R':=⟨fun i hi=>by have:=h.row i hi;omega⟩
theorem Src.rowD{p:Dic×(Nat->Int×Bool)}{R:Nat}(h:Src p R)(w:Rw)(row:Nat)(hr:row<R):Src (rowD p row w) R:=by
 unfold Go.LP.rowD;dsimp only;by_cases h0:w.kind≠0
 ·rw[zm h0];by_cases h1:w.kind≠1
  ·rw[zm h1];exact(h.put w row false hr).put w row true hr
  ·rw[zn h1];exact h.put w row false hr
 ·rw[zn h0];by_cases h1:w.kind≠1
  ·rw[zm h1];exact h.put w row true hr
  ·rw[zn h1];exact h
theorem Src.rows{N:Nat}{ws:List Rw}:∀i,Src (rowsD ws (dic0 N,src0) i) i
 | 0=>⟨fun i hi=>absurd hi (yC _)⟩
 | i+1=>by
  rw[rowsD];split
  ·exact((Src.rows i).mono (by omega)).rowD _ i (by omega)
  ·exact(Src.rows i).mono (by omega)
theorem m_row(p:Dic×(Nat->Int×Bool))(row:Nat)(w:Rw):(rowD p row w).1.m<=p.1.m+2:=by
 unfold rowD;dsimp only;by_cases h0:w.kind≠0
 ·rw[zm h0];by_cases h1:w.kind≠1
  ·rw[zm h1];exact zB _
  ·rw[zn h1];exact Nat.le_succ _
 ·rw[zn h0];by_cases h1:w.kind≠1
  ·rw[zm h1];exact Nat.le_succ _
  ·rw[zn h1];exact Nat.le_add_right _ _
theorem m_rows{ws:List Rw}{p:Dic×(Nat->Int×Bool)}:∀i,(rowsD ws p i).1.m<=p.1.m+2*i
 | 0=>zB _
 | i+1=>by
  have ih:=m_rows (ws:=ws) (p:=p) i;rw[rowsD];split
  ·have:=m_row (rowsD ws p i) i;exact qn (this _) (by omega)
  ·omega
section
variable{N:Nat}{ws ws':List Rw}{g:List (Nat×Rat)}{v u:Rat}
structure IsMin(N:Nat)(ws:List Rw)(g:List (Nat×Rat))(v:Rat):Prop where
 at':∃x,Sol N ws x/\tsum g x=v
 le:∀x,Sol N ws x->v<=tsum g x
def NoMin(N:Nat)(ws:List Rw)(g:List (Nat×Rat)):Prop:=(∃x,Sol N ws x)/\∀c:Rat,∃x,Sol N ws x/\tsum g x<c
theorem tsum_nonneg:∀{ts:List (Nat×Rat)} {lo N:Nat} {x:Nat->Rat},RT ts lo N->(∀t∈ts,0<=t.2)->(∀k,k<N->0<=x k)->0<=tsum ts x
 | [],_,_,_,_,_,_=>by simp only[tsum];grind
 | t::ts,lo,N,x,h,hc,hx=>by
  rw[tsum];have h1:=qG (hc t (zN ..)) (hx t.1 h.2.1);have h2:=tsum_nonneg h.2.2.2 (fun u hu=>hc u (zQ _ hu)) hx;grind
end
end
end Go.LP
namespace Go.Proofs.YthahgoopboilkaaGreat
section
open Go.Abs
open Go.LP (Rw RT tsum)
attribute [local go_sem] ints ic big frac fc
def tmC(t:Nat×Rat):List IV:= .int (t.1:Int)::fc t.2
attribute [local go_sem] tmC
def rwC(w:Rw):List IV:=[.sl (w.ts.map tmC),.int w.kind]++fc w.val
attribute [local go_sem] rwC
theorem tget{ts:List (Nat×Rat)}{i:Nat}{t:Nat×Rat}(h:ts[i]? =some t):(ts.map tmC)[i]? =some (.int (t.1:Int)::fc t.2):=by rw[ze,h];rfl
def lastF(ts:List (Nat×Rat)):Nat->Int
 | 0=> -1
 | i+1=>match ts[i]? with
  | some t=>(t.1:Int)
  | none=> -1
theorem jj8{ts:List (Nat×Rat)}{i:Nat}{t:Nat×Rat}(h:ts[i]? =some t):lastF ts (i+1)=(t.1:Int):=by rw[lastF,h]
theorem RT_at{ts:List (Nat×Rat)}{N:Nat}(h:RT ts 0 N):∀{i:Nat},i<=ts.length->∃lo:Nat,RT (ts.drop i) lo N/\lastF ts i<lo
 | 0,_=>⟨0,h,by show(-1:Int)<0;omega⟩
 | i+1,hi=>by
  obtain⟨lo,h1,h2⟩:=RT_at h (i:=i) (by omega);have hg:ts[i]? =some ts[i]:=zh (by omega);rw[yM (by omega)]at h1;refine⟨ts[i].1+1,h1.2.2.2,?_⟩;rw[jj8 hg];omega
theorem jm1{ts:List (Nat×Rat)}{N:Nat}(h:RT ts 0 N){i:Nat}{t:Nat×Rat}(ht:ts[i]? =some t):lastF ts i<t.1/\t.1<N/\t.2≠0:=by
 obtain⟨hi,rfl⟩:=zu.1 ht;obtain⟨lo,h1,h2⟩:=RT_at h (Nat.le_of_lt hi);rw[yM hi]at h1;have:=h1.1;exact⟨by omega,h1.2.1,h1.2.2.1⟩
def tsumU(ts:List (Nat×Rat))(x:Nat->Rat):Nat->Rat
 | 0=>((0:Int):Rat)
 | i+1=>match ts[i]? with
  | some t=>tsumU ts x i+t.2*x t.1
  | none=>tsumU ts x i
theorem jmb{ts:List (Nat×Rat)}{x:Nat->Rat}{i:Nat}{t:Nat×Rat}(h:ts[i]? =some t):tsumU ts x (i+1)=tsumU ts x i+t.2*x t.1:=by rw[tsumU,h]
theorem jma(x:Nat->Rat)(ts:List (Nat×Rat)):∀i,i<=ts.length->tsumU ts x i=tsum (ts.take i) x
 | 0,_=>by rw[List.take_zero];rfl
 | i+1,hi=>by
  have hg:ts[i]? =some ts[i]:=zh (by omega);rw[jmb hg,jma x ts i (by omega),yJ,hg];rw[show(some ts[i]).toList=[ts[i]]from rfl,LP.tsum_app,tsum,tsum];grind
theorem joq(x:Nat->Rat)(ts:List (Nat×Rat)):tsumU ts x ts.length=tsum ts x:=by rw[jma x ts _ (zB _),yj]
theorem joh{ts:List (Nat×Rat)}{x:Nat->Rat}{a b:Nat}(ht:∀t∈ts,FL a t.2)(hx:∀t∈ts,FL b (x t.1)):∀i,FL (4+i*(a+b+1)) (tsumU ts x i)
 | 0=>(jb3 (n:=0) (by omega)).mono (by omega)
 | i+1=>by
  have ih:=joh ht hx i;rw[tsumU];split
  ·rename_i t hg;have hm:=zk hg;refine(jfc ih (jh4 (ht t hm) (hx t hm))).mono ?_;rw[yB];omega
  ·exact ih.mono (by rw[yB];omega)
theorem x_rt(ts:List (Nat×Rat))(N:Nat)(h:RT ts 0 N)(hl:ts.length<=100000)(hN:N<=100000)(hf:∀t∈ts,FL 100000000 t.2):
  Ctr G.P 127 [.sl (ts.map tmC),.int N] (· = .bool true):=by
 have hN0:decide ((N:Int)<0)=false:=zq (by omega);refine ja5 [.tmp 4] Tryz.func127 ?_;simp only[hN0,go_sem];refine jal [1,5,10,11,12] [] (fun i:Nat=>⟨[(1,.im (.int N)),(5,.im (.int (lastF ts i))),(10,.im (.sl (ts.map tmC))),(11,.im (.int ts.length)),(12,.im (.int i))],[],[]⟩)
  (fun i=>i<=ts.length) (fun i=>ts.length-i) 0 ?_ (zE _) ?_
 ·simp only[lastF,Int.natCast_zero,go_sem]
 ·intro i hi;by_cases hp:(i:Int)<ts.length
  ·have hd:decide ((i:Int)<ts.length)=true:=za hp;obtain⟨t,ht⟩:=jby hp;have h1:=ja9 (n:=(i:Int)+1) (by omega);obtain⟨g1,g2,g3⟩:=jm1 h ht;have d1:decide ((t.1:Int)<=lastF ts i)=false:=zq (by omega);have d2:decide ((N:Int)<=t.1)=false:=zq (by omega);have hs:=jgl ((hf t (zk ht)).mono (by omega:100000000<=19000000000));have hq:decide (t.2.num.sign=0)=false:=zq (fun e=>g3 (sign_zero.1 e));have hg:=tget ht;simp only[frac,ints,fc]at hs hg;simp only[hd,hg,d1,d2,go_sem];refine ja1 hs ?_;simp only[hd,hg,d1,d2,hq,go_sem];refine jab (i+1) ?_ (by omega) (by omega);rw[jj8 ht];simp only[h1,Int.natCast_add,go_sem]
  ·have hd:decide ((i:Int)<ts.length)=false:=zq hp;simp only[hd,go_sem]
theorem x_right(ws:List Rw)(N:Nat)(h:∀w∈ws,w.Ok N)(hl:ws.length<=6000)(hN:N<=1500)(ht:∀w∈ws,w.ts.length<=100000/\FL 100000000 w.val/\∀t∈w.ts,FL 100000000 t.2):
  Ctr G.P 126 [.agg [.int N,.sl (ws.map rwC)]] (· = .bool true):=by
 have hN0:decide ((N:Int)<0)=false:=zq (by omega);have hN1:decide ((1500:Int)<N)=false:=zq (by omega);have hl1:decide ((6000:Int)<ws.length)=false:=zq (by omega);refine ja5 [.tmp 2] Tryz.func126 ?_;simp only[hN0,hN1,hl1,zw,go_sem];refine jal [1,20,21,22] [1] (fun i:Nat=>⟨[(1,.loc 1 2 0 0),(20,.im (.sl (ws.map rwC))),(21,.im (.int ws.length)),(22,.im (.int i))],[(1,2,[[.int N,.sl (ws.map rwC)]])],[]⟩)
  (fun i=>i<=ws.length) (fun i=>ws.length-i) 0 ?_ (zE _) ?_
 ·simp only[Int.natCast_zero,go_sem]
 ·intro i hi;by_cases hp:(i:Int)<ws.length
  ·have hd:decide ((i:Int)<ws.length)=true:=za hp;obtain⟨w,hw⟩:=jby hp;have hm:=zk hw;have h1:=ja9 (n:=(i:Int)+1) (by omega);obtain⟨k1,k2,k3⟩:=h w hm;obtain⟨l1,l2,l3⟩:=ht w hm;have c1:=x_rt w.ts N k1 l1 (by omega) l3;have c2:=jqm (l2.mono (by omega:100000000<=19000000000));have d1:decide (w.kind<0)=false:=zq (by omega);have d2:decide (3<=w.kind)=false:=zq (by omega);have hg:(ws.map rwC)[i]? =some (rwC w):=by rw[ze,hw];rfl
   simp only[rwC,fc,List.cons_append,List.nil_append]at hg;simp only[frac,ints]at c2;simp only[hd,hg,go_sem];refine ja1 c1 ?_;simp only[hd,hg,d1,d2,go_sem];refine ja1 c2 ?_;simp only[hd,hg,d1,d2,go_sem];refine jab (i+1) ?_ (by omega) (by omega);simp only[h1,Int.natCast_add,go_sem]
  ·have hd:decide ((i:Int)<ws.length)=false:=zq hp;simp only[hd,go_sem]
end
end Go.Proofs.YthahgoopboilkaaGreat
namespace Go.LP
section
def cfU(ts:List (Nat×Rat)):Nat->Nat->Rat
 | 0,_=>0
 | i+1,k=>match ts[i]? with
  | some t=>if k=t.1 then t.2 else cfU ts i k
  | none=>cfU ts i k
def ngU(ts:List (Nat×Rat))(f:Nat->Rat):Nat->Nat->Rat
 | 0,k=>f k
 | i+1,k=>match ts[i]? with
  | some t=>if k=t.1 then-t.2 else ngU ts f i k
  | none=>ngU ts f i k
theorem cfU_succ{ts:List (Nat×Rat)}{i k:Nat}{t:Nat×Rat}(h:ts[i]? =some t):cfU ts (i+1) k=if k=t.1 then t.2 else cfU ts i k:=by rw[cfU,h]
theorem ngU_succ{ts:List (Nat×Rat)}{f:Nat->Rat}{i k:Nat}{t:Nat×Rat}(h:ts[i]? =some t):ngU ts f (i+1) k=if k=t.1 then-t.2 else ngU ts f i k:=by rw[ngU,h]
theorem cf_snoc{t:Nat×Rat}{k:Nat}:∀{ts:List (Nat×Rat)},(∀u∈ts,u.1≠t.1)->cf (ts++[t]) k=if k=t.1 then t.2 else cf ts k
 | [],_=>by simp only[List.nil_append,cf]
 | u::ts,h=>by
  rw[List.cons_append,cf,cf,cf_snoc fun v hv=>h v (zQ _ hv)];have:=h u (zN ..);by_cases e:k=u.1
  ·subst e;rw[zm rfl,zn this,zm rfl]
  ·rw[zn e,zn e]
theorem RT.fresh:∀{ts:List (Nat×Rat)} {lo N i:Nat} {t:Nat×Rat},RT ts lo N->ts[i]? =some t->∀u∈ts.take i,u.1≠t.1
 | [],_,_,_,_,_,h,_,_=>by simp at h
 | v::ts,lo,N,0,t,h,ht,u,hu=>by rw[List.take_zero]at hu;cases hu
 | v::ts,lo,N,i+1,t,h,ht,u,hu=>by
  rw[List.getElem?_cons_succ]at ht;rw[List.take_succ_cons]at hu;rcases zS.1 hu with rfl | hu
  ·have:=RT.mem h.2.2.2 t (zk ht);omega
  ·exact RT.fresh h.2.2.2 ht u hu
theorem cfU_take{ts:List (Nat×Rat)}{lo N k:Nat}(h:RT ts lo N):∀i,i<=ts.length->cfU ts i k=cf (ts.take i) k
 | 0,_=>by rw[List.take_zero];rfl
 | i+1,hi=>by
  have hg:ts[i]? =some ts[i]:=zh (by omega);rw[cfU_succ hg,yJ,hg,show(some ts[i]).toList=[ts[i]]from rfl,cf_snoc (h.fresh hg),cfU_take h i (by omega)]
theorem cfU_all{ts:List (Nat×Rat)}{lo N k:Nat}(h:RT ts lo N):cfU ts ts.length k=cf ts k:=by rw[cfU_take h _ (zB _),yj]
theorem cf_get:∀{ts:List (Nat×Rat)} {lo N i:Nat} {t:Nat×Rat},RT ts lo N->ts[i]? =some t->cf ts t.1=t.2
 | [],_,_,_,_,_,h=>by simp at h
 | v::ts,lo,N,0,t,h,ht=>by
  rw[List.getElem?_cons_zero]at ht;cases ht;rw[cf,zm rfl]
 | v::ts,lo,N,i+1,t,h,ht=>by
  rw[List.getElem?_cons_succ]at ht;have:=RT.mem h.2.2.2 t (zk ht);rw[cf,zn (by omega)];exact cf_get h.2.2.2 ht
theorem ngU_eq{ts:List (Nat×Rat)}{lo N k:Nat}(h:RT ts lo N){f:Nat->Rat}(hf:∀(i:Nat) (t:Nat×Rat),ts[i]? =some t->f t.1=t.2):∀i,i<=ts.length->ngU ts f i k=f k-2*cfU ts i k
 | 0,_=>by simp only[ngU,cfU];grind
 | i+1,hi=>by
  have hg:ts[i]? =some ts[i]:=zh (by omega);rw[ngU_succ hg,cfU_succ hg,ngU_eq h hf i (by omega)];by_cases e:k=ts[i].1
  ·rw[zm e,zm e,e,hf i _ hg];grind
  ·rw[zn e,zn e]
theorem ngU_zero{ts:List (Nat×Rat)}{lo N k:Nat}(h:RT ts lo N):∀i,i<=ts.length->ngU ts (fun _=>0) i k= -cfU ts i k
 | 0,_=>by simp only[ngU,cfU];grind
 | i+1,hi=>by
  have hg:ts[i]? =some ts[i]:=zh (by omega);rw[ngU_succ hg,cfU_succ hg,ngU_zero h i (by omega)];by_cases e:k=ts[i].1
  ·rw[zm e,zm e]
  ·rw[zn e,zn e]
end
end Go.LP
namespace Go.Proofs.YthahgoopboilkaaGreat
section
open Go.Abs
open Go.LP (Dic Rw RT cf cfU ngU jcd)
attribute [local go_sem] ints ic big frac fc rwC tmC lineC
structure OAp(nm:DN)(m:Nat):Prop where
 dr:nm.d≠nm.r
 d_o:nm.d≠nm.o
 ds:nm.d≠nm.s
 rg:nm.r≠nm.g
 ro:nm.r≠nm.o
 rs:nm.r≠nm.s
 go:nm.g≠nm.o
 gs:nm.g≠nm.s
 os:nm.o≠nm.s
 da:∀i,i<m->nm.d≠nm.a i
 ra:∀i,i<m->nm.r≠nm.a i
 ga:∀i,i<m->nm.g≠nm.a i
 oa:∀i,i<m->nm.o≠nm.a i
 sa:∀i,i<m->nm.s≠nm.a i
 aa:∀i j,i<m->j<m->nm.a i=nm.a j->i=j
structure HasO(L:Abs.Rows)(nm:DN)(D:Dic)(src:Nat->Int×Bool):Prop where
 blk:blks L
 dg:nm.d≠nm.g
 ap:D.m≠0->OAp nm D.m
 hd:Abs.look L (hp nm.d)=some (6,[[.int D.n,sl0 nm.r 250 5 D.m,.ref nm.g 35 4 D.n,sl0 nm.o 3 1 D.m,.emp,sl0 nm.s 272 2 D.m]])
 hg:Abs.look L (hp nm.g)=some (4,tab D.n fun j=>qc (D.g j))
 hr:D.m≠0->Abs.look L (hp nm.r)=some (5,tab D.m fun i=>lineC (D.v i) (nm.a i) D.n)
 ho:D.m≠0->Abs.look L (hp nm.o)=some (1,tab D.m fun i=>oc (D.own i))
 hs:D.m≠0->Abs.look L (hp nm.s)=some (2,tab D.m fun i=>srcC (src i))
 ha:∀i,i<D.m->Abs.look L (hp (nm.a i))=some (4,tab D.n fun j=>qc (D.a i j))
structure Kept(L L':Abs.Rows)(nm:DN)(m X1 X2 X3 A:Nat):Prop where
 keep:∀k x,Abs.look L (hp k)=some x->k≠nm.d->(m≠0->k≠nm.o/\k≠nm.r/\k≠nm.s)->Abs.look L' (hp k)=some x/\k≠X1/\k≠X2/\k≠X3/\k≠A
theorem HasO.step{L L':Abs.Rows}{nm:DN}{D:Dic}{src:Nat->Int×Bool}(h:HasO L nm D src){w:Rw}{row:Nat}{turned:Bool}{X1 X2 X3 A:Nat}{f:Nat->Rat}{v:Rat}(bL:blks L')
  (h1:Abs.look L' (hp nm.d)=some (6,[[.int D.n,.ref X2 250 5 (D.m+1),.ref nm.g 35 4 D.n,.ref X1 3 1 (D.m+1),.emp,.ref X3 272 2 (D.m+1)]]))
  (h2:Abs.look L' (hp X1)=some (1,(tab D.m fun i=>oc (D.own i))++[oc (D.n+D.m)]))
  (h3:Abs.look L' (hp X2)=some (5,(tab D.m fun i=>lineC (D.v i) (nm.a i) D.n)++[lineC v A D.n]))
  (h4:Abs.look L' (hp X3)=some (2,(tab D.m fun i=>srcC (src i))++[srcC (row,turned)]))
  (h5:Abs.look L' (hp A)=some (4,tab D.n fun j=>qc (f j))) (hk:Kept L L' nm D.m X1 X2 X3 A)
  (d1:nm.d≠X1) (d2:nm.d≠X2) (d3:nm.d≠X3) (d4:nm.d≠A) (x12:X1≠X2) (x13:X1≠X3) (x14:X1≠A) (x23:X2≠X3) (x24:X2≠A) (x34:X3≠A)
  (hv:v=if turned=true then-w.val else w.val) (hf:∀k,f k=if turned=true then-cf w.ts k else cf w.ts k):
  ∃nm':DN,nm'.d=nm.d/\HasO L' nm' (D.put w turned) (jcd D src row turned):=by
 have kg:=hk.keep nm.g _ h.hg (zD h.dg) fun hm=>⟨(h.ap hm).go,zD (h.ap hm).rg,(h.ap hm).gs⟩;have ka:=fun i (hi:i<D.m)=>hk.keep (nm.a i) _ (h.ha i hi) (zD ((h.ap (by omega)).da i hi)) fun hm=>⟨zD ((h.ap hm).oa i hi),zD ((h.ap hm).ra i hi),zD ((h.ap hm).sa i hi)⟩;have hm1:(D.put w turned).m≠0:=yy _;have ai:∀i,i<D.m+1->i≠D.m->i<D.m:=fun i h1 h2=>by omega
 refine⟨⟨nm.d,X2,nm.g,X1,nm.f,X3,fun i=>if i=D.m then A else nm.a i⟩,rfl,bL,h.dg,fun _=> ?_,?_,?_,fun _=> ?_,fun _=> ?_,fun _=> ?_,fun i hi=> ?_⟩
 ·refine⟨d2,d1,d3,zD kg.2.2.1,zD x12,x23,kg.2.1,kg.2.2.2.1,x13,?_,?_,?_,?_,?_,?_⟩
  ·intro i hi;dsimp only;split
   ·exact d4
   ·rename_i e;exact(h.ap (by have:=ai i hi e;omega)).da i (ai i hi e)
  ·intro i hi;dsimp only;split
   ·exact x24
   ·rename_i e;exact zD (ka i (ai i hi e)).2.2.1
  ·intro i hi;dsimp only;split
   ·exact kg.2.2.2.2
   ·rename_i e;exact(h.ap (by have:=ai i hi e;omega)).ga i (ai i hi e)
  ·intro i hi;dsimp only;split
   ·exact x14
   ·rename_i e;exact zD (ka i (ai i hi e)).2.1
  ·intro i hi;dsimp only;split
   ·exact x34
   ·rename_i e;exact zD (ka i (ai i hi e)).2.2.2.1
  ·intro i j hi hj e;dsimp only at e;by_cases e1:i=D.m
   ·rw[zm e1]at e;by_cases e2:j=D.m
    ·omega
    ·rw[zn e2]at e;exact absurd e.symm (ka j (ai j hj e2)).2.2.2.2
   ·rw[zn e1]at e;by_cases e2:j=D.m
    ·rw[zm e2]at e;exact absurd e (ka i (ai i hi e1)).2.2.2.2
    ·rw[zn e2]at e;exact(h.ap (by have:=ai i hi e1;omega)).aa i j (ai i hi e1) (ai j hj e2) e
 ·rw[h1,jao hm1,jao hm1,jao hm1];rfl
 ·exact kg.1
 ·rw[h3];show some (5,_)=some (5,tab (D.m+1) _);rw[ji0];congr 3
  ·refine jak fun i hi=> ?_;rw[show(D.put w turned).v i=D.v i from zn (by omega)];show _=lineC (D.v i) (if i=D.m then A else nm.a i) D.n;rw[zn (by omega)]
  ·rw[show(D.put w turned).v D.m=_ from zm rfl,hv];show _=[lineC _ (if D.m=D.m then A else nm.a D.m) D.n];rw[zm rfl]
 ·rw[h2];show some (1,_)=some (1,tab (D.m+1) _);rw[ji0];congr 3
  ·refine jak fun i hi=> ?_;rw[show(D.put w turned).own i=D.own i from zn (by omega)]
  ·rw[show(D.put w turned).own D.m=_ from zm rfl]
 ·rw[h4];show some (2,_)=some (2,tab (D.m+1) _);rw[ji0];congr 3
  ·refine jak fun i hi=> ?_;rw[show jcd D src row turned i=src i from zn (by omega)]
  ·rw[show jcd D src row turned D.m=_ from zm rfl]
 ·dsimp only;by_cases e:i=D.m
  ·rw[zm e,h5,show(D.put w turned).a i=_ from zm e];show some (4,tab D.n _)=some (4,tab D.n _);congr 2;refine jak fun j _=>qd qc ?_;rw[hf]
  ·rw[zn e,(ka i (ai i hi e)).1,show(D.put w turned).a i=D.a i from zn e];rfl
theorem jax{L:Abs.Rows}{k:Nat}{v:Nat×List (List IV)}(h:Abs.look L k=some v):SubR [(k,v)] L:=fun j x hj=>by
 by_cases e:j=k
 ·subst e;rw[ja2]at hj;cases hj;exact h
 ·rw[ja0 _ _ e]at hj;cases hj
theorem jb5{L R:Abs.Rows}{d:Nat}{v:Nat×List (List IV)}(h:Abs.look R d=some v)(hs:SubR L R):SubR ((d,v)::L) R:=fun k x hk=>by
 by_cases e:k=d
 ·subst e;rw[ja2]at hk;cases hk;exact h
 ·rw[ja0 _ _ e]at hk;exact hs k x hk
theorem jn8{L:Abs.Rows}{k d:Nat}{v v':Nat×List (List IV)}(hd:d<100000)(hs:SubR [(hp k,v)] L):SubR [(hp k,v)] ((d,v')::L):=
 jas (by dsimp only;rw[ja0 _ _ (hp_ne hd)];rfl) hs
theorem jam{L:Abs.Rows}{k d:Nat}{v:Nat×List (List IV)}(h:d≠k):Abs.del ((d,v)::L) k=(d,v)::Abs.del L k:=by
 unfold Abs.del;rw[jK,zm (by simpa using h)]
theorem jnn{α:Type}{p:Prop}(x:α)(h:∀y,x=y->p):p:=h x rfl
end
section
open Go.Abs
open Go.LP (Dic Rw RT cf cfU ngU jcd)
attribute [local go_sem] ints ic big frac fc rwC tmC lineC
theorem jd2{R:Abs.Rows}{d k:Nat}{v:Nat×List (List IV)}(h:Abs.look ((d,v)::R) k=none):Abs.look R k=none:=by
 by_cases e:k=d
 ·subst e;rw[ja2]at h;cases h
 ·rwa [ja0 _ _ e]at h
theorem jgf{Rs R:Abs.Rows}{d:Nat}{v:Nat×List (List IV)}(h:Abs.look R d=none)(hs:SubR Rs R):SubR Rs ((d,v)::R):=fun k x hk=>by
 by_cases e:k=d
 ·subst e;have:=hs _ _ hk;rw[h]at this;cases this
 ·rw[ja0 _ _ e];exact hs _ _ hk
theorem jm0{R:Abs.Rows}{d k:Nat}{u v:Nat×List (List IV)}(h:d≠k):SubR ((d,u)::(k,v)::R) ((k,v)::(d,u)::R):=fun j x hj=>by
 by_cases e:j=k
 ·subst e;rw[ja0 _ _ (zD h),ja2]at hj;rw[ja2];exact hj
 ·by_cases e2:j=d
  ·subst e2;rw[ja2]at hj;rw[ja0 _ _ e,ja2];exact hj
  ·rw[ja0 _ _ e2,ja0 _ _ e]at hj;rw[ja0 _ _ e,ja0 _ _ e2];exact hj
section
variable{L:Abs.Rows}{nm:DN}{D:Dic}{src:Nat->Int×Bool}
theorem put_A(h:HasO L nm D src)(w:Rw)(row:Nat)(turned:Bool)(hN:D.n<=100000){P:Exit->St->Prop}(hP:∀(A b:Nat) (s:St),(¬A=b/\Abs.look L (hp A)=none/\Abs.look L (hp b)=none)->St.Le s ⟨[(0,.loc (hp nm.d) 6 0 0),(1,.im (.int row)),(3,.im (.bool turned)),(6,.loc 6 6 0 0),(8,.loc (hp b) 5 0 0)],(hp b,5,[lineC w.val A D.n])::(hp A,4,tab D.n fun _=>qc 0)::(6,6,[rwC w])::L,[]⟩->P .normal s):
  awp (GH [8,73,84,93] []) (putN 2 (tailN 0 (jbm Tryz.f179)) .skip) P (jcg [.loc (hp nm.d) 6 0 0,.im (.int row),.im (.agg (rwC w)),.im (.bool turned)] L):=by
 have hb:=h.blk;have F1:=bF hb;have K1:=bK hb;have G1:=bN hb;have c0:=h.hd;have kz:=jiw D.n hN;refine jp5 rfl ?_;simp only[F1,K1,G1,go_sem];have hs0:SubR [(6,6,[rwC w]),(hp nm.d,6,[[.int D.n,sl0 nm.r 250 5 D.m,.ref nm.g 35 4 D.n,sl0 nm.o 3 1 D.m,.emp,sl0 nm.s 272 2 D.m]])] ((6,6,[rwC w])::L):=jb4 _ (jax c0);refine jt1 [false,false,false,false,false,false,true,true,true] (.alt 6 (.alt 7 (.alt 8 .fin .none) (.alt 8 (.alt 7 .fin .none) .none)) (.alt 8 (.alt 6 (.alt 7 .fin .none) .none) .none)) [(6,6,[rwC w]),(hp nm.d,6,[[.int D.n,sl0 nm.r 250 5 D.m,.ref nm.g 35 4 D.n,sl0 nm.o 3 1 D.m,.emp,sl0 nm.s 272 2 D.m]])] (by decide+kernel) hs0 ?_;simp only[F1,K1,G1,go_sem];refine And.intro ?_ ?_
 ·refine jct kz (by decide) rfl jc8 jad ?_;rintro _ L0 ⟨A,rfl,hA0,hA1,hA2⟩ hfr;have hnA:=(hfr (hp A) (by rw[hA1];rfl)).resolve_left (by simp[Abs.look]);clear hfr;refine⟨(hp A,4,tab D.n fun _=>qc 0)::_,jcb hA1,?_⟩;clear hA0 hA1 hA2;have hsA:=jgf (v:=(4,tab D.n fun _=>qc 0)) hnA hs0;refine And.intro hsA ?_;simp only[F1,K1,G1,go_sem];refine And.intro ?_ ?_
  ·refine And.intro hsA ?_
   try simp only[F1,K1,G1,go_sem]
   refine jce (fun b hb0=>And.intro (jgf hb0 hsA) ?_);simp only[F1,K1,G1,go_sem];have hLA:Abs.look L (hp A)=none:=by first | exact jd2 (jd2 hnA) | exact jd2 hnA
   have hLb:Abs.look L (hp b)=none:=by first | exact jd2 (jd2 hb0) | exact jd2 hb0
   have hAb:¬A=b:=by first | exact fun e=>by rw[e,ja2]at hb0;cases hb0 | exact fun e=>by rw[<-e,ja2]at hnA;cases hnA
   have hAb':¬b=A:=fun e=>hAb e.symm;have KB:=fun(s:Nat) (es:List (List IV))=>jdo (s:=s) (es:=es) hLb;simp only[hAb,hAb',KB,F1,K1,G1,go_sem];refine hP A b _ ⟨hAb,hLA,hLb⟩ (jk0 [0,1,3,6,8] ?_ ?_ rfl)
   ·simp only[zl,zC,go_sem]
   ·first | exact SubR.of_eq rfl | exact jm0 (hpne hAb')
  ·refine jce (fun b hb0=>And.intro (jgf hb0 hsA) ?_);simp only[F1,K1,G1,go_sem];refine And.intro (jgf hb0 hsA) ?_
   try simp only[F1,K1,G1,go_sem]
   have hLA:Abs.look L (hp A)=none:=by first | exact jd2 (jd2 hnA) | exact jd2 hnA
   have hLb:Abs.look L (hp b)=none:=by first | exact jd2 (jd2 hb0) | exact jd2 hb0
   have hAb:¬A=b:=by first | exact fun e=>by rw[e,ja2]at hb0;cases hb0 | exact fun e=>by rw[<-e,ja2]at hnA;cases hnA
   have hAb':¬b=A:=fun e=>hAb e.symm;have KB:=fun(s:Nat) (es:List (List IV))=>jdo (s:=s) (es:=es) hLb;simp only[hAb,hAb',KB,F1,K1,G1,go_sem];refine hP A b _ ⟨hAb,hLA,hLb⟩ (jk0 [0,1,3,6,8] ?_ ?_ rfl)
   ·simp only[zl,zC,go_sem]
   ·first | exact SubR.of_eq rfl | exact jm0 (hpne hAb')
 ·refine jce (fun b hb0=>And.intro (jgf hb0 hs0) ?_);simp only[F1,K1,G1,go_sem];refine jct kz (by decide) rfl jc8 jad ?_;rintro _ L0 ⟨A,rfl,hA0,hA1,hA2⟩ hfr;have hnA:=(hfr (hp A) (by rw[hA1];rfl)).resolve_left (by simp[Abs.look]);clear hfr;refine⟨(hp A,4,tab D.n fun _=>qc 0)::_,jcb hA1,?_⟩;clear hA0 hA1 hA2;refine And.intro (jgf hnA (jgf hb0 hs0)) ?_;simp only[F1,K1,G1,go_sem];refine And.intro (jgf hnA (jgf hb0 hs0)) ?_
  try simp only[F1,K1,G1,go_sem]
  have hLA:Abs.look L (hp A)=none:=by first | exact jd2 (jd2 hnA) | exact jd2 hnA
  have hLb:Abs.look L (hp b)=none:=by first | exact jd2 (jd2 hb0) | exact jd2 hb0
  have hAb:¬A=b:=by first | exact fun e=>by rw[e,ja2]at hb0;cases hb0 | exact fun e=>by rw[<-e,ja2]at hnA;cases hnA
  have hAb':¬b=A:=fun e=>hAb e.symm;have KB:=fun(s:Nat) (es:List (List IV))=>jdo (s:=s) (es:=es) hLb;simp only[hAb,hAb',KB,F1,K1,G1,go_sem];refine hP A b _ ⟨hAb,hLA,hLb⟩ (jk0 [0,1,3,6,8] ?_ ?_ rfl)
  ·simp only[zl,zC,go_sem]
  ·first | exact SubR.of_eq rfl | exact jm0 (hpne hAb')
end
end
section
open Go.Abs
open Go.LP (Dic Rw RT cf cfU ngU jcd)
attribute [local go_sem] ints ic big frac fc rwC tmC lineC
section
variable{L:Abs.Rows}{nm:DN}{D:Dic}{src:Nat->Int×Bool}
theorem put_B(hb:blks L){A b:Nat}(hAb:¬A=b)(hLA:Abs.look L (hp A)=none)(hLb:Abs.look L (hp b)=none)(w:Rw)(row:Nat)(turned:Bool)(hN:D.n<=100000)(hRT:RT w.ts 0 D.n)(hlen:w.ts.length<=100000){P:Exit->St->Prop}
  (hP:∀(M:Abs.Rows) (s:St),(blks M/\SubR L M/\Abs.look M (hp b)=some (5,[lineC w.val A D.n])/\Abs.look M (hp A)=some (4,tab D.n fun k=>qc (cf w.ts k)))->St.Le s ⟨[(0,.loc (hp nm.d) 6 0 0),(1,.im (.int row)),(3,.im (.bool turned)),(6,.loc 6 6 0 0),(8,.loc (hp b) 5 0 0)],(6,6,[rwC w])::M,[]⟩->P .normal s):
  awp (GH [8,73,84,93] []) (putN 1 (tailN 2 (jbm Tryz.f179)) .skip) P ⟨[(0,.loc (hp nm.d) 6 0 0),(1,.im (.int row)),(3,.im (.bool turned)),(6,.loc 6 6 0 0),(8,.loc (hp b) 5 0 0)],(hp b,5,[lineC w.val A D.n])::(hp A,4,tab D.n fun _=>qc 0)::(6,6,[rwC w])::L,[]⟩:=by
 have F1:=bF hb;have K1:=bK hb;have G1:=bN hb;have hAb':¬b=A:=fun e=>hAb e.symm;refine jp5 rfl ?_;have KB:=fun(s:Nat) (es:List (List IV))=>jdo (s:=s) (es:=es) hLb;simp only[hAb,hAb',KB,F1,K1,G1,go_sem];clear KB;obtain⟨M0,hM0e,hM0,hs0,hl0,hz0⟩:∃M0,M0=(hp b,5,[lineC w.val A D.n])::(hp A,4,tab D.n fun _=>qc 0)::L/\blks M0/\SubR L M0/\Abs.look M0 (hp b)=some (5,[lineC w.val A D.n])/\Abs.look M0 (hp A)=some (4,tab D.n fun k=>qc (cfU w.ts 0 k)):=by
  refine⟨_,rfl,jat (jat hb),jas hLb (jas hLA (SubR.of_eq rfl)),ja2 _ _ _,?_⟩;rw[ja0 _ _ (hpne hAb),ja2];rfl
 refine jaz [0,1,3,6,8,22,23,24] (fun g:Nat×Abs.Rows=>⟨[(0,.loc (hp nm.d) 6 0 0),(1,.im (.int row)),(3,.im (.bool turned)),(6,.loc 6 6 0 0),(8,.loc (hp b) 5 0 0),(22,.im (.sl (w.ts.map tmC))),(23,.im (.int w.ts.length)),(24,.im (.int g.1))],(6,6,[rwC w])::g.2,[]⟩)
  (fun g=>g.1<=w.ts.length/\blks g.2/\SubR L g.2/\Abs.look g.2 (hp b)=some (5,[lineC w.val A D.n])/\Abs.look g.2 (hp A)=some (4,tab D.n fun k=>qc (cfU w.ts g.1 k))) (fun g=>w.ts.length-g.1) (0,M0) ?_ ?_ rfl
  ⟨zE _,hM0,hs0,hl0,hz0⟩ ?_
 ·simp only[Int.natCast_zero,go_sem]
 ·show SubR ((6,6,[rwC w])::M0) ((hp b,5,[lineC w.val A D.n])::(hp A,4,tab D.n fun _=>qc 0)::(6,6,[rwC w])::L);refine jb5 ?_ ?_
  ·rw[ja0 _ _ (hp_ne (by decide)),ja0 _ _ (hp_ne (by decide)),ja2]
  ·rw[hM0e];exact jb4 _ (jb4 _ (ja3 (by decide) hb (SubR.refl _)))
 clear hl0 hz0 hM0 hs0 hM0e;rintro⟨i,M⟩ ⟨hi,hM,hsM,hlb,hlA⟩;dsimp only at hi hM hsM hlb hlA;have F2:=bF hM;have K2:=bK hM;have G2:=bN hM;rcases zT i w.ts.length with hlt | hlt
 ·have hd:decide ((i:Int)<w.ts.length)=true:=za (by omega);obtain⟨t,hti⟩:=jby (l:=w.ts) (i:=i) (by omega);have h1:=ja9 (n:=(i:Int)+1) (by omega);obtain⟨g1,g2,g3⟩:=jm1 hRT hti;have hg:=tget hti;simp only[fc]at hg;have v0:(0:Int)<=t.1:=by omega
  have vN:(t.1:Int)<D.n:=by omega
  have hq:=qget (f:=fun k=>cfU w.ts i k) g2;simp only[hd,hg,hlb,hlA,hq,v0,vN,ja6,Int.toNat_natCast,F2,K2,G2,go_sem];refine jaa (i+1,M.map (fun p=>if p.1=hp A then(p.1,4,(tab D.n fun k=>qc (cfU w.ts i k)).set t.1 (fc t.2))else p)) ?_ ?_ rfl (by show w.ts.length-(i+1)<w.ts.length-i;omega)
   ⟨hlt,jb8 hM,jhg hLA hsM,(jan (hpne hAb')).trans hlb,(jae hlA).trans ?_⟩
  ·simp only[h1,Int.natCast_add,go_sem]
  ·show SubR ((6,6,[rwC w])::_) ((10,5,[tmC t])::(6,6,[rwC w])::_);refine jas ?_ (SubR.of_eq rfl);rw[ja0 _ _ (by dsimp only;decide)];exact jay (jb8 hM) (by dsimp only;decide)
  ·rw[qset];congr 2;refine jak fun k hk=>qd qc ?_;rw[LP.cfU_succ hti]
 have hd:decide ((i:Int)<w.ts.length)=false:=zq (by omega);have hie:i=w.ts.length:=by omega
 subst hie;simp only[hd,go_sem];refine hP M _ ⟨hM,hsM,hlb,?_⟩ (jk0 [0,1,3,6,8] ?_ (SubR.of_eq rfl) rfl)
 ·rw[hlA];congr 2;exact jak fun k hk=>qd qc (LP.cfU_all hRT)
 ·simp only[go_sem]
