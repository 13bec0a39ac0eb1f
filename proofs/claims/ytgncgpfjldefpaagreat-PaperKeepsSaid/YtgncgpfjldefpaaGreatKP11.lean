/- A part of the proof. No further condition. -/
import Derived.Test.YtgncgpfjldefpaaGreatKP10
set_option linter.all false
set_option maxRecDepth 10000000
set_option maxHeartbeats 16000000
namespace Go.Proofs.YtgncgpfjldefpaaGreat
section
open Go.Abs
structure Place where
 (kind house mat:Int)
 deriving DecidableEq,Inhabited
structure Move where
 (day fr to scale reading:Int)
 all:Bool
 deriving DecidableEq,Inhabited
structure Cert where
 (scale fr until' grams perMille drift:Int)
 deriving DecidableEq,Inhabited
structure Recall where
 (scale since:Int)
 deriving DecidableEq,Inhabited
structure Purity where
 (move mat least most:Int)
 deriving DecidableEq,Inhabited
structure Evid where
 (mats houses scales:Int)
 places:List Place
 moves:List Move
 certs:List Cert
 recalls:List Recall
 purs:List Purity
 deriving DecidableEq,Inhabited
structure Sample where
 move:Int
 grams:List Int
 slack:Int
 deriving DecidableEq,Inhabited
structure Recipe where
 (fr to mat least most:Int)
 deriving DecidableEq,Inhabited
def Place.c(p:Place):List IV:=[.int p.kind,.int p.house,.int p.mat]
def Move.c(p:Move):List IV:=[.int p.day,.int p.fr,.int p.to,.int p.scale,.int p.reading,.bool p.all]
def Cert.c(p:Cert):List IV:=[.int p.scale,.int p.fr,.int p.until',.int p.grams,.int p.perMille,.int p.drift]
def Recall.c(p:Recall):List IV:=[.int p.scale,.int p.since]
def Purity.c(p:Purity):List IV:=[.int p.move,.int p.mat,.int p.least,.int p.most]
def Sample.c(p:Sample):List IV:=[.int p.move,ints p.grams,.int p.slack]
def Recipe.c(p:Recipe):List IV:=[.int p.fr,.int p.to,.int p.mat,.int p.least,.int p.most]
def Evid.c(e:Evid):List IV:=[.int e.mats,.int e.houses,.int e.scales,.sl (e.places.map Place.c),.sl (e.moves.map Move.c),.sl (e.certs.map Cert.c),.sl (e.recalls.map Recall.c),.sl (e.purs.map Purity.c)]
def Evid.iv(e:Evid):IV:= .agg e.c
theorem Place.len(p:Place):p.c.length=3:=rfl
theorem Move.len(p:Move):p.c.length=6:=rfl
theorem Cert.len(p:Cert):p.c.length=6:=rfl
theorem Recall.len(p:Recall):p.c.length=2:=rfl
theorem Purity.len(p:Purity):p.c.length=4:=rfl
theorem Sample.len(p:Sample):p.c.length=3:=rfl
theorem Recipe.len(p:Recipe):p.c.length=5:=rfl
theorem take_succ{α:Type}{l:List α}{i:Nat}{x:α}(h:l[i]? =some x):l.take (i+1)=l.take i++[x]:=by
 rw[yQ,h];rfl
end
section
open Go.Abs
attribute [local go_sem] Evid.iv Evid.c Place.c Move.c Cert.c Recall.c Purity.c Sample.c Recipe.c ints ic
theorem je0{α:Type}{l:List α}{f:α->Bool}{i:Nat}{x:α}(h:l[i]? =some x):(l.take (i+1)).all f=((l.take i).all f&&f x):=by
 rw[take_succ h,vA];simp
theorem jl8{α:Type}{l:List α}{f:α->Bool}{i:Nat}{x:α}(h:l[i]? =some x)(hf:f x=false):l.all f=false:=by
 rw[vg];exact⟨x,zt h,by simp[hf]⟩
def ji7(e:Evid)(p:Place):Bool:=idx p.kind 7&&(if p.kind=0 then idx p.house e.houses&&idx p.mat e.mats else decide (p.house= -1)&&decide (p.mat= -1))
theorem c47(e:Evid)(hl:e.places.length<=1000):Ctr G.P 57 [e.iv] (· = .bool (e.places.all (ji7 e))):=by
 refine ja4 [.tmp 2] Tryz.func57 ?_;unfold Evid.iv Evid.c;simp only[go_sem];refine jas [1,6,7,8] [1] (fun i:Nat=>⟨[(1,.loc 1 8 0 0),(6,.im (.sl (e.places.map Place.c))),(7,.im (.int e.places.length)),(8,.im (.int i))],[(1,8,[e.c])],[]⟩)
  (fun i=>i<=e.places.length/\(e.places.take i).all (ji7 e)=true) (fun i=>e.places.length-i) 0 ?_ ⟨zI _,rfl⟩ ?_
 ·simp only[Evid.c,Int.natCast_zero,go_sem]
 ·intro i ⟨hi,ha⟩;simp only[go_sem];refine jd9 (fun hd hp=> ?_) (fun hd hp=> ?_)
  ·obtain⟨x,hx⟩:∃x,e.places[i]? =some x:=⟨_,zk (by omega)⟩;have h1:=jaa (n:=(i:Int)+1) (by omega);have hat:=je0 (f:=ji7 e) hx;simp only[hd,zq,hx,Place.c,Evid.c,go_sem]
   repeat' (first | (refine jcr (fun hd=> ?_) (fun hd=> ?_)<;>simp only[*,go_sem]) | (refine jbr (c67 _ _) (by first | decide | assumption) ?_;simp only[*,go_sem]) | (refine ja8 (c67 _ _) (by decide) ?_;simp only[*,go_sem]))
   all_goals first
    | (refine jad (i+1) ?_ ?_ ⟨?_,?_⟩
       ·simp only[h1,Evid.c,Int.natCast_add,go_sem]
       ·omega
       ·omega
       ·rw[hat,ha,qx];clear hat ha h1;simp_all[ji7]
       done)
    | (rw[jl8 hx (by clear hat ha h1;simp_all[ji7])];done)
  ·simp only[hd,go_sem];rw[zE (by omega)]at ha;rw[ha]
end
section
open Go.Abs
attribute [local go_sem] Evid.iv Evid.c Place.c Move.c Cert.c Recall.c Purity.c Sample.c Recipe.c ints ic
end
section
open Go.Abs
attribute [local go_sem] Evid.iv Evid.c Place.c Move.c Cert.c Recall.c Purity.c Sample.c Recipe.c ints ic
end
section
open Go.Abs
attribute [local go_sem] Evid.iv Evid.c Place.c Move.c Cert.c Recall.c Purity.c Sample.c Recipe.c ints ic
def pairC(p:Int×Int):List IV:=[.int p.1,.int p.2]
def pairs(e:Evid):List (Int×Int):=[(e.mats,6),(e.houses,100),(e.scales,30),(e.places.length,100),(e.moves.length,200),(e.certs.length,100),(e.recalls.length,30),(e.purs.length,200)]
def fitP(p:Int×Int):Bool:= !decide (p.2<p.1)
theorem c46(e:Evid):Ctr G.P 56 [e.iv] (· = .bool (!(pairs e).all fitP)):=by
 refine ja4 [.tmp 2] Tryz.func56 ?_;unfold Evid.iv Evid.c;simp only[go_sem];refine jas [34,35,36] [] (fun i:Nat=>⟨[(34,.sx ((pairs e).map pairC)),(35,.im (.int 8)),(36,.im (.int i))],[],[]⟩)
  (fun i=>i<=8/\((pairs e).take i).all fitP=true) (fun i=>8-i) 0 ?_ ⟨zI _,rfl⟩ ?_
 ·simp only[pairs,pairC,Int.natCast_zero,go_sem]
 ·intro i ⟨hi,ha⟩;simp only[go_sem];refine jd9 (fun hd hp=> ?_) (fun hd hp=> ?_)
  ·obtain⟨x,hx⟩:∃x,(pairs e)[i]? =some x:=⟨_,zk (by simp[pairs];omega)⟩;have h1:=jaa (n:=(i:Int)+1) (by omega);have hat:=je0 (f:=fitP) hx;simp only[hd,zq,hx,pairC,go_sem]
   repeat' (first | (refine jcr (fun hd=> ?_) (fun hd=> ?_)<;>simp only[*,go_sem]) | (refine jbr (c67 _ _) (by first | decide | assumption) ?_;simp only[*,go_sem]) | (refine ja8 (c67 _ _) (by decide) ?_;simp only[*,go_sem]))
   all_goals first
    | (refine jad (i+1) ?_ ?_ ⟨?_,?_⟩
       ·simp only[h1,Int.natCast_add,go_sem]
       ·omega
       ·omega
       ·rw[hat,ha,qx];clear hat ha h1;simp_all[fitP]
       done)
    | (rw[jl8 hx (by clear hat ha h1;simp_all[fitP])];rfl)
  ·simp only[hd,go_sem];rw[zE (by simp[pairs];omega)]at ha;rw[ha];simp only[go_sem]
end
section
open Go.Abs
attribute [local go_sem] Evid.iv Evid.c Place.c Move.c Cert.c Recall.c Purity.c Sample.c Recipe.c ints ic
def jlv(e:Evid)(i:Int):Int:=match e.places[i.toNat]? with
 | some p=>p.kind
 | none=>0
theorem jol{e:Evid}{i:Int}{p:Place}(h:e.places[i.toNat]? =some p):jlv e i=p.kind:=by simp[jlv,h]
def moveF(e:Evid)(m:Move):Bool:=
 idx m.fr e.places.length&&idx m.to e.places.length&& !decide (m.fr=m.to)&& !decide (jlv e m.fr=5)&& !decide (jlv e m.fr=6)&& !(decide (jlv e m.fr=0)&&m.all)&& !decide (jlv e m.to=0)&&
  (if m.scale= -1 then decide (m.reading=0)else idx m.scale e.scales&&btw m.reading 0 1099511627776)
theorem at_idx{α:Type}{l:List α}{i:Int}(h:idx i l.length=true):∃x,l[i.toNat]? =some x/\0<=i:=by
 rw[jpo]at h;exact⟨_,zk (by omega),h.1⟩
theorem c48(e:Evid)(m:Move):Ctr G.P 58 [e.iv,.agg m.c] (· = .bool (moveF e m)):=by
 rcases hf:idx m.fr e.places.length with _ | _
 ·have hm:moveF e m=false:=by simp[moveF,hf]
  refine ja4 [.tmp 4] Tryz.func58 ?_;unfold Evid.iv Evid.c Move.c;rw[hm];simp only[go_sem]
  repeat' (first | (refine jcr (fun hd=> ?_) (fun hd=> ?_)<;>simp only[*,go_sem]) | (refine jbr (c67 _ _) (by first | decide | assumption) ?_;simp only[*,go_sem]) | (refine ja8 (c67 _ _) (by decide) ?_;simp only[*,go_sem]))
 ·obtain⟨p,hp,h0⟩:=at_idx hf;have hkp:=jol hp;rcases ht:idx m.to e.places.length with _ | _
  ·have hm:moveF e m=false:=by simp[moveF,ht]
   refine ja4 [.tmp 4] Tryz.func58 ?_;unfold Evid.iv Evid.c Move.c;rw[hm];simp only[go_sem]
   repeat' (first | (refine jcr (fun hd=> ?_) (fun hd=> ?_)<;>simp only[*,go_sem]) | (refine jbr (c67 _ _) (by first | decide | assumption) ?_;simp only[*,go_sem]) | (refine ja8 (c67 _ _) (by decide) ?_;simp only[*,go_sem]))
  ·obtain⟨q,hq,h1⟩:=at_idx ht;have hkq:=jol hq;have hm:moveF e m=(!decide (m.fr=m.to)&& !decide (p.kind=5)&& !decide (p.kind=6)&& !(decide (p.kind=0)&&m.all)&& !decide (q.kind=0)&&
    (if m.scale= -1 then decide (m.reading=0)else idx m.scale e.scales&&btw m.reading 0 1099511627776)):=by simp[moveF,hf,ht,hkp,hkq]
   refine ja4 [.tmp 4] Tryz.func58 ?_;unfold Evid.iv Evid.c Move.c;rw[hm];clear hm hkp hkq;simp only[go_sem]
   repeat' (first | (refine jcr (fun hd=> ?_) (fun hd=> ?_)<;>simp only[*,zq,Place.c,go_sem]) | (refine jbr (c67 _ _) (by first | decide | assumption) ?_;simp only[*,zq,Place.c,go_sem]) | (refine jbr (c68 _ _ _) (by first | decide | assumption) ?_;simp only[*,zq,Place.c,go_sem]) | (refine ja8 (c67 _ _) (by decide) ?_;simp only[*,zq,Place.c,go_sem]) | (refine ja8 (c68 _ _ _) (by decide) ?_;simp only[*,zq,Place.c,go_sem]))
   all_goals simp_all
end
section
open Go.Abs
attribute [local go_sem] Evid.iv Evid.c Place.c Move.c Cert.c Recall.c Purity.c Sample.c Recipe.c ints ic
def certF(e:Evid)(c:Cert):Bool:=decide (0<=c.fr)&&decide (c.fr<=c.until')&&decide (c.until'<=100000)&&idx c.scale e.scales&&btw c.grams 0 1099511627776&&btw c.perMille 0 1000&&btw c.drift 0 10000000
def jit(e:Evid)(r:Recall):Bool:=idx r.scale e.scales&&btw r.since 0 100000
def purF(e:Evid)(p:Purity):Bool:=idx p.move e.moves.length&&idx p.mat e.mats&& !decide (p.least<0)&& !decide (p.most<p.least)&& !decide (1000<p.most)
def saidF(e:Evid):Bool:=e.certs.all (certF e)&&e.recalls.all (jit e)&&e.purs.all (purF e)
theorem jc7{α:Type}{l:List α}{i:Nat}(h:(i:Int)<l.length):∃x,l[i]? =some x:=⟨_,zk (by omega)⟩
theorem c49(e:Evid)(h5:e.certs.length<=1000)(h6:e.recalls.length<=1000)(h7:e.purs.length<=1000):Ctr G.P 59 [e.iv] (· = .bool (saidF e)):=by
 refine ja4 [.tmp 2] Tryz.func59 ?_;unfold Evid.iv Evid.c;simp only[go_sem];refine jas [1,11,12,13] [1] (fun i:Nat=>⟨[(1,.loc 1 8 0 0),(11,.im (.sl (e.certs.map Cert.c))),(12,.im (.int e.certs.length)),(13,.im (.int i))],[(1,8,[e.c])],[]⟩)
  (fun i=>i<=e.certs.length/\(e.certs.take i).all (certF e)=true) (fun i=>e.certs.length-i) 0 ?_ ⟨zI _,rfl⟩ ?_
 ·simp only[Evid.c,Int.natCast_zero,go_sem]
 ·intro i ⟨hi,ha⟩;by_cases hp:(i:Int)<e.certs.length
  ·have hd:decide ((i:Int)<e.certs.length)=true:=zh hp;obtain⟨x,hx⟩:=jc7 hp;have h1:=jaa (n:=(i:Int)+1) (by omega);have hat:=je0 (f:=certF e) hx;have hn:certF e x=false->saidF e=false:=fun h=>by simp[saidF,jl8 hx h]
   simp only[hd,zq,hx,Cert.c,Evid.c,go_sem]
   repeat' (first | (refine jcr (fun hd=> ?_) (fun hd=> ?_)<;>simp only[*,go_sem]) | (refine jbr (c67 _ _) (by first | decide | assumption) ?_;simp only[*,go_sem]) | (refine jbr (c68 _ _ _) (by first | decide | assumption) ?_;simp only[*,go_sem]) | (refine ja8 (c67 _ _) (by decide) ?_;simp only[*,go_sem]) | (refine ja8 (c68 _ _ _) (by decide) ?_;simp only[*,go_sem]))
   all_goals first
    | (refine jad (i+1) ?_ ?_ ⟨?_,?_⟩
       ·simp only[h1,Evid.c,Int.natCast_add,go_sem]
       ·omega
       ·omega
       ·rw[hat,ha,qx];clear hn hat ha h1;simp_all[certF]
       done)
    | (rw[hn (by clear hn hat ha h1;simp_all[certF]<;>(intros;omega))];done)
  ·have hd:decide ((i:Int)<e.certs.length)=false:=ze hp;rw[zE (by omega)]at ha;simp only[hd,Evid.c,go_sem];clear hd hp hi;refine jas [1,62,63,64] [1] (fun i:Nat=>⟨[(1,.loc 1 8 0 0),(62,.im (.sl (e.recalls.map Recall.c))),(63,.im (.int e.recalls.length)),(64,.im (.int i))],[(1,8,[e.c])],[]⟩)
    (fun i=>i<=e.recalls.length/\(e.recalls.take i).all (jit e)=true) (fun i=>e.recalls.length-i) 0 ?_ ⟨zI _,rfl⟩ ?_
   ·simp only[Evid.c,Int.natCast_zero,go_sem]
   ·intro i ⟨hi,hb⟩;by_cases hp:(i:Int)<e.recalls.length
    ·have hd:decide ((i:Int)<e.recalls.length)=true:=zh hp;obtain⟨x,hx⟩:=jc7 hp;have h1:=jaa (n:=(i:Int)+1) (by omega);have hat:=je0 (f:=jit e) hx;have hn:jit e x=false->saidF e=false:=fun h=>by simp[saidF,jl8 hx h]
     simp only[hd,zq,hx,Recall.c,Evid.c,go_sem]
     repeat' (first | (refine jcr (fun hd=> ?_) (fun hd=> ?_)<;>simp only[*,go_sem]) | (refine jbr (c67 _ _) (by first | decide | assumption) ?_;simp only[*,go_sem]) | (refine jbr (c68 _ _ _) (by first | decide | assumption) ?_;simp only[*,go_sem]) | (refine ja8 (c67 _ _) (by decide) ?_;simp only[*,go_sem]) | (refine ja8 (c68 _ _ _) (by decide) ?_;simp only[*,go_sem]))
     all_goals first
      | (refine jad (i+1) ?_ ?_ ⟨?_,?_⟩
         ·simp only[h1,Evid.c,Int.natCast_add,go_sem]
         ·omega
         ·omega
         ·rw[hat,hb,qx];clear hn hat hb h1;simp_all[jit]
         done)
      | (rw[hn (by clear hn hat hb h1;simp_all[jit])];done)
    ·have hd:decide ((i:Int)<e.recalls.length)=false:=ze hp;rw[zE (by omega)]at hb;simp only[hd,Evid.c,go_sem];clear hd hp hi;refine jas [1,82,83,84] [1] (fun i:Nat=>⟨[(1,.loc 1 8 0 0),(82,.im (.sl (e.purs.map Purity.c))),(83,.im (.int e.purs.length)),(84,.im (.int i))],[(1,8,[e.c])],[]⟩)
      (fun i=>i<=e.purs.length/\(e.purs.take i).all (purF e)=true) (fun i=>e.purs.length-i) 0 ?_ ⟨zI _,rfl⟩ ?_
     ·simp only[Evid.c,Int.natCast_zero,go_sem]
     ·intro i ⟨hi,hc⟩;by_cases hp:(i:Int)<e.purs.length
      ·have hd:decide ((i:Int)<e.purs.length)=true:=zh hp;obtain⟨x,hx⟩:=jc7 hp;have h1:=jaa (n:=(i:Int)+1) (by omega);have hat:=je0 (f:=purF e) hx;have hn:purF e x=false->saidF e=false:=fun h=>by simp[saidF,jl8 hx h]
       simp only[hd,zq,hx,Purity.c,Evid.c,go_sem]
       repeat' (first | (refine jcr (fun hd=> ?_) (fun hd=> ?_)<;>simp only[*,go_sem]) | (refine jbr (c67 _ _) (by first | decide | assumption) ?_;simp only[*,go_sem]) | (refine jbr (c68 _ _ _) (by first | decide | assumption) ?_;simp only[*,go_sem]) | (refine ja8 (c67 _ _) (by decide) ?_;simp only[*,go_sem]) | (refine ja8 (c68 _ _ _) (by decide) ?_;simp only[*,go_sem]))
       all_goals first
        | (refine jad (i+1) ?_ ?_ ⟨?_,?_⟩
           ·simp only[h1,Evid.c,Int.natCast_add,go_sem]
           ·omega
           ·omega
           ·rw[hat,hc,qx];clear hn hat hc h1;simp_all[purF]
           done)
        | (rw[hn (by clear hn hat hc h1;simp_all[purF])];done)
      ·have hd:decide ((i:Int)<e.purs.length)=false:=ze hp;rw[zE (by omega)]at hc;simp only[hd,go_sem];simp[saidF,ha,hb,hc]
end
section
open Go.Abs
attribute [local go_sem] Evid.iv Evid.c Place.c Move.c Cert.c Recall.c Purity.c Sample.c Recipe.c ints ic
def jdl(e:Evid):Int->List Move->Int
 | _,[]=>0
 | last,m::r=>if decide (m.day<last)=true then 17 else if decide (100000<m.day)=true then 17 else if moveF e m=false then 1 else jdl e m.day r
def jcw(e:Evid):Int:=
 if(pairs e).all fitP=false then 6 else if decide (e.mats<1)=true then 1 else if decide (e.houses<0)=true then 1 else if decide (e.scales<0)=true then 1 else if e.places.all (ji7 e)=false then 1 else
 if jdl e 0 e.moves≠0 then jdl e 0 e.moves else if saidF e=true then 0 else 1
theorem jic{α:Type}{l:List α}{i:Nat}{x:α}(h:l[i]? =some x):l.drop i=x::l.drop (i+1):=by
 obtain⟨hi,rfl⟩:=zr.1 h;exact qN hi
theorem jkr{e:Evid}(h:(pairs e).all fitP=true):e.places.length<=100/\e.moves.length<=200/\e.certs.length<=100/\e.recalls.length<=30/\e.purs.length<=200/\e.mats<=6/\e.houses<=100/\e.scales<=30:=by
 simp[pairs,fitP]at h;omega
theorem c21(e:Evid):Ctr G.P 21 [e.iv] (· = .int (jcw e)):=by
 have h46:=c46 e;rcases hf:(pairs e).all fitP with _ | _
 ·have hc:jcw e=6:=by simp[jcw,hf]
  rw[hf]at h46;refine ja4 [.tmp 2] Tryz.func21 ?_;unfold Evid.iv Evid.c;rw[hc];simp only[go_sem];refine ja1 h46 ?_;simp only[go_sem]
 ·obtain⟨l1,l2,l3,l4,l5,_,_,_⟩:=jkr hf;have h47:=c47 e (by omega);have h49:=c49 e (by omega) (by omega) (by omega);rw[hf]at h46;have hc:jcw e=if decide (e.mats<1)=true then 1 else if decide (e.houses<0)=true then 1 else if decide (e.scales<0)=true then 1 else if e.places.all (ji7 e)=false then 1 else
   if jdl e 0 e.moves≠0 then jdl e 0 e.moves else if saidF e=true then 0 else 1:=by simp[jcw,hf]
  clear hf;refine ja4 [.tmp 2] Tryz.func21 ?_;rw[hc];clear hc;generalize hpl:e.places.all (ji7 e)=pl at*;generalize hsd:saidF e=sd at*;unfold Evid.iv Evid.c;simp only[go_sem];refine ja1 h46 ?_;simp only[go_sem]
  repeat' (first | (refine jcr (fun hd=> ?_) (fun hd=> ?_)<;>simp only[*,go_sem]) | (refine jbr (h47) (by first | decide | assumption) ?_;simp only[*,go_sem]) | (refine ja8 (h47) (by decide) ?_;simp only[*,go_sem]))
  rename_i k1 k2 k3 k4;clear h47 h46;refine jas [1,3,29,30,31] [1] (fun g:Nat×Int=>⟨[(1,.loc 1 8 0 0),(3,.im (.int g.2)),(29,.im (.sl (e.moves.map Move.c))),(30,.im (.int e.moves.length)),(31,.im (.int g.1))],[(1,8,[e.c])],[]⟩)
   (fun g=>g.1<=e.moves.length/\jdl e 0 e.moves=jdl e g.2 (e.moves.drop g.1)) (fun g=>e.moves.length-g.1) (0,0) ?_ ⟨zI _,rfl⟩ ?_
  ·simp only[Evid.c,Int.natCast_zero,go_sem]
  ·intro⟨i,last⟩ ⟨hi,ha⟩;dsimp only at hi ha;by_cases hp:(i:Int)<e.moves.length
   ·have hd:decide ((i:Int)<e.moves.length)=true:=zh hp;obtain⟨x,hx⟩:=jc7 hp;have h1:=jaa (n:=(i:Int)+1) (by omega);rw[jic hx,jdl]at ha;simp only[hd,zq,hx,Move.c,Evid.c,go_sem]
    repeat' (first | (refine jcr (fun hd=> ?_) (fun hd=> ?_)<;>simp only[*,go_sem]) | (refine jbr (c48 e x) (by first | decide | assumption) ?_;simp only[*,go_sem]) | (refine ja8 (c48 e x) (by decide) ?_;simp only[*,go_sem]))
    refine jad (i+1,x.day) ?_ ?_ ⟨?_,?_⟩
    ·simp only[h1,Evid.c,Int.natCast_add,go_sem]
    ·show e.moves.length-(i+1)<e.moves.length-i;omega
    ·show i+1<=e.moves.length;omega
    ·rw[ha];simp only[*,qY,Bool.true_eq_false,qi]
   ·have hd:decide ((i:Int)<e.moves.length)=false:=ze hp;have hi':e.moves.drop i=[]:=zX (by omega);rw[hi',jdl]at ha;simp only[hd,Evid.c,go_sem];refine ja1 h49 ?_;simp only[*,go_sem]
    repeat' (first | (refine jcr (fun hd=> ?_) (fun hd=> ?_)<;>simp only[*,go_sem]) | (refine jbr (h49) (by first | decide | assumption) ?_;simp only[*,go_sem]) | (refine ja8 (h49) (by decide) ?_;simp only[*,go_sem]))
end
section
open Go.Abs
attribute [local go_sem] Evid.iv Evid.c Place.c Move.c Cert.c Recall.c Purity.c Sample.c Recipe.c ints ic
end
section
open Go.Abs
attribute [local go_sem] Evid.iv Evid.c Place.c Move.c Cert.c Recall.c Purity.c Sample.c Recipe.c ints ic
end
section
open Go.Abs
attribute [local go_sem] Evid.iv Evid.c Place.c Move.c Cert.c Recall.c Purity.c Sample.c Recipe.c ints ic
def purs(l:List Purity):IV:= .sl (l.map Purity.c)
end
section
open Go.Abs
attribute [local go_sem] Evid.iv Evid.c Place.c Move.c Cert.c Recall.c Purity.c Sample.c Recipe.c ints ic
theorem jdf{α:Type}{l:List α}{f:α->Bool}{i:Nat}{x:α}(h:l[i]? =some x):(l.take (i+1)).any f=((l.take i).any f || f x):=by
 rw[take_succ h,List.any_append];simp
theorem jm4{α:Type}{l:List α}{f:α->Bool}{i:Nat}{x:α}(h:l[i]? =some x)(hf:f x=true):l.any f=true:=
 ja.2 ⟨x,zt h,hf⟩
theorem c52(l:List Int)(hl:l.length<=100000)(p:Int->Bool)(g:Nat)(caps:List IV)(hg:3<=g/\g<G.fns)(hc:∀n:Int,Ctr G.P g (.int n::caps) (· = .bool (p n))):
  Ctr G.P 100 [ints l,.clo g caps] (fun r=>∃k:Int,r= .int k/\decide (0<=k)=l.any p):=by
 refine ja4 [.tmp 4] Tryz.func100 ?_;unfold ints;simp only[go_sem];refine jas [0,1,7,8] [] (fun i:Nat=>⟨[(0,.im (.sl (l.map ic))),(1,.im (.clo g caps)),(7,.im (.int l.length)),(8,.im (.int i))],[],[]⟩)
  (fun i=>i<=l.length/\(l.take i).any p=false) (fun i=>l.length-i) 0 ?_ ⟨zI _,rfl⟩ ?_
 ·simp only[Int.natCast_zero,go_sem]
 ·intro i ⟨hi,ha⟩;by_cases hp:(i:Int)<l.length
  ·have hd:decide ((i:Int)<l.length)=true:=zh hp;obtain⟨x,hx⟩:=jc7 hp;have h1:=jaa (n:=(i:Int)+1) (by omega);simp only[hd,zq,hx,ic,go_sem];refine jbr (hc x) hg ?_;simp only[go_sem];refine jcr (fun he=> ?_) (fun he=> ?_)
   ·simp only[he,go_sem];exact⟨i,rfl,by rw[jm4 hx he];simp⟩
   ·simp only[he,go_sem];refine jad (i+1) ?_ (by omega) ⟨by omega,by rw[jdf hx,ha,he];rfl⟩;simp only[h1,Int.natCast_add,go_sem]
  ·have hd:decide ((i:Int)<l.length)=false:=ze hp;rw[zE (by omega)]at ha;simp only[hd,go_sem];exact⟨-1,rfl,by rw[ha];rfl⟩
theorem c26(l:List Int)(hl:l.length<=100000)(p:Int->Bool)(g:Nat)(caps:List IV)(hg:3<=g/\g<G.fns)(hc:∀n:Int,Ctr G.P g (.int n::caps) (· = .bool (p n))):
  Ctr G.P 70 [ints l,.clo g caps] (· = .bool (l.any p)):=by
 have h:=c52 l hl p g caps hg hc;refine ja4 [.tmp 4] Tryz.func70 ?_;simp only[go_sem];refine jfb h ?_;rintro r ⟨k,rfl,hk⟩;rw[<-hk];simp only[go_sem]
end
section
open Go.Abs
attribute [local go_sem] ints ic Bat.c Pap.c Led.c
theorem pb_in(n lo hi:Int):Ctr G.P 30 [.int n,.int lo,.int hi] (· = .bool (btw n lo hi)):=by
 unfold btw;refine ja4 [.tmp 6] Tryz.func30 ?_;simp only[go_sem]
 repeat' (refine jd9 (fun hd hp=> ?_) (fun hd hp=> ?_)<;>simp only[hd,go_sem])
theorem joa(l:List Int)(n:Int)(hl:l.length<=100000):Ctr G.P 31 [ints l,.int n] (· = .bool (riseF l n)):=by
 refine ja4 [.tmp 4] Tryz.func31 ?_;unfold ints riseF;simp only[go_sem];refine jas [0,1,5,8,9,10] [] (fun g:Nat×Int=>⟨[(0,.im (.sl (l.map ic))),(1,.im (.int n)),(5,.im (.int g.2)),(8,.im (.sl (l.map ic))),(9,.im (.int l.length)),(10,.im (.int g.1))],[],[]⟩)
  (fun g=>g.1<=l.length/\jjf n (-1) l=jjf n g.2 (l.drop g.1)) (fun g=>l.length-g.1) (0,-1) ?_ ⟨zI _,rfl⟩ ?_
 ·simp only[za,Int.natCast_zero,go_sem]
 intro⟨i,last⟩ ⟨hi,ha⟩;dsimp only at hi ha;by_cases hp:(i:Int)<l.length
 ·have hd:decide ((i:Int)<l.length)=true:=zh hp;obtain⟨x,hx⟩:=jc7 hp;have h1:=jaa (n:=(i:Int)+1) (by omega);rw[jic hx,jjf]at ha;rcases d1:decide (x<=last)with _ | _
  ·have e1:decide (last<x)=true:=zh (by have:=zK d1;omega);rcases d2:decide (n<=x)with _ | _
   ·have e2:decide (x<n)=true:=zh (by have:=zK d2;omega);rw[e1,e2,qx,qx]at ha;simp only[hd,d1,d2,zq,hx,ic,go_sem];refine jad (i+1,x) ?_ ?_ ⟨?_,ha⟩
    ·simp only[h1,Int.natCast_add,go_sem]
    ·show l.length-(i+1)<l.length-i;omega
    ·show i+1<=l.length;omega
   ·have e2:decide (x<n)=false:=ze (by have:=zF d2;omega);rw[e1,e2,qx,qb]at ha;simp only[hd,d1,d2,zq,hx,ic,ha,qb,go_sem]
  ·have e1:decide (last<x)=false:=ze (by have:=zF d1;omega);rw[e1,qb]at ha;simp only[hd,d1,zq,hx,ic,ha,qb,go_sem]
 ·have hd:decide ((i:Int)<l.length)=false:=ze hp;rw[zX (by omega),jjf]at ha;have e1:decide ((0:Int)<(l.length:Int))=decide (0<l.length):=q5.2 (by omega);rw[ha,qx];simp only[hd,za,e1,go_sem]
theorem pb_index(l:List Int)(v:Int)(hl:l.length<=100000):Ctr G.P 101 [ints l,.int v] (fun r=>∃k:Int,r= .int k/\decide (0<=k)=l.contains v):=by
 refine ja4 [.tmp 4] Tryz.func101 ?_;unfold ints;simp only[go_sem];refine jas [0,1,7,8] [] (fun i:Nat=>⟨[(0,.im (.sl (l.map ic))),(1,.im (.int v)),(7,.im (.int l.length)),(8,.im (.int i))],[],[]⟩)
  (fun i=>i<=l.length/\(l.take i).any (fun x=>decide (v=x))=false) (fun i=>l.length-i) 0 ?_ ⟨zI _,rfl⟩ ?_
 ·simp only[za,Int.natCast_zero,go_sem]
 have hc:l.contains v=l.any (fun x=>decide (v=x)):=by
  rw[List.contains_eq_any_beq];congr 1
 rw[hc];intro i ⟨hi,ha⟩;by_cases hp:(i:Int)<l.length
 ·have hd:decide ((i:Int)<l.length)=true:=zh hp;obtain⟨x,hx⟩:=jc7 hp;have h1:=jaa (n:=(i:Int)+1) (by omega);rcases he:decide (v=x)with _ | _
  ·simp only[hd,zq,hx,ic,he,go_sem];refine jad (i+1) ?_ (by omega) ⟨by omega,by rw[jdf hx,ha,he];rfl⟩;simp only[h1,Int.natCast_add,go_sem]
  ·simp only[hd,zq,hx,ic,he,go_sem];exact⟨i,rfl,by rw[jm4 hx he];simp⟩
 ·have hd:decide ((i:Int)<l.length)=false:=ze hp;rw[zE (by omega)]at ha;simp only[hd,go_sem];exact⟨-1,rfl,by rw[ha];rfl⟩
theorem pb_contains(l:List Int)(v:Int)(hl:l.length<=100000):Ctr G.P 72 [ints l,.int v] (· = .bool (l.contains v)):=by
 have h:=pb_index l v hl;refine ja4 [.tmp 4] Tryz.func72 ?_;simp only[go_sem];refine jfb h ?_;rintro r ⟨k,rfl,hk⟩;rw[<-hk];simp only[go_sem]
theorem pb_over1(b:Bat)(i:Int)(hb:b.mv.length<=100000):Ctr G.P 71 [.int i,.ip b.c 0] (· = .bool (b.mv.contains i)):=by
 have h:=pb_contains b.mv i hb;unfold ints at h;refine ja4 [.tmp 3] Tryz.func71 ?_;simp only[go_sem];refine ja1 h ?_;simp only[go_sem]
theorem jlp(a b:Bat)(ha:a.mv.length<=100000)(hb:b.mv.length<=100000):Ctr G.P 34 [.agg a.c,.agg b.c] (· = .bool (overF a b)):=by
 have h:=c26 a.mv ha (fun i=>b.mv.contains i) 71 [.ip b.c 0] (by decide) (fun i=>pb_over1 b i hb);unfold ints overF at*;rcases hm:decide (a.mat=b.mat)with _ | _
 ·refine ja4 [.tmp 4] Tryz.func34 ?_;simp only[hm,qb,go_sem]
 ·refine ja4 [.tmp 4] Tryz.func34 ?_;simp only[hm,go_sem];refine ja1 h ?_;simp only[qx,go_sem]
theorem pb_live(x:Pap):Ctr G.P 37 [.agg x.c] (· = .bool x.live):=by
 unfold Pap.live;rcases h1:x.ret with _ | _<;>rcases h2:x.gone with _ | _
 all_goals
  refine ja4 [.tmp 2] Tryz.func37 ?_;simp only[h1,h2,go_sem]
end
section
open Go.Abs
attribute [local go_sem] ints ic Bat.c Pap.c Led.c
theorem pb_ibat(l:List Bat)(hl:l.length<=100000)(p:Bat->Bool)(g:Nat)(caps:List IV)(hg:3<=g/\g<G.fns)(hc:∀x∈l,Ctr G.P g (.agg x.c::caps) (· = .bool (p x))):
  Ctr G.P 65 [.sl (l.map Bat.c),.clo g caps] (fun r=>∃k:Int,r= .int k/\decide (0<=k)=l.any p):=by
 refine ja4 [.tmp 4] Tryz.func65 ?_;simp only[go_sem];refine jas [0,1,7,8] [] (fun i:Nat=>⟨[(0,.im (.sl (l.map Bat.c))),(1,.im (.clo g caps)),(7,.im (.int l.length)),(8,.im (.int i))],[],[]⟩)
  (fun i=>i<=l.length/\(l.take i).any p=false) (fun i=>l.length-i) 0 ?_ ⟨zI _,rfl⟩ ?_
 ·simp only[Int.natCast_zero,za,go_sem]
 ·intro i ⟨hi,ha⟩;by_cases hp:(i:Int)<l.length
  ·have hd:decide ((i:Int)<l.length)=true:=zh hp;obtain⟨x,hx⟩:=jc7 hp;have h1:=jaa (n:=(i:Int)+1) (by omega);have hcx:=hc x (zt hx);simp only[Bat.c,ints]at hcx;simp only[hd,zq,hx,go_sem];refine jbr hcx hg ?_;simp only[go_sem];refine jcr (fun he=> ?_) (fun he=> ?_)
   ·simp only[he,go_sem];exact⟨i,rfl,by rw[jm4 hx he];simp⟩
   ·simp only[he,go_sem];refine jad (i+1) ?_ (by omega) ⟨by omega,by rw[jdf hx,ha,he];rfl⟩;simp only[h1,Int.natCast_add,go_sem]
  ·have hd:decide ((i:Int)<l.length)=false:=ze hp;rw[zE (by omega)]at ha;simp only[hd,go_sem];exact⟨-1,rfl,by rw[ha];rfl⟩
theorem pb_cbat(l:List Bat)(hl:l.length<=100000)(p:Bat->Bool)(g:Nat)(caps:List IV)(hg:3<=g/\g<G.fns)(hc:∀x∈l,Ctr G.P g (.agg x.c::caps) (· = .bool (p x))):
  Ctr G.P 32 [.sl (l.map Bat.c),.clo g caps] (· = .bool (l.any p)):=by
 have h:=pb_ibat l hl p g caps hg hc;refine ja4 [.tmp 4] Tryz.func32 ?_;simp only[go_sem];refine jfb h ?_;rintro r ⟨k,rfl,hk⟩;rw[<-hk];simp only[go_sem]
theorem pb_ipap(l:List Pap)(hl:l.length<=100000)(p:Pap->Bool)(g:Nat)(caps:List IV)(hg:3<=g/\g<G.fns)(hc:∀x∈l,Ctr G.P g (.agg x.c::caps) (· = .bool (p x))):
  Ctr G.P 73 [.sl (l.map Pap.c),.clo g caps] (fun r=>∃k:Int,r= .int k/\decide (0<=k)=l.any p):=by
 refine ja4 [.tmp 4] Tryz.func73 ?_;simp only[go_sem];refine jas [0,1,7,8] [] (fun i:Nat=>⟨[(0,.im (.sl (l.map Pap.c))),(1,.im (.clo g caps)),(7,.im (.int l.length)),(8,.im (.int i))],[],[]⟩)
  (fun i=>i<=l.length/\(l.take i).any p=false) (fun i=>l.length-i) 0 ?_ ⟨zI _,rfl⟩ ?_
 ·simp only[Int.natCast_zero,za,go_sem]
 ·intro i ⟨hi,ha⟩;by_cases hp:(i:Int)<l.length
  ·have hd:decide ((i:Int)<l.length)=true:=zh hp;obtain⟨x,hx⟩:=jc7 hp;have h1:=jaa (n:=(i:Int)+1) (by omega);have hcx:=hc x (zt hx);simp only[Pap.c]at hcx;simp only[hd,zq,hx,go_sem];refine jbr hcx hg ?_;simp only[go_sem];refine jcr (fun he=> ?_) (fun he=> ?_)
   ·simp only[he,go_sem];exact⟨i,rfl,by rw[jm4 hx he];simp⟩
   ·simp only[he,go_sem];refine jad (i+1) ?_ (by omega) ⟨by omega,by rw[jdf hx,ha,he];rfl⟩;simp only[h1,Int.natCast_add,go_sem]
  ·have hd:decide ((i:Int)<l.length)=false:=ze hp;rw[zE (by omega)]at ha;simp only[hd,go_sem];exact⟨-1,rfl,by rw[ha];rfl⟩
theorem pb_cpap(l:List Pap)(hl:l.length<=100000)(p:Pap->Bool)(g:Nat)(caps:List IV)(hg:3<=g/\g<G.fns)(hc:∀x∈l,Ctr G.P g (.agg x.c::caps) (· = .bool (p x))):
  Ctr G.P 35 [.sl (l.map Pap.c),.clo g caps] (· = .bool (l.any p)):=by
 have h:=pb_ipap l hl p g caps hg hc;refine ja4 [.tmp 4] Tryz.func35 ?_;simp only[go_sem];refine jfb h ?_;rintro r ⟨k,rfl,hk⟩;rw[<-hk];simp only[go_sem]
theorem pb_right1(a b:Bat)(ha:a.mv.length<=100000)(hb:b.mv.length<=100000):Ctr G.P 33 [.agg a.c,.ip b.c 0] (· = .bool (overF a b)):=by
 have h:=jlp a b ha hb;simp only[Bat.c,ints]at h;refine ja4 [.tmp 3] Tryz.func33 ?_;simp only[go_sem];refine ja1 h ?_;simp only[go_sem]
theorem pb_right2(x:Pap)(p:Led)(hl:p.bs.length<=100000):Ctr G.P 36 [.agg x.c,.ip p.c 0] (· = .bool (!papOk p.bs.length x)):=by
 have k1:=pb_in x.bat 0 ((p.bs.length:Int)-1);have k2:=pb_in x.grams 1 1099511627776;have k3:=pb_in x.own 0 999;have w1:=jaa (n:=(p.bs.length:Int)-1) (by omega);unfold papOk;rcases h1:btw x.bat 0 ((p.bs.length:Int)-1)with _ | _
 ·rw[h1]at k1;refine ja4 [.tmp 3] Tryz.func36 ?_;simp only[za,w1,go_sem];refine ja1 k1 ?_;simp only[go_sem]
 rw[h1]at k1;rcases h2:btw x.grams 1 1099511627776 with _ | _
 ·rw[h2]at k2;refine ja4 [.tmp 3] Tryz.func36 ?_;simp only[za,w1,go_sem];refine ja1 k1 ?_;simp only[go_sem];refine ja1 k2 ?_;simp only[go_sem]
 rw[h2]at k2;rcases h3:btw x.own 0 999 with _ | _
 ·rw[h3]at k3;refine ja4 [.tmp 3] Tryz.func36 ?_;simp only[za,w1,go_sem];refine ja1 k1 ?_;simp only[go_sem];refine ja1 k2 ?_;simp only[go_sem];refine ja1 k3 ?_;simp only[go_sem]
 rw[h3]at k3;rcases h4:x.ret with _ | _<;>rcases h5:x.gone with _ | _
 all_goals
  refine ja4 [.tmp 3] Tryz.func36 ?_;simp only[za,w1,go_sem];refine ja1 k1 ?_;simp only[go_sem];refine ja1 k2 ?_;simp only[go_sem];refine ja1 k3 ?_;simp only[h4,h5,go_sem]
end
section
open Go.Abs
attribute [local go_sem] ints ic Bat.c Pap.c Led.c
def jdk(p:Led):Prop:=∀b∈p.bs,b.mv.length<=100000
theorem jdw(p:Led)(hmv:jdk p):Ctr G.P 10 [.agg p.c] (· = .bool (jb6 p)):=by
 rcases d1:decide (40<(p.bs.length:Int))with _ | _
 case true=>
  have hr:jb6 p=false:=by unfold jb6;rw[ze (by have:=zF d1;omega),qb]
  rw[hr];refine ja4 [.tmp 2] Tryz.func10 ?_;simp only[za,d1,go_sem]
 rcases d2:decide (300<(p.ps.length:Int))with _ | _
 case true=>
  have hr:jb6 p=false:=by unfold jb6;rw[ze (p:=p.ps.length<=300) (by have:=zF d2;omega),qb,y6]
  rw[hr];refine ja4 [.tmp 2] Tryz.func10 ?_;simp only[za,d1,d2,go_sem]
 have b1:=zK d1;have b2:=zK d2;have hr:jb6 p=(jjm [] p.bs&&p.ps.all (papOk p.bs.length)):=by
  unfold jb6;rw[zh (by omega),zh (p:=p.ps.length<=300) (by omega),qx,qx]
 have hall:(p.bs.map Bat.c).all (fun c=>c.length==2)=true:=List.all_eq_true.2 fun c hc=>by
  obtain⟨z,_,rfl⟩:=qg.1 hc;rfl
 have k4:=pb_cpap p.ps (by omega) (fun x=> !papOk p.bs.length x) 36 [.ip p.c 0] (by decide) (fun x _=>pb_right2 x p (by omega));have h4:(!(p.ps.any fun x=> !papOk p.bs.length x))=p.ps.all (papOk p.bs.length):=by rw[List.all_eq_not_any_not]
 rw[hr,<-h4];clear hr h4;generalize (p.ps.any fun x=> !papOk p.bs.length x)=pp at*;simp only[Led.c]at k4;refine ja4 [.tmp 2] Tryz.func10 ?_;simp only[za,d1,d2,go_sem];refine jas [1,16,17,18] [1] (fun i:Nat=>⟨[(1,.loc 1 2 0 0),(16,.im (.sl (p.bs.map Bat.c))),(17,.im (.int p.bs.length)),(18,.im (.int i))],[(1,2,[p.c])],[]⟩)
  (fun i=>i<=p.bs.length/\jjm [] p.bs=jjm (p.bs.take i) (p.bs.drop i)) (fun i=>p.bs.length-i) 0 ?_ ⟨zI _,rfl⟩ ?_
 ·simp only[Int.natCast_zero,za,go_sem]
 intro i ⟨hi,ha⟩;by_cases hp:(i:Int)<p.bs.length
 ·have hd:decide ((i:Int)<p.bs.length)=true:=zh hp;obtain⟨x,hx⟩:=jc7 hp;have h1:=jaa (n:=(i:Int)+1) (by omega);have hxm:=hmv x (zt hx);have k1:=pb_in x.mat 0 5;have k2:=joa x.mv 200 hxm;have k3:=pb_cbat (p.bs.take i) (by rw[qd];omega) (fun a=>overF a x) 33 [.ip x.c 0] (by decide) (fun a ha=>pb_right1 a x (hmv a (qL ha)) hxm);have htk:(p.bs.map Bat.c).take i=(p.bs.take i).map Bat.c:=List.map_take.symm;have hi0:(0:Int)<=(i:Int):=by omega
  have hin:(i:Int)<=(p.bs.length:Int):=by omega
  rw[jic hx,jjm,batOk,<-take_succ hx]at ha;simp only[Bat.c,ints]at k2 k3 hall htk;rcases e1:btw x.mat 0 5 with _ | _
  ·rw[e1,qb,qb]at ha;rw[e1]at k1;simp only[hd,zq,hx,go_sem];refine ja1 k1 ?_;simp only[ha,qb,go_sem]
  rw[e1,qx]at ha;rw[e1]at k1;rcases e2:riseF x.mv 200 with _ | _
  ·rw[e2,qb,qb]at ha;rw[e2]at k2;simp only[hd,zq,hx,go_sem];refine ja1 k1 ?_;simp only[go_sem];refine ja1 k2 ?_;simp only[ha,qb,go_sem]
  rw[e2,qx]at ha;rw[e2]at k2;rcases e3:(p.bs.take i).any (fun a=>overF a x)with _ | _
  ·rw[e3,Bool.not_false,qx]at ha;rw[e3]at k3;simp only[hd,zq,hx,go_sem];refine ja1 k1 ?_;simp only[go_sem];refine ja1 k2 ?_;simp only[hi0,hin,hall,htk,Nat.sub_zero,za,go_sem];refine ja1 k3 ?_;simp only[go_sem];refine jad (i+1) ?_ (by omega) ⟨by omega,ha⟩;simp only[h1,Int.natCast_add,go_sem]
  ·rw[e3,jW,qb]at ha;rw[e3]at k3;simp only[hd,zq,hx,go_sem];refine ja1 k1 ?_;simp only[go_sem];refine ja1 k2 ?_;simp only[hi0,hin,hall,htk,Nat.sub_zero,za,go_sem];refine ja1 k3 ?_;simp only[ha,qb,go_sem]
 ·have hd:decide ((i:Int)<p.bs.length)=false:=ze hp;rw[zX (by omega),jjm]at ha;rw[ha];simp only[hd,go_sem];refine ja1 k4 ?_;simp only[qx,go_sem]
end
section
open Go.Abs
attribute [local go_sem] ints ic Bat.c Pap.c Led.c
theorem jhd(p:Led)(k:Int)(hmv:jdk p):Ctr G.P 29 [.agg p.c,.int k] (· = .int (totF p k)):=by
 have kR:=jdw p hmv;rcases hr:jb6 p with _ | _
 ·have ht:totF p k=0:=by unfold totF;rw[hr,zp (by decide)]
  rw[ht];rw[hr]at kR;refine ja4 [.tmp 4] Tryz.func29 ?_;simp only[go_sem];refine ja1 kR ?_;simp only[go_sem]
 ·have hin:=jmm hr;have hlen:=(jb5 hr).2.1;rw[tot_eq hr];rw[hr]at kR;refine ja4 [.tmp 4] Tryz.func29 ?_;simp only[go_sem];refine ja1 kR ?_;simp only[go_sem];refine jas [1,5,12,13,14] [] (fun g:Nat×Int=>⟨[(1,.im (.int k)),(5,.im (.int g.2)),(12,.im (.sl (p.ps.map Pap.c))),(13,.im (.int p.ps.length)),(14,.im (.int g.1))],[],[]⟩)
   (fun g=>g.1<=p.ps.length/\sumG (tk k) p.ps=g.2+sumG (tk k) (p.ps.drop g.1)/\0<=g.2/\g.2<=1099511627776*g.1) (fun g=>p.ps.length-g.1) (0,0) ?_ ⟨zI _,by simp,by simp,by simp⟩ ?_
  ·simp only[za,Int.natCast_zero,go_sem]
  intro⟨i,acc⟩ ⟨hi,ha,hb,hc⟩;dsimp only at hi ha hb hc;by_cases hp:(i:Int)<p.ps.length
  ·have hd:decide ((i:Int)<p.ps.length)=true:=zh hp;obtain⟨x,hx⟩:=jc7 hp;have h1:=jaa (n:=(i:Int)+1) (by omega);obtain⟨_,_,x1,x2⟩:=hin x (zt hx);have h2:=jaa (n:=acc+x.grams) (by omega);rw[jic hx,sumG]at ha;rcases e1:decide (x.bat=k)with _ | _
   ·rw[show tk k x=false by simp[tk,e1],zp (by decide),yI]at ha;simp only[hd,e1,zq,hx,go_sem];refine jad (i+1,acc) ?_ ?_ ⟨?_,ha,hb,?_⟩
    ·simp only[h1,Int.natCast_add,go_sem]
    ·show p.ps.length-(i+1)<p.ps.length-i;omega
    ·show i+1<=p.ps.length;omega
    ·show acc<=1099511627776*((i+1:Nat):Int);omega
   ·rcases e2:x.gone with _ | _
    ·rw[show tk k x=true by simp[tk,e1,e2],zm rfl]at ha;simp only[hd,e1,e2,zq,hx,go_sem];refine jad (i+1,acc+x.grams) ?_ ?_ ⟨?_,by rw[ha];simp only[Int.add_assoc],?_,?_⟩
     ·simp only[h1,h2,Int.natCast_add,go_sem]
     ·show p.ps.length-(i+1)<p.ps.length-i;omega
     ·show i+1<=p.ps.length;omega
     ·show 0<=acc+x.grams;omega
     ·show acc+x.grams<=1099511627776*((i+1:Nat):Int);omega
    ·rw[show tk k x=false by simp[tk,e2],zp (by decide),yI]at ha;simp only[hd,e1,e2,zq,hx,go_sem];refine jad (i+1,acc) ?_ ?_ ⟨?_,ha,hb,?_⟩
     ·simp only[h1,Int.natCast_add,go_sem]
     ·show p.ps.length-(i+1)<p.ps.length-i;omega
     ·show i+1<=p.ps.length;omega
     ·show acc<=1099511627776*((i+1:Nat):Int);omega
  ·have hd:decide ((i:Int)<p.ps.length)=false:=ze hp;rw[zX (by omega),sumG,q7]at ha;simp only[hd,ha,go_sem]
end
section
open Go.Abs
attribute [local go_sem] ints ic Bat.c Pap.c Led.c
def jll(b:Bat):Bool:=decide ((b.mv.length:Int)<=20)
def fewF(p:Led):Bool:=(p.bs.take 50).all jll&&(decide ((p.bs.length:Int)<=20)&&(decide ((p.ps.length:Int)<=40) || (decide (295<(p.ps.length:Int))&&decide ((p.ps.length:Int)<=305))))
theorem all_take1{α:Type}{l:List α}{f:α->Bool}{i:Nat}{x:α}(h:l[i]? =some x):(l.take (i+1)).all f=((l.take i).all f&&f x):=by
 rw[take_succ h,vA];simp
theorem pb_few(p:Led):Ctr G.P 9 [.agg p.c] (· = .bool (fewF p)):=by
 refine ja4 [.tmp 2] Tryz.func9 ?_;simp only[go_sem];refine jas [1,3] [1] (fun i:Nat=>⟨[(1,.loc 1 2 0 0),(3,.im (.int i))],[(1,2,[p.c])],[]⟩)
  (fun i=>i<=p.bs.length/\i<=50/\(p.bs.take i).all jll=true) (fun i=>p.bs.length-i) 0 ?_ ⟨zI _,zI _,rfl⟩ ?_
 ·simp only[Int.natCast_zero,go_sem]
 intro i ⟨hi,h50,ha⟩;have fin:(p.bs.take 50).all jll=true->fewF p=(decide ((p.bs.length:Int)<=20)&&(decide ((p.ps.length:Int)<=40) || (decide (295<(p.ps.length:Int))&&decide ((p.ps.length:Int)<=305)))):=fun h=>by unfold fewF;rw[h,qx]
 by_cases hp:(i:Int)<p.bs.length
 ·have hd:decide ((i:Int)<p.bs.length)=true:=zh hp;rcases d5:decide ((i:Int)<50)with _ | _
  ·have h5:i=50:=by have:=zK d5;omega
   rw[h5]at ha;rw[fin ha];simp only[za,hd,d5,go_sem]
   repeat' (first | (refine jcr (fun hd=> ?_) (fun hd=> ?_)<;>simp only[*,za,go_sem]))
  ·have b5:=zF d5;obtain⟨x,hx⟩:=jc7 hp;have h1:=jaa (n:=(i:Int)+1) (by omega);rcases d6:decide (20<(x.mv.length:Int))with _ | _
   ·simp only[za,hd,d5,d6,zq,hx,go_sem];refine jad (i+1) ?_ (by omega) ⟨by omega,by omega,?_⟩
    ·simp only[h1,Int.natCast_add,go_sem]
    ·rw[all_take1 hx,ha,qx];exact zh (by have:=zK d6;omega)
   ·have hf:fewF p=false:=by
     unfold fewF;have:(p.bs.take 50).all jll=false:=by
      rw[vg];refine⟨x,zt (i:=i) (by rw[qj,zm (by omega)];exact hx),?_⟩;have:=zF d6;simp[jll];omega
     rw[this,qb]
    rw[hf];simp only[za,hd,d5,d6,zq,hx,go_sem]
 ·have hd:decide ((i:Int)<p.bs.length)=false:=ze hp;rw[zE (by omega)]at ha;have h50:(p.bs.take 50).all jll=true:=List.all_eq_true.2 fun x hx=>List.all_eq_true.1 ha x (qL hx);rw[fin h50];simp only[za,hd,go_sem]
  repeat' (first | (refine jcr (fun hd=> ?_) (fun hd=> ?_)<;>simp only[*,za,go_sem]))
theorem jou{p:Led}(h:fewF p=true):p.bs.length<=20/\p.ps.length<=305/\jdk p/\∀b∈p.bs,b.mv.length<=20:=by
 simp only[fewF,zD,qC,zY]at h;obtain⟨h1,h2,h3⟩:=h;rw[zE (by omega),List.all_eq_true]at h1;have h4:∀b∈p.bs,b.mv.length<=20:=fun b hb=>by have:=zF (h1 b hb);omega
 exact⟨by omega,by omega,fun b hb=>by have:=h4 b hb;omega,h4⟩
def bl(b:Bool):List IV:=[.bool b]
theorem jqk(l m:List Bool)(hl:l.length<=100000):Ctr G.P 28 [.sl (l.map bl),.sl (m.map bl)] (· = .bool (decide (l=m))):=by
 refine ja4 [.tmp 4] Tryz.func28 ?_;rcases d0:decide ((l.length:Int)=(m.length:Int))with _ | _
 ·have hne:decide (l=m)=false:=ze fun e=>by subst e;simp at d0
  rw[hne];simp only[za,d0,go_sem]
 have hlm:l.length=m.length:=by have:=zF d0;omega
 simp only[za,d0,go_sem];refine jas [0,1,5] [] (fun i:Nat=>⟨[(0,.im (.sl (l.map bl))),(1,.im (.sl (m.map bl))),(5,.im (.int i))],[],[]⟩)
  (fun i=>i<=l.length/\l.take i=m.take i) (fun i=>l.length-i) 0 ?_ ⟨zI _,rfl⟩ ?_
 ·simp only[Int.natCast_zero,go_sem]
 intro i ⟨hi,ha⟩;by_cases hp:(i:Int)<l.length
 ·have hd:decide ((i:Int)<l.length)=true:=zh hp;obtain⟨x,hx⟩:=jc7 hp;obtain⟨y,hy⟩:=jc7 (l:=m) (i:=i) (by omega);have h1:=jaa (n:=(i:Int)+1) (by omega);by_cases e:x=y
  ·subst e;simp only[hd,za,go_sem];refine jai 9 ?_;cases x
   ·simp only[zq,hx,hy,bl,go_sem];refine jad (i+1) ?_ (by omega) ⟨by omega,by rw[take_succ hx,take_succ hy,ha]⟩;simp only[h1,Int.natCast_add,go_sem]
   ·simp only[zq,hx,hy,bl,go_sem];refine jad (i+1) ?_ (by omega) ⟨by omega,by rw[take_succ hx,take_succ hy,ha]⟩;simp only[h1,Int.natCast_add,go_sem]
  ·have hne:decide (l=m)=false:=ze fun h=>by subst h;rw[hx]at hy;cases hy;exact e rfl
   rw[hne];simp only[hd,za,go_sem];refine jai 9 ?_;cases x<;>cases y
   ·exact absurd rfl e
   ·simp only[zq,hx,hy,bl,go_sem]
   ·simp only[zq,hx,hy,bl,go_sem]
   ·exact absurd rfl e
 ·have hd:decide ((i:Int)<l.length)=false:=ze hp;rw[zE (by omega),zE (by omega)]at ha;rw[zh ha];simp only[hd,za,go_sem]
end
section
open Go.Abs
attribute [local go_sem] ints ic Bat.c Pap.c Led.c
theorem pb_iint(l:List Int)(hl:l.length<=100000)(p:Int->Bool)(g:Nat)(caps:List IV)(hg:3<=g/\g<G.fns)(hc:∀n∈l,Ctr G.P g (.int n::caps) (· = .bool (p n))):
  Ctr G.P 100 [ints l,.clo g caps] (fun r=>∃k:Int,r= .int k/\decide (0<=k)=l.any p):=by
 refine ja4 [.tmp 4] Tryz.func100 ?_;unfold ints;simp only[go_sem];refine jas [0,1,7,8] [] (fun i:Nat=>⟨[(0,.im (.sl (l.map ic))),(1,.im (.clo g caps)),(7,.im (.int l.length)),(8,.im (.int i))],[],[]⟩)
  (fun i=>i<=l.length/\(l.take i).any p=false) (fun i=>l.length-i) 0 ?_ ⟨zI _,rfl⟩ ?_
 ·simp only[Int.natCast_zero,za,go_sem]
 ·intro i ⟨hi,ha⟩;by_cases hp:(i:Int)<l.length
  ·have hd:decide ((i:Int)<l.length)=true:=zh hp;obtain⟨x,hx⟩:=jc7 hp;have h1:=jaa (n:=(i:Int)+1) (by omega);simp only[hd,zq,hx,ic,go_sem];refine jbr (hc x (zt hx)) hg ?_;simp only[go_sem];refine jcr (fun he=> ?_) (fun he=> ?_)
   ·simp only[he,go_sem];exact⟨i,rfl,by rw[jm4 hx he];simp⟩
   ·simp only[he,go_sem];refine jad (i+1) ?_ (by omega) ⟨by omega,by rw[jdf hx,ha,he];rfl⟩;simp only[h1,Int.natCast_add,go_sem]
  ·have hd:decide ((i:Int)<l.length)=false:=ze hp;rw[zE (by omega)]at ha;simp only[hd,go_sem];exact⟨-1,rfl,by rw[ha];rfl⟩
theorem jpj(l:List Int)(hl:l.length<=100000)(p:Int->Bool)(g:Nat)(caps:List IV)(hg:3<=g/\g<G.fns)(hc:∀n∈l,Ctr G.P g (.int n::caps) (· = .bool (p n))):
  Ctr G.P 70 [ints l,.clo g caps] (· = .bool (l.any p)):=by
 have h:=pb_iint l hl p g caps hg hc;refine ja4 [.tmp 4] Tryz.func70 ?_;simp only[go_sem];refine jfb h ?_;rintro r ⟨k,rfl,hk⟩;rw[<-hk];simp only[go_sem]
theorem pb_step2(p:Led)(i:Int)(hl:p.ps.length<=100000):Ctr G.P 76 [.int i,.ip p.c 0] (· = .bool (!btw i 0 ((p.ps.length:Int)-1))):=by
 have k1:=pb_in i 0 ((p.ps.length:Int)-1);have w1:=jaa (n:=(p.ps.length:Int)-1) (by omega);refine ja4 [.tmp 3] Tryz.func76 ?_;simp only[za,w1,go_sem];refine ja1 k1 ?_;simp only[go_sem]
theorem pb_step3(x:Pap)(b:Int):Ctr G.P 77 [.agg x.c,.ip [.int b] 0] (· = .bool (!decide (x.own=b))):=by
 refine ja4 [.tmp 3] Tryz.func77 ?_;simp only[go_sem]
theorem pb_step4(x:Pap):Ctr G.P 78 [.agg x.c] (· = .bool (!x.live)):=by
 have k1:=pb_live x;simp only[Pap.c]at k1;refine ja4 [.tmp 2] Tryz.func78 ?_;simp only[go_sem];refine ja1 k1 ?_;simp only[go_sem]
def atF(p:Led)(f:Pap->Bool)(i:Int):Bool:=match p.ps[i.toNat]? with
 | some x=>f x
 | none=>false
theorem pb_step11(p:Led)(f:Pap->Bool)(g:Nat)(caps:List IV)(hg:3<=g/\g<G.fns)(hc:∀x∈p.ps,Ctr G.P g (.agg x.c::caps) (· = .bool (f x)))(i:Int)(hi:btw i 0 ((p.ps.length:Int)-1)=true):
  Ctr G.P 75 [.int i,.ip [.clo g caps] 0,.ip p.c 0] (· = .bool (atF p f i)):=by
 have hb:=btw_iff.1 hi;obtain⟨n,rfl⟩:=yZ hb.1;have hn:n<p.ps.length:=by omega
 obtain⟨x,hx⟩:∃x,p.ps[n]? =some x:=⟨_,zk hn⟩;have hcx:=hc x (zt hx);unfold atF;rw[Int.toNat_natCast,hx];simp only[Pap.c]at hcx;refine ja4 [.tmp 4] Tryz.func75 ?_;simp only[go_sem];refine jai 8 ?_;simp only[zq,hx,hn,za,go_sem];refine ja8 hcx hg ?_;simp only[go_sem]
theorem jqi(p:Led)(is:List Int)(hl:is.length<=100000)(f:Pap->Bool)(g:Nat)(caps:List IV)(hg:3<=g/\g<G.fns)(hc:∀x∈p.ps,Ctr G.P g (.agg x.c::caps) (· = .bool (f x)))(hi:∀i∈is,btw i 0 ((p.ps.length:Int)-1)=true):
  Ctr G.P 74 [.clo g caps,.ip [ints is] 0,.ip p.c 0] (· = .bool (someF p f is)):=by
 have h:=jpj is hl (atF p f) 75 [.ip [.clo g caps] 0,.ip p.c 0] (by decide) (fun i hm=>pb_step11 p f g caps hg hc i (hi i hm));have e:is.any (atF p f)=someF p f is:=rfl;rw[e]at h;simp only[ints,Led.c]at h;refine ja4 [.tmp 4] Tryz.func74 ?_;simp only[go_sem];refine ja1 h ?_;simp only[go_sem]
end
end Go.Proofs.YtgncgpfjldefpaaGreat
namespace Go.Abs
section
def val:List Int->Int
 | []=>0
 | d::l=>d+1048576*val l
def OkD(l:List Int):Prop:=∀d∈l,0<=d/\d<1048576
def dgt(l:List Int)(i:Nat):Int:=(l[i]?).getD 0
def dig(n:Nat):List Int:=if h:n=0 then []else((n % 1048576:Nat):Int)::dig (n/1048576)
 termination_by n
 decreasing_by omega
theorem OkD.nil:OkD []:=fun _ h=>by cases h
theorem OkD.cons{d:Int}{l:List Int}(h:0<=d/\d<1048576)(hl:OkD l):OkD (d::l):=fun x hx=>by
 rcases zU.1 hx with rfl | hx
 ·exact h
 ·exact hl x hx
theorem OkD.tail{d:Int}{l:List Int}(h:OkD (d::l)):OkD l:=fun x hx=>h x (qw _ hx)
theorem OkD.head{d:Int}{l:List Int}(h:OkD (d::l)):0<=d/\d<1048576:=h d (qy ..)
theorem OkD.take{l:List Int}(h:OkD l)(n:Nat):OkD (l.take n):=fun x hx=>h x (qL hx)
theorem OkD.drop{l:List Int}(h:OkD l)(n:Nat):OkD (l.drop n):=fun x hx=>h x (yy hx)
theorem OkD.append{a b:List Int}(ha:OkD a)(hb:OkD b):OkD (a++b):=fun x hx=>(qA.1 hx).elim (ha x) (hb x)
theorem OkD.dgt{l:List Int}(h:OkD l)(i:Nat):0<=dgt l i/\dgt l i<1048576:=by
 unfold Go.Abs.dgt;cases hi:l[i]? with
 | none=>simp
 | some d=>exact h d (zt hi)
theorem jb9:∀{l:List Int},OkD l->0<=val l
 | [],_=>yx _
 | d::l,h=>by
  have:=jb9 h.tail;have:=h.head;simp only[val];omega
theorem jem:∀{l:List Int},OkD l->val l<1048576^l.length
 | [],_=>by simp[val]
 | d::l,h=>by
  have h1:=jem h.tail;have h2:=h.head;simp only[val,List.length_cons,Int.pow_succ];omega
theorem jc0:dig 0=[]:=by rw[dig];simp
theorem jgg{n:Nat}(h:n≠0):dig n=((n % 1048576:Nat):Int)::dig (n/1048576):=by
 conv=>lhs;rw[dig]
 rw[dif_neg h]
theorem jc6(n:Nat):OkD (dig n):=by
 induction n using Nat.strongRecOn with
 | _ n ih=>
  by_cases h:n=0
  ·subst h;rw[jc0];exact OkD.nil
  ·rw[jgg h];exact OkD.cons (by omega) (ih _ (by omega))
theorem jbe(n:Nat):val (dig n)=n:=by
 induction n using Nat.strongRecOn with
 | _ n ih=>
  by_cases h:n=0
  ·subst h;rw[jc0];rfl
  ·rw[jgg h,val,ih _ (by omega)];omega
theorem dig_nil{n:Nat}:dig n=[]↔n=0:=by
 constructor
 ·intro h;have:=jbe n;rw[h]at this;simp only[val]at this;omega
 ·intro h;subst h;exact jc0
theorem eq_dig:∀{l:List Int},OkD l->l.getLast? ≠some 0->l=dig (val l).toNat
 | [],_,_=>by simp[val,jc0]
 | d::l,h,hl=>by
  have hd:=h.head;have hv:=jb9 h.tail;cases l with
  | nil=>
   have:d≠0:=fun e=>hl (by simp[e]);simp only[val,q6,q7];rw[jgg (by omega),show d.toNat/1048576=0 by omega,jc0];congr 1;omega
  | cons e l=>
   have hl':(e::l).getLast? ≠some 0:=by rw[List.getLast?_cons_cons]at hl;exact hl
   have ih:=eq_dig h.tail hl';have hne:(val (e::l)).toNat≠0:=fun h0=>by rw[h0,jc0]at ih;cases ih
   generalize hw:e::l=w at*;have hval:val (d::w)=d+1048576*val w:=rfl;rw[jgg (by omega),show(val (d::w)).toNat/1048576=(val w).toNat by omega,<-ih];congr 1;omega
theorem jmy(n:Nat):(dig n).getLast? ≠some 0:=by
 induction n using Nat.strongRecOn with
 | _ n ih=>
  by_cases h:n=0
  ·subst h;rw[jc0];simp
  ·rw[jgg h];by_cases h2:n/1048576=0
   ·rw[h2,jc0];simp;omega
   ·have:=ih (n/1048576) (by omega);cases hd:dig (n/1048576)with
    | nil=>rw[dig_nil]at hd;exact absurd hd h2
    | cons e l=>rw[List.getLast?_cons_cons,<-hd];exact this
theorem jey:∀(a b:List Int),val (a++b)=val a+1048576^a.length*val b
 | [],b=>by simp[val]
 | d::a,b=>by
  simp only[List.cons_append,val,jey a b,List.length_cons,Int.pow_succ,qu,qG];rw[jT (1048576:Int)];omega
theorem jck(l:List Int)(i:Nat):val (l.take (i+1))=val (l.take i)+1048576^i*dgt l i:=by
 rcases zV i l.length with h | h
 ·rw[List.take_succ_eq_append_getElem h,jey];have:(l.take i).length=i:=by rw[qd];omega
  have hd:dgt l i=l[i]:=by unfold dgt;rw[zk h];rfl
  rw[this,hd];have hs:val [l[i]]=l[i]:=by
   show l[i]+1048576*0=l[i];omega
  rw[hs]
 ·rw[zE (by omega),zE h,show dgt l i=0 by unfold dgt;rw[q8 h];rfl,q6,q7]
theorem jd6(l:List Int)(i:Nat):val l=val (l.take i)+1048576^i*val (l.drop i):=by
 rcases zV i l.length with h | h
 ·conv=>lhs;rw[<-jq i l]
  rw[jey];have:(l.take i).length=i:=by rw[qd];omega
  rw[this]
 ·rw[zE h,zX h];simp[val]
theorem jcx(l:List Int)(i:Nat):val (l.drop i)=dgt l i+1048576*val (l.drop (i+1)):=by
 rcases zV i l.length with h | h
 ·rw[qN h,val];simp[dgt,h]
 ·rw[zX h,zX (by omega)];simp[val,dgt,q8 h]
theorem jfl(a b:List Int):∀(n k:Nat),a.length+b.length<=k+n->(∀j,k<=j->dgt a j=dgt b j)->val (a.drop k)=val (b.drop k)
 | 0,k,h,_=>by rw[zX (by omega),zX (by omega)]
 | n+1,k,h,hj=>by
  rw[jcx a,jcx b,hj k (zu _),jfl a b n (k+1) (by omega) fun j h=>hj j (by omega)]
theorem jdv(i:Nat):(0:Int)<1048576^i:=Int.pow_pos (by omega)
theorem jdn{l:List Int}(h:OkD l)(i:Nat):val (l.take i)<1048576^i:=by
 have h1:=jem (h.take i);have h2:(1048576:Int)^(l.take i).length<=1048576^i:=by
  have hl:(l.take i).length<=i:=by rw[qd];omega
  have h3:(1048576:Nat)^(l.take i).length<=1048576^i:=qV (by omega) hl;have h4:=j4.2 h3;rw[Int.natCast_pow,Int.natCast_pow]at h4;exact h4
 omega
theorem lt_at{a b:List Int}(ha:OkD a)(hb:OkD b)(i:Nat)(h:∀j,i<j->dgt a j=dgt b j)(hlt:dgt a i<dgt b i):val a<val b:=by
 have e:val (a.drop (i+1))=val (b.drop (i+1)):=jfl a b (a.length+b.length) (i+1) (by omega) fun j hj=>h j (by omega);have h1:=jdn ha i;have h2:=jb9 (hb.take i);have hp:=jdv i;rw[jd6 a i,jd6 b i,jcx a i,jcx b i,e];generalize val (b.drop (i+1))=v;generalize (1048576:Int)^i=p at*;have h3:p*(dgt a i+1048576*v)+p<=p*(dgt b i+1048576*v):=by
  have:p*(dgt a i+1048576*v)+p=p*(dgt a i+1+1048576*v):=by rw[qu,qu,qu];omega
  rw[this];exact qf (by omega) (by omega)
 omega
theorem jqf{a b:List Int}(h:∀j,dgt a j=dgt b j):val a=val b:=by
 have:=jfl a b (a.length+b.length) 0 (by omega) fun j _=>h j
 simpa using this
theorem dgt_take{l:List Int}{n j:Nat}(h:∀i,n<=i->dgt l i=0):dgt (l.take n) j=dgt l j:=by
 unfold dgt at*;rw[qj];split
 ·rfl
 ·rename_i hj;exact(h j (by omega)).symm
theorem jq9{l:List Int}(hl:OkD l){n:Nat}(hn:n<=l.length)(hz:∀i,n<=i->dgt l i=0)(hlast:n=0\/dgt l (n-1)≠0):l.take n=dig (val l).toNat:=by
 have hv:val (l.take n)=val l:=jqf fun j=>dgt_take hz;rw[<-hv];refine eq_dig (hl.take n) fun h=> ?_;rcases hlast with h0 | h0
 ·subst h0;simp at h
 ·have hlen:(l.take n).length=n:=by rw[qd];omega
  rw[yN,hlen]at h;have hn0:0<n:=by
   rcases yK n with e | e
   ·subst e;simp at h
   ·exact e
  rw[qj,zm (by omega)]at h;exact h0 (by simp[dgt,h])
end
end Go.Abs
