/- A part of the proof. No further condition. -/
import Derived.Test.YtgncgpfjldefpaaGreatKX10
set_option linter.all false
set_option maxRecDepth 100000
namespace Go.Proofs.YtgncgpfjldefpaaGreat
section
open Go.Abs
attribute [local go_sem] Evid.iv Evid.c Place.c Move.c Cert.c Recall.c Purity.c Sample.c Recipe.c ints ic
def jlt(e:Evid)(i:Int):Int:=match e.places[i.toNat]? with
 | some p=>p.kind
 | none=>0
theorem jog{e:Evid}{i:Int}{p:Place}(h:e.places[i.toNat]? =some p):jlt e i=p.kind:=by simp[jlt,h]
def moveF(e:Evid)(m:Move):Bool:=
 idx m.fr e.places.length&&idx m.to e.places.length&& !decide (m.fr=m.to)&& !decide (jlt e m.fr=5)&& !decide (jlt e m.fr=6)&& !(decide (jlt e m.fr=0)&&m.all)&& !decide (jlt e m.to=0)&&
  (if m.scale= -1 then decide (m.reading=0)else idx m.scale e.scales&&btw m.reading 0 1099511627776)
theorem at_idx{α:Type}{l:List α}{i:Int}(h:idx i l.length=true):∃x,l[i.toNat]? =some x/\0<=i:=by
 rw[jpd]at h;exact⟨_,List.getElem?_eq_getElem (by omega),h.1⟩
set_option maxHeartbeats 1000000 in
theorem c48(e:Evid)(m:Move):Ctr G.P 58 [e.iv,.agg m.c] (· = .bool (moveF e m)):=by
 rcases hf:idx m.fr e.places.length with _ | _
 ·have hm:moveF e m=false:=by simp[moveF,hf]
  refine jab good _ _ [.tmp 4] Tryz.func58 rfl rfl (by decide+kernel) rfl ?_;unfold Evid.iv Evid.c Move.c;rw[hm];simp only[go_sem]
  repeat' (first | (refine jcv (fun hd=> ?_) (fun hd=> ?_)<;>simp only[*,go_sem]) | (refine ja1 (c67 _ _) (by first | decide | assumption) ?_;simp only[*,go_sem]) | (refine ja8 (c67 _ _) (by decide) ?_;simp only[*,go_sem]))
 ·obtain⟨p,hp,h0⟩:=at_idx hf;have hkp:=jog hp;rcases ht:idx m.to e.places.length with _ | _
  ·have hm:moveF e m=false:=by simp[moveF,ht]
   refine jab good _ _ [.tmp 4] Tryz.func58 rfl rfl (by decide+kernel) rfl ?_;unfold Evid.iv Evid.c Move.c;rw[hm];simp only[go_sem]
   repeat' (first | (refine jcv (fun hd=> ?_) (fun hd=> ?_)<;>simp only[*,go_sem]) | (refine ja1 (c67 _ _) (by first | decide | assumption) ?_;simp only[*,go_sem]) | (refine ja8 (c67 _ _) (by decide) ?_;simp only[*,go_sem]))
  ·obtain⟨q,hq,h1⟩:=at_idx ht;have hkq:=jog hq;have hm:moveF e m=(!decide (m.fr=m.to)&& !decide (p.kind=5)&& !decide (p.kind=6)&& !(decide (p.kind=0)&&m.all)&& !decide (q.kind=0)&&
    (if m.scale= -1 then decide (m.reading=0)else idx m.scale e.scales&&btw m.reading 0 1099511627776)):=by simp[moveF,hf,ht,hkp,hkq]
   refine jab good _ _ [.tmp 4] Tryz.func58 rfl rfl (by decide+kernel) rfl ?_;unfold Evid.iv Evid.c Move.c;rw[hm];clear hm hkp hkq;simp only[go_sem]
   repeat' (first | (refine jcv (fun hd=> ?_) (fun hd=> ?_)<;>simp only[*,List.getElem?_map,Place.c,go_sem]) | (refine ja1 (c67 _ _) (by first | decide | assumption) ?_;simp only[*,List.getElem?_map,Place.c,go_sem]) | (refine ja1 (c68 _ _ _) (by first | decide | assumption) ?_;simp only[*,List.getElem?_map,Place.c,go_sem]) | (refine ja8 (c67 _ _) (by decide) ?_;simp only[*,List.getElem?_map,Place.c,go_sem]) | (refine ja8 (c68 _ _ _) (by decide) ?_;simp only[*,List.getElem?_map,Place.c,go_sem]))
   all_goals simp_all
end
section
open Go.Abs
attribute [local go_sem] Evid.iv Evid.c Place.c Move.c Cert.c Recall.c Purity.c Sample.c Recipe.c ints ic
def certF(e:Evid)(c:Cert):Bool:=decide (0<=c.fr)&&decide (c.fr<=c.until')&&decide (c.until'<=100000)&&idx c.scale e.scales&&btw c.grams 0 1099511627776&&btw c.perMille 0 1000&&btw c.drift 0 10000000
def jis(e:Evid)(r:Recall):Bool:=idx r.scale e.scales&&btw r.since 0 100000
def purF(e:Evid)(p:Purity):Bool:=idx p.move e.moves.length&&idx p.mat e.mats&& !decide (p.least<0)&& !decide (p.most<p.least)&& !decide (1000<p.most)
def saidF(e:Evid):Bool:=e.certs.all (certF e)&&e.recalls.all (jis e)&&e.purs.all (purF e)
theorem jbv{α:Type}{l:List α}{i:Nat}(h:(i:Int)<l.length):∃x,l[i]? =some x:=⟨_,List.getElem?_eq_getElem (by omega)⟩
set_option maxHeartbeats 2000000 in
theorem c49(e:Evid)(h5:e.certs.length<=1000)(h6:e.recalls.length<=1000)(h7:e.purs.length<=1000):Ctr G.P 59 [e.iv] (· = .bool (saidF e)):=by
 refine jab good _ _ [.tmp 2] Tryz.func59 rfl rfl (by decide+kernel) rfl ?_;unfold Evid.iv Evid.c;simp only[go_sem];refine jaq [1,11,12,13] [1] (fun i:Nat=>⟨[(1,.loc 1 8 0 0),(11,.im (.sl (e.certs.map Cert.c))),(12,.im (.int e.certs.length)),(13,.im (.int i))],[(1,8,[e.c])],[]⟩)
  (fun i=>i<=e.certs.length/\(e.certs.take i).all (certF e)=true) (fun i=>e.certs.length-i) 0 ?_ ⟨Nat.zero_le _,rfl⟩ ?_
 ·simp only[Evid.c,Int.natCast_zero,go_sem]
 ·intro i ⟨hi,ha⟩;by_cases hp:(i:Int)<e.certs.length
  ·have hd:decide ((i:Int)<e.certs.length)=true:=decide_eq_true hp;obtain⟨x,hx⟩:=jbv hp;have h1:=jaa (n:=(i:Int)+1) (by omega);have hat:=je3 (f:=certF e) hx;have hn:certF e x=false->saidF e=false:=fun h=>by simp[saidF,jl5 hx h]
   simp only[hd,List.getElem?_map,hx,Cert.c,Evid.c,go_sem]
   repeat' (first | (refine jcv (fun hd=> ?_) (fun hd=> ?_)<;>simp only[*,go_sem]) | (refine ja1 (c67 _ _) (by first | decide | assumption) ?_;simp only[*,go_sem]) | (refine ja1 (c68 _ _ _) (by first | decide | assumption) ?_;simp only[*,go_sem]) | (refine ja8 (c67 _ _) (by decide) ?_;simp only[*,go_sem]) | (refine ja8 (c68 _ _ _) (by decide) ?_;simp only[*,go_sem]))
   all_goals first
    | (refine jad (i+1) ?_ ?_ ⟨?_,?_⟩
       ·simp only[h1,Evid.c,Int.natCast_add,go_sem]
       ·omega
       ·omega
       ·rw[hat,ha,Bool.true_and];clear hn hat ha h1;simp_all[certF]
       done)
    | (rw[hn (by clear hn hat ha h1;simp_all[certF]<;>(intros;omega))];done)
  ·have hd:decide ((i:Int)<e.certs.length)=false:=decide_eq_false hp;rw[List.take_of_length_le (by omega)]at ha;simp only[hd,Evid.c,go_sem];clear hd hp hi;refine jaq [1,62,63,64] [1] (fun i:Nat=>⟨[(1,.loc 1 8 0 0),(62,.im (.sl (e.recalls.map Recall.c))),(63,.im (.int e.recalls.length)),(64,.im (.int i))],[(1,8,[e.c])],[]⟩)
    (fun i=>i<=e.recalls.length/\(e.recalls.take i).all (jis e)=true) (fun i=>e.recalls.length-i) 0 ?_ ⟨Nat.zero_le _,rfl⟩ ?_
   ·simp only[Evid.c,Int.natCast_zero,go_sem]
   ·intro i ⟨hi,hb⟩;by_cases hp:(i:Int)<e.recalls.length
    ·have hd:decide ((i:Int)<e.recalls.length)=true:=decide_eq_true hp;obtain⟨x,hx⟩:=jbv hp;have h1:=jaa (n:=(i:Int)+1) (by omega);have hat:=je3 (f:=jis e) hx;have hn:jis e x=false->saidF e=false:=fun h=>by simp[saidF,jl5 hx h]
     simp only[hd,List.getElem?_map,hx,Recall.c,Evid.c,go_sem]
     repeat' (first | (refine jcv (fun hd=> ?_) (fun hd=> ?_)<;>simp only[*,go_sem]) | (refine ja1 (c67 _ _) (by first | decide | assumption) ?_;simp only[*,go_sem]) | (refine ja1 (c68 _ _ _) (by first | decide | assumption) ?_;simp only[*,go_sem]) | (refine ja8 (c67 _ _) (by decide) ?_;simp only[*,go_sem]) | (refine ja8 (c68 _ _ _) (by decide) ?_;simp only[*,go_sem]))
     all_goals first
      | (refine jad (i+1) ?_ ?_ ⟨?_,?_⟩
         ·simp only[h1,Evid.c,Int.natCast_add,go_sem]
         ·omega
         ·omega
         ·rw[hat,hb,Bool.true_and];clear hn hat hb h1;simp_all[jis]
         done)
      | (rw[hn (by clear hn hat hb h1;simp_all[jis])];done)
    ·have hd:decide ((i:Int)<e.recalls.length)=false:=decide_eq_false hp;rw[List.take_of_length_le (by omega)]at hb;simp only[hd,Evid.c,go_sem];clear hd hp hi;refine jaq [1,82,83,84] [1] (fun i:Nat=>⟨[(1,.loc 1 8 0 0),(82,.im (.sl (e.purs.map Purity.c))),(83,.im (.int e.purs.length)),(84,.im (.int i))],[(1,8,[e.c])],[]⟩)
      (fun i=>i<=e.purs.length/\(e.purs.take i).all (purF e)=true) (fun i=>e.purs.length-i) 0 ?_ ⟨Nat.zero_le _,rfl⟩ ?_
     ·simp only[Evid.c,Int.natCast_zero,go_sem]
     ·intro i ⟨hi,hc⟩;by_cases hp:(i:Int)<e.purs.length
      ·have hd:decide ((i:Int)<e.purs.length)=true:=decide_eq_true hp;obtain⟨x,hx⟩:=jbv hp;have h1:=jaa (n:=(i:Int)+1) (by omega);have hat:=je3 (f:=purF e) hx;have hn:purF e x=false->saidF e=false:=fun h=>by simp[saidF,jl5 hx h]
       simp only[hd,List.getElem?_map,hx,Purity.c,Evid.c,go_sem]
       repeat' (first | (refine jcv (fun hd=> ?_) (fun hd=> ?_)<;>simp only[*,go_sem]) | (refine ja1 (c67 _ _) (by first | decide | assumption) ?_;simp only[*,go_sem]) | (refine ja1 (c68 _ _ _) (by first | decide | assumption) ?_;simp only[*,go_sem]) | (refine ja8 (c67 _ _) (by decide) ?_;simp only[*,go_sem]) | (refine ja8 (c68 _ _ _) (by decide) ?_;simp only[*,go_sem]))
       all_goals first
        | (refine jad (i+1) ?_ ?_ ⟨?_,?_⟩
           ·simp only[h1,Evid.c,Int.natCast_add,go_sem]
           ·omega
           ·omega
           ·rw[hat,hc,Bool.true_and];clear hn hat hc h1;simp_all[purF]
           done)
        | (rw[hn (by clear hn hat hc h1;simp_all[purF])];done)
      ·have hd:decide ((i:Int)<e.purs.length)=false:=decide_eq_false hp;rw[List.take_of_length_le (by omega)]at hc;simp only[hd,go_sem];simp[saidF,ha,hb,hc]
end
section
open Go.Abs
attribute [local go_sem] Evid.iv Evid.c Place.c Move.c Cert.c Recall.c Purity.c Sample.c Recipe.c ints ic
def jdn(e:Evid):Int->List Move->Int
 | _,[]=>0
 | last,m::r=>if decide (m.day<last)=true then 17 else if decide (100000<m.day)=true then 17 else if moveF e m=false then 1 else jdn e m.day r
def jcz(e:Evid):Int:=
 if(pairs e).all fitP=false then 6 else if decide (e.mats<1)=true then 1 else if decide (e.houses<0)=true then 1 else if decide (e.scales<0)=true then 1 else if e.places.all (ji5 e)=false then 1 else
 if jdn e 0 e.moves≠0 then jdn e 0 e.moves else if saidF e=true then 0 else 1
theorem jie{α:Type}{l:List α}{i:Nat}{x:α}(h:l[i]? =some x):l.drop i=x::l.drop (i+1):=by
 obtain⟨hi,rfl⟩:=List.getElem?_eq_some_iff.1 h;exact List.drop_eq_getElem_cons hi
theorem jkp{e:Evid}(h:(pairs e).all fitP=true):e.places.length<=100/\e.moves.length<=200/\e.certs.length<=100/\e.recalls.length<=30/\e.purs.length<=200/\e.mats<=6/\e.houses<=100/\e.scales<=30:=by
 simp[pairs,fitP]at h;omega
theorem c21(e:Evid):Ctr G.P 21 [e.iv] (· = .int (jcz e)):=by
 have h46:=c46 e;rcases hf:(pairs e).all fitP with _ | _
 ·have hc:jcz e=6:=by simp[jcz,hf]
  rw[hf]at h46;refine jab good _ _ [.tmp 2] Tryz.func21 rfl rfl (by decide+kernel) rfl ?_;unfold Evid.iv Evid.c;rw[hc];simp only[go_sem];refine ja1 h46 (by decide) ?_;simp only[go_sem]
 ·obtain⟨l1,l2,l3,l4,l5,_,_,_⟩:=jkp hf;have h47:=c47 e (by omega);have h49:=c49 e (by omega) (by omega) (by omega);rw[hf]at h46;have hc:jcz e=if decide (e.mats<1)=true then 1 else if decide (e.houses<0)=true then 1 else if decide (e.scales<0)=true then 1 else if e.places.all (ji5 e)=false then 1 else
   if jdn e 0 e.moves≠0 then jdn e 0 e.moves else if saidF e=true then 0 else 1:=by simp[jcz,hf]
  clear hf;refine jab good _ _ [.tmp 2] Tryz.func21 rfl rfl (by decide+kernel) rfl ?_;rw[hc];clear hc;generalize hpl:e.places.all (ji5 e)=pl at*;generalize hsd:saidF e=sd at*;unfold Evid.iv Evid.c;simp only[go_sem];refine ja1 h46 (by decide) ?_;simp only[go_sem]
  repeat' (first | (refine jcv (fun hd=> ?_) (fun hd=> ?_)<;>simp only[*,go_sem]) | (refine ja1 (h47) (by first | decide | assumption) ?_;simp only[*,go_sem]) | (refine ja8 (h47) (by decide) ?_;simp only[*,go_sem]))
  rename_i k1 k2 k3 k4;clear h47 h46;refine jaq [1,3,29,30,31] [1] (fun g:Nat×Int=>⟨[(1,.loc 1 8 0 0),(3,.im (.int g.2)),(29,.im (.sl (e.moves.map Move.c))),(30,.im (.int e.moves.length)),(31,.im (.int g.1))],[(1,8,[e.c])],[]⟩)
   (fun g=>g.1<=e.moves.length/\jdn e 0 e.moves=jdn e g.2 (e.moves.drop g.1)) (fun g=>e.moves.length-g.1) (0,0) ?_ ⟨Nat.zero_le _,rfl⟩ ?_
  ·simp only[Evid.c,Int.natCast_zero,go_sem]
  ·intro⟨i,last⟩ ⟨hi,ha⟩;dsimp only at hi ha;by_cases hp:(i:Int)<e.moves.length
   ·have hd:decide ((i:Int)<e.moves.length)=true:=decide_eq_true hp;obtain⟨x,hx⟩:=jbv hp;have h1:=jaa (n:=(i:Int)+1) (by omega);rw[jie hx,jdn]at ha;simp only[hd,List.getElem?_map,hx,Move.c,Evid.c,go_sem]
    repeat' (first | (refine jcv (fun hd=> ?_) (fun hd=> ?_)<;>simp only[*,go_sem]) | (refine ja1 (c48 e x) (by first | decide | assumption) ?_;simp only[*,go_sem]) | (refine ja8 (c48 e x) (by decide) ?_;simp only[*,go_sem]))
    refine jad (i+1,x.day) ?_ ?_ ⟨?_,?_⟩
    ·simp only[h1,Evid.c,Int.natCast_add,go_sem]
    ·show e.moves.length-(i+1)<e.moves.length-i;omega
    ·show i+1<=e.moves.length;omega
    ·rw[ha];simp only[*,Bool.false_eq_true,Bool.true_eq_false,if_false]
   ·have hd:decide ((i:Int)<e.moves.length)=false:=decide_eq_false hp;have hi':e.moves.drop i=[]:=List.drop_of_length_le (by omega);rw[hi',jdn]at ha;simp only[hd,Evid.c,go_sem];refine ja1 h49 (by decide) ?_;simp only[*,go_sem]
    repeat' (first | (refine jcv (fun hd=> ?_) (fun hd=> ?_)<;>simp only[*,go_sem]) | (refine ja1 (h49) (by first | decide | assumption) ?_;simp only[*,go_sem]) | (refine ja8 (h49) (by decide) ?_;simp only[*,go_sem]))
end
section
open Go.Abs
attribute [local go_sem] Evid.iv Evid.c Place.c Move.c Cert.c Recall.c Purity.c Sample.c Recipe.c ints ic
end
section
open Go.Abs
attribute [local go_sem] Evid.iv Evid.c Place.c Move.c Cert.c Recall.c Purity.c Sample.c Recipe.c ints ic
end
section
open Go.Abs
attribute [local go_sem] Evid.iv Evid.c Place.c Move.c Cert.c Recall.c Purity.c Sample.c Recipe.c ints ic
def purs(l:List Purity):IV:= .sl (l.map Purity.c)
end
section
open Go.Abs
attribute [local go_sem] Evid.iv Evid.c Place.c Move.c Cert.c Recall.c Purity.c Sample.c Recipe.c ints ic
theorem jdh{α:Type}{l:List α}{f:α->Bool}{i:Nat}{x:α}(h:l[i]? =some x):(l.take (i+1)).any f=((l.take i).any f || f x):=by
 rw[take_succ h,List.any_append];simp
theorem jm2{α:Type}{l:List α}{f:α->Bool}{i:Nat}{x:α}(h:l[i]? =some x)(hf:f x=true):l.any f=true:=
 List.any_eq_true.2 ⟨x,List.mem_of_getElem? h,hf⟩
theorem c52(l:List Int)(hl:l.length<=100000)(p:Int->Bool)(g:Nat)(caps:List IV)(hg:3<=g/\g<G.fns)(hc:∀n:Int,Ctr G.P g (.int n::caps) (· = .bool (p n))):
  Ctr G.P 100 [ints l,.clo g caps] (fun r=>∃k:Int,r= .int k/\decide (0<=k)=l.any p):=by
 refine jab good _ _ [.tmp 4] Tryz.func100 rfl rfl (by decide+kernel) rfl ?_;unfold ints;simp only[go_sem];refine jaq [0,1,7,8] [] (fun i:Nat=>⟨[(0,.im (.sl (l.map ic))),(1,.im (.clo g caps)),(7,.im (.int l.length)),(8,.im (.int i))],[],[]⟩)
  (fun i=>i<=l.length/\(l.take i).any p=false) (fun i=>l.length-i) 0 ?_ ⟨Nat.zero_le _,rfl⟩ ?_
 ·simp only[Int.natCast_zero,go_sem]
 ·intro i ⟨hi,ha⟩;by_cases hp:(i:Int)<l.length
  ·have hd:decide ((i:Int)<l.length)=true:=decide_eq_true hp;obtain⟨x,hx⟩:=jbv hp;have h1:=jaa (n:=(i:Int)+1) (by omega);simp only[hd,List.getElem?_map,hx,ic,go_sem];refine ja1 (hc x) hg ?_;simp only[go_sem];refine jcv (fun he=> ?_) (fun he=> ?_)
   ·simp only[he,go_sem];exact⟨i,rfl,by rw[jm2 hx he];simp⟩
   ·simp only[he,go_sem];refine jad (i+1) ?_ (by omega) ⟨by omega,by rw[jdh hx,ha,he];rfl⟩;simp only[h1,Int.natCast_add,go_sem]
  ·have hd:decide ((i:Int)<l.length)=false:=decide_eq_false hp;rw[List.take_of_length_le (by omega)]at ha;simp only[hd,go_sem];exact⟨-1,rfl,by rw[ha];rfl⟩
theorem c26(l:List Int)(hl:l.length<=100000)(p:Int->Bool)(g:Nat)(caps:List IV)(hg:3<=g/\g<G.fns)(hc:∀n:Int,Ctr G.P g (.int n::caps) (· = .bool (p n))):
  Ctr G.P 70 [ints l,.clo g caps] (· = .bool (l.any p)):=by
 have h:=c52 l hl p g caps hg hc;refine jab good _ _ [.tmp 4] Tryz.func70 rfl rfl (by decide+kernel) rfl ?_;simp only[go_sem];refine jgk h (by decide) ?_;rintro r ⟨k,rfl,hk⟩;rw[<-hk];simp only[go_sem]
end
section
open Go.Abs
attribute [local go_sem] ints ic Bat.c Pap.c Led.c
theorem pb_in(n lo hi:Int):Ctr G.P 30 [.int n,.int lo,.int hi] (· = .bool (btw n lo hi)):=by
 unfold btw;refine jab good _ _ [.tmp 6] Tryz.func30 rfl rfl (by decide+kernel) rfl ?_;simp only[go_sem]
 repeat' (refine jdc (fun hd hp=> ?_) (fun hd hp=> ?_)<;>simp only[hd,go_sem])
set_option maxHeartbeats 2000000 in
theorem jo7(l:List Int)(n:Int)(hl:l.length<=100000):Ctr G.P 31 [ints l,.int n] (· = .bool (riseF l n)):=by
 refine jab good _ _ [.tmp 4] Tryz.func31 rfl rfl (by decide+kernel) rfl ?_;unfold ints riseF;simp only[go_sem];refine jaq [0,1,5,8,9,10] [] (fun g:Nat×Int=>⟨[(0,.im (.sl (l.map ic))),(1,.im (.int n)),(5,.im (.int g.2)),(8,.im (.sl (l.map ic))),(9,.im (.int l.length)),(10,.im (.int g.1))],[],[]⟩)
  (fun g=>g.1<=l.length/\jjc n (-1) l=jjc n g.2 (l.drop g.1)) (fun g=>l.length-g.1) (0,-1) ?_ ⟨Nat.zero_le _,rfl⟩ ?_
 ·simp only[List.length_map,Int.natCast_zero,go_sem]
 intro⟨i,last⟩ ⟨hi,ha⟩;dsimp only at hi ha;by_cases hp:(i:Int)<l.length
 ·have hd:decide ((i:Int)<l.length)=true:=decide_eq_true hp;obtain⟨x,hx⟩:=jbv hp;have h1:=jaa (n:=(i:Int)+1) (by omega);rw[jie hx,jjc]at ha;rcases d1:decide (x<=last)with _ | _
  ·have e1:decide (last<x)=true:=decide_eq_true (by have:=of_decide_eq_false d1;omega);rcases d2:decide (n<=x)with _ | _
   ·have e2:decide (x<n)=true:=decide_eq_true (by have:=of_decide_eq_false d2;omega);rw[e1,e2,Bool.true_and,Bool.true_and]at ha;simp only[hd,d1,d2,List.getElem?_map,hx,ic,go_sem];refine jad (i+1,x) ?_ ?_ ⟨?_,ha⟩
    ·simp only[h1,Int.natCast_add,go_sem]
    ·show l.length-(i+1)<l.length-i;omega
    ·show i+1<=l.length;omega
   ·have e2:decide (x<n)=false:=decide_eq_false (by have:=of_decide_eq_true d2;omega);rw[e1,e2,Bool.true_and,Bool.false_and]at ha;simp only[hd,d1,d2,List.getElem?_map,hx,ic,ha,Bool.false_and,go_sem]
  ·have e1:decide (last<x)=false:=decide_eq_false (by have:=of_decide_eq_true d1;omega);rw[e1,Bool.false_and]at ha;simp only[hd,d1,List.getElem?_map,hx,ic,ha,Bool.false_and,go_sem]
 ·have hd:decide ((i:Int)<l.length)=false:=decide_eq_false hp;rw[List.drop_of_length_le (by omega),jjc]at ha;have e1:decide ((0:Int)<(l.length:Int))=decide (0<l.length):=decide_eq_decide.2 (by omega);rw[ha,Bool.true_and];simp only[hd,List.length_map,e1,go_sem]
theorem pb_index(l:List Int)(v:Int)(hl:l.length<=100000):Ctr G.P 101 [ints l,.int v] (fun r=>∃k:Int,r= .int k/\decide (0<=k)=l.contains v):=by
 refine jab good _ _ [.tmp 4] Tryz.func101 rfl rfl (by decide+kernel) rfl ?_;unfold ints;simp only[go_sem];refine jaq [0,1,7,8] [] (fun i:Nat=>⟨[(0,.im (.sl (l.map ic))),(1,.im (.int v)),(7,.im (.int l.length)),(8,.im (.int i))],[],[]⟩)
  (fun i=>i<=l.length/\(l.take i).any (fun x=>decide (v=x))=false) (fun i=>l.length-i) 0 ?_ ⟨Nat.zero_le _,rfl⟩ ?_
 ·simp only[List.length_map,Int.natCast_zero,go_sem]
 have hc:l.contains v=l.any (fun x=>decide (v=x)):=by
  rw[List.contains_eq_any_beq];congr 1
 rw[hc];intro i ⟨hi,ha⟩;by_cases hp:(i:Int)<l.length
 ·have hd:decide ((i:Int)<l.length)=true:=decide_eq_true hp;obtain⟨x,hx⟩:=jbv hp;have h1:=jaa (n:=(i:Int)+1) (by omega);rcases he:decide (v=x)with _ | _
  ·simp only[hd,List.getElem?_map,hx,ic,he,go_sem];refine jad (i+1) ?_ (by omega) ⟨by omega,by rw[jdh hx,ha,he];rfl⟩;simp only[h1,Int.natCast_add,go_sem]
  ·simp only[hd,List.getElem?_map,hx,ic,he,go_sem];exact⟨i,rfl,by rw[jm2 hx he];simp⟩
 ·have hd:decide ((i:Int)<l.length)=false:=decide_eq_false hp;rw[List.take_of_length_le (by omega)]at ha;simp only[hd,go_sem];exact⟨-1,rfl,by rw[ha];rfl⟩
theorem pb_contains(l:List Int)(v:Int)(hl:l.length<=100000):Ctr G.P 72 [ints l,.int v] (· = .bool (l.contains v)):=by
 have h:=pb_index l v hl;refine jab good _ _ [.tmp 4] Tryz.func72 rfl rfl (by decide+kernel) rfl ?_;simp only[go_sem];refine jgk h (by decide) ?_;rintro r ⟨k,rfl,hk⟩;rw[<-hk];simp only[go_sem]
theorem pb_over1(b:Bat)(i:Int)(hb:b.mv.length<=100000):Ctr G.P 71 [.int i,.ip b.c 0] (· = .bool (b.mv.contains i)):=by
 have h:=pb_contains b.mv i hb;unfold ints at h;refine jab good _ _ [.tmp 3] Tryz.func71 rfl rfl (by decide+kernel) rfl ?_;simp only[go_sem];refine ja1 h (by decide) ?_;simp only[go_sem]
theorem jlo(a b:Bat)(ha:a.mv.length<=100000)(hb:b.mv.length<=100000):Ctr G.P 34 [.agg a.c,.agg b.c] (· = .bool (overF a b)):=by
 have h:=c26 a.mv ha (fun i=>b.mv.contains i) 71 [.ip b.c 0] (by decide) (fun i=>pb_over1 b i hb);unfold ints overF at*;rcases hm:decide (a.mat=b.mat)with _ | _
 ·refine jab good _ _ [.tmp 4] Tryz.func34 rfl rfl (by decide+kernel) rfl ?_;simp only[hm,Bool.false_and,go_sem]
 ·refine jab good _ _ [.tmp 4] Tryz.func34 rfl rfl (by decide+kernel) rfl ?_;simp only[hm,go_sem];refine ja1 h (by decide) ?_;simp only[Bool.true_and,go_sem]
theorem pb_live(x:Pap):Ctr G.P 37 [.agg x.c] (· = .bool x.live):=by
 unfold Pap.live;rcases h1:x.ret with _ | _<;>rcases h2:x.gone with _ | _
 all_goals
  refine jab good _ _ [.tmp 2] Tryz.func37 rfl rfl (by decide+kernel) rfl ?_;simp only[h1,h2,go_sem]
end
section
open Go.Abs
attribute [local go_sem] ints ic Bat.c Pap.c Led.c
theorem pb_ibat(l:List Bat)(hl:l.length<=100000)(p:Bat->Bool)(g:Nat)(caps:List IV)(hg:3<=g/\g<G.fns)(hc:∀x∈l,Ctr G.P g (.agg x.c::caps) (· = .bool (p x))):
  Ctr G.P 65 [.sl (l.map Bat.c),.clo g caps] (fun r=>∃k:Int,r= .int k/\decide (0<=k)=l.any p):=by
 refine jab good _ _ [.tmp 4] Tryz.func65 rfl rfl (by decide+kernel) rfl ?_;simp only[go_sem];refine jaq [0,1,7,8] [] (fun i:Nat=>⟨[(0,.im (.sl (l.map Bat.c))),(1,.im (.clo g caps)),(7,.im (.int l.length)),(8,.im (.int i))],[],[]⟩)
  (fun i=>i<=l.length/\(l.take i).any p=false) (fun i=>l.length-i) 0 ?_ ⟨Nat.zero_le _,rfl⟩ ?_
 ·simp only[Int.natCast_zero,List.length_map,go_sem]
 ·intro i ⟨hi,ha⟩;by_cases hp:(i:Int)<l.length
  ·have hd:decide ((i:Int)<l.length)=true:=decide_eq_true hp;obtain⟨x,hx⟩:=jbv hp;have h1:=jaa (n:=(i:Int)+1) (by omega);have hcx:=hc x (List.mem_of_getElem? hx);simp only[Bat.c,ints]at hcx;simp only[hd,List.getElem?_map,hx,go_sem];refine ja1 hcx hg ?_;simp only[go_sem];refine jcv (fun he=> ?_) (fun he=> ?_)
   ·simp only[he,go_sem];exact⟨i,rfl,by rw[jm2 hx he];simp⟩
   ·simp only[he,go_sem];refine jad (i+1) ?_ (by omega) ⟨by omega,by rw[jdh hx,ha,he];rfl⟩;simp only[h1,Int.natCast_add,go_sem]
  ·have hd:decide ((i:Int)<l.length)=false:=decide_eq_false hp;rw[List.take_of_length_le (by omega)]at ha;simp only[hd,go_sem];exact⟨-1,rfl,by rw[ha];rfl⟩
theorem pb_cbat(l:List Bat)(hl:l.length<=100000)(p:Bat->Bool)(g:Nat)(caps:List IV)(hg:3<=g/\g<G.fns)(hc:∀x∈l,Ctr G.P g (.agg x.c::caps) (· = .bool (p x))):
  Ctr G.P 32 [.sl (l.map Bat.c),.clo g caps] (· = .bool (l.any p)):=by
 have h:=pb_ibat l hl p g caps hg hc;refine jab good _ _ [.tmp 4] Tryz.func32 rfl rfl (by decide+kernel) rfl ?_;simp only[go_sem];refine jgk h (by decide) ?_;rintro r ⟨k,rfl,hk⟩;rw[<-hk];simp only[go_sem]
theorem pb_ipap(l:List Pap)(hl:l.length<=100000)(p:Pap->Bool)(g:Nat)(caps:List IV)(hg:3<=g/\g<G.fns)(hc:∀x∈l,Ctr G.P g (.agg x.c::caps) (· = .bool (p x))):
  Ctr G.P 73 [.sl (l.map Pap.c),.clo g caps] (fun r=>∃k:Int,r= .int k/\decide (0<=k)=l.any p):=by
 refine jab good _ _ [.tmp 4] Tryz.func73 rfl rfl (by decide+kernel) rfl ?_;simp only[go_sem];refine jaq [0,1,7,8] [] (fun i:Nat=>⟨[(0,.im (.sl (l.map Pap.c))),(1,.im (.clo g caps)),(7,.im (.int l.length)),(8,.im (.int i))],[],[]⟩)
  (fun i=>i<=l.length/\(l.take i).any p=false) (fun i=>l.length-i) 0 ?_ ⟨Nat.zero_le _,rfl⟩ ?_
 ·simp only[Int.natCast_zero,List.length_map,go_sem]
 ·intro i ⟨hi,ha⟩;by_cases hp:(i:Int)<l.length
  ·have hd:decide ((i:Int)<l.length)=true:=decide_eq_true hp;obtain⟨x,hx⟩:=jbv hp;have h1:=jaa (n:=(i:Int)+1) (by omega);have hcx:=hc x (List.mem_of_getElem? hx);simp only[Pap.c]at hcx;simp only[hd,List.getElem?_map,hx,go_sem];refine ja1 hcx hg ?_;simp only[go_sem];refine jcv (fun he=> ?_) (fun he=> ?_)
   ·simp only[he,go_sem];exact⟨i,rfl,by rw[jm2 hx he];simp⟩
   ·simp only[he,go_sem];refine jad (i+1) ?_ (by omega) ⟨by omega,by rw[jdh hx,ha,he];rfl⟩;simp only[h1,Int.natCast_add,go_sem]
  ·have hd:decide ((i:Int)<l.length)=false:=decide_eq_false hp;rw[List.take_of_length_le (by omega)]at ha;simp only[hd,go_sem];exact⟨-1,rfl,by rw[ha];rfl⟩
theorem pb_cpap(l:List Pap)(hl:l.length<=100000)(p:Pap->Bool)(g:Nat)(caps:List IV)(hg:3<=g/\g<G.fns)(hc:∀x∈l,Ctr G.P g (.agg x.c::caps) (· = .bool (p x))):
  Ctr G.P 35 [.sl (l.map Pap.c),.clo g caps] (· = .bool (l.any p)):=by
 have h:=pb_ipap l hl p g caps hg hc;refine jab good _ _ [.tmp 4] Tryz.func35 rfl rfl (by decide+kernel) rfl ?_;simp only[go_sem];refine jgk h (by decide) ?_;rintro r ⟨k,rfl,hk⟩;rw[<-hk];simp only[go_sem]
theorem pb_right1(a b:Bat)(ha:a.mv.length<=100000)(hb:b.mv.length<=100000):Ctr G.P 33 [.agg a.c,.ip b.c 0] (· = .bool (overF a b)):=by
 have h:=jlo a b ha hb;simp only[Bat.c,ints]at h;refine jab good _ _ [.tmp 3] Tryz.func33 rfl rfl (by decide+kernel) rfl ?_;simp only[go_sem];refine ja1 h (by decide) ?_;simp only[go_sem]
theorem pb_right2(x:Pap)(p:Led)(hl:p.bs.length<=100000):Ctr G.P 36 [.agg x.c,.ip p.c 0] (· = .bool (!papOk p.bs.length x)):=by
 have k1:=pb_in x.bat 0 ((p.bs.length:Int)-1);have k2:=pb_in x.grams 1 1099511627776;have k3:=pb_in x.own 0 999;have w1:=jaa (n:=(p.bs.length:Int)-1) (by omega);unfold papOk;rcases h1:btw x.bat 0 ((p.bs.length:Int)-1)with _ | _
 ·rw[h1]at k1;refine jab good _ _ [.tmp 3] Tryz.func36 rfl rfl (by decide+kernel) rfl ?_;simp only[List.length_map,w1,go_sem];refine ja1 k1 (by decide) ?_;simp only[go_sem]
 rw[h1]at k1;rcases h2:btw x.grams 1 1099511627776 with _ | _
 ·rw[h2]at k2;refine jab good _ _ [.tmp 3] Tryz.func36 rfl rfl (by decide+kernel) rfl ?_;simp only[List.length_map,w1,go_sem];refine ja1 k1 (by decide) ?_;simp only[go_sem];refine ja1 k2 (by decide) ?_;simp only[go_sem]
 rw[h2]at k2;rcases h3:btw x.own 0 999 with _ | _
 ·rw[h3]at k3;refine jab good _ _ [.tmp 3] Tryz.func36 rfl rfl (by decide+kernel) rfl ?_;simp only[List.length_map,w1,go_sem];refine ja1 k1 (by decide) ?_;simp only[go_sem];refine ja1 k2 (by decide) ?_;simp only[go_sem];refine ja1 k3 (by decide) ?_;simp only[go_sem]
 rw[h3]at k3;rcases h4:x.ret with _ | _<;>rcases h5:x.gone with _ | _
 all_goals
  refine jab good _ _ [.tmp 3] Tryz.func36 rfl rfl (by decide+kernel) rfl ?_;simp only[List.length_map,w1,go_sem];refine ja1 k1 (by decide) ?_;simp only[go_sem];refine ja1 k2 (by decide) ?_;simp only[go_sem];refine ja1 k3 (by decide) ?_;simp only[h4,h5,go_sem]
end
section
open Go.Abs
attribute [local go_sem] ints ic Bat.c Pap.c Led.c
def jg2(p:Led):Prop:=∀b∈p.bs,b.mv.length<=100000
set_option maxHeartbeats 4000000 in
theorem jex(p:Led)(hmv:jg2 p):Ctr G.P 10 [.agg p.c] (· = .bool (jbf p)):=by
 rcases d1:decide (40<(p.bs.length:Int))with _ | _
 case true=>
  have hr:jbf p=false:=by unfold jbf;rw[decide_eq_false (by have:=of_decide_eq_true d1;omega),Bool.false_and]
  rw[hr];refine jab good _ _ [.tmp 2] Tryz.func10 rfl rfl (by decide+kernel) rfl ?_;simp only[List.length_map,d1,go_sem]
 rcases d2:decide (300<(p.ps.length:Int))with _ | _
 case true=>
  have hr:jbf p=false:=by unfold jbf;rw[decide_eq_false (p:=p.ps.length<=300) (by have:=of_decide_eq_true d2;omega),Bool.false_and,Bool.and_false]
  rw[hr];refine jab good _ _ [.tmp 2] Tryz.func10 rfl rfl (by decide+kernel) rfl ?_;simp only[List.length_map,d1,d2,go_sem]
 have b1:=of_decide_eq_false d1;have b2:=of_decide_eq_false d2;have hr:jbf p=(jjj [] p.bs&&p.ps.all (papOk p.bs.length)):=by
  unfold jbf;rw[decide_eq_true (by omega),decide_eq_true (p:=p.ps.length<=300) (by omega),Bool.true_and,Bool.true_and]
 have hall:(p.bs.map Bat.c).all (fun c=>c.length==2)=true:=List.all_eq_true.2 fun c hc=>by
  obtain⟨z,_,rfl⟩:=List.mem_map.1 hc;rfl
 have k4:=pb_cpap p.ps (by omega) (fun x=> !papOk p.bs.length x) 36 [.ip p.c 0] (by decide) (fun x _=>pb_right2 x p (by omega));have h4:(!(p.ps.any fun x=> !papOk p.bs.length x))=p.ps.all (papOk p.bs.length):=by rw[List.all_eq_not_any_not]
 rw[hr,<-h4];clear hr h4;generalize (p.ps.any fun x=> !papOk p.bs.length x)=pp at*;simp only[Led.c]at k4;refine jab good _ _ [.tmp 2] Tryz.func10 rfl rfl (by decide+kernel) rfl ?_;simp only[List.length_map,d1,d2,go_sem];refine jaq [1,16,17,18] [1] (fun i:Nat=>⟨[(1,.loc 1 2 0 0),(16,.im (.sl (p.bs.map Bat.c))),(17,.im (.int p.bs.length)),(18,.im (.int i))],[(1,2,[p.c])],[]⟩)
  (fun i=>i<=p.bs.length/\jjj [] p.bs=jjj (p.bs.take i) (p.bs.drop i)) (fun i=>p.bs.length-i) 0 ?_ ⟨Nat.zero_le _,rfl⟩ ?_
 ·simp only[Int.natCast_zero,List.length_map,go_sem]
 intro i ⟨hi,ha⟩;by_cases hp:(i:Int)<p.bs.length
 ·have hd:decide ((i:Int)<p.bs.length)=true:=decide_eq_true hp;obtain⟨x,hx⟩:=jbv hp;have h1:=jaa (n:=(i:Int)+1) (by omega);have hxm:=hmv x (List.mem_of_getElem? hx);have k1:=pb_in x.mat 0 5;have k2:=jo7 x.mv 200 hxm;have k3:=pb_cbat (p.bs.take i) (by rw[List.length_take];omega) (fun a=>overF a x) 33 [.ip x.c 0] (by decide) (fun a ha=>pb_right1 a x (hmv a (List.mem_of_mem_take ha)) hxm);have htk:(p.bs.map Bat.c).take i=(p.bs.take i).map Bat.c:=List.map_take.symm;have hi0:(0:Int)<=(i:Int):=by omega
  have hin:(i:Int)<=(p.bs.length:Int):=by omega
  rw[jie hx,jjj,batOk,<-take_succ hx]at ha;simp only[Bat.c,ints]at k2 k3 hall htk;rcases e1:btw x.mat 0 5 with _ | _
  ·rw[e1,Bool.false_and,Bool.false_and]at ha;rw[e1]at k1;simp only[hd,List.getElem?_map,hx,go_sem];refine ja1 k1 (by decide) ?_;simp only[ha,Bool.false_and,go_sem]
  rw[e1,Bool.true_and]at ha;rw[e1]at k1;rcases e2:riseF x.mv 200 with _ | _
  ·rw[e2,Bool.false_and,Bool.false_and]at ha;rw[e2]at k2;simp only[hd,List.getElem?_map,hx,go_sem];refine ja1 k1 (by decide) ?_;simp only[go_sem];refine ja1 k2 (by decide) ?_;simp only[ha,Bool.false_and,go_sem]
  rw[e2,Bool.true_and]at ha;rw[e2]at k2;rcases e3:(p.bs.take i).any (fun a=>overF a x)with _ | _
  ·rw[e3,Bool.not_false,Bool.true_and]at ha;rw[e3]at k3;simp only[hd,List.getElem?_map,hx,go_sem];refine ja1 k1 (by decide) ?_;simp only[go_sem];refine ja1 k2 (by decide) ?_;simp only[hi0,hin,hall,htk,Nat.sub_zero,List.length_map,go_sem];refine ja1 k3 (by decide) ?_;simp only[go_sem];refine jad (i+1) ?_ (by omega) ⟨by omega,ha⟩;simp only[h1,Int.natCast_add,go_sem]
  ·rw[e3,Bool.not_true,Bool.false_and]at ha;rw[e3]at k3;simp only[hd,List.getElem?_map,hx,go_sem];refine ja1 k1 (by decide) ?_;simp only[go_sem];refine ja1 k2 (by decide) ?_;simp only[hi0,hin,hall,htk,Nat.sub_zero,List.length_map,go_sem];refine ja1 k3 (by decide) ?_;simp only[ha,Bool.false_and,go_sem]
 ·have hd:decide ((i:Int)<p.bs.length)=false:=decide_eq_false hp;rw[List.drop_of_length_le (by omega),jjj]at ha;rw[ha];simp only[hd,go_sem];refine ja1 k4 (by decide) ?_;simp only[Bool.true_and,go_sem]
end
section
open Go.Abs
attribute [local go_sem] ints ic Bat.c Pap.c Led.c
set_option maxHeartbeats 2000000 in
theorem jjo(p:Led)(k:Int)(hmv:jg2 p):Ctr G.P 29 [.agg p.c,.int k] (· = .int (totF p k)):=by
 have kR:=jex p hmv;rcases hr:jbf p with _ | _
 ·have ht:totF p k=0:=by unfold totF;rw[hr,if_neg (by decide)]
  rw[ht];rw[hr]at kR;refine jab good _ _ [.tmp 4] Tryz.func29 rfl rfl (by decide+kernel) rfl ?_;simp only[go_sem];refine ja1 kR (by decide) ?_;simp only[go_sem]
 ·have hin:=jh9 hr;have hlen:=(jc1 hr).2.1;rw[tot_eq hr];rw[hr]at kR;refine jab good _ _ [.tmp 4] Tryz.func29 rfl rfl (by decide+kernel) rfl ?_;simp only[go_sem];refine ja1 kR (by decide) ?_;simp only[go_sem];refine jaq [1,5,12,13,14] [] (fun g:Nat×Int=>⟨[(1,.im (.int k)),(5,.im (.int g.2)),(12,.im (.sl (p.ps.map Pap.c))),(13,.im (.int p.ps.length)),(14,.im (.int g.1))],[],[]⟩)
   (fun g=>g.1<=p.ps.length/\sumG (tk k) p.ps=g.2+sumG (tk k) (p.ps.drop g.1)/\0<=g.2/\g.2<=1099511627776*g.1) (fun g=>p.ps.length-g.1) (0,0) ?_ ⟨Nat.zero_le _,by simp,by simp,by simp⟩ ?_
  ·simp only[List.length_map,Int.natCast_zero,go_sem]
  intro⟨i,acc⟩ ⟨hi,ha,hb,hc⟩;dsimp only at hi ha hb hc;by_cases hp:(i:Int)<p.ps.length
  ·have hd:decide ((i:Int)<p.ps.length)=true:=decide_eq_true hp;obtain⟨x,hx⟩:=jbv hp;have h1:=jaa (n:=(i:Int)+1) (by omega);obtain⟨_,_,x1,x2⟩:=hin x (List.mem_of_getElem? hx);have h2:=jaa (n:=acc+x.grams) (by omega);rw[jie hx,sumG]at ha;rcases e1:decide (x.bat=k)with _ | _
   ·rw[show tk k x=false by simp[tk,e1],if_neg (by decide),Int.zero_add]at ha;simp only[hd,e1,List.getElem?_map,hx,go_sem];refine jad (i+1,acc) ?_ ?_ ⟨?_,ha,hb,?_⟩
    ·simp only[h1,Int.natCast_add,go_sem]
    ·show p.ps.length-(i+1)<p.ps.length-i;omega
    ·show i+1<=p.ps.length;omega
    ·show acc<=1099511627776*((i+1:Nat):Int);omega
   ·rcases e2:x.gone with _ | _
    ·rw[show tk k x=true by simp[tk,e1,e2],if_pos rfl]at ha;simp only[hd,e1,e2,List.getElem?_map,hx,go_sem];refine jad (i+1,acc+x.grams) ?_ ?_ ⟨?_,by rw[ha];simp only[Int.add_assoc],?_,?_⟩
     ·simp only[h1,h2,Int.natCast_add,go_sem]
     ·show p.ps.length-(i+1)<p.ps.length-i;omega
     ·show i+1<=p.ps.length;omega
     ·show 0<=acc+x.grams;omega
     ·show acc+x.grams<=1099511627776*((i+1:Nat):Int);omega
    ·rw[show tk k x=false by simp[tk,e2],if_neg (by decide),Int.zero_add]at ha;simp only[hd,e1,e2,List.getElem?_map,hx,go_sem];refine jad (i+1,acc) ?_ ?_ ⟨?_,ha,hb,?_⟩
     ·simp only[h1,Int.natCast_add,go_sem]
     ·show p.ps.length-(i+1)<p.ps.length-i;omega
     ·show i+1<=p.ps.length;omega
     ·show acc<=1099511627776*((i+1:Nat):Int);omega
  ·have hd:decide ((i:Int)<p.ps.length)=false:=decide_eq_false hp;rw[List.drop_of_length_le (by omega),sumG,Int.add_zero]at ha;simp only[hd,ha,go_sem]
end
section
open Go.Abs
attribute [local go_sem] ints ic Bat.c Pap.c Led.c
def jll(b:Bat):Bool:=decide ((b.mv.length:Int)<=20)
def fewF(p:Led):Bool:=(p.bs.take 50).all jll&&(decide ((p.bs.length:Int)<=20)&&(decide ((p.ps.length:Int)<=40) || (decide (295<(p.ps.length:Int))&&decide ((p.ps.length:Int)<=305))))
theorem all_take1{α:Type}{l:List α}{f:α->Bool}{i:Nat}{x:α}(h:l[i]? =some x):(l.take (i+1)).all f=((l.take i).all f&&f x):=by
 rw[take_succ h,List.all_append];simp
set_option maxHeartbeats 2000000 in
theorem pb_few(p:Led):Ctr G.P 9 [.agg p.c] (· = .bool (fewF p)):=by
 refine jab good _ _ [.tmp 2] Tryz.func9 rfl rfl (by decide+kernel) rfl ?_;simp only[go_sem];refine jaq [1,3] [1] (fun i:Nat=>⟨[(1,.loc 1 2 0 0),(3,.im (.int i))],[(1,2,[p.c])],[]⟩)
  (fun i=>i<=p.bs.length/\i<=50/\(p.bs.take i).all jll=true) (fun i=>p.bs.length-i) 0 ?_ ⟨Nat.zero_le _,Nat.zero_le _,rfl⟩ ?_
 ·simp only[Int.natCast_zero,go_sem]
 intro i ⟨hi,h50,ha⟩;have fin:(p.bs.take 50).all jll=true->fewF p=(decide ((p.bs.length:Int)<=20)&&(decide ((p.ps.length:Int)<=40) || (decide (295<(p.ps.length:Int))&&decide ((p.ps.length:Int)<=305)))):=fun h=>by unfold fewF;rw[h,Bool.true_and]
 by_cases hp:(i:Int)<p.bs.length
 ·have hd:decide ((i:Int)<p.bs.length)=true:=decide_eq_true hp;rcases d5:decide ((i:Int)<50)with _ | _
  ·have h5:i=50:=by have:=of_decide_eq_false d5;omega
   rw[h5]at ha;rw[fin ha];simp only[List.length_map,hd,d5,go_sem]
   repeat' (first | (refine jcv (fun hd=> ?_) (fun hd=> ?_)<;>simp only[*,List.length_map,go_sem]))
  ·have b5:=of_decide_eq_true d5;obtain⟨x,hx⟩:=jbv hp;have h1:=jaa (n:=(i:Int)+1) (by omega);rcases d6:decide (20<(x.mv.length:Int))with _ | _
   ·simp only[List.length_map,hd,d5,d6,List.getElem?_map,hx,go_sem];refine jad (i+1) ?_ (by omega) ⟨by omega,by omega,?_⟩
    ·simp only[h1,Int.natCast_add,go_sem]
    ·rw[all_take1 hx,ha,Bool.true_and];exact decide_eq_true (by have:=of_decide_eq_false d6;omega)
   ·have hf:fewF p=false:=by
     unfold fewF;have:(p.bs.take 50).all jll=false:=by
      rw[List.all_eq_false];refine⟨x,List.mem_of_getElem? (i:=i) (by rw[List.getElem?_take,if_pos (by omega)];exact hx),?_⟩;have:=of_decide_eq_true d6;simp[jll];omega
     rw[this,Bool.false_and]
    rw[hf];simp only[List.length_map,hd,d5,d6,List.getElem?_map,hx,go_sem]
 ·have hd:decide ((i:Int)<p.bs.length)=false:=decide_eq_false hp;rw[List.take_of_length_le (by omega)]at ha;have h50:(p.bs.take 50).all jll=true:=List.all_eq_true.2 fun x hx=>List.all_eq_true.1 ha x (List.mem_of_mem_take hx);rw[fin h50];simp only[List.length_map,hd,go_sem]
  repeat' (first | (refine jcv (fun hd=> ?_) (fun hd=> ?_)<;>simp only[*,List.length_map,go_sem]))
theorem few_parts{p:Led}(h:fewF p=true):p.bs.length<=20/\p.ps.length<=305/\jg2 p/\∀b∈p.bs,b.mv.length<=20:=by
 simp only[fewF,Bool.and_eq_true,Bool.or_eq_true,decide_eq_true_eq]at h;obtain⟨h1,h2,h3⟩:=h;rw[List.take_of_length_le (by omega),List.all_eq_true]at h1;have h4:∀b∈p.bs,b.mv.length<=20:=fun b hb=>by have:=of_decide_eq_true (h1 b hb);omega
 exact⟨by omega,by omega,fun b hb=>by have:=h4 b hb;omega,h4⟩
def bl(b:Bool):List IV:=[.bool b]
theorem jq5(l m:List Bool)(hl:l.length<=100000):Ctr G.P 28 [.sl (l.map bl),.sl (m.map bl)] (· = .bool (decide (l=m))):=by
 refine jab good _ _ [.tmp 4] Tryz.func28 rfl rfl (by decide+kernel) rfl ?_;rcases d0:decide ((l.length:Int)=(m.length:Int))with _ | _
 ·have hne:decide (l=m)=false:=decide_eq_false fun e=>by subst e;simp at d0
  rw[hne];simp only[List.length_map,d0,go_sem]
 have hlm:l.length=m.length:=by have:=of_decide_eq_true d0;omega
 simp only[List.length_map,d0,go_sem];refine jaq [0,1,5] [] (fun i:Nat=>⟨[(0,.im (.sl (l.map bl))),(1,.im (.sl (m.map bl))),(5,.im (.int i))],[],[]⟩)
  (fun i=>i<=l.length/\l.take i=m.take i) (fun i=>l.length-i) 0 ?_ ⟨Nat.zero_le _,rfl⟩ ?_
 ·simp only[Int.natCast_zero,go_sem]
 intro i ⟨hi,ha⟩;by_cases hp:(i:Int)<l.length
 ·have hd:decide ((i:Int)<l.length)=true:=decide_eq_true hp;obtain⟨x,hx⟩:=jbv hp;obtain⟨y,hy⟩:=jbv (l:=m) (i:=i) (by omega);have h1:=jaa (n:=(i:Int)+1) (by omega);by_cases e:x=y
  ·subst e;simp only[hd,List.length_map,go_sem];refine jar 9 (by decide+kernel) ?_;cases x
   ·simp only[List.getElem?_map,hx,hy,bl,go_sem];refine jad (i+1) ?_ (by omega) ⟨by omega,by rw[take_succ hx,take_succ hy,ha]⟩;simp only[h1,Int.natCast_add,go_sem]
   ·simp only[List.getElem?_map,hx,hy,bl,go_sem];refine jad (i+1) ?_ (by omega) ⟨by omega,by rw[take_succ hx,take_succ hy,ha]⟩;simp only[h1,Int.natCast_add,go_sem]
  ·have hne:decide (l=m)=false:=decide_eq_false fun h=>by subst h;rw[hx]at hy;cases hy;exact e rfl
   rw[hne];simp only[hd,List.length_map,go_sem];refine jar 9 (by decide+kernel) ?_;cases x<;>cases y
   ·exact absurd rfl e
   ·simp only[List.getElem?_map,hx,hy,bl,go_sem]
   ·simp only[List.getElem?_map,hx,hy,bl,go_sem]
   ·exact absurd rfl e
 ·have hd:decide ((i:Int)<l.length)=false:=decide_eq_false hp;rw[List.take_of_length_le (by omega),List.take_of_length_le (by omega)]at ha;rw[decide_eq_true ha];simp only[hd,List.length_map,go_sem]
end
section
open Go.Abs
attribute [local go_sem] ints ic Bat.c Pap.c Led.c
theorem pb_iint(l:List Int)(hl:l.length<=100000)(p:Int->Bool)(g:Nat)(caps:List IV)(hg:3<=g/\g<G.fns)(hc:∀n∈l,Ctr G.P g (.int n::caps) (· = .bool (p n))):
  Ctr G.P 100 [ints l,.clo g caps] (fun r=>∃k:Int,r= .int k/\decide (0<=k)=l.any p):=by
 refine jab good _ _ [.tmp 4] Tryz.func100 rfl rfl (by decide+kernel) rfl ?_;unfold ints;simp only[go_sem];refine jaq [0,1,7,8] [] (fun i:Nat=>⟨[(0,.im (.sl (l.map ic))),(1,.im (.clo g caps)),(7,.im (.int l.length)),(8,.im (.int i))],[],[]⟩)
  (fun i=>i<=l.length/\(l.take i).any p=false) (fun i=>l.length-i) 0 ?_ ⟨Nat.zero_le _,rfl⟩ ?_
 ·simp only[Int.natCast_zero,List.length_map,go_sem]
 ·intro i ⟨hi,ha⟩;by_cases hp:(i:Int)<l.length
  ·have hd:decide ((i:Int)<l.length)=true:=decide_eq_true hp;obtain⟨x,hx⟩:=jbv hp;have h1:=jaa (n:=(i:Int)+1) (by omega);simp only[hd,List.getElem?_map,hx,ic,go_sem];refine ja1 (hc x (List.mem_of_getElem? hx)) hg ?_;simp only[go_sem];refine jcv (fun he=> ?_) (fun he=> ?_)
   ·simp only[he,go_sem];exact⟨i,rfl,by rw[jm2 hx he];simp⟩
   ·simp only[he,go_sem];refine jad (i+1) ?_ (by omega) ⟨by omega,by rw[jdh hx,ha,he];rfl⟩;simp only[h1,Int.natCast_add,go_sem]
  ·have hd:decide ((i:Int)<l.length)=false:=decide_eq_false hp;rw[List.take_of_length_le (by omega)]at ha;simp only[hd,go_sem];exact⟨-1,rfl,by rw[ha];rfl⟩
theorem jp9(l:List Int)(hl:l.length<=100000)(p:Int->Bool)(g:Nat)(caps:List IV)(hg:3<=g/\g<G.fns)(hc:∀n∈l,Ctr G.P g (.int n::caps) (· = .bool (p n))):
  Ctr G.P 70 [ints l,.clo g caps] (· = .bool (l.any p)):=by
 have h:=pb_iint l hl p g caps hg hc;refine jab good _ _ [.tmp 4] Tryz.func70 rfl rfl (by decide+kernel) rfl ?_;simp only[go_sem];refine jgk h (by decide) ?_;rintro r ⟨k,rfl,hk⟩;rw[<-hk];simp only[go_sem]
theorem pb_step2(p:Led)(i:Int)(hl:p.ps.length<=100000):Ctr G.P 76 [.int i,.ip p.c 0] (· = .bool (!btw i 0 ((p.ps.length:Int)-1))):=by
 have k1:=pb_in i 0 ((p.ps.length:Int)-1);have w1:=jaa (n:=(p.ps.length:Int)-1) (by omega);refine jab good _ _ [.tmp 3] Tryz.func76 rfl rfl (by decide+kernel) rfl ?_;simp only[List.length_map,w1,go_sem];refine ja1 k1 (by decide) ?_;simp only[go_sem]
theorem pb_step3(x:Pap)(b:Int):Ctr G.P 77 [.agg x.c,.ip [.int b] 0] (· = .bool (!decide (x.own=b))):=by
 refine jab good _ _ [.tmp 3] Tryz.func77 rfl rfl (by decide+kernel) rfl ?_;simp only[go_sem]
theorem pb_step4(x:Pap):Ctr G.P 78 [.agg x.c] (· = .bool (!x.live)):=by
 have k1:=pb_live x;simp only[Pap.c]at k1;refine jab good _ _ [.tmp 2] Tryz.func78 rfl rfl (by decide+kernel) rfl ?_;simp only[go_sem];refine ja1 k1 (by decide) ?_;simp only[go_sem]
def atF(p:Led)(f:Pap->Bool)(i:Int):Bool:=match p.ps[i.toNat]? with
 | some x=>f x
 | none=>false
theorem pb_step11(p:Led)(f:Pap->Bool)(g:Nat)(caps:List IV)(hg:3<=g/\g<G.fns)(hc:∀x∈p.ps,Ctr G.P g (.agg x.c::caps) (· = .bool (f x)))(i:Int)(hi:btw i 0 ((p.ps.length:Int)-1)=true):
  Ctr G.P 75 [.int i,.ip [.clo g caps] 0,.ip p.c 0] (· = .bool (atF p f i)):=by
 have hb:=btw_iff.1 hi;obtain⟨n,rfl⟩:=Int.eq_ofNat_of_zero_le hb.1;have hn:n<p.ps.length:=by omega
 obtain⟨x,hx⟩:∃x,p.ps[n]? =some x:=⟨_,List.getElem?_eq_getElem hn⟩;have hcx:=hc x (List.mem_of_getElem? hx);unfold atF;rw[Int.toNat_natCast,hx];simp only[Pap.c]at hcx;refine jab good _ _ [.tmp 4] Tryz.func75 rfl rfl (by decide+kernel) rfl ?_;simp only[go_sem];refine jar 8 (by decide+kernel) ?_;simp only[List.getElem?_map,hx,hn,List.length_map,go_sem];refine ja8 hcx hg ?_;simp only[go_sem]
theorem jq4(p:Led)(is:List Int)(hl:is.length<=100000)(f:Pap->Bool)(g:Nat)(caps:List IV)(hg:3<=g/\g<G.fns)(hc:∀x∈p.ps,Ctr G.P g (.agg x.c::caps) (· = .bool (f x)))(hi:∀i∈is,btw i 0 ((p.ps.length:Int)-1)=true):
  Ctr G.P 74 [.clo g caps,.ip [ints is] 0,.ip p.c 0] (· = .bool (someF p f is)):=by
 have h:=jp9 is hl (atF p f) 75 [.ip [.clo g caps] 0,.ip p.c 0] (by decide) (fun i hm=>pb_step11 p f g caps hg hc i (hi i hm));have e:is.any (atF p f)=someF p f is:=rfl;rw[e]at h;simp only[ints,Led.c]at h;refine jab good _ _ [.tmp 4] Tryz.func74 rfl rfl (by decide+kernel) rfl ?_;simp only[go_sem];refine ja1 h (by decide) ?_;simp only[go_sem]
end
end Go.Proofs.YtgncgpfjldefpaaGreat
namespace Go.Abs
section
def val:List Int->Int
 | []=>0
 | d::l=>d+1048576*val l
def OkD(l:List Int):Prop:=∀d∈l,0<=d/\d<1048576
def dgt(l:List Int)(i:Nat):Int:=(l[i]?).getD 0
def dig(n:Nat):List Int:=if h:n=0 then []else((n % 1048576:Nat):Int)::dig (n/1048576)
 termination_by n
 decreasing_by omega
theorem OkD.nil:OkD []:=fun _ h=>by cases h
theorem OkD.cons{d:Int}{l:List Int}(h:0<=d/\d<1048576)(hl:OkD l):OkD (d::l):=fun x hx=>by
 rcases List.mem_cons.1 hx with rfl | hx
 ·exact h
 ·exact hl x hx
theorem OkD.tail{d:Int}{l:List Int}(h:OkD (d::l)):OkD l:=fun x hx=>h x (List.mem_cons_of_mem _ hx)
theorem OkD.head{d:Int}{l:List Int}(h:OkD (d::l)):0<=d/\d<1048576:=h d (List.mem_cons_self ..)
theorem OkD.take{l:List Int}(h:OkD l)(n:Nat):OkD (l.take n):=fun x hx=>h x (List.mem_of_mem_take hx)
theorem OkD.drop{l:List Int}(h:OkD l)(n:Nat):OkD (l.drop n):=fun x hx=>h x (List.mem_of_mem_drop hx)
theorem OkD.append{a b:List Int}(ha:OkD a)(hb:OkD b):OkD (a++b):=fun x hx=>(List.mem_append.1 hx).elim (ha x) (hb x)
theorem OkD.dgt{l:List Int}(h:OkD l)(i:Nat):0<=dgt l i/\dgt l i<1048576:=by
 unfold Go.Abs.dgt;cases hi:l[i]? with
 | none=>simp
 | some d=>exact h d (List.mem_of_getElem? hi)
theorem jb5:∀{l:List Int},OkD l->0<=val l
 | [],_=>Int.le_refl _
 | d::l,h=>by
  have:=jb5 h.tail;have:=h.head;simp only[val];omega
theorem jeo:∀{l:List Int},OkD l->val l<1048576^l.length
 | [],_=>by simp[val]
 | d::l,h=>by
  have h1:=jeo h.tail;have h2:=h.head;simp only[val,List.length_cons,Int.pow_succ];omega
theorem jbx:dig 0=[]:=by rw[dig];simp
theorem jge{n:Nat}(h:n≠0):dig n=((n % 1048576:Nat):Int)::dig (n/1048576):=by
 conv=>lhs;rw[dig]
 rw[dif_neg h]
theorem jc4(n:Nat):OkD (dig n):=by
 induction n using Nat.strongRecOn with
 | _ n ih=>
  by_cases h:n=0
  ·subst h;rw[jbx];exact OkD.nil
  ·rw[jge h];exact OkD.cons (by omega) (ih _ (by omega))
theorem jbc(n:Nat):val (dig n)=n:=by
 induction n using Nat.strongRecOn with
 | _ n ih=>
  by_cases h:n=0
  ·subst h;rw[jbx];rfl
  ·rw[jge h,val,ih _ (by omega)];omega
theorem dig_nil{n:Nat}:dig n=[]↔n=0:=by
 constructor
 ·intro h;have:=jbc n;rw[h]at this;simp only[val]at this;omega
 ·intro h;subst h;exact jbx
theorem eq_dig:∀{l:List Int},OkD l->l.getLast? ≠some 0->l=dig (val l).toNat
 | [],_,_=>by simp[val,jbx]
 | d::l,h,hl=>by
  have hd:=h.head;have hv:=jb5 h.tail;cases l with
  | nil=>
   have:d≠0:=fun e=>hl (by simp[e]);simp only[val,Int.mul_zero,Int.add_zero];rw[jge (by omega),show d.toNat/1048576=0 by omega,jbx];congr 1;omega
  | cons e l=>
   have hl':(e::l).getLast? ≠some 0:=by rw[List.getLast?_cons_cons]at hl;exact hl
   have ih:=eq_dig h.tail hl';have hne:(val (e::l)).toNat≠0:=fun h0=>by rw[h0,jbx]at ih;cases ih
   generalize hw:e::l=w at*;have hval:val (d::w)=d+1048576*val w:=rfl;rw[jge (by omega),show(val (d::w)).toNat/1048576=(val w).toNat by omega,<-ih];congr 1;omega
theorem jmw(n:Nat):(dig n).getLast? ≠some 0:=by
 induction n using Nat.strongRecOn with
 | _ n ih=>
  by_cases h:n=0
  ·subst h;rw[jbx];simp
  ·rw[jge h];by_cases h2:n/1048576=0
   ·rw[h2,jbx];simp;omega
   ·have:=ih (n/1048576) (by omega);cases hd:dig (n/1048576)with
    | nil=>rw[dig_nil]at hd;exact absurd hd h2
    | cons e l=>rw[List.getLast?_cons_cons,<-hd];exact this
theorem jf0:∀(a b:List Int),val (a++b)=val a+1048576^a.length*val b
 | [],b=>by simp[val]
 | d::a,b=>by
  simp only[List.cons_append,val,jf0 a b,List.length_cons,Int.pow_succ,Int.mul_add,Int.mul_assoc];rw[Int.mul_left_comm (1048576:Int)];omega
theorem jcm(l:List Int)(i:Nat):val (l.take (i+1))=val (l.take i)+1048576^i*dgt l i:=by
 rcases Nat.lt_or_ge i l.length with h | h
 ·rw[List.take_succ_eq_append_getElem h,jf0];have:(l.take i).length=i:=by rw[List.length_take];omega
  have hd:dgt l i=l[i]:=by unfold dgt;rw[List.getElem?_eq_getElem h];rfl
  rw[this,hd];have hs:val [l[i]]=l[i]:=by
   show l[i]+1048576*0=l[i];omega
  rw[hs]
 ·rw[List.take_of_length_le (by omega),List.take_of_length_le h,show dgt l i=0 by unfold dgt;rw[List.getElem?_eq_none h];rfl,Int.mul_zero,Int.add_zero]
theorem jdb(l:List Int)(i:Nat):val l=val (l.take i)+1048576^i*val (l.drop i):=by
 rcases Nat.lt_or_ge i l.length with h | h
 ·conv=>lhs;rw[<-List.take_append_drop i l]
  rw[jf0];have:(l.take i).length=i:=by rw[List.length_take];omega
  rw[this]
 ·rw[List.take_of_length_le h,List.drop_of_length_le h];simp[val]
theorem jd1(l:List Int)(i:Nat):val (l.drop i)=dgt l i+1048576*val (l.drop (i+1)):=by
 rcases Nat.lt_or_ge i l.length with h | h
 ·rw[List.drop_eq_getElem_cons h,val];simp[dgt,h]
 ·rw[List.drop_of_length_le h,List.drop_of_length_le (by omega)];simp[val,dgt,List.getElem?_eq_none h]
theorem jfj(a b:List Int):∀(n k:Nat),a.length+b.length<=k+n->(∀j,k<=j->dgt a j=dgt b j)->val (a.drop k)=val (b.drop k)
 | 0,k,h,_=>by rw[List.drop_of_length_le (by omega),List.drop_of_length_le (by omega)]
 | n+1,k,h,hj=>by
  rw[jd1 a,jd1 b,hj k (Nat.le_refl _),jfj a b n (k+1) (by omega) fun j h=>hj j (by omega)]
theorem jdz(i:Nat):(0:Int)<1048576^i:=Int.pow_pos (by omega)
theorem jdr{l:List Int}(h:OkD l)(i:Nat):val (l.take i)<1048576^i:=by
 have h1:=jeo (h.take i);have h2:(1048576:Int)^(l.take i).length<=1048576^i:=by
  have hl:(l.take i).length<=i:=by rw[List.length_take];omega
  have h3:(1048576:Nat)^(l.take i).length<=1048576^i:=Nat.pow_le_pow_right (by omega) hl;have h4:=Int.ofNat_le.2 h3;rw[Int.natCast_pow,Int.natCast_pow]at h4;exact h4
 omega
theorem lt_at{a b:List Int}(ha:OkD a)(hb:OkD b)(i:Nat)(h:∀j,i<j->dgt a j=dgt b j)(hlt:dgt a i<dgt b i):val a<val b:=by
 have e:val (a.drop (i+1))=val (b.drop (i+1)):=jfj a b (a.length+b.length) (i+1) (by omega) fun j hj=>h j (by omega);have h1:=jdr ha i;have h2:=jb5 (hb.take i);have hp:=jdz i;rw[jdb a i,jdb b i,jd1 a i,jd1 b i,e];generalize val (b.drop (i+1))=v;generalize (1048576:Int)^i=p at*;have h3:p*(dgt a i+1048576*v)+p<=p*(dgt b i+1048576*v):=by
  have:p*(dgt a i+1048576*v)+p=p*(dgt a i+1+1048576*v):=by rw[Int.mul_add,Int.mul_add,Int.mul_add];omega
  rw[this];exact Int.mul_le_mul_of_nonneg_left (by omega) (by omega)
 omega
theorem jq1{a b:List Int}(h:∀j,dgt a j=dgt b j):val a=val b:=by
 have:=jfj a b (a.length+b.length) 0 (by omega) fun j _=>h j
 simpa using this
theorem dgt_take{l:List Int}{n j:Nat}(h:∀i,n<=i->dgt l i=0):dgt (l.take n) j=dgt l j:=by
 unfold dgt at*;rw[List.getElem?_take];split
 ·rfl
 ·rename_i hj;exact(h j (by omega)).symm
theorem jpx{l:List Int}(hl:OkD l){n:Nat}(hn:n<=l.length)(hz:∀i,n<=i->dgt l i=0)(hlast:n=0\/dgt l (n-1)≠0):l.take n=dig (val l).toNat:=by
 have hv:val (l.take n)=val l:=jq1 fun j=>dgt_take hz;rw[<-hv];refine eq_dig (hl.take n) fun h=> ?_;rcases hlast with h0 | h0
 ·subst h0;simp at h
 ·have hlen:(l.take n).length=n:=by rw[List.length_take];omega
  rw[List.getLast?_eq_getElem?,hlen]at h;have hn0:0<n:=by
   rcases Nat.eq_zero_or_pos n with e | e
   ·subst e;simp at h
   ·exact e
  rw[List.getElem?_take,if_pos (by omega)]at h;exact h0 (by simp[dgt,h])
end
section
theorem jmc(d:Int):val [d]=d:=by
 show d+1048576*0=d;omega
theorem jpw(l:List Int)(d:Int):val (l++[d])=val l+1048576^l.length*d:=by rw[jf0,jmc]
theorem jde(i:Nat):(1048576:Int)^(i+1)=1048576^i*1048576:=Int.pow_succ ..
theorem jc6{l:List Int}{i:Nat}(h:l.length<=i):val (l.take i)=val l:=by rw[List.take_of_length_le h]
theorem jfb{l:List Int}(hl:OkD l){i:Nat}(h:val l<1048576^i):val (l.drop i)=0:=by
 have h1:=jdb l i;have h2:=jb5 (hl.take i);have h3:=jb5 (hl.drop i);have hp:=jdz i;rcases Int.lt_or_le 0 (val (l.drop i))with h4 | h4
 ·have:1048576^i*1<=1048576^i*val (l.drop i):=Int.mul_le_mul_of_nonneg_left (by omega) (by omega);omega
 ·omega
theorem jip{l:List Int}(hl:OkD l){i:Nat}(h:val l<1048576^i):val (l.take i)=val l:=by
 have h1:=jdb l i;rw[jfb hl h,Int.mul_zero]at h1;omega
theorem jc2{n k:Nat}(h:(n:Int)<1048576^k):(dig n).length<=k:=by
 induction k generalizing n with
 | zero=>
  have:n=0:=by simp at h;omega
  subst this;rw[jbx];exact Nat.le_refl _
 | succ k ih=>
  by_cases hn:n=0
  ·subst hn;rw[jbx];exact Nat.zero_le _
  ·rw[jge hn,List.length_cons];rw[jde]at h;have:=ih (n:=n/1048576) (by omega);omega
end
end Go.Abs
namespace Go.Proofs.YtgncgpfjldefpaaGreat
section
open Go.Abs
attribute [local go_sem] ints ic
theorem joi(l:List Int):∀c∈l.map ic,c.length=1:=fun c hc=>by
 obtain⟨z,_,rfl⟩:=List.mem_map.1 hc;rfl
theorem jql(l:List Int):((l.map ic).all fun c=>c.length==1)=true:=by
 rw[List.all_eq_true];intro c hc;rw[beq_iff_eq];exact joi l c hc
theorem jbg{l:List Int}{i:Nat}(h:(i:Int)<l.length):l[i]? =some (dgt l i):=by
 have h:i<l.length:=by omega
 unfold dgt;rw[List.getElem?_eq_getElem h];rfl
theorem dgt_at{l:List Int}{i:Nat}{d:Int}(h:l[i]? =some d):dgt l i=d:=by simp[dgt,h]
theorem jey{l:List Int}{i:Nat}(h:l.length<=i):dgt l i=0:=by simp[dgt,List.getElem?_eq_none h]
end
end Go.Proofs.YtgncgpfjldefpaaGreat
namespace Go.Abs
section
theorem jg7:∀(l:List Int) (j:Nat) (v:Int),j<l.length->val (l.set j v)=val l+1048576^j*(v-dgt l j)
 | [],j,v,h=>by simp at h
 | d::l,0,v,_=>by
  have:dgt (d::l) 0=d:=rfl;rw[List.set_cons_zero,this,Int.pow_zero,Int.one_mul];show v+1048576*val l=d+1048576*val l+(v-d);omega
 | d::l,j+1,v,h=>by
  have ih:=jg7 l j v (by simpa using h);have hd:dgt (d::l) (j+1)=dgt l j:=by simp[dgt]
  rw[List.set_cons_succ,hd,jde];show d+1048576*val (l.set j v)=d+1048576*val l+_;rw[ih,Int.mul_add,Int.mul_comm (1048576^j) 1048576,Int.mul_assoc];omega
theorem OkD.set{l:List Int}(h:OkD l){j:Nat}{v:Int}(hv:0<=v/\v<1048576):OkD (l.set j v):=fun x hx=>by
 rcases List.mem_or_eq_of_mem_set hx with h1 | h1
 ·exact h x h1
 ·rw[h1];exact hv
theorem jkg{x y:Int}(hx:0<=x/\x<1048576)(hy:0<=y/\y<1048576):0<=x*y/\x*y<=1048575*1048575:=
 ⟨Int.mul_nonneg hx.1 hy.1,Int.mul_le_mul (by omega) (by omega) hy.1 (by omega)⟩
theorem jlf{out b:List Int}{j i k:Nat}{c n x V:Int}(hj:j=i+k)(hjl:j<out.length)(h:val out+1048576^j*c=V+1048576^i*(x*val (b.take k)))(hn:n=dgt out j+x*dgt b k+c):
  val (out.set j (n % 1048576))+1048576^(j+1)*(n/1048576)=V+1048576^i*(x*val (b.take (k+1))):=by
 rw[jg7 out j _ hjl,jcm,jde,Int.mul_add x,Int.mul_add];have e1:1048576^j*(n % 1048576-dgt out j)+1048576^j*1048576*(n/1048576)=1048576^j*(n-dgt out j):=by
  rw[Int.mul_assoc,<-Int.mul_add];congr 1;have:=Int.emod_add_mul_ediv n 1048576;omega
 have e2:1048576^j*(n-dgt out j)=1048576^j*c+1048576^j*(x*dgt b k):=by
  rw[<-Int.mul_add];congr 1;omega
 have e3:(1048576:Int)^i*(x*(1048576^k*dgt b k))=1048576^j*(x*dgt b k):=by
  rw[hj,Int.pow_add,Int.mul_left_comm x,Int.mul_assoc]
 rw[e3];omega
theorem jdw(n:Nat):val (List.replicate n 0)=0:=by
 induction n with
 | zero=>rfl
 | succ n ih=>rw[List.replicate_succ];show 0+1048576*val (List.replicate n 0)=0;rw[ih];rfl
theorem OkD.replicate(n:Nat):OkD (List.replicate n 0):=fun x hx=>by rw[List.eq_of_mem_replicate hx];omega
end
end Go.Abs
