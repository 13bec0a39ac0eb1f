/- A part of the proof. No further condition. -/
import Derived.Test.YtfahloobpegieaaGreatKX34
import Derived.Test.YtfahloobpegieaaGreatKX17
set_option linter.all false
set_option maxRecDepth 100000
namespace Go.Proofs.YtfahloobpegieaaGreat
section
open Go.Abs
open Go.LP (Dic Rw RT Ov OvRw tsum Sol IsMin NoMin Bds)
section
variable{e:Evid}{ps:List (Int×Int)}
theorem okP_to{e':Evid}(h:okP e ps=true)(hc:jbs e'=0)(h1:e'.mats=e.mats)(h2:e'.moves=e.moves):okP e' ps=true:=by
 obtain⟨_,g2,g3⟩:=okP_iff.1 h;refine okP_iff.2 ⟨hc,fun p hp=> ?_,by rw[h1];exact g3⟩;have:=g2 p hp;unfold je3 at this⊢;rw[h1,h2];exact this
theorem wgt_to{e':Evid}(h1:e'.mats=e.mats):wgt e' ps=wgt e ps:=by unfold wgt;rw[h1]
theorem nV_to{e':Evid}(h1:e'.mats=e.mats)(h2:e'.moves=e.moves):nV e'=nV e:=by unfold nV;rw[h1,h2]
theorem BSay.wider{e':Evid}{b b':Option (Rat×Option Rat)}{lo':Rat}{hi':Option Rat}(h:BSay e ps b)(h':BSay e' ps b')(hb':b'=Option.some (lo',hi'))(hc:jbs e=0)(h1:e'.mats=e.mats)(h2:e'.moves=e.moves)
  (hr:∀w∈rowsE e,w∈rowsE e'):∃lo hi,b=Option.some (lo,hi)/\lo<=lo'/\(∀w,hi=Option.some w->∃w',hi'=Option.some w'/\w'<=w)/\FL 4000000000 lo/\(∀w,hi=Option.some w->FL 4000000000 w)/\FL 4000000000 lo'/\(∀w,hi'=Option.some w->FL 4000000000 w):=by
 subst hb';obtain⟨g1,g2,g3,g4⟩:=h'.inv;rw[wgt_to h1,nV_to h1 h2]at g2;obtain⟨x,hx,_⟩:=g2.low_at;obtain⟨lo,hi,rfl,q2,q3,q4⟩:=h.get (okP_to g1 hc h1.symm h2.symm) ⟨x,hx.sub hr⟩;obtain⟨a1,a2⟩:=q2.sub g2 hr;exact⟨lo,hi,rfl,a1,a2,q3,q4,g3,g4⟩
theorem BSay.same{e':Evid}{b b':Option (Rat×Option Rat)}(h:BSay e ps b)(h':BSay e' ps b')(hc:jbs e=0)(hc':jbs e'=0)(h1:e'.mats=e.mats)(h2:e'.moves=e.moves)(hr:∀w,w∈rowsE e↔w∈rowsE e'):b=b':=by
 cases b' with
 | none=>
  cases b with
  | none=>rfl
  | some p=>
   obtain⟨lo,hi⟩:=p;obtain⟨_,_,e1,_⟩:=h'.wider h rfl hc' h1.symm h2.symm fun w hw=>(hr w).2 hw;cases e1
 | some p=>
  obtain⟨lo,hi⟩:=p;obtain⟨lo2,hi2,rfl,_⟩:=h.wider h' rfl hc h1 h2 fun w hw=>(hr w).1 hw;obtain⟨_,g2,_⟩:=h.inv;obtain⟨_,g2',_⟩:=h'.inv;rw[wgt_to h1,nV_to h1 h2]at g2';obtain⟨e1,e2⟩:=g2.uniq g2' hr;rw[e1,e2]
end
end
section
open Go.Abs
attribute [local go_sem] Evid.iv Evid.c Place.c Move.c Cert.c Recall.c Purity.c Sample.c Recipe.c ints ic
def jd3(l:List Sample):IV:= .sl (l.map Sample.c)
def jd4(l:List Recipe):IV:= .sl (l.map Recipe.c)
def jl5(s:Sample):Bool:= !decide (10<(s.grams.length:Int))
def few19(l:List Sample)(r:List Recipe):Bool:=(l.take 41).all jl5&&(decide ((l.length:Int)<=40)&&decide ((r.length:Int)<=40))
set_option maxHeartbeats 1000000 in
theorem c9(l:List Sample)(r:List Recipe):Ctr G.P 36 [jd3 l,jd4 r] (· = .bool (few19 l r)):=by
 refine jaa good _ _ [.tmp 4] Tryz.func36 rfl rfl (by decide+kernel) rfl ?_;unfold jd3 jd4;simp only[go_sem];refine jar [0,1,5] [] (fun i:Nat=>⟨[(0,.im (.sl (l.map Sample.c))),(1,.im (.sl (r.map Recipe.c))),(5,.im (.int i))],[],[]⟩)
  (fun i=>i<=l.length/\i<=41/\(l.take i).all jl5=true) (fun i=>l.length-i) 0 ?_ ⟨Nat.zero_le _,Nat.zero_le _,rfl⟩ ?_
 ·simp only[Int.natCast_zero,go_sem]
 ·intro i ⟨hi,h41,ha⟩;by_cases hp:(i:Int)<l.length
  ·have hd:decide ((i:Int)<l.length)=true:=decide_eq_true hp;obtain⟨x,hx⟩:=jcm hp;have h1:=ja6 (n:=(i:Int)+1) (by omega);by_cases hq:(i:Int)<=40
   ·have hr:decide ((i:Int)<=40)=true:=decide_eq_true hq;simp only[hd,hr,List.getElem?_map,hx,Sample.c,ints,go_sem];refine jbl (fun he=> ?_) (fun he=> ?_)
    ·have hf:few19 l r=false:=by
      have h41':(l.take 41)[i]? =some x:=by rw[List.getElem?_take,if_pos (by omega)];exact hx
      simp[few19,jix h41' (f:=jl5) (by simp only[jl5,he,Bool.not_true])]
     simp only[hd,hr,he,hf,go_sem]
    ·simp only[hd,hr,he,go_sem];refine ja9 (i+1) ?_ (by omega) ⟨by omega,by omega,by rw[jdf hx,ha];simp only[jl5,he,Bool.not_false,Bool.and_self]⟩;simp only[h1,Int.natCast_add,go_sem]
   ·have hr:decide ((i:Int)<=40)=false:=decide_eq_false hq;have h40:decide ((l.length:Int)<=40)=false:=decide_eq_false (by omega);have hf:few19 l r=false:=by simp only[few19,h40,Bool.false_and,Bool.and_false]
    simp only[hd,hr,hf,h40,go_sem]
  ·have hd:decide ((i:Int)<l.length)=false:=decide_eq_false hp;have hf:few19 l r=(decide ((l.length:Int)<=40)&&decide ((r.length:Int)<=40)):=by
    rw[List.take_of_length_le (by omega)]at ha;rw[few19,List.take_of_length_le (by omega),ha,Bool.true_and]
   simp only[hd,hf,go_sem]
   repeat' (refine jc2 (fun hd hp=> ?_) (fun hd hp=> ?_)<;>simp only[hd,go_sem])
   all_goals (rw[hf];simp only[*,decide_true,decide_false,Bool.true_and,Bool.false_and])
end
section
open Go.Abs
attribute [local go_sem] Evid.iv Evid.c Place.c Move.c Cert.c Recall.c Purity.c Sample.c Recipe.c ints ic
def jhs(s:Sample):Bool:=btw s.move 0 199&& !decide ((s.grams.length:Int)=0)&& !decide (6<(s.grams.length:Int))&& !s.grams.any (fun n=> !btw n 0 1099511627776)&&btw s.slack 0 1000
def lowF(n sum:Int):Int:=(1000*n).tdiv sum
def highF(n sum:Int):Int:=if decide (0<(1000*n).tmod sum)=true then lowF n sum+1 else lowF n sum
def purOf(s:Sample)(sum:Int)(i:Nat)(n:Int):Purity:=⟨s.move,i,max 0 (lowF n sum-s.slack),min 1000 (highF n sum+s.slack)⟩
def purGo(s:Sample)(sum:Int):Nat->List Int->List Purity
 | _,[]=>[]
 | i,n::r=>purOf s sum i n::purGo s sum (i+1) r
def jbn(s:Sample):List Purity×Int:=
 if jhs s=false then([],1)else if isum s.grams=0 then([],14)else(purGo s (isum s.grams) 0 s.grams,0)
def resP(r:List Purity×Int):IV:= .tup [purs r.1,.int r.2]
set_option maxHeartbeats 4000000 in
theorem c10(s:Sample)(hl:s.grams.length<=100000):Ctr G.P 91 [.agg s.c] (· =resP (jbn s)):=by
 have h26:=c26 s.grams hl (fun n=> !btw n 0 1099511627776) 157 [] (by decide) (fun n=>c24 n);rcases hok:jhs s with _ | _
 ·have hr:resP (jbn s)= .tup [.sl [],.int 1]:=by simp[jbn,hok,resP,purs]
  rw[hr];simp only[jhs]at hok;generalize ha:s.grams.any (fun n=> !btw n 0 1099511627776)=any at*;refine jaa good _ _ [.tmp 2,.tmp 3] Tryz.func91 rfl rfl (by decide+kernel) rfl ?_;unfold Sample.c ints;simp only[go_sem]
  repeat' (first | (refine jbl (fun hd=> ?_) (fun hd=> ?_)<;>simp only[*,go_sem]) | (refine ja1 (c25 _ _) (by first | decide | assumption) ?_;simp only[*,go_sem]) | (refine ja1 (h26) (by first | decide | assumption) ?_;simp only[*,go_sem]) | (refine ja5 (c25 _ _) (by decide) ?_;simp only[*,go_sem]) | (refine ja5 (h26) (by decide) ?_;simp only[*,go_sem]))
  all_goals simp_all
 ·have hparts:btw s.move 0 199=true/\¬(s.grams.length:Int)=0/\¬6<(s.grams.length:Int)/\s.grams.any (fun n=> !btw n 0 1099511627776)=false/\btw s.slack 0 1000=true:=by
   simp only[jhs,Bool.and_eq_true,Bool.not_eq_true',decide_eq_false_iff_not]at hok;exact⟨hok.1.1.1.1,hok.1.1.1.2,hok.1.1.2,hok.1.2,hok.2⟩
  obtain⟨b1,b2,b3,b4,b5⟩:=hparts;have hb:∀x∈s.grams,0<=x/\x<=1099511627776:=fun x hx=>by
   have:=List.any_eq_false.1 b4 x hx
   simpa [btw_iff]using this
  have hs:0<=s.slack/\s.slack<=1000:=btw_iff.1 b5;rw[b4]at h26;refine jaa good _ _ [.tmp 2,.tmp 3] Tryz.func91 rfl rfl (by decide+kernel) rfl ?_;unfold Sample.c ints;simp only[go_sem]
  repeat' (first | (refine jbl (fun hd=> ?_) (fun hd=> ?_)<;>simp only[*,go_sem]) | (refine ja1 (c25 _ _) (by first | decide | assumption) ?_;simp only[*,go_sem]) | (refine ja1 (h26) (by first | decide | assumption) ?_;simp only[*,go_sem]) | (refine ja5 (c25 _ _) (by decide) ?_;simp only[*,go_sem]) | (refine ja5 (h26) (by decide) ?_;simp only[*,go_sem]))
  refine jar [1,43,44,45,5] [1] (fun i:Nat=>⟨[(1,.loc 1 3 0 0),(43,.im (.sl (s.grams.map ic))),(44,.im (.int s.grams.length)),(45,.im (.int i)),(5,.im (.int (isum (s.grams.take i))))],[(1,3,[s.c])],[]⟩)
   (fun i=>i<=s.grams.length) (fun i=>s.grams.length-i) 0 ?_ (Nat.zero_le _) ?_
  ·simp only[Sample.c,ints,Int.natCast_zero,List.take_zero,isum,go_sem]
  ·intro i hi;have hbi:=isum_bound hb i;rw[List.length_take]at hbi;by_cases hp:(i:Int)<s.grams.length
   ·have hd:decide ((i:Int)<s.grams.length)=true:=decide_eq_true hp;obtain⟨x,hx⟩:=jcm hp;have hxb:=hb x (List.mem_of_getElem? hx);have h1:=ja6 (n:=(i:Int)+1) (by omega);have h2:=ja6 (n:=isum (s.grams.take i)+x) (by omega);simp only[hd,List.getElem?_map,hx,ic,go_sem];refine ja9 (i+1) ?_ (by omega) (by omega);simp only[h1,h2,isum_take hx,Int.natCast_add,Sample.c,ints,go_sem]
   ·have hd:decide ((i:Int)<s.grams.length)=false:=decide_eq_false hp;rw[List.take_of_length_le (by omega)]at hbi⊢;simp only[hd,go_sem];clear hd hp hi;have hsb:isum s.grams<=1099511627776*6:=by
     have h1:((min i s.grams.length:Nat):Int)<=6:=by omega
     omega
    refine jc2 (fun h0 h0'=> ?_) (fun h0 h0'=> ?_)
    ·have hr:resP (jbn s)= .tup [.sl [],.int 14]:=by simp[jbn,hok,h0',resP,purs]
     simp only[h0,hr,go_sem]
    ·have hr:resP (jbn s)= .tup [purs (purGo s (isum s.grams) 0 s.grams),.int 0]:=by simp[jbn,hok,h0',resP]
     simp only[h0,Sample.c,ints,go_sem];refine jar [1,5,56,57,58,8] [1,92] (fun g:Nat×List Purity=>⟨[(1,.loc 1 3 0 0),(5,.im (.int (isum s.grams))),(56,.im (.sl (s.grams.map ic))),(57,.im (.int s.grams.length)),(58,.im (.int g.1)),
       (8,if g.2=[]then .sx []else .vec 92 31 4 (g.2.map Purity.c))],[(1,3,[s.c])],if g.2=[]then []else [(92,4,g.2.length)]⟩)
      (fun g=>g.1<=s.grams.length/\g.2++purGo s (isum s.grams) g.1 (s.grams.drop g.1)=purGo s (isum s.grams) 0 s.grams/\g.2.length<=g.1) (fun g=>s.grams.length-g.1) (0,[]) ?_ ⟨Nat.zero_le _,rfl,Nat.zero_le _⟩ ?_
     ·simp only[Int.natCast_zero,Sample.c,ints,eq_self,go_sem]
     ·intro⟨i,l⟩ ⟨hi,ha,hl'⟩;dsimp only at hi ha hl';by_cases hp:(i:Int)<s.grams.length
      ·have hd:decide ((i:Int)<s.grams.length)=true:=decide_eq_true hp;obtain⟨x,hx⟩:=jcm hp;have hxb:=hb x (List.mem_of_getElem? hx);have hS:¬isum s.grams=0:=h0';have hq0:0<=(1000*x).tdiv (isum s.grams):=Int.tdiv_nonneg (by omega) (by omega);have hq1:(1000*x).tdiv (isum s.grams)<=1000*x:=by
        rw[Int.tdiv_eq_ediv_of_nonneg (by omega)];exact Int.ediv_le_self _ (by omega)
       have h1:=ja6 (n:=(i:Int)+1) (by omega);have h3:=ja6 (n:=1000*x) (by omega);have h4:=ja6 (n:=(1000*x).tdiv (isum s.grams)) (by omega);have h5:=ja6 (n:=(1000*x).tdiv (isum s.grams)-s.slack) (by omega);have h6:=ja6 (n:=(1000*x).tdiv (isum s.grams)+1) (by omega);have h7:=ja6 (n:=(1000*x).tdiv (isum s.grams)+1+s.slack) (by omega);have h8:=ja6 (n:=(1000*x).tdiv (isum s.grams)+s.slack) (by omega);rw[jgm hx,purGo]at ha;rcases l with _ | ⟨y,l⟩
       ·skip
        have hlen:∀(c:List IV),c∈List.map Purity.c ([])->c.length=4:=fun c hc=>by
         obtain⟨z,_,rfl⟩:=List.mem_map.1 hc;rfl
        simp only[List.map_cons,List.map_nil]at hlen;simp only[List.length_cons,List.length_nil]at hl';simp only[hd,List.getElem?_map,hx,ic,eq_self,go_sem];refine jau 10 (by decide+kernel) ?_;simp only[h3,h4,hS,go_sem];refine jbl (fun hm=> ?_) (fun hm=> ?_)
        ·have hpu:purOf s (isum s.grams) i x=⟨s.move,i,max 0 ((1000*x).tdiv (isum s.grams)-s.slack),min 1000 ((1000*x).tdiv (isum s.grams)+1+s.slack)⟩:=by simp only[purOf,highF,lowF,hm,if_true]
         simp only[*,Sample.c,ints,go_sem];refine⟨hlen,by simp,?_⟩
         try refine⟨by omega,?_⟩
         refine ja9 (i+1,[]++[purOf s (isum s.grams) i x]) ?_ ?_ ⟨?_,?_,?_⟩
         ·simp only[*,Sample.c,ints,Int.natCast_add,eq_self,List.map_append,List.length_append,Purity.c,go_sem]
         ·show s.grams.length-(i+1)<s.grams.length-i;omega
         ·show i+1<=s.grams.length;omega
         ·dsimp only;rw[<-ha];simp only[List.append_assoc,List.cons_append,List.nil_append]
         ·dsimp only;simp only[List.length_append,List.length_cons,List.length_nil];omega
        ·have hpu:purOf s (isum s.grams) i x=⟨s.move,i,max 0 ((1000*x).tdiv (isum s.grams)-s.slack),min 1000 ((1000*x).tdiv (isum s.grams)+s.slack)⟩:=by simp only[purOf,highF,lowF,hm,if_false,Bool.false_eq_true]
         simp only[*,Sample.c,ints,go_sem];refine⟨hlen,by simp,?_⟩
         try refine⟨by omega,?_⟩
         refine ja9 (i+1,[]++[purOf s (isum s.grams) i x]) ?_ ?_ ⟨?_,?_,?_⟩
         ·simp only[*,Sample.c,ints,Int.natCast_add,eq_self,List.map_append,List.length_append,Purity.c,go_sem]
         ·show s.grams.length-(i+1)<s.grams.length-i;omega
         ·show i+1<=s.grams.length;omega
         ·dsimp only;rw[<-ha];simp only[List.append_assoc,List.cons_append,List.nil_append]
         ·dsimp only;simp only[List.length_append,List.length_cons,List.length_nil];omega
       ·skip
        have hlen:∀(c:List IV),c∈List.map Purity.c ((y::l))->c.length=4:=fun c hc=>by
         obtain⟨z,_,rfl⟩:=List.mem_map.1 hc;rfl
        simp only[List.map_cons,List.map_nil]at hlen;simp only[List.length_cons,List.length_nil]at hl';simp only[hd,List.getElem?_map,hx,ic,eq_self,go_sem];refine jau 10 (by decide+kernel) ?_;simp only[h3,h4,hS,go_sem];refine jbl (fun hm=> ?_) (fun hm=> ?_)
        ·have hpu:purOf s (isum s.grams) i x=⟨s.move,i,max 0 ((1000*x).tdiv (isum s.grams)-s.slack),min 1000 ((1000*x).tdiv (isum s.grams)+1+s.slack)⟩:=by simp only[purOf,highF,lowF,hm,if_true]
         simp only[*,Sample.c,ints,go_sem];refine⟨hlen,by simp,?_⟩
         try refine⟨by omega,?_⟩
         refine ja9 (i+1,(y::l)++[purOf s (isum s.grams) i x]) ?_ ?_ ⟨?_,?_,?_⟩
         ·simp only[*,Sample.c,ints,Int.natCast_add,eq_self,List.map_append,List.length_append,Purity.c,go_sem]
         ·show s.grams.length-(i+1)<s.grams.length-i;omega
         ·show i+1<=s.grams.length;omega
         ·dsimp only;rw[<-ha];simp only[List.append_assoc,List.cons_append,List.nil_append]
         ·dsimp only;simp only[List.length_append,List.length_cons,List.length_nil];omega
        ·have hpu:purOf s (isum s.grams) i x=⟨s.move,i,max 0 ((1000*x).tdiv (isum s.grams)-s.slack),min 1000 ((1000*x).tdiv (isum s.grams)+s.slack)⟩:=by simp only[purOf,highF,lowF,hm,if_false,Bool.false_eq_true]
         simp only[*,Sample.c,ints,go_sem];refine⟨hlen,by simp,?_⟩
         try refine⟨by omega,?_⟩
         refine ja9 (i+1,(y::l)++[purOf s (isum s.grams) i x]) ?_ ?_ ⟨?_,?_,?_⟩
         ·simp only[*,Sample.c,ints,Int.natCast_add,eq_self,List.map_append,List.length_append,Purity.c,go_sem]
         ·show s.grams.length-(i+1)<s.grams.length-i;omega
         ·show i+1<=s.grams.length;omega
         ·dsimp only;rw[<-ha];simp only[List.append_assoc,List.cons_append,List.nil_append]
         ·dsimp only;simp only[List.length_append,List.length_cons,List.length_nil];omega
      ·have hd:decide ((i:Int)<s.grams.length)=false:=decide_eq_false hp;rw[List.drop_of_length_le (by omega),purGo,List.append_nil]at ha;rw[<-ha]at hr;rcases l with _ | ⟨y,l⟩
       ·simp only[hd,eq_self,hr,purs,go_sem]
       ·simp only[hd,eq_self,hr,purs,go_sem]
end
section
open Go.Abs
attribute [local go_sem] Evid.iv Evid.c Place.c Move.c Cert.c Recall.c Purity.c Sample.c Recipe.c ints ic
end
section
open Go.Abs
attribute [local go_sem] Evid.iv Evid.c Place.c Move.c Cert.c Recall.c Purity.c Sample.c Recipe.c ints ic
def jct(e:Evid)(s:Sample):List Purity×Int:=
 if decide ((jbn s).2=0)=false then([],(jbn s).2)else if decide ((e.moves.length:Int)<=s.move)=true then([],4)else if decide (((jbn s).1.length:Int)=e.mats)=false then([],2)else((jbn s).1,0)
theorem jnj(s:Sample)(S:Int):∀(l:List Int) (i:Nat),(purGo s S i l).length=l.length
 | [],_=>rfl
 | _::r,i=>by simp[purGo,jnj s S r (i+1)]
theorem pur_len{s:Sample}(h:(jbn s).2=0):(jbn s).1.length=s.grams.length:=by
 unfold jbn at h⊢;split at h
 ·cases h
 ·split at h
  ·cases h
  ·rename_i h1 h2;rw[if_neg h1,if_neg h2];exact jnj _ _ _ _
theorem c30(e:Evid)(s:Sample)(hl:s.grams.length<=100000):Ctr G.P 94 [e.iv,.agg s.c] (· =resP (jct e s)):=by
 have h10:=c10 s hl;unfold jct;generalize jbn s=r at*;obtain⟨l,k⟩:=r;refine jaa good _ _ [.tmp 4,.tmp 5] Tryz.func94 rfl rfl (by decide+kernel) rfl ?_;unfold Evid.iv Evid.c Sample.c ints;simp only[go_sem];refine ja1 h10 (by decide) ?_;clear h10;simp only[resP,purs,go_sem]
 repeat' (first | (refine jbl (fun hd=> ?_) (fun hd=> ?_)<;>simp only[*,resP,purs,go_sem]))
end
section
open Go.Abs
attribute [local go_sem] Evid.iv Evid.c Place.c Move.c Cert.c Recall.c Purity.c Sample.c Recipe.c ints ic
def jgo(x:Recipe):Nat->List Move->List Purity
 | _,[]=>[]
 | i,m::r=>if(decide (m.fr=x.fr)&&decide (m.to=x.to))=true then⟨i,x.mat,x.least,x.most⟩::jgo x (i+1) r else jgo x (i+1) r
def je1(e:Evid)(x:Recipe):List Purity×Int:=
 if btw x.fr 0 ((e.places.length:Int)-1)=false then([],4)else if btw x.to 0 ((e.places.length:Int)-1)=false then([],4)else
 if btw x.mat 0 (e.mats-1)=false then([],1)else if btw x.least 0 x.most=false then([],1)else if decide (1000<x.most)=true then([],1)else(jgo x 0 e.moves,0)
set_option maxHeartbeats 4000000 in
theorem c31(e:Evid)(x:Recipe)(h1:e.places.length<=100000)(h2:e.moves.length<=100000)(h3:1<=e.mats/\e.mats<=100000):Ctr G.P 95 [e.iv,.agg x.c] (· =resP (je1 e x)):=by
 have w1:=ja6 (n:=(e.places.length:Int)-1) (by omega);have w2:=ja6 (n:=e.mats-1) (by omega);refine jaa good _ _ [.tmp 4,.tmp 5] Tryz.func95 rfl rfl (by decide+kernel) rfl ?_;unfold je1 Evid.iv Evid.c Recipe.c;simp only[w1,go_sem]
 repeat' (first | (refine jbl (fun hd=> ?_) (fun hd=> ?_)<;>simp only[*,resP,purs,List.map_nil,go_sem]) | (refine ja1 (c25 _ _) (by first | decide | assumption) ?_;simp only[*,resP,purs,List.map_nil,go_sem]) | (refine ja5 (c25 _ _) (by decide) ?_;simp only[*,resP,purs,List.map_nil,go_sem]))
 rename_i k1 k2 k3 k4;refine jar [3,49,50,51,7] [3,78] (fun g:Nat×List Purity=>⟨[(3,.loc 3 5 0 0),(49,.im (.sl (e.moves.map Move.c))),(50,.im (.int e.moves.length)),(51,.im (.int g.1)),
   (7,if g.2=[]then .sx []else .vec 78 31 4 (g.2.map Purity.c))],[(3,5,[x.c])],if g.2=[]then []else [(78,4,g.2.length)]⟩)
  (fun g=>g.1<=e.moves.length/\g.2++jgo x g.1 (e.moves.drop g.1)=jgo x 0 e.moves/\g.2.length<=g.1) (fun g=>e.moves.length-g.1) (0,[]) ?_ ⟨Nat.zero_le _,rfl,Nat.zero_le _⟩ ?_
 ·simp only[Int.natCast_zero,Recipe.c,eq_self,go_sem]
 ·intro⟨i,l⟩ ⟨hi,ha,hl⟩;dsimp only at hi ha hl;by_cases hp:(i:Int)<e.moves.length
  ·have hd:decide ((i:Int)<e.moves.length)=true:=decide_eq_true hp;obtain⟨m,hx⟩:=jcm hp;have n1:=ja6 (n:=(i:Int)+1) (by omega);rw[jgm hx,jgo]at ha;rcases l with _ | ⟨y,l⟩
   ·skip
    have hlen:∀(c:List IV),c∈List.map Purity.c ([])->c.length=4:=fun c hc=>by
     obtain⟨z,_,rfl⟩:=List.mem_map.1 hc;rfl
    simp only[List.map_cons,List.map_nil]at hlen;simp only[List.length_cons,List.length_nil]at hl;simp only[hd,List.getElem?_map,hx,Move.c,Recipe.c,eq_self,go_sem];refine jbl (fun hf=> ?_) (fun hf=> ?_)
    ·simp only[hf,List.getElem?_map,hx,Move.c,Recipe.c,eq_self,go_sem];refine jbl (fun ht=> ?_) (fun ht=> ?_)
     ·rw[hf,ht,Bool.and_self,if_pos rfl]at ha;simp only[hf,ht,List.getElem?_map,hx,Move.c,Recipe.c,eq_self,go_sem];refine⟨hlen,by simp,?_⟩
      try refine⟨by omega,?_⟩
      refine ja9 (i+1,[]++[⟨i,x.mat,x.least,x.most⟩]) ?_ ?_ ⟨?_,?_,?_⟩
      ·simp only[n1,Recipe.c,Int.natCast_add,eq_self,List.map_append,List.length_append,Purity.c,go_sem]
      ·show e.moves.length-(i+1)<e.moves.length-i;omega
      ·show i+1<=e.moves.length;omega
      ·dsimp only;rw[<-ha];simp only[List.append_assoc,List.cons_append,List.nil_append]
      ·dsimp only;simp only[List.length_append,List.length_cons,List.length_nil];omega
     ·rw[hf,ht,Bool.and_false,if_neg Bool.false_ne_true]at ha;simp only[hf,ht,List.getElem?_map,hx,Move.c,Recipe.c,eq_self,go_sem];refine ja9 (i+1,[]) ?_ ?_ ⟨?_,?_,?_⟩
      ·simp only[n1,Recipe.c,Int.natCast_add,eq_self,go_sem]
      ·show e.moves.length-(i+1)<e.moves.length-i;omega
      ·show i+1<=e.moves.length;omega
      ·exact ha
      ·dsimp only;simp only[List.length_cons,List.length_nil];omega
    ·rw[hf,Bool.false_and,if_neg Bool.false_ne_true]at ha;simp only[hf,List.getElem?_map,hx,Move.c,Recipe.c,eq_self,go_sem];refine ja9 (i+1,[]) ?_ ?_ ⟨?_,?_,?_⟩
     ·simp only[n1,Recipe.c,Int.natCast_add,eq_self,go_sem]
     ·show e.moves.length-(i+1)<e.moves.length-i;omega
     ·show i+1<=e.moves.length;omega
     ·exact ha
     ·dsimp only;simp only[List.length_cons,List.length_nil];omega
   ·skip
    have hlen:∀(c:List IV),c∈List.map Purity.c ((y::l))->c.length=4:=fun c hc=>by
     obtain⟨z,_,rfl⟩:=List.mem_map.1 hc;rfl
    simp only[List.map_cons,List.map_nil]at hlen;simp only[List.length_cons,List.length_nil]at hl;simp only[hd,List.getElem?_map,hx,Move.c,Recipe.c,eq_self,go_sem];refine jbl (fun hf=> ?_) (fun hf=> ?_)
    ·simp only[hf,List.getElem?_map,hx,Move.c,Recipe.c,eq_self,go_sem];refine jbl (fun ht=> ?_) (fun ht=> ?_)
     ·rw[hf,ht,Bool.and_self,if_pos rfl]at ha;simp only[hf,ht,List.getElem?_map,hx,Move.c,Recipe.c,eq_self,go_sem];refine⟨hlen,by simp,?_⟩
      try refine⟨by omega,?_⟩
      refine ja9 (i+1,(y::l)++[⟨i,x.mat,x.least,x.most⟩]) ?_ ?_ ⟨?_,?_,?_⟩
      ·simp only[n1,Recipe.c,Int.natCast_add,eq_self,List.map_append,List.length_append,Purity.c,go_sem]
      ·show e.moves.length-(i+1)<e.moves.length-i;omega
      ·show i+1<=e.moves.length;omega
      ·dsimp only;rw[<-ha];simp only[List.append_assoc,List.cons_append,List.nil_append]
      ·dsimp only;simp only[List.length_append,List.length_cons,List.length_nil];omega
     ·rw[hf,ht,Bool.and_false,if_neg Bool.false_ne_true]at ha;simp only[hf,ht,List.getElem?_map,hx,Move.c,Recipe.c,eq_self,go_sem];refine ja9 (i+1,(y::l)) ?_ ?_ ⟨?_,?_,?_⟩
      ·simp only[n1,Recipe.c,Int.natCast_add,eq_self,go_sem]
      ·show e.moves.length-(i+1)<e.moves.length-i;omega
      ·show i+1<=e.moves.length;omega
      ·exact ha
      ·dsimp only;simp only[List.length_cons,List.length_nil];omega
    ·rw[hf,Bool.false_and,if_neg Bool.false_ne_true]at ha;simp only[hf,List.getElem?_map,hx,Move.c,Recipe.c,eq_self,go_sem];refine ja9 (i+1,(y::l)) ?_ ?_ ⟨?_,?_,?_⟩
     ·simp only[n1,Recipe.c,Int.natCast_add,eq_self,go_sem]
     ·show e.moves.length-(i+1)<e.moves.length-i;omega
     ·show i+1<=e.moves.length;omega
     ·exact ha
     ·dsimp only;simp only[List.length_cons,List.length_nil];omega
  ·have hd:decide ((i:Int)<e.moves.length)=false:=decide_eq_false hp;rw[List.drop_of_length_le (by omega),jgo,List.append_nil]at ha;rcases l with _ | ⟨y,l⟩
   ·have hb:=ha.symm;clear ha;simp only[eq_self,resP,purs, *,go_sem]
   ·have hb:=ha.symm;clear ha;simp only[eq_self,resP,purs, *,go_sem]
end
section
open Go.Abs
attribute [local go_sem] Evid.iv Evid.c Place.c Move.c Cert.c Recall.c Purity.c Sample.c Recipe.c ints ic
end
section
open Go.Abs
attribute [local go_sem] Evid.iv Evid.c Place.c Move.c Cert.c Recall.c Purity.c Sample.c Recipe.c ints ic
end
section
open Go.Abs
attribute [local go_sem] Evid.iv Evid.c Place.c Move.c Cert.c Recall.c Purity.c Sample.c Recipe.c ints ic
theorem CtrV.ctr{P:Program}{f:FuncId}{args:List IV}{e s:Nat}{es:List (List IV)}(h:CtrV P f args e s es):Ctr P f args (· = .sl es):=by
 intro w M vs hM hr;refine(h w M vs hM hr).mono fun en w' ⟨v,he,hb,hv⟩=> ?_;refine⟨_,v,rfl,he,?_,hb⟩;rcases hv with ⟨h1,_⟩ | ⟨b,cap,cur,_,_,h1,_⟩
 ·exact h1
 ·exact h1.less fun b o hm=> .inl hm
theorem c29(l:List Purity)(hl:l.length<=100000):CtrV G.P 93 [.sl (l.map Purity.c)] 31 4 (l.map Purity.c):=by
 have hlen:∀(c:List IV),c∈l.map Purity.c->c.length=4:=fun c hc=>by
  obtain⟨z,_,rfl⟩:=List.mem_map.1 hc;rfl
 refine jko good _ _ [.tmp 2] Tryz.func93 rfl rfl (by decide+kernel) rfl ?_;simp only[go_sem];refine jhl (fun h=> ?_) ?_
 ·rw[List.map_eq_nil_iff]at h;subst h;simp only[go_sem]
 ·simp only[go_sem];exact⟨by simp,hlen,by omega⟩
theorem c32(l:List Place)(hl:l.length<=100000):CtrV G.P 96 [.sl (l.map Place.c)] 86 3 (l.map Place.c):=by
 have hlen:∀(c:List IV),c∈l.map Place.c->c.length=3:=fun c hc=>by
  obtain⟨z,_,rfl⟩:=List.mem_map.1 hc;rfl
 refine jko good _ _ [.tmp 2] Tryz.func96 rfl rfl (by decide+kernel) rfl ?_;simp only[go_sem];refine jhl (fun h=> ?_) ?_
 ·rw[List.map_eq_nil_iff]at h;subst h;simp only[go_sem]
 ·simp only[go_sem];exact⟨by simp,hlen,by omega⟩
theorem c33(l:List Move)(hl:l.length<=100000):CtrV G.P 97 [.sl (l.map Move.c)] 110 6 (l.map Move.c):=by
 have hlen:∀(c:List IV),c∈l.map Move.c->c.length=6:=fun c hc=>by
  obtain⟨z,_,rfl⟩:=List.mem_map.1 hc;rfl
 refine jko good _ _ [.tmp 2] Tryz.func97 rfl rfl (by decide+kernel) rfl ?_;simp only[go_sem];refine jhl (fun h=> ?_) ?_
 ·rw[List.map_eq_nil_iff]at h;subst h;simp only[go_sem]
 ·simp only[go_sem];exact⟨by simp,hlen,by omega⟩
theorem c34(l:List Cert)(hl:l.length<=100000):CtrV G.P 98 [.sl (l.map Cert.c)] 33 6 (l.map Cert.c):=by
 have hlen:∀(c:List IV),c∈l.map Cert.c->c.length=6:=fun c hc=>by
  obtain⟨z,_,rfl⟩:=List.mem_map.1 hc;rfl
 refine jko good _ _ [.tmp 2] Tryz.func98 rfl rfl (by decide+kernel) rfl ?_;simp only[go_sem];refine jhl (fun h=> ?_) ?_
 ·rw[List.map_eq_nil_iff]at h;subst h;simp only[go_sem]
 ·simp only[go_sem];exact⟨by simp,hlen,by omega⟩
theorem c35(l:List Recall)(hl:l.length<=100000):CtrV G.P 99 [.sl (l.map Recall.c)] 35 2 (l.map Recall.c):=by
 have hlen:∀(c:List IV),c∈l.map Recall.c->c.length=2:=fun c hc=>by
  obtain⟨z,_,rfl⟩:=List.mem_map.1 hc;rfl
 refine jko good _ _ [.tmp 2] Tryz.func99 rfl rfl (by decide+kernel) rfl ?_;simp only[go_sem];refine jhl (fun h=> ?_) ?_
 ·rw[List.map_eq_nil_iff]at h;subst h;simp only[go_sem]
 ·simp only[go_sem];exact⟨by simp,hlen,by omega⟩
end
end Go.Proofs.YtfahloobpegieaaGreat
