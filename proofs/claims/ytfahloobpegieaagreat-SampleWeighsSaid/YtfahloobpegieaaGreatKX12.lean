/- A part of the proof. No further condition. -/
import Derived.Test.YtfahloobpegieaaGreatKX11
import Derived.Shelf.SlSortCmp.WholeK
import Derived.Shelf.SlSortCmp.NoneTotal
import Derived.Shelf.SlicesG.Cmp
import Derived.Shelf.Small.Bits
import Derived.WalkKit
import Derived.IntWalk
set_option linter.all false
set_option maxRecDepth 100000
namespace Go.Proofs.YtfahloobpegieaaGreat
section
open Go.Abs
attribute [local go_sem] ints ic
set_option maxHeartbeats 2000000 in
theorem job(a b:List Int)(ha:OkD a)(hb:OkD b)(la:a.length<=100000000000)(lb:b.length<=100000000000):Ctr G.P 164 [ints a,ints b] (· =ints (dig (val a*val b).toNat)):=by
 have hw:=ja6 (n:=(a.length:Int)+b.length) (by omega);have ht:((a.length:Int)+b.length).toNat=a.length+b.length:=by omega
 have h0:(0:Int)<=(a.length:Int)+b.length:=by omega
 have hb8:((a.length:Int)+b.length)*8<=140737488355328:=by omega
 refine jaa good _ _ [.tmp 4] Tryz.func164 rfl rfl (by decide+kernel) rfl ?_;simp only[hw,ht,h0,hb8,go_sem];refine jar [0,1,5,6] [15] (fun g:Nat×List Int=>⟨[(0,.im (.sl (a.map ic))),(1,.im (.sl (b.map ic))),(5,.gsl 15 3 1 (a.length+b.length)),(6,.im (.int g.1))],[(15,1,g.2.map ic)],[]⟩)
  (fun g=>g.1<=a.length/\g.2.length=a.length+b.length/\OkD g.2/\val g.2=val (a.take g.1)*val b) (fun g=>a.length-g.1) (0,List.replicate (a.length+b.length) 0) ?_
  ⟨Nat.zero_le _,List.length_replicate,OkD.replicate _,by dsimp only;rw[jda];simp[val]⟩ ?_
 ·simp only[Int.natCast_zero,List.map_replicate,List.length_replicate,go_sem]
 ·intro⟨i,out0⟩ ⟨hi,hl0,ho0,hv0⟩;dsimp only at hi hl0 ho0 hv0;by_cases hp:(i:Int)<a.length
  ·have hd:decide ((i:Int)<a.length)=true:=decide_eq_true hp;have hx:=jb1 hp;have h1:=ja6 (n:=(i:Int)+1) (by omega);simp only[hd,go_sem];refine jar [0,1,5,6,7,8] [15] (fun g:Nat×List Int×Int=>⟨[(0,.im (.sl (a.map ic))),(1,.im (.sl (b.map ic))),(5,.gsl 15 3 1 (a.length+b.length)),(6,.im (.int i)),(7,.im (.int g.2.2)),(8,.im (.int g.1))],[(15,1,g.2.1.map ic)],[]⟩)
    (fun g=>g.1<=b.length+1/\g.2.1.length=a.length+b.length/\OkD g.2.1/\0<=g.2.2/\g.2.2<1048576/\(b.length<g.1->g.2.2=0)/\val g.2.1+1048576^(i+g.1)*g.2.2=val (a.take i)*val b+1048576^i*(dgt a i*val (b.take g.1)))
    (fun g=>b.length+1-g.1) (0,out0,0) ?_ ⟨Nat.zero_le _,hl0,ho0,Int.le_refl _,by dsimp only;omega,fun _=>rfl,by dsimp only;rw[List.take_zero,hv0];simp[val]⟩ ?_
   ·simp only[Int.natCast_zero,go_sem]
   ·intro⟨k,out,c⟩ ⟨hk,hl,ho,hc0,hc1,hcl,hv⟩;dsimp only at hk hl ho hc0 hc1 hcl hv;have hda:=ha.dgt i;have hdb:=hb.dgt k;have hdo:=ho.dgt (i+k);have hmul:=jhx hda hdb;have w1:=ja6 (n:=(i:Int)+k) (by omega);have w2:=ja6 (n:=dgt a i*dgt b k) (by omega);have w3:=ja6 (n:=dgt out (i+k)+dgt a i*dgt b k) (by omega);have w4:=ja6 (n:=dgt out (i+k)+dgt a i*dgt b k+c) (by omega);have w5:=ja6 (n:=(k:Int)+1) (by omega);have hjn:((i:Int)+k).toNat=i+k:=by omega
    have hj0:(0:Int)<=(i:Int)+k:=by omega
    have hm:(dgt out (i+k)+dgt a i*dgt b k+c).tmod 1048576=(dgt out (i+k)+dgt a i*dgt b k+c) % 1048576:=Int.tmod_eq_emod_of_nonneg (by omega);have hq:IntKind.i64.wrap ((dgt out (i+k)+dgt a i*dgt b k+c).tdiv 1048576)=(dgt out (i+k)+dgt a i*dgt b k+c)/1048576:=by
     rw[Int.tdiv_eq_ediv_of_nonneg (by omega)];exact ja6 (by omega)
    have nxt:(k<b.length\/0<c)->k+1<=b.length+1/\(out.set (i+k) ((dgt out (i+k)+dgt a i*dgt b k+c) % 1048576)).length=a.length+b.length/\OkD (out.set (i+k) ((dgt out (i+k)+dgt a i*dgt b k+c) % 1048576))/\
      0<=(dgt out (i+k)+dgt a i*dgt b k+c)/1048576/\(dgt out (i+k)+dgt a i*dgt b k+c)/1048576<1048576/\(b.length<k+1->(dgt out (i+k)+dgt a i*dgt b k+c)/1048576=0)/\
      val (out.set (i+k) ((dgt out (i+k)+dgt a i*dgt b k+c) % 1048576))+1048576^(i+(k+1))*((dgt out (i+k)+dgt a i*dgt b k+c)/1048576)=val (a.take i)*val b+1048576^i*(dgt a i*val (b.take (k+1))):=by
     intro hcc;have hkb:k<=b.length:=by
      rcases Nat.lt_or_ge b.length k with h | h
      ·have:=hcl h;omega
      ·exact h
     have hs:=jii (out:=out) (b:=b) (j:=i+k) (i:=i) (k:=k) (c:=c) (x:=dgt a i) (V:=val (a.take i)*val b) rfl (by omega) hv rfl;have hok:OkD (out.set (i+k) ((dgt out (i+k)+dgt a i*dgt b k+c) % 1048576)):=ho.set (by omega);refine⟨by omega,by rw[List.length_set];exact hl,hok,by omega,by omega,fun h=> ?_,hs⟩;have hkk:k=b.length:=by omega
     have hs':=hs;rw[jbj (l:=b) (i:=k+1) (by omega)]at hs';exact times_last ha hb hda (jaw hok) (by omega) (by rw[<-hkk];exact hs')
    by_cases hkl:(k:Int)<b.length
    ·have hn:k<b.length\/0<c:= .inl (by omega);have d1:decide ((k:Int)<b.length)=true:=decide_eq_true hkl;have hjl:(i:Int)+k<((a.length+b.length:Nat):Int):=by omega
     have hy:out[i+k]? =some (dgt out (i+k)):=jb1 (by omega);simp only[d1,go_sem];refine jau 18 (by decide+kernel) ?_;simp only[w1,List.getElem?_map,hx,hy,hjn,hj0,hjl,go_sem];refine ja5 (jha b k) (by decide) ?_;simp only[w2,w3,w4,go_sem];simp only[w1,hjn,hj0,hjl,List.getElem?_map,hy,hm,hq,<-List.map_set,go_sem];refine ja9 (k+1,out.set (i+k) ((dgt out (i+k)+dgt a i*dgt b k+c) % 1048576),(dgt out (i+k)+dgt a i*dgt b k+c)/1048576) ?_ ?_ (nxt hn)
     ·simp only[w5,Int.natCast_add,List.map_set,go_sem]
     ·show b.length+1-(k+1)<b.length+1-k;omega
    ·have d1:decide ((k:Int)<b.length)=false:=decide_eq_false hkl;by_cases hcp:0<c
     ·have hn:k<b.length\/0<c:= .inr hcp;have d2:decide (0<c)=true:=decide_eq_true hcp;have hkb:k<=b.length:=by
       rcases Nat.lt_or_ge b.length k with h | h
       ·have:=hcl h;omega
       ·exact h
      have hjl:(i:Int)+k<((a.length+b.length:Nat):Int):=by omega
      have hy:out[i+k]? =some (dgt out (i+k)):=jb1 (by omega);simp only[d1,d2,go_sem];refine jau 18 (by decide+kernel) ?_;simp only[w1,List.getElem?_map,hx,hy,hjn,hj0,hjl,go_sem];refine ja5 (jha b k) (by decide) ?_;simp only[w2,w3,w4,go_sem];simp only[w1,hjn,hj0,hjl,List.getElem?_map,hy,hm,hq,<-List.map_set,go_sem];refine ja9 (k+1,out.set (i+k) ((dgt out (i+k)+dgt a i*dgt b k+c) % 1048576),(dgt out (i+k)+dgt a i*dgt b k+c)/1048576) ?_ ?_ (nxt hn)
      ·simp only[w5,Int.natCast_add,List.map_set,go_sem]
      ·show b.length+1-(k+1)<b.length+1-k;omega
     ·have d2:decide (0<c)=false:=decide_eq_false hcp;have hc:c=0:=by omega
      have hvv:val out=val (a.take (i+1))*val b:=by
       rw[hc,Int.mul_zero,Int.add_zero,jbj (l:=b) (i:=k) (by omega)]at hv;rw[hv,jbv,Int.add_mul,Int.mul_assoc]
      simp only[d1,d2,go_sem];refine ja9 (i+1,out) ?_ ?_ ⟨?_,hl,ho,hvv⟩
      ·simp only[h1,Int.natCast_add,go_sem]
      ·show a.length-(i+1)<a.length-i;omega
      ·show i+1<=a.length;omega
  ·have hd:decide ((i:Int)<a.length)=false:=decide_eq_false hp;rw[jbj (l:=a) (i:=i) (by omega)]at hv0;have ht:=jl1 out0 ho0 (by omega);rw[hv0]at ht;have hall:(out0.map ic).take (a.length+b.length)=out0.map ic:=List.take_of_length_le (by rw[List.length_map];omega);have hle:a.length+b.length<=(out0.map ic).length:=by rw[List.length_map];omega
   simp only[hd,hl0,Nat.le_refl,hall,go_sem];refine ja1 ht (by decide) ?_;simp only[go_sem]
end
section
open Go.Abs
attribute [local go_sem] ints ic
def okd(d:Int):Bool:= !decide (d<0)&& !decide (1048576<=d)
def jdj(s:Int)(l:List Int):Bool:=
 l.all okd&&(!decide (s< -1)&&(!decide (1<s)&&((decide ((l.length:Int)=0)==decide (s=0))&&(decide ((l.length:Int)=0) || !decide (dgt l (l.length-1)=0)))))
theorem okd_iff{d:Int}:okd d=true↔0<=d/\d<1048576:=by simp[okd]
theorem all_okd{l:List Int}:l.all okd=true↔OkD l:=by
 rw[List.all_eq_true];exact⟨fun h d hd=>okd_iff.1 (h d hd),fun h d hd=>okd_iff.2 (h d hd)⟩
theorem jjb{l:List Int}{i:Nat}(h:(i:Int)<l.length):(l.take (i+1)).all okd=((l.take i).all okd&&okd (dgt l i)):=by
 have hx:=jb1 h;rw[List.take_add_one,hx,List.all_append];simp
set_option maxHeartbeats 1000000 in
theorem t_right(s:Int)(l:List Int)(hl:l.length<=1000000000000000):Ctr G.P 160 [.agg [.int s,ints l]] (· = .bool (jdj s l)):=by
 refine jaa good _ _ [.tmp 2] Tryz.func160 rfl rfl (by decide+kernel) rfl ?_;simp only[go_sem];refine jar [1,3] [1] (fun i:Nat=>⟨[(1,.loc 1 2 0 0),(3,.im (.int i))],[(1,2,[[.int s,ints l]])],[]⟩) (fun i=>i<=l.length/\(l.take i).all okd=true) (fun i=>l.length-i) 0 ?_ ⟨Nat.zero_le _,rfl⟩ ?_
 ·simp only[Int.natCast_zero,go_sem]
 ·intro i ⟨hi,ha⟩;by_cases hp:(i:Int)<l.length
  ·have hd:decide ((i:Int)<l.length)=true:=decide_eq_true hp;have hx:=jb1 hp;have h1:=ja6 (n:=(i:Int)+1) (by omega);have hs:=jjb hp;have hno:okd (dgt l i)=false->jdj s l=false:=fun h=>by
    have:l.all okd=false:=by
     rw[List.all_eq_false];exact⟨_,List.mem_of_getElem? hx,by simp[h]⟩
    simp[jdj,this]
   simp only[hd,List.getElem?_map,hx,go_sem];refine jbl (fun d1=> ?_) (fun d1=> ?_)
   ·rw[hno (by simp[okd,d1])];simp only[d1,go_sem]
   ·simp only[d1,List.getElem?_map,hx,go_sem];refine jbl (fun d2=> ?_) (fun d2=> ?_)
    ·rw[hno (by simp only[okd,d1,d2];rfl)];simp only[go_sem]
    ·simp only[go_sem];refine ja9 (i+1) ?_ (by omega) ⟨by omega,by rw[hs,ha];simp only[okd,d1,d2];rfl⟩;simp only[h1,Int.natCast_add,go_sem]
  ·have hd:decide ((i:Int)<l.length)=false:=decide_eq_false hp;rw[List.take_of_length_le (by omega)]at ha;rw[jdj,ha,Bool.true_and];simp only[hd,go_sem];clear hd hp hi;refine jbl (fun d1=> ?_) (fun d1=> ?_)
   ·simp only[d1,go_sem]
   ·simp only[d1,go_sem];refine jbl (fun d2=> ?_) (fun d2=> ?_)
    ·simp only[d1,d2,go_sem]
    ·by_cases h0:l=[]
     ·subst h0;simp only[d1,d2,Bool.true_beq,Int.natCast_zero,go_sem];refine jbl (fun d3=> ?_) (fun d3=> ?_)
      ·simp only[d1,d2,d3,Bool.true_beq,go_sem]
      ·simp only[d1,d2,d3,Bool.true_beq,go_sem]
     ·have hpos:=List.length_pos_iff.2 h0;have hz:decide ((l.length:Int)=0)=false:=decide_eq_false (by omega);have hlast:l[l.length-1]? =some (dgt l (l.length-1)):=jb1 (by omega);have hw:=ja6 (n:=(l.length:Int)-1) (by omega);have hn:((l.length:Int)-1).toNat=l.length-1:=by omega
      have hn0:(0:Int)<=(l.length:Int)-1:=by omega
      have hn1:(l.length:Int)-1<l.length:=by omega
      rw[hz];simp only[d1,d2,hz,Bool.false_beq,go_sem];refine jbl (fun d3=> ?_) (fun d3=> ?_)
      ·simp only[d1,d2,d3,hz,Bool.false_beq,go_sem]
      ·simp only[d1,d2,d3,hz,hw,hn,hn0,hn1,List.getElem?_map,hlast,Bool.false_beq,go_sem]
end
section
open Go.Abs
def big(z:Int):IV:= .agg [.int z.sign,ints (dig z.natAbs)]
theorem jhu(z:Int):jdj z.sign (dig z.natAbs)=true:=by
 have h1:(dig z.natAbs).all okd=true:=all_okd.2 (jbc _);have hs: -1<=z.sign/\z.sign<=1:=by
  rcases Int.lt_trichotomy z 0 with h | h | h
  ·rw[Int.sign_eq_neg_one_of_neg h];omega
  ·subst h;decide
  ·rw[Int.sign_eq_one_of_pos h];omega
 have hz:(dig z.natAbs=[])↔z.sign=0:=by
  rw[dig_nil,Int.sign_eq_zero_iff_zero];omega
 simp only[jdj,h1,Bool.true_and,Bool.and_eq_true,Bool.not_eq_true',decide_eq_false_iff_not,beq_iff_eq,Bool.or_eq_true,decide_eq_true_eq];refine⟨by omega,by omega,?_,?_⟩
 ·rw[decide_eq_decide,<-hz];constructor
  ·intro h;exact List.length_eq_zero_iff.1 (by omega)
  ·intro h;rw[h];rfl
 ·by_cases h:dig z.natAbs=[]
  ·left;rw[h];rfl
  ·right;intro h2;have h3:=jme z.natAbs;rw[List.getLast?_eq_getElem?]at h3;have h4:=List.length_pos_iff.2 h;have h5:=jb1 (l:=dig z.natAbs) (i:=(dig z.natAbs).length-1) (by omega);rw[h5,h2]at h3;exact h3 rfl
theorem jhb(z:Int): -1<=z.sign/\z.sign<=1:=by
 rcases Int.lt_trichotomy z 0 with h | h | h
 ·rw[Int.sign_eq_neg_one_of_neg h];omega
 ·subst h;decide
 ·rw[Int.sign_eq_one_of_pos h];omega
theorem jf4(z:Int)(h:(dig z.natAbs).length<=1000000000000):Ctr G.P 160 [big z] (· = .bool true):=by
 have:=t_right z.sign (dig z.natAbs) (by omega);rw[jhu]at this;exact this
theorem t_madeb(s z:Int)(n:Nat)(hn:n=z.natAbs)(hs:z≠0->s=z.sign)(h:(dig z.natAbs).length<=1000000000000):Ctr G.P 163 [.int s,ints (dig n)] (· =big z):=by
 subst hn;have:=t_made s (dig z.natAbs) (jbc _) h;rw[jas]at this;have e:(if(z.natAbs:Int)=0 then 0 else s)=z.sign:=by
  by_cases hz:z=0
  ·subst hz;rfl
  ·rw[if_neg (by omega),hs hz]
 rw[e,Int.toNat_natCast]at this;exact this
attribute [local go_sem] ints ic big
theorem jgg{a b:Nat}{k m:Nat}(ha:(dig a).length<=k)(hb:(dig b).length<=m):(dig (a*b)).length<=k+m:=by
 refine jbb ?_;have h1:(a:Int)<1048576^k:=by
  have:=jdr (jbc a);rw[jas]at this;exact Int.lt_of_lt_of_le this (by
   have h3:=Int.ofNat_le.2 (Nat.pow_le_pow_right (n:=1048576) (by omega) ha);rw[Int.natCast_pow,Int.natCast_pow]at h3;exact h3)
 have h2:(b:Int)<1048576^m:=by
  have:=jdr (jbc b);rw[jas]at this;exact Int.lt_of_lt_of_le this (by
   have h3:=Int.ofNat_le.2 (Nat.pow_le_pow_right (n:=1048576) (by omega) hb);rw[Int.natCast_pow,Int.natCast_pow]at h3;exact h3)
 have g1:a<1048576^k:=Int.ofNat_lt.1 (by rw[Int.natCast_pow];exact h1);have g2:b<1048576^m:=Int.ofNat_lt.1 (by rw[Int.natCast_pow];exact h2);have g3:=Int.ofNat_lt.2 (Nat.mul_lt_mul'' g1 g2);rw[<-Nat.pow_add,Int.natCast_pow]at g3;exact g3
theorem t_mul(a b:Int)(la:(dig a.natAbs).length<=100000000000)(lb:(dig b.natAbs).length<=100000000000):Ctr G.P 101 [big a,big b] (· = .tup [big (a*b),.int 0]):=by
 have ra:=jf4 a (by omega);have rb:=jf4 b (by omega);have ht:=job (dig a.natAbs) (dig b.natAbs) (jbc _) (jbc _) la lb;rw[jas,jas,<-Int.natCast_mul,Int.toNat_natCast]at ht;have hl:(dig (a*b).natAbs).length<=1000000000000:=by
  rw[Int.natAbs_mul];have:=jgg la lb;omega
 have hm:=t_madeb (a.sign*b.sign) (a*b) (a.natAbs*b.natAbs) (by rw[Int.natAbs_mul]) (fun _=>(Int.sign_mul a b).symm) hl;have w:=ja6 (n:=a.sign*b.sign) (by rw[<-Int.sign_mul];have:=jhb (a*b);omega);refine jaa good _ _ [.cell 4 40,.tmp 5] Tryz.func101 rfl rfl (by decide+kernel) rfl ?_;simp only[go_sem];refine ja1 ra (by decide) ?_;simp only[go_sem];refine ja1 rb (by decide) ?_;simp only[go_sem];refine jb6 (by decide+kernel) ?_;simp only[w,go_sem];refine ja5 ht (by decide) ?_;simp only[go_sem];refine ja5 hm (by decide) ?_;simp only[go_sem]
end
section
open Go.Abs
attribute [local go_sem] ints ic big
theorem take_same{l m:List Int}{i:Nat}(h:l.take i=m.take i)(hl:(i:Int)<l.length)(hm:(i:Int)<m.length)(hd:dgt l i=dgt m i):l.take (i+1)=m.take (i+1):=by
 rw[List.take_add_one,List.take_add_one,h,jb1 hl,jb1 hm,hd]
theorem ne_of_dgt{l m:List Int}{i:Nat}(h:dgt l i≠dgt m i):l≠m:=fun e=>h (by rw[e])
theorem t_same(s t:Int)(l m:List Int)(hl:l.length<=1000000000000000):Ctr G.P 165 [.agg [.int s,ints l],.agg [.int t,ints m]] (· = .bool (decide (s=t)&&decide (l=m))):=by
 by_cases h1:s=t
 ·by_cases h2:(l.length:Int)=m.length
  ·have d1:decide (s=t)=true:=decide_eq_true h1;have d2:decide ((l.length:Int)=m.length)=true:=decide_eq_true h2;rw[d1,Bool.true_and];refine jaa good _ _ [.tmp 4] Tryz.func165 rfl rfl (by decide+kernel) rfl ?_;simp only[d1,d2,go_sem];refine jar [2,3,5] [2,3] (fun i:Nat=>⟨[(2,.loc 2 2 0 0),(3,.loc 3 2 0 0),(5,.im (.int i))],[(3,2,[[.int t,ints m]]),(2,2,[[.int s,ints l]])],[]⟩) (fun i=>i<=l.length/\l.take i=m.take i) (fun i=>l.length-i) 0 ?_ ⟨Nat.zero_le _,rfl⟩ ?_
   ·simp only[Int.natCast_zero,go_sem]
   ·intro i ⟨hi,ha⟩;by_cases hp:(i:Int)<l.length
    ·have hp':(i:Int)<m.length:=by omega
     have hd:decide ((i:Int)<l.length)=true:=decide_eq_true hp;have hx:=jb1 hp;have hy:=jb1 hp';have hw:=ja6 (n:=(i:Int)+1) (by omega);simp only[hd,go_sem];refine jau 11 (by decide+kernel) ?_;simp only[hd,List.getElem?_map,hx,hy,go_sem];refine jc2 (fun he he'=> ?_) (fun he he'=> ?_)
     ·simp only[go_sem];refine ja9 (i+1) ?_ (by omega) ⟨by omega,take_same ha hp hp' he'⟩;simp only[hw,Int.natCast_add,go_sem]
     ·have hf:decide (l=m)=false:=decide_eq_false (ne_of_dgt he');rw[hf];simp only[go_sem]
    ·have hd:decide ((i:Int)<l.length)=false:=decide_eq_false hp;have hf:decide (l=m)=true:=decide_eq_true (by
      rw[List.take_of_length_le (by omega),List.take_of_length_le (by omega)]at ha;exact ha)
     rw[hf];simp only[hd,go_sem]
  ·have d1:decide (s=t)=true:=decide_eq_true h1;have d2:decide ((l.length:Int)=m.length)=false:=decide_eq_false h2;have d3:decide (l=m)=false:=decide_eq_false fun e=>h2 (by rw[e]);rw[d3,Bool.and_false];refine jaa good _ _ [.tmp 4] Tryz.func165 rfl rfl (by decide+kernel) rfl ?_;simp only[d1,d2,go_sem]
 ·have d1:decide (s=t)=false:=decide_eq_false h1;rw[d1,Bool.false_and];refine jaa good _ _ [.tmp 4] Tryz.func165 rfl rfl (by decide+kernel) rfl ?_;simp only[d1,go_sem]
theorem dig_inj{a b:Nat}(h:dig a=dig b):a=b:=by
 have h1:=jas a;rw[h,jas]at h1;omega
theorem big_inj{a b:Int}:(decide (a.sign=b.sign)&&decide (dig a.natAbs=dig b.natAbs))=decide (a=b):=by
 rw[Bool.eq_iff_iff];simp only[Bool.and_eq_true,decide_eq_true_eq];constructor
 ·intro⟨h1,h2⟩;have h3:=dig_inj h2;have h4:=Int.sign_mul_natAbs a;have h5:=Int.sign_mul_natAbs b;rw[<-h4,<-h5,h1,h3]
 ·intro h;subst h;exact⟨rfl,rfl⟩
def cmpI(a b:Int):Int:=if a<b then-1 else if a=b then 0 else 1
theorem jm3{a b:Int}(h:a.sign<b.sign):a<b:=by
 rcases Int.lt_trichotomy a 0 with h1 | h1 | h1<;>rcases Int.lt_trichotomy b 0 with h2 | h2 | h2<;>
  simp[Int.sign_eq_neg_one_of_neg,Int.sign_eq_one_of_pos, *]at h<;>omega
theorem less_sign{a b:Int}(hs:a.sign=b.sign)(hne:a≠b):(decide ((a.natAbs:Int)<b.natAbs)==decide (0<a.sign))=decide (a<b):=by
 rcases Int.lt_trichotomy a 0 with h1 | h1 | h1
 ·have e:=Int.sign_eq_neg_one_of_neg h1;have h2:b<0:=by
   rcases Int.lt_trichotomy b 0 with h2 | h2 | h2
   ·exact h2
   ·subst h2;rw[e]at hs;cases hs
   ·rw[e,Int.sign_eq_one_of_pos h2]at hs;omega
  rw[e,Bool.eq_iff_iff];simp;omega
 ·subst h1;have:b=0:=Int.sign_eq_zero_iff_zero.1 hs.symm;exact absurd this.symm hne
 ·have e:=Int.sign_eq_one_of_pos h1;have h2:0<b:=by
   rcases Int.lt_trichotomy b 0 with h2 | h2 | h2
   ·rw[e,Int.sign_eq_neg_one_of_neg h2]at hs;omega
   ·subst h2;rw[e]at hs;cases hs
   ·exact h2
  rw[e,Bool.eq_iff_iff];simp;omega
theorem jn6(a b:Int)(la:(dig a.natAbs).length<=1000000000000)(lb:(dig b.natAbs).length<=1000000000000):Ctr G.P 102 [big a,big b] (· = .int (cmpI a b)):=by
 have ra:=jf4 a (by omega);have rb:=jf4 b (by omega);have hs:=t_same a.sign b.sign (dig a.natAbs) (dig b.natAbs) (by omega);rw[big_inj]at hs;have hl:=t_less (dig a.natAbs) (dig b.natAbs) (jbc _) (jbc _) la lb;rw[jas,jas]at hl;by_cases hab:a=b
 ·have d:decide (a=b)=true:=decide_eq_true hab;rw[d]at hs;have hc:cmpI a b=0:=by rw[cmpI,if_neg (by omega),if_pos hab]
  rw[hc];refine jaa good _ _ [.tmp 4] Tryz.func102 rfl rfl (by decide+kernel) rfl ?_;simp only[go_sem];refine ja1 ra (by decide) ?_;simp only[go_sem];refine ja1 rb (by decide) ?_;simp only[go_sem];refine ja1 hs (by decide) ?_;simp only[go_sem]
 ·have d:decide (a=b)=false:=decide_eq_false hab;rw[d]at hs;have hc:cmpI a b=if a<b then-1 else 1:=by rw[cmpI,if_neg hab]
  rw[hc];by_cases hsg:a.sign=b.sign
  ·have d1:decide (a.sign=b.sign)=true:=decide_eq_true hsg;have hls:=less_sign hsg hab;refine jaa good _ _ [.tmp 4] Tryz.func102 rfl rfl (by decide+kernel) rfl ?_;simp only[go_sem];refine ja1 ra (by decide) ?_;simp only[go_sem];refine ja1 rb (by decide) ?_;simp only[go_sem];refine ja1 hs (by decide) ?_;simp only[d1,go_sem];refine jau 9 (by decide+kernel) ?_;simp only[go_sem];refine ja5 hl (by decide) ?_;simp only[hls,go_sem];refine jc2 (fun he he'=> ?_) (fun he he'=> ?_)
   ·simp only[he',go_sem]
   ·simp only[he',go_sem]
  ·have d1:decide (a.sign=b.sign)=false:=decide_eq_false hsg;by_cases hlt:a.sign<b.sign
   ·have d2:decide (a.sign<b.sign)=true:=decide_eq_true hlt;rw[if_pos (jm3 hlt)];refine jaa good _ _ [.tmp 4] Tryz.func102 rfl rfl (by decide+kernel) rfl ?_;simp only[go_sem];refine ja1 ra (by decide) ?_;simp only[go_sem];refine ja1 rb (by decide) ?_;simp only[go_sem];refine ja1 hs (by decide) ?_;simp only[d1,d2,go_sem]
   ·have d2:decide (a.sign<b.sign)=false:=decide_eq_false hlt;rw[if_neg (by have:=jm3 (a:=b) (b:=a) (by omega);omega)];refine jaa good _ _ [.tmp 4] Tryz.func102 rfl rfl (by decide+kernel) rfl ?_;simp only[go_sem];refine ja1 ra (by decide) ?_;simp only[go_sem];refine ja1 rb (by decide) ?_;simp only[go_sem];refine ja1 hs (by decide) ?_;simp only[d1,d2,go_sem]
end
section
open Go.Abs
structure Place where
 (kind house mat:Int)
 deriving DecidableEq,Inhabited
structure Move where
 (day fr to scale reading:Int)
 all:Bool
 deriving DecidableEq,Inhabited
structure Cert where
 (scale fr until' grams perMille drift:Int)
 deriving DecidableEq,Inhabited
structure Recall where
 (scale since:Int)
 deriving DecidableEq,Inhabited
structure Purity where
 (move mat least most:Int)
 deriving DecidableEq,Inhabited
structure Evid where
 (mats houses scales:Int)
 places:List Place
 moves:List Move
 certs:List Cert
 recalls:List Recall
 purs:List Purity
 deriving DecidableEq,Inhabited
structure Sample where
 move:Int
 grams:List Int
 slack:Int
 deriving DecidableEq,Inhabited
structure Recipe where
 (fr to mat least most:Int)
 deriving DecidableEq,Inhabited
def Place.c(p:Place):List IV:=[.int p.kind,.int p.house,.int p.mat]
def Move.c(p:Move):List IV:=[.int p.day,.int p.fr,.int p.to,.int p.scale,.int p.reading,.bool p.all]
def Cert.c(p:Cert):List IV:=[.int p.scale,.int p.fr,.int p.until',.int p.grams,.int p.perMille,.int p.drift]
def Recall.c(p:Recall):List IV:=[.int p.scale,.int p.since]
def Purity.c(p:Purity):List IV:=[.int p.move,.int p.mat,.int p.least,.int p.most]
def Sample.c(p:Sample):List IV:=[.int p.move,ints p.grams,.int p.slack]
def Recipe.c(p:Recipe):List IV:=[.int p.fr,.int p.to,.int p.mat,.int p.least,.int p.most]
def Evid.c(e:Evid):List IV:=[.int e.mats,.int e.houses,.int e.scales,.sl (e.places.map Place.c),.sl (e.moves.map Move.c),.sl (e.certs.map Cert.c),.sl (e.recalls.map Recall.c),.sl (e.purs.map Purity.c)]
def Evid.iv(e:Evid):IV:= .agg e.c
theorem Place.len(p:Place):p.c.length=3:=rfl
theorem Move.len(p:Move):p.c.length=6:=rfl
theorem Cert.len(p:Cert):p.c.length=6:=rfl
theorem Recall.len(p:Recall):p.c.length=2:=rfl
theorem Purity.len(p:Purity):p.c.length=4:=rfl
theorem Sample.len(p:Sample):p.c.length=3:=rfl
theorem Recipe.len(p:Recipe):p.c.length=5:=rfl
def isum:List Int->Int
 | []=>0
 | x::r=>x+isum r
theorem isum_append(a b:List Int):isum (a++b)=isum a+isum b:=by
 induction a with
 | nil=>simp[isum]
 | cons x r ih=>simp[isum,ih];omega
theorem take_succ{α:Type}{l:List α}{i:Nat}{x:α}(h:l[i]? =some x):l.take (i+1)=l.take i++[x]:=by
 rw[List.take_add_one,h];rfl
theorem isum_take{l:List Int}{i:Nat}{x:Int}(h:l[i]? =some x):isum (l.take (i+1))=isum (l.take i)+x:=by
 rw[take_succ h,isum_append];simp[isum]
end
section
open Go.Shelf Go.RowKit Go.Lib Go.Sort
def sortTerms_ren:Go.Shelf.Ren:=⟨fun | 6=>144 | 15=>191 | 14=>190 | 28=>244 | 29=>245 | 20=>236 | 21=>237 | 22=>238 | 23=>239 | 24=>240 | 25=>241 | 26=>242 | 27=>243 | 46=>281 | 47=>282 | 48=>283 | 49=>284 | 50=>285 | 57=>298 | n=>n,fun | 22=>72 | 24=>132 | 25=>196 | 3=>3 | 39=>192 | 0=>0 | 53=>261 | 55=>191 | 4=>4 | 46=>255 | 45=>254 | 50=>112 | 5=>5 | 9=>9 | 66=>285 | 70=>289 | 76=>292 | 77=>200 | n=>n,fun | n=>n⟩
theorem jnb:Go.Proofs.SlLaysF0.n6 Tryz.prog sortTerms_ren:={
 mixed:=by kernel_rfl
 f6:=⟨Tryz.f144.name,by decide,Tryz.func144.trans (congrArg some (by kernel_rfl))⟩
 f14:=⟨Tryz.f190.name,by decide,Tryz.func190.trans (congrArg some (by kernel_rfl))⟩
 f15:=Tryz.func191.trans (congrArg some (by kernel_rfl))
 f20:=⟨Tryz.f236.name,by decide,Tryz.func236.trans (congrArg some (by kernel_rfl))⟩
 f21:=⟨Tryz.f237.name,by decide,Tryz.func237.trans (congrArg some (by kernel_rfl))⟩
 f22:=⟨Tryz.f238.name,by decide,Tryz.func238.trans (congrArg some (by kernel_rfl))⟩
 f23:=⟨Tryz.f239.name,by decide,Tryz.func239.trans (congrArg some (by kernel_rfl))⟩
 f24:=⟨Tryz.f240.name,by decide,Tryz.func240.trans (congrArg some (by kernel_rfl))⟩
 f25:=⟨Tryz.f241.name,by decide,Tryz.func241.trans (congrArg some (by kernel_rfl))⟩
 f26:=⟨Tryz.f242.name,by decide,Tryz.func242.trans (congrArg some (by kernel_rfl))⟩
 f27:=⟨Tryz.f243.name,by decide,Tryz.func243.trans (congrArg some (by kernel_rfl))⟩
 f28:=Tryz.func244.trans (congrArg some (by kernel_rfl))
 f29:=Tryz.func245.trans (congrArg some (by kernel_rfl))
 f46:=⟨Tryz.f281.name,by decide,Tryz.func281.trans (congrArg some (by kernel_rfl))⟩
 f47:=Tryz.func282.trans (congrArg some (by kernel_rfl))
 f48:=Tryz.func283.trans (congrArg some (by kernel_rfl))
 f49:=⟨Tryz.f284.name,by decide,Tryz.func284.trans (congrArg some (by kernel_rfl))⟩
 f50:=⟨Tryz.f285.name,by decide,Tryz.func285.trans (congrArg some (by kernel_rfl))⟩
 f57:=⟨Tryz.f298.name,by decide,Tryz.func298.trans (congrArg some (by kernel_rfl))⟩
 t0:=Tryz.underlying0
 a0:=Tryz.isAgg0
 z0:=Tryz.sizeOf0
 v0:=Tryz.zeroValue0
 t3:=Tryz.underlying3
 a3:=Tryz.isAgg3
 z3:=Tryz.sizeOf3
 v3:=Tryz.zeroValue3
 t4:=Tryz.underlying4
 a4:=Tryz.isAgg4
 z4:=Tryz.sizeOf4
 v4:=Tryz.zeroValue4
 t5:=Tryz.underlying5
 a5:=Tryz.isAgg5
 z5:=Tryz.sizeOf5
 v5:=Tryz.zeroValue5
 t9:=Tryz.underlying9
 a9:=Tryz.isAgg9
 z9:=Tryz.sizeOf9
 v9:=Tryz.zeroValue9
 t22:=Tryz.underlying72
 a22:=Tryz.isAgg72
 z22:=Tryz.sizeOf72
 v22:=Tryz.zeroValue72
 t25:=Tryz.underlying196
 a25:=Tryz.isAgg196
 z25:=Tryz.sizeOf196
 v25:=Tryz.zeroValue196
 t39:=Tryz.underlying192
 a39:=Tryz.isAgg192
 z39:=Tryz.sizeOf192
 v39:=Tryz.zeroValue192
 t45:=Tryz.underlying254
 a45:=Tryz.isAgg254
 z45:=Tryz.sizeOf254
 v45:=Tryz.zeroValue254
 t46:=Tryz.underlying255
 a46:=Tryz.isAgg255
 z46:=Tryz.sizeOf255
 v46:=Tryz.zeroValue255
 t50:=Tryz.underlying112
 a50:=Tryz.isAgg112
 z50:=Tryz.sizeOf112
 v50:=Tryz.zeroValue112
 t53:=Tryz.underlying261
 a53:=Tryz.isAgg261
 z53:=Tryz.sizeOf261
 v53:=Tryz.zeroValue261
 t55:=Tryz.underlying191
 a55:=Tryz.isAgg191
 z55:=Tryz.sizeOf191
 v55:=Tryz.zeroValue191
 t66:=Tryz.underlying285
 a66:=Tryz.isAgg285
 z66:=Tryz.sizeOf285
 v66:=Tryz.zeroValue285
 t70:=Tryz.underlying289
 a70:=Tryz.isAgg289
 z70:=Tryz.sizeOf289
 v70:=Tryz.zeroValue289
 t76:=Tryz.underlying292
 a76:=Tryz.isAgg292
 z76:=Tryz.sizeOf292
 v76:=Tryz.zeroValue292
 t77:=Tryz.underlying200
 a77:=Tryz.isAgg200
 z77:=Tryz.sizeOf200
 v77:=Tryz.zeroValue200}
def cmpInts_ren:Go.Shelf.Ren:=⟨fun | 5=>140 | 7=>186 | n=>n,fun | 22=>3 | 3=>3 | 4=>4 | n=>n,fun | n=>n⟩
theorem cmpInts:Go.Proofs.SlLaysC2.n5 Tryz.prog cmpInts_ren:={
 mixed:=by kernel_rfl
 f5:=⟨Tryz.f140.name,by decide,Tryz.func140.trans (congrArg some (by kernel_rfl))⟩
 f7:=⟨Tryz.f186.name,by decide,Tryz.func186.trans (congrArg some (by kernel_rfl))⟩
 t3:=Tryz.underlying3
 a3:=Tryz.isAgg3
 z3:=Tryz.sizeOf3
 v3:=Tryz.zeroValue3
 t4:=Tryz.underlying4
 a4:=Tryz.isAgg4
 z4:=Tryz.sizeOf4
 v4:=Tryz.zeroValue4
 t22:=Tryz.underlying3
 a22:=Tryz.isAgg3
 z22:=Tryz.sizeOf3
 v22:=Tryz.zeroValue3}
structure TermV where
 z:Int
 r:List Value
 len:r.length=4
 one:∀v∈r,v.oneCell'=true
instance:Inhabited TermV:=⟨⟨0,[.int .i64 0,.int .i64 0,.int .i64 0,.int .i64 0],rfl,fun v hv=>by simp at hv;subst hv;rfl⟩⟩
def TermV.enc(x:TermV):List Value:= .int .i64 x.z::x.r
def TermV.cmp(x y:TermV):Int:=Lib.compareInt x.z y.z
theorem TermV.lt(x y:TermV):ltOf TermV.cmp x y=decide (x.z<y.z):=by
 unfold ltOf TermV.cmp Lib.compareInt;by_cases h1:x.z<y.z
 ·simp[h1]
 ·by_cases h2:y.z<x.z<;>simp[h1,h2]
theorem TermV.swo:SWO (ltOf TermV.cmp) where
 irrefl x:=by rw[TermV.lt];simp
 trans x y z h1 h2:=by rw[TermV.lt]at*;simp at*;omega
 ntrans x y z h1 h2:=by rw[TermV.lt]at*;simp at*;omega
set_option maxHeartbeats 1000000 in
theorem sort_closure(x y:TermV)(W:World):Calls Tryz.prog 145 #[.agg x.enc.toArray,.agg y.enc.toArray] W fun e w'=>e= .returned (.int .i64 (TermV.cmp x y))/\∃q os',w'=grow (W.drewN q) os':=by
 have hcon:=fun W'=>AnyG.cmp_Compare_int cmpInts x.z y.z W';change ∀W',Calls Tryz.prog 140 _ _ _ at hcon;obtain⟨a,r,hr,_⟩:=x;obtain⟨b,s,hs,_⟩:=y
 match r,hr,s,hs with
 | [r1,r2,r3,r4],_,[s1,s2,s3,s4],_=>
  unfold TermV.cmp TermV.enc;dsimp only at hcon⊢;generalize Lib.compareInt a b=c at hcon⊢
  go_enter Tryz.func145,Tryz.ntmps145
  go_wp2_with (go_at_call 140;refine(hcon _).mono ?_;rintro e w' ⟨rfl,rfl⟩)
  go_ret
  exact⟨rfl,0,_,by rw[alloc_eq_grow,alloc_eq_grow,grow_grow];rfl⟩
set_option maxHeartbeats 1000000 in
theorem sort_calls(blk off cap:Nat)(d:Array TermV)(w:World)(hH:HoldsK TermV.enc 5 w blk off d)(hblk:blk<w.heap.size)(hsz:d.size<4611686018427387904):
  Calls Tryz.prog 144 #[.slice (some ⟨blk,off,none⟩) d.size cap,.func (.func 145) #[] #[]] w fun e w'=>e= .returned (.tuple #[])/\∃d' n os,PermIn 0 d.size d d'/\SortedIn (ltOf TermV.cmp) 0 d.size d'/\w'=sortWorldK TermV.enc 5 w blk off n d' os:=by
 have eg:∀args w,(callFunc 145 args).run Tryz.prog w= .ok (.enter 145 args) w:=enters_of Tryz.func145 (by kernel_rfl) rfl;exact AnyQ.slices_SortFunc jnb 5 Tryz.isAgg132 Tryz.sizeOf132 TermV.enc (fun x=>by simp[TermV.enc,x.len]) (fun x v hv=>by
  unfold TermV.enc at hv;rcases List.mem_cons.1 hv with rfl | hv
  ·rfl
  ·exact x.one v hv) TermV.cmp TermV.swo 145 #[] blk off cap d w eg (fun _ _ _ _ x y=>sort_closure x y _) hH hblk hsz
end
section
open Go.Abs Go.Sort
section
variable{α:Type}[Inhabited α]{enc:α->List Value}{k:Nat}{w:World}{b n:Nat}{d:Array α}{os:Array Obj}
theorem sw_heap{cur:Array Value}{T:TypeId}{z:Nat×Nat}(h:w.heap[b]? =some (.cells cur T z)):(sortWorldK enc k w b 0 n d os).heap[b]? =some (.cells (putCells id 0 (flatK enc k d) cur) T z):=by
 have hb:b<w.heap.size:=(Array.getElem?_eq_some_iff.1 h).1;unfold sortWorldK grow putRowK putRow mapBlock Go.Sort.ahead;dsimp only;rw[Array.getElem?_append_left (by rw[Array.size_modify];exact hb),Array.getElem?_modify,if_pos rfl,h];rfl
theorem jhp{b':Nat}(h:b'≠b)(hb:b'<w.heap.size):(sortWorldK enc k w b 0 n d os).heap[b']? =w.heap[b']? :=by
 unfold sortWorldK grow putRowK putRow mapBlock Go.Sort.ahead;dsimp only;rw[Array.getElem?_append_left (by rw[Array.size_modify];exact hb),Array.getElem?_modify,if_neg (Ne.symm h)]
theorem sw_size:w.heap.size<=(sortWorldK enc k w b 0 n d os).heap.size:=by
 unfold sortWorldK grow putRowK putRow mapBlock Go.Sort.ahead;dsimp only;rw[Array.size_append,Array.size_modify];omega
theorem sw_cell{cur:Array Value}(hk:∀x,(enc x).length=k){i j:Nat}{x:α}{u:Value}(hi:d[i]? =some x)(hj:(enc x)[j]? =some u)(hc:i*k+j<cur.size):(putCells id 0 (flatK enc k d) cur)[i*k+j]? =some u:=by
 have hjk:j<k:=by rw[<-hk x];exact(List.getElem?_eq_some_iff.1 hj).1
 have hid:i<d.size:=(Array.getElem?_eq_some_iff.1 hi).1;have hlt:i*k+j<d.size*k:=by
  have:=Nat.mul_le_mul_right k (show i+1<=d.size from hid);rw[Nat.add_mul,Nat.one_mul]at this;omega
 have e1:(i*k+j)/k=i:=by rw[Nat.mul_comm,Nat.mul_add_div (by omega),Nat.div_eq_of_lt hjk,Nat.add_zero]
 have e2:(i*k+j) % k=j:=by rw[Nat.mul_comm,Nat.mul_add_mod,Nat.mod_eq_of_lt hjk]
 unfold putCells;rw[Array.getElem?_mapIdx,Array.getElem?_eq_getElem hc,Option.map_some,if_pos ⟨Nat.zero_le _,by rw[size_flatK];omega⟩,Nat.sub_zero,get_flatK _ _ _ _ hlt,e1,e2];rw[getElem!_pos d i hid,(Array.getElem?_eq_some_iff.1 hi).2];rw[id,List.getElem!_eq_getElem?_getD,hj];rfl
end
inductive F2{α β:Type}(R:α->β->Prop):List α->List β->Prop
 | nil:F2 R [] []
 | cons {x y l m}:R x y->F2 R l m->F2 R (x::l) (y::m)
theorem F2.of{α β:Type}{R:α->β->Prop}:∀{l:List α} {m:List β},l.length=m.length->(∀(i:Nat) (x:α) (y:β),l[i]? =some x->m[i]? =some y->R x y)->F2 R l m
 | [],[],_,_=> .nil
 | x::l,y::m,h,hr=> .cons (hr 0 x y rfl rfl) (F2.of (by simpa using h) fun i a c h1 h2=>hr (i+1) a c (by simpa using h1) (by simpa using h2))
theorem F2.get{α β:Type}{R:α->β->Prop}{l:List α}{m:List β}(h:F2 R l m):∀{i:Nat} {x:α} {y:β},l[i]? =some x->m[i]? =some y->R x y:=by
 induction h with
 | nil=>intro i x y h1;simp at h1
 | cons h1 _ ih=>
  intro i x y g1 g2;cases i with
  | zero=>simp at g1 g2;subst g1 g2;exact h1
  | succ i=>exact ih (by simpa using g1) (by simpa using g2)
theorem F2.len{α β:Type}{R:α->β->Prop}{l:List α}{m:List β}(h:F2 R l m):l.length=m.length:=by
 induction h with
 | nil=>rfl
 | cons _ _ ih=>simp[ih]
theorem perm_rel{α β:Type}{R:α->β->Prop}{l l':List α}(hp:l.Perm l'):∀{m:List β},F2 R l m->∃m',m'.Perm m/\F2 R l' m':=by
 induction hp with
 | nil=>intro m h;exact⟨m,List.Perm.refl _,h⟩
 | cons x _ ih=>
  intro m h;cases h with
  | cons h1 h2=>
   obtain⟨m',g1,g2⟩:=ih h2;exact⟨_,g1.cons _,.cons h1 g2⟩
 | swap x y l=>
  intro m h;cases h with
  | cons h1 h2=>
   cases h2 with
   | cons h3 h4=>exact⟨_,List.Perm.swap _ _ _,.cons h3 (.cons h1 h4)⟩
 | trans _ _ ih1 ih2=>
  intro m h;obtain⟨m1,g1,g2⟩:=ih1 h;obtain⟨m2,g3,g4⟩:=ih2 g2;exact⟨m2,g3.trans g1,g4⟩
def keyC:List IV->Int
 | .sc (.int .i64 z)::_=>z
 | _=>0
theorem frozen0{w:World}{b o:Nat}{cur:Array Value}{T:TypeId}(h:w.heap[b]? =some (.cells cur T (0,0))):w.frozen? ⟨b,o,none⟩=false:=by
 simp[World.frozen?,h]
theorem cell0{w:World}{b o:Nat}{cur:Array Value}{T:TypeId}{u:Value}(h:w.heap[b]? =some (.cells cur T (0,0)))(hc:cur[o]? =some u):w.cell? ⟨b,o,none⟩=some u:=by
 simp[World.cell?,h,hc]
open Classical in
theorem w_sort{b:Nat}{es:List (List IV)}{L:Abs.Rows}(hL:Abs.look L (hp b)=some (5,es))(hlen:es.length<4611686018427387904)(hes:∀c∈es,∃z r,c= .int z::r):
  CtrH G.P 144 [.im (.ref b 132 5 es.length),.im (.clo 145 [])] L (fun r L'=>r= .im (.tup [])/\∃es':List (List IV),es'.Perm es/\(∀(i j:Nat) x y,i<j->es'[i]? =some x->es'[j]? =some y->keyC x<=keyC y)/\L'=setRow L (hp b) 5 es'):=by
 intro w M vs hM hrows hvl hargs;obtain⟨b',hb',hnM,cur,T,hcur,hclen,hcells⟩:=hrows _ _ _ hL;have hbb:=hp_inj.1 hb';subst hbb
 match vs,hvl with
 | [v0,v1],_=>
 have a0:Rep w (MoH M L) (.ref b 132 5 es.length) v0:=hargs 0 _ _ rfl rfl;have a1:Rep w (MoH M L) (.clo 145 []) v1:=hargs 1 _ _ rfl rfl;obtain⟨cp,rfl,hcp⟩:=a1.clo_inv;have hcp0:cp= #[]:=by
  have:=hcp.1;simp at this;exact Array.eq_empty_of_size_eq_zero this.symm
 subst hcp0;have a0':∃cap,v0= .slice (some ⟨b,0,none⟩) es.length cap/\es.length<=cap/\cur.size=cap*5:=by
  cases a0 with
  | ref _ _ _ _ cap cur2 g1 g2 g3 g4=>
   rw[hcur]at g1;cases g1;exact⟨cap,rfl,g2,g4⟩
 obtain⟨cap,rfl,hcap,hsz⟩:=a0';have hx:∀i,∃x:TermV,i<es.length->(∀j,j<5->cur[i*5+j]? =x.enc[j]?)/\(∀c,es[i]? =some c->x.z=keyC c):=by
  intro i;by_cases hi:i<es.length
  ·obtain⟨c,hc⟩:∃c,es[i]? =some c:=⟨_,List.getElem?_eq_getElem hi⟩;obtain⟨z,r,rfl⟩:=hes c (List.mem_of_getElem? hc);have hl5:=hclen _ (List.mem_of_getElem? hc);have hr4:r.length=4:=by simpa using hl5
   match r,hr4 with
   | [r1,r2,r3,r4],_=>
    obtain⟨_,u0,c0,q0⟩:=hcells i _ 0 _ hc rfl;obtain⟨o1,u1,c1,q1⟩:=hcells i _ 1 _ hc rfl;obtain⟨o2,u2,c2,q2⟩:=hcells i _ 2 _ hc rfl;obtain⟨o3,u3,c3,q3⟩:=hcells i _ 3 _ hc rfl;obtain⟨o4,u4,c4,q4⟩:=hcells i _ 4 _ hc rfl;have e0:u0= .int .i64 z:=by cases q0;rfl
    subst e0;refine⟨⟨z,[u1,u2,u3,u4],rfl,fun v hv=> ?_⟩,fun _=>⟨fun j hj=> ?_,fun c' hc'=> ?_⟩⟩
    ·simp at hv;rcases hv with rfl | rfl | rfl | rfl
     ·exact q1.oneCell o1
     ·exact q2.oneCell o2
     ·exact q3.oneCell o3
     ·exact q4.oneCell o4
    ·match j,hj with
     | 0,_=>exact c0
     | 1,_=>exact c1
     | 2,_=>exact c2
     | 3,_=>exact c3
     | 4,_=>exact c4
    ·rw[hc]at hc';cases hc';rfl
  ·exact⟨default,fun h=>absurd h hi⟩
 obtain⟨f,hf⟩:=Classical.axiomOfChoice hx;obtain⟨d,hd⟩:∃d:Array TermV,d=((List.range es.length).map f).toArray:=⟨_,rfl⟩;have hds:d.size=es.length:=by rw[hd];simp
 have hdg:∀i,i<es.length->d[i]? =some (f i):=fun i hi=>by rw[hd];simp[hi]
 have hlen5:∀x:TermV,x.enc.length=5:=fun x=>by simp[TermV.enc,x.len]
 have hH:HoldsK TermV.enc 5 w b 0 d:=by
  unfold HoldsK Holds;intro t ht;rw[size_flatK,hds]at ht;have hi:t/5<es.length:=by omega
  have hj:t % 5<5:=by omega
  obtain⟨g1,_⟩:=hf (t/5) hi;have g2:=g1 (t % 5) hj;have ht5:t/5*5+t % 5=t:=by omega
  rw[ht5,List.getElem?_eq_getElem (by rw[hlen5];exact hj)]at g2;refine⟨?_,frozen0 hcur⟩;rw[Nat.zero_add,cell0 hcur g2,get_flatK _ _ _ _ (by rw[hds];exact ht),getElem!_pos d _ (by omega),(Array.getElem?_eq_some_iff.1 (hdg _ hi)).2,getElem!_pos _ _ (by rw[hlen5];exact hj)];rfl
 have hblk:b<w.heap.size:=(Array.getElem?_eq_some_iff.1 hcur).1;have hcall:=sort_calls b 0 cap d w hH hblk (by omega);rw[hds]at hcall;refine hcall.mono ?_;rintro e w' ⟨rfl,d',n,os,hperm,hsorted,rfl⟩;have hR:F2 (fun(x:TermV) (c:List IV)=>x.z=keyC c/\c.length=5/\∀(j:Nat) y u,c[j]? =some y->x.enc[j]? =some u->y.one=true/\Rep w (MoH M L) y u) d.toList es:=by
  refine F2.of (by rw[Array.length_toList,hds]) fun i x c h1 h2=> ?_;have hi:=(List.getElem?_eq_some_iff.1 h2).1;have hxi:x=f i:=by
   have:=hdg i hi;rw[Array.getElem?_toList]at h1;rw[this]at h1;exact(Option.some.inj h1).symm
  subst hxi;obtain⟨g1,g2⟩:=hf i hi;have hl5:=hclen c (List.mem_of_getElem? h2);refine⟨g2 c h2,hl5,fun j y u hy hu=> ?_⟩;obtain⟨o,u',c',q⟩:=hcells i c j y h2 hy;have hj:j<5:=by rw[<-hl5];exact(List.getElem?_eq_some_iff.1 hy).1
  rw[g1 j hj,hu]at c';cases c';exact⟨o,q⟩
 obtain⟨hp1,_,hp2⟩:=hperm;have hd's:d'.size=es.length:=by rw[hp1,hds]
 have hpl:d.toList.Perm d'.toList:=by
  have e1:(d'.extract 0 es.length)=d':=by rw[<-hd's];simp
  have e2:(d.extract 0 es.length)=d:=by rw[<-hds];simp
  rw[e1,e2]at hp2;exact hp2.symm
 obtain⟨es',hpe,hR'⟩:=perm_rel hpl hR;have hle:es'.length=es.length:=hpe.length_eq;have hMo:MoH M (setRow L (hp b) 5 es')=MoH M L:=by
  funext b1 o;unfold MoH;rw[jbp]
 have hshp:Shp w (sortWorldK TermV.enc 5 w b 0 n d' os):=fun b1 c1 T1 h1=>by
  by_cases e:b1=b
  ·subst e;refine⟨_,sw_heap h1,?_⟩;unfold putCells;rw[Array.size_mapIdx]
  ·exact⟨c1,by rw[jhp e (Array.getElem?_eq_some_iff.1 h1).1];exact h1,rfl⟩
 have hbM:∀o,MoH M L b o:=fun o=> .inr (by rw[hL];rfl);have hkept:Kept w (MoH M L) (sortWorldK TermV.enc 5 w b 0 n d' os) (MoH M L):=by
  refine⟨fun b1 o u hc hm=>⟨?_,hm⟩,fun b1 me c hc hm=>⟨?_,hm⟩,hshp⟩
  ·have e:b1≠b:=fun e=>by subst e;exact hm (hbM o)
   rw[World.cell?_of_block (w:=w) (a:=⟨b1,o,none⟩) (jhp e (World.block_lt_of_cell? (a:=⟨b1,o,none⟩) w hc))];exact hc
  ·have e:b1≠b:=fun e=>by subst e;exact hm (hbM 0)
   rw[jhp e (Array.getElem?_eq_some_iff.1 hc).1];exact hc
 refine⟨.im (.tup []),.tuple #[],_,⟨rfl,es',hpe,fun i j x y hij h1 h2=> ?_,rfl⟩,rfl,rfl,⟨rfl,rfl,rfl,sw_size,fun k hk=> ?_,hshp⟩,fun k s es2 hk=> ?_,Rep.tup _ _ rfl fun k x v h=>(by simp at h)⟩
 ·have hi:=(List.getElem?_eq_some_iff.1 h1).1;have hj:=(List.getElem?_eq_some_iff.1 h2).1;have hdi:d'.toList[i]? =some d'[i]! :=by
   rw[Array.getElem?_toList,Array.getElem?_eq_getElem (by omega),getElem!_pos d' i (by omega)]
  have hdj:d'.toList[j]? =some d'[j]! :=by
   rw[Array.getElem?_toList,Array.getElem?_eq_getElem (by omega),getElem!_pos d' j (by omega)]
  have r1:=(hR'.get hdi h1).1;have r2:=(hR'.get hdj h2).1;have:=hsorted i j (Nat.zero_le _) hij (by omega);rw[TermV.lt]at this;have:=of_decide_eq_false this;rw[<-r1,<-r2];omega
 ·obtain⟨k1,k2⟩:=hk;exact jhp (fun e=>by subst e;rw[hL]at k2;cases k2) k1
 ·by_cases e:k=hp b
  ·subst e;rw[jby (by rw[hL];rfl)]at hk;cases hk;refine⟨b,rfl,.inl (by rw[hL];rfl),_,T,sw_heap hcur,fun c hc=> ?_,fun i c j y hi hj=> ?_⟩
   ·exact hclen c (hpe.mem_iff.1 hc)
   ·have hil:=(List.getElem?_eq_some_iff.1 hi).1;have hdi:d'.toList[i]? =some d'[i]! :=by
     rw[Array.getElem?_toList,Array.getElem?_eq_getElem (by omega),getElem!_pos d' i (by omega)]
    obtain⟨_,r2,r3⟩:=hR'.get hdi hi;have hj5:j<5:=by rw[<-r2];exact(List.getElem?_eq_some_iff.1 hj).1
    have hu:(d'[i]!).enc[j]? =some ((d'[i]!).enc[j]'(by rw[hlen5];exact hj5)):=List.getElem?_eq_getElem _;obtain⟨o,q⟩:=r3 j y _ hj hu;refine⟨o,_,sw_cell hlen5 (by rw[<-Array.getElem?_toList];exact hdi) hu (by omega),?_⟩;rw[hMo];exact q.kept hkept
  ·rw[jc7 e]at hk;obtain⟨b1,rfl,h2,c1,T1,g1,g2,g3⟩:=hrows k s es2 hk;have e1:b1≠b:=fun h=>e (by rw[h]);refine⟨b1,rfl,.inl (by rw[hk];rfl),c1,T1,by rw[jhp e1 (Array.getElem?_eq_some_iff.1 g1).1];exact g1,g2,fun i c j y hi hj=> ?_⟩;obtain⟨o,u,q1,q2⟩:=g3 i c j y hi hj;exact⟨o,u,q1,by rw[hMo];exact q2.kept hkept⟩
theorem w_sort0:Ctr G.P 144 [.sl [],.clo 145 []] (· = .tup []):=by
 intro w M vs hM hr
 match vs,hr.1 with
 | [v0,v1],_=>
  have a0:Rep w M (.sl []) v0:=hr.2 0 _ _ rfl rfl;obtain⟨p,c,rfl⟩:∃p c,v0= .slice p 0 c:=by
   rcases a0.sl_inv with ⟨_,a,c,rfl⟩ | ⟨s',b,o,c,u,hne,_⟩
   ·exact⟨_,_,rfl⟩
   ·exact absurd rfl hne
  refine Calls.mono (AnyF.slices_SortFunc_none jnb p c v1 w) ?_;rintro e w' ⟨rfl,rfl⟩;exact⟨.tup [],_,rfl,rfl,Rep.tup _ _ rfl fun k x v h=>(by simp at h),Go.RowKit.Below.refl _ _⟩
end
section
open Go.Abs
attribute [local go_sem] ints ic
set_option maxHeartbeats 1000000 in
theorem jew(l:List Int)(hl:OkD l)(hlen:l.length<=1000000000000):Ctr G.P 184 [ints l] (· =ints (dig (val l).toNat)):=by
 refine jaa good _ _ [.tmp 2] Tryz.func184 rfl rfl (by decide+kernel) rfl ?_;simp only[go_sem];refine jar [0,3] [] (fun n:Nat=>⟨[(0,.im (.sl (l.map ic))),(3,.im (.int n))],[],[]⟩) (fun n=>n<=l.length/\∀i,n<=i->dgt l i=0) (fun n=>n) l.length ?_ ⟨Nat.le_refl _,fun i hi=>jde hi⟩ ?_
 ·simp only[go_sem]
 ·intro n ⟨hn,hz⟩;have fin:n=0\/dgt l (n-1)≠0->(l.map ic).take n=(dig (val l).toNat).map ic:=fun h=>by
   rw[<-List.map_take,jly hl hn hz h]
  have hnn:(n:Int)<=l.length:=by omega
  rcases n with _ | m
  ·have hd:decide ((0:Int)<((0:Nat):Int))=false:=by decide
   have hf:=fin (.inl rfl);rw[List.take_zero]at hf;have hg:dig (val l).toNat=[]:=List.map_eq_nil_iff.1 hf.symm;rw[hg];simp only[hd,Int.natCast_zero,Int.lt_irrefl,jlg,go_sem]
  ·have hd:decide ((0:Int)<((m+1:Nat):Int))=true:=decide_eq_true (by omega);have h1:=ja6 (n:=(m:Int)) (by omega);have h2:((m+1:Nat):Int)-1=m:=by omega
   have h3:((m+1:Nat):Int).toNat=m+1:=by omega
   have h4:(0:Int)<=((m+1:Nat):Int):=by omega
   obtain⟨d,hx⟩:∃d,l[m]? =some d:=⟨_,List.getElem?_eq_getElem (by omega)⟩;have hdm:=dgt_at hx;simp only[hd,h1,h2,List.getElem?_map,hx,go_sem];refine jc2 (fun hb hb'=> ?_) (fun hb hb'=> ?_)
   ·simp only[hd,h1,h2,hb,go_sem];refine ja9 m ?_ (by omega) ⟨by omega,fun i hi=> ?_⟩
    ·simp only[h1,h2,go_sem]
    ·rcases Nat.lt_or_ge m i with h | h
     ·exact hz i h
     ·rw[show i=m by omega,hdm];exact hb'
   ·have hf:=fin (.inr (by rw[Nat.add_sub_cancel,hdm];exact hb'));simp only[jlg,hnn,h3,h4,hb,hf,Nat.sub_zero,go_sem]
set_option maxHeartbeats 1000000 in
theorem t_ptrimO(l:List Int)(hl:OkD l)(hlen:l.length<=1000000000000):CtrM G.P 184 [.gsl 900 3 1 l.length] [(900,1,l.map ic)] (fun r Es new=>r= .gsl 900 3 1 (dig (val l).toNat).length/\Es=[l.map ic]/\new=none):=by
 refine jmm good _ _ [.tmp 2] Tryz.func184 rfl rfl (by decide+kernel) rfl rfl (by simp) ?_;simp only[go_sem];refine jar [0,3] [900] (fun n:Nat=>⟨[(0,.gsl 900 3 1 l.length),(3,.im (.int n))],[(900,1,l.map ic)],[]⟩) (fun n=>n<=l.length/\∀i,n<=i->dgt l i=0) (fun n=>n) l.length ?_ ⟨Nat.le_refl _,fun i hi=>jde hi⟩ ?_
 ·simp only[go_sem]
 ·intro n ⟨hn,hz⟩;have fin:n=0\/dgt l (n-1)≠0->(dig (val l).toNat).length=n:=fun h=>by
   rw[<-jly hl hn hz h,List.length_take];omega
  have hnn:(n:Int)<=l.length:=by omega
  rcases n with _ | m
  ·have hd:decide ((0:Int)<((0:Nat):Int))=false:=by decide
   have hf:=fin (.inl rfl);rw[hf];simp only[hd,Int.natCast_zero,Int.lt_irrefl,jlg,Int.le_refl,Int.toNat_zero,eq_self,go_sem]
  ·have hd:decide ((0:Int)<((m+1:Nat):Int))=true:=decide_eq_true (by omega);have h1:=ja6 (n:=(m:Int)) (by omega);have h2:((m+1:Nat):Int)-1=m:=by omega
   have h3:((m+1:Nat):Int).toNat=m+1:=by omega
   have h4:(0:Int)<=((m+1:Nat):Int):=by omega
   have h5:(m:Int)<l.length:=by omega
   obtain⟨d,hx⟩:∃d,l[m]? =some d:=⟨_,List.getElem?_eq_getElem (by omega)⟩;have hdm:=dgt_at hx;simp only[hd,h1,h2,h5,List.getElem?_map,hx,go_sem];refine jc2 (fun hb hb'=> ?_) (fun hb hb'=> ?_)
   ·simp only[hd,h1,h2,hb,go_sem];refine ja9 m ?_ (by omega) ⟨by omega,fun i hi=> ?_⟩
    ·simp only[h1,h2,go_sem]
    ·rcases Nat.lt_or_ge m i with h | h
     ·exact hz i h
     ·rw[show i=m by omega,hdm];exact hb'
   ·have hf:=fin (.inr (by rw[Nat.add_sub_cancel,hdm];exact hb'));rw[hf];simp only[jlg,hnn,h3,h4,hb,Nat.sub_zero,eq_self,go_sem]
theorem jjr(l:List Int)(hlen:l.length<=1000000000000):Ctr G.P 181 [ints l] (· =ints l):=by
 refine jaa good _ _ [.tmp 2] Tryz.func181 rfl rfl (by decide+kernel) rfl ?_;simp only[go_sem];refine jhl (fun h=> ?_) ?_
 ·have:l=[]:=List.map_eq_nil_iff.1 h;subst this;simp only[List.map_nil,go_sem]
 ·simp only[go_sem];exact⟨by simp,jg9 l,by omega⟩
theorem t_cloneO(l:List Int)(hne:l≠[])(hlen:l.length<=1000000000000):CtrM G.P 181 [.im (ints l)] [] (fun r Es new=>r= .gsl 901 3 1 l.length/\Es=[]/\new=some (1,l.map ic)):=by
 have hne':l.map ic≠[]:=fun h=>hne (List.map_eq_nil_iff.1 h);refine jmm goodO _ _ [.tmp 2] Tryz.func181 rfl rfl (by decide+kernel) rfl rfl (by simp) ?_;simp only[go_sem];refine jhl (fun h=>absurd h hne') ?_;simp only[hne',go_sem];exact⟨jg9 l,by omega⟩
end
end Go.Proofs.YtfahloobpegieaaGreat
namespace Go.Abs
section
theorem jhw{a q:List Int}{m:Nat}{b R lo:Int}(hm:m<q.length)(h:val (a.drop (m+1))=val (q.drop (m+1))*b+R):
  val (a.drop m)=val ((q.set m lo).drop m)*b+(dgt a m+1048576*R-lo*b):=by
 rw[jcr a m,jcr (q.set m lo) m,h];have h1:dgt (q.set m lo) m=lo:=by simp[dgt,hm]
 have h2:(q.set m lo).drop (m+1)=q.drop (m+1):=by
  rw[List.drop_set_of_lt (by omega)]
 rw[h1,h2,Int.add_mul,Int.mul_assoc,Int.mul_add];omega
theorem jm8{x q b R:Int}(h:x=q*b+R)(h0:0<=R)(h1:R<b):q=x/b/\R=x % b:=by
 have hb:0<b:=by omega
 have h2:x/b=q:=by
  rw[h,Int.add_comm,Int.add_mul_ediv_right _ _ (by omega),Int.ediv_eq_zero_of_lt h0 h1,Int.zero_add]
 refine⟨h2.symm,?_⟩;have:=Int.emod_add_mul_ediv x b;rw[h2]at this;rw[Int.mul_comm]at this;omega
end
section
theorem jci(n:Int):(BitVec.ofInt 64 n).toNat=(n % 18446744073709551616).toNat:=by
 rw[BitVec.toNat_ofInt];rfl
theorem and20(n:Int):bits .and .i64 n 1048575=n % 1048576:=by
 have h1:(BitVec.ofInt 64 n&&&BitVec.ofInt 64 1048575).toNat=(n % 1048576).toNat:=by
  rw[BitVec.toNat_and,jci,jci];have e:((1048575:Int) % 18446744073709551616).toNat=2^20-1:=by decide
  rw[e,Nat.and_two_pow_sub_one_eq_mod];have:(n % 18446744073709551616) % 1048576=n % 1048576:=Int.emod_emod_of_dvd n ⟨17592186044416,by decide⟩;omega
 have h2:bits .and .i64 n 1048575=IntKind.i64.wrap ((BitVec.ofInt 64 n&&&BitVec.ofInt 64 1048575).toNat:Nat):=rfl;rw[h2,h1];have h3:=Int.emod_nonneg n (show(1048576:Int)≠0 by decide);have h4:=Int.emod_lt_of_pos n (show(0:Int)<1048576 by decide);rw[Int.toNat_of_nonneg h3];exact IntWalk.i64_in _ (by omega)
theorem or20(r a:Int)(hr:0<=r/\r<8796093022208)(ha:0<=a/\a<1048576):bits .or .i64 (r*1048576) a=r*1048576+a:=by
 have h1:(BitVec.ofInt 64 (r*1048576) ||| BitVec.ofInt 64 a).toNat=(r*1048576+a).toNat:=by
  rw[BitVec.toNat_or,jci,jci,Int.emod_eq_of_lt (by omega) (by omega),Int.emod_eq_of_lt (by omega) (by omega)];have e1:(r*1048576).toNat=2^20*r.toNat:=by omega
  rw[e1,<-Nat.two_pow_add_eq_or_of_lt (by omega:a.toNat<2^20)];omega
 have h2:bits .or .i64 (r*1048576) a=IntKind.i64.wrap ((BitVec.ofInt 64 (r*1048576) ||| BitVec.ofInt 64 a).toNat:Nat):=rfl;rw[h2,h1,Int.toNat_of_nonneg (by omega)];exact IntWalk.i64_in _ (by omega)
theorem fd20(n:Int):n.fdiv 1048576=n/1048576:=Int.fdiv_eq_ediv_of_nonneg n (by decide)
theorem and1(n:Int)(h: -9223372036854775808<=n/\n<=9223372036854775807):bits .and .i64 n 1=n % 2:=by
 have h1:(BitVec.ofInt 64 n&&&BitVec.ofInt 64 1).toNat=(n % 2).toNat:=by
  rw[BitVec.toNat_and,jci,jci];have e:((1:Int) % 18446744073709551616).toNat=2^1-1:=by decide
  rw[e,Nat.and_two_pow_sub_one_eq_mod];omega
 have h2:bits .and .i64 n 1=IntKind.i64.wrap ((BitVec.ofInt 64 n&&&BitVec.ofInt 64 1).toNat:Nat):=rfl;rw[h2,h1,Int.toNat_of_nonneg (by omega)];exact IntWalk.i64_in _ (by omega)
theorem jq2{out a b:List Int}{i:Nat}{c n:Int}(hi:i<out.length)(hz:dgt out i=0)(h:val out+1048576^i*c=val (a.take i)+val (b.take i))(hn:n=dgt a i+dgt b i+c):
  val (out.set i (n % 1048576))+1048576^(i+1)*(n/1048576)=val (a.take (i+1))+val (b.take (i+1)):=by
 rw[jfu _ _ _ hi,hz,Int.sub_zero,jbv,jbv,jcc];generalize (1048576:Int)^i=p at*;have e:p*(n % 1048576)+p*1048576*(n/1048576)=p*n:=by
  rw[Int.mul_assoc,<-Int.mul_add,Int.emod_add_mul_ediv]
 have e2:p*n=p*dgt a i+p*dgt b i+p*c:=by rw[hn,Int.mul_add,Int.mul_add]
 omega
theorem sub_step{out b:List Int}{i:Nat}{c n V:Int}(hi:i<out.length)(h:val out-1048576^i*c=V-val (b.take i))(hn:n=dgt out i-dgt b i-c):
  val (out.set i (n % 1048576))-1048576^(i+1)* -(n/1048576)=V-val (b.take (i+1)):=by
 rw[jfu _ _ _ hi,jbv,jcc];generalize (1048576:Int)^i=p at*;have e0:=Int.emod_add_mul_ediv n 1048576;have e:p*(n % 1048576-dgt out i)-p*1048576* -(n/1048576)=p*(n-dgt out i):=by
  rw[Int.mul_assoc,<-Int.mul_sub];congr 1;omega
 have e2:p*(n-dgt out i)= -(p*dgt b i)-p*c:=by
  rw[hn,show dgt out i-dgt b i-c-dgt out i= -dgt b i-c by omega,Int.mul_sub,Int.mul_neg]
 omega
theorem jll{l:List Int}{i j:Nat}{v:Int}(h:i≠j):dgt (l.set i v) j=dgt l j:=by
 unfold dgt;rw[List.getElem?_set_ne h]
theorem mb20:min 20 64=(20:Nat):=rfl
theorem pw20:(2:Int)^20=1048576:=by decide
end
end Go.Abs
namespace Go.Proofs.YtfahloobpegieaaGreat
section
open Go.Abs
attribute [local go_sem] ints ic mb20 pw20 fd20
set_option maxHeartbeats 1000000 in
theorem t_short(a:List Int)(d:Int)(ha:OkD a)(hd:1<=d/\d<1048576)(la:a.length<=1000000000000):Ctr G.P 234 [ints a,.int d] (· = .tup [ints (dig (val a/d).toNat),.int (val a % d)]):=by
 have w1:=ja6 (n:=(a.length:Int)-1) (by omega);have w0:(a.length:Int)*8<=140737488355328:=by omega
 refine jaa good _ _ [.tmp 4,.tmp 5] Tryz.func234 rfl rfl (by decide+kernel) rfl ?_;simp only[w1,w0,go_sem];refine jar [0,1,6,7,8] [11] (fun g:Nat×List Int×Int=>⟨[(0,.im (.sl (a.map ic))),(1,.im (.int d)),(6,.gsl 11 3 1 a.length),(7,.im (.int g.2.2)),(8,.im (.int ((g.1:Int)-1)))],[(11,1,g.2.1.map ic)],[]⟩)
  (fun g=>g.1<=a.length/\g.2.1.length=a.length/\OkD g.2.1/\0<=g.2.2/\g.2.2<d/\val (a.drop g.1)=val (g.2.1.drop g.1)*d+g.2.2) (fun g=>g.1) (a.length,List.replicate a.length 0,0) ?_
  ⟨Nat.le_refl _,List.length_replicate,OkD.replicate _,Int.le_refl _,by dsimp only;omega,by
   dsimp only;rw[List.drop_of_length_le (Nat.le_refl _),List.drop_of_length_le (by rw[List.length_replicate];exact Nat.le_refl _)];simp[val]⟩ ?_
 ·simp only[w1,List.map_replicate,List.length_replicate,go_sem]
 intro⟨n,q,r⟩ ⟨h1,h2,h3,h4,h5,h6⟩;dsimp only at h1 h2 h3 h4 h5 h6;rcases n with _ | m
 ·have hg:decide ((0:Int)<=((0:Nat):Int)-1)=false:=by decide
  rw[List.drop_zero,List.drop_zero]at h6;obtain⟨e1,e2⟩:=jm8 h6 h4 h5;have ht:=jew q h3 (by omega);rw[e1]at ht;rw[<-e2];simp only[ints]at ht;have hql:a.length<=q.length:=by omega
  have htk:(q.map ic).take a.length=q.map ic:=List.take_of_length_le (by rw[List.length_map];omega);simp only[hg,hql,htk,go_sem];refine ja1 ht (by decide) ?_;simp only[go_sem]
 ·have e1:((m+1:Nat):Int)-1=m:=by omega
  have hg:decide ((0:Int)<=(m:Int))=true:=decide_eq_true (by omega);have hx:=jb1 (l:=a) (i:=m) (by omega);have hda:=ha.dgt m;have hq:(m:Int)<a.length:=by omega
  have hqx:=jb1 (l:=q) (i:=m) (by omega);have w2:=ja6 (n:=r*1048576) (by omega);have w3:=or20 r (dgt a m) (by omega) hda;generalize hR:r*1048576+dgt a m=R at*;have hR0:0<=R:=by omega
  have hRd:R<d*1048576:=by omega
  have hlo:R/d<1048576:=Int.ediv_lt_of_lt_mul (by omega) (by rw[Int.mul_comm];exact hRd);have hlo0:0<=R/d:=Int.ediv_nonneg hR0 (by omega);have w4:IntKind.i64.wrap (R.tdiv d)=R/d:=by
   rw[Int.tdiv_eq_ediv_of_nonneg hR0];exact ja6 (by omega)
  have w5:R.tmod d=R % d:=Int.tmod_eq_emod_of_nonneg hR0;have w6:decide (d=0)=false:=decide_eq_false (by omega);have w7:=ja6 (n:=(m:Int)-1) (by omega);have d0:¬d=0:=by omega
  have hs:=jhw (lo:=R/d) (by omega:m<q.length) h6;have hmod:=Int.emod_nonneg R (by omega:d≠0);have hmod2:=Int.emod_lt_of_pos R (by omega:0<d);have hdm:dgt a m+1048576*r-R/d*d=R % d:=by
   have:=Int.emod_add_mul_ediv R d;rw[Int.mul_comm (R/d) d];omega
  rw[hdm]at hs;simp only[e1,hg,hq,List.getElem?_map,hx,hqx,w2,w3,w4,w5,w6,d0,<-List.map_set,go_sem];refine ja9 (m,q.set m (R/d),R % d) ?_ ?_ ⟨?_,?_,?_,hmod,hmod2,hs⟩
  ·simp only[w7,List.map_set,go_sem]
  ·show m<m+1;omega
  ·show m<=a.length;omega
  ·show(q.set m (R/d)).length=a.length;rw[List.length_set];exact h2
  ·exact h3.set ⟨hlo0,hlo⟩
end
end Go.Proofs.YtfahloobpegieaaGreat
