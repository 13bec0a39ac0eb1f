/- A part of the proof. No further condition. -/
import Derived.Test.YtfahloobpegieaaGreatKX36
import Derived.Test.YtfahloobpegieaaGreatKX16
import Derived.Test.YtfahloobpegieaaGreatKX35
import Derived.Test.YtfahloobpegieaaGreatKX26
import Derived.Test.YtfahloobpegieaaGreatKX10
import Derived.Test.YtfahloobpegieaaGreatKX11
import Derived.Test.YtfahloobpegieaaGreatKX12
import Derived.Test.YtfahloobpegieaaGreatKX32
import Derived.ChangeArms
import Derived.DataReads
import Derived.Deep.Slices
import Derived.ProofKit
import Derived.Carry
set_option linter.all false
set_option maxRecDepth 100000
namespace Go.Proofs.YtfahloobpegieaaGreat
section
open Go.Abs
attribute [local go_sem] Evid.iv Evid.c Place.c Move.c Cert.c Recall.c Purity.c Sample.c Recipe.c ints ic
end
section
open Go.Abs
attribute [local go_sem] Evid.iv Evid.c Place.c Move.c Cert.c Recall.c Purity.c Sample.c Recipe.c ints ic
end
section
open Go.Abs
attribute [local go_sem] Evid.iv Evid.c Place.c Move.c Cert.c Recall.c Purity.c Sample.c Recipe.c ints ic
def zeroE:Evid:=⟨0,0,0,[],[],[],[],[]⟩
def addS(e:Evid):List Purity->List Sample->List Purity×Int
 | acc,[]=>(acc,0)
 | acc,s::r=>if decide ((jct e s).2=0)=true then addS e (acc++(jct e s).1) r else([],(jct e s).2)
def addR(e:Evid):List Purity->List Recipe->List Purity×Int
 | acc,[]=>(acc,0)
 | acc,s::r=>if decide ((je1 e s).2=0)=true then addR e (acc++(je1 e s).1) r else([],(je1 e s).2)
def jd8(e:Evid)(ss:List Sample)(rs:List Recipe):Evid×Int:=
 if decide (jbs e=0)=false then(zeroE,jbs e)else
 if decide ((addS e e.purs ss).2=0)=false then(zeroE,(addS e e.purs ss).2)else
 if decide ((addR e (addS e e.purs ss).1 rs).2=0)=false then(zeroE,(addR e (addS e e.purs ss).1 rs).2)else
 if decide (200<((addR e (addS e e.purs ss).1 rs).1.length:Int))=true then(zeroE,6)else({e with purs:=(addR e (addS e e.purs ss).1 rs).1},0)
def resE(r:Evid×Int):IV:= .tup [r.1.iv,.int r.2]
theorem sampled_len(e:Evid)(s:Sample)(h:e.mats<=6):(jct e s).1.length<=6:=by
 unfold jct;split
 ·simp
 ·split
  ·simp
  ·split
   ·simp
   ·rename_i h3;simp at h3;show(jbn s).1.length<=6;omega
theorem jit(x:Recipe):∀(l:List Move) (i:Nat),(jgo x i l).length<=l.length
 | [],_=>Nat.le_refl _
 | m::r,i=>by
  have:=jit x r (i+1);rw[jgo];split<;>simp<;>omega
theorem cooked_len(e:Evid)(x:Recipe)(h:e.moves.length<=200):(je1 e x).1.length<=200:=by
 unfold je1;have:=jit x e.moves 0
 (repeat' split)<;>simp<;>omega
theorem check_fit{e:Evid}(h:jbs e=0):(pairs e).all fitP=true/\1<=e.mats:=by
 unfold jbs at h;split at h
 ·cases h
 ·rename_i h1;split at h
  ·cases h
  ·rename_i h2;simp at h1 h2;exact⟨by simpa using h1,by omega⟩
theorem jgd(l:List Purity):∀c∈l.map Purity.c,c.length=4:=fun c hc=>by
 obtain⟨z,_,rfl⟩:=List.mem_map.1 hc;rfl
end
section
open Go.Abs
theorem isum_mem{l:List Int}(h:∀x∈l,0<=x):∀x∈l,x<=isum l:=by
 induction l with
 | nil=>intro x hx;cases hx
 | cons y l ih=>
  have h0:0<=isum l:=by
   clear ih
   induction l with
   | nil=>simp[isum]
   | cons z l ih2=>
    have:=ih2 (fun x hx=>h x (by rcases List.mem_cons.1 hx with rfl | hx<;>simp[*]));have:=h z (by simp);rw[isum];omega
  intro x hx;rw[isum];rcases List.mem_cons.1 hx with rfl | hx
  ·omega
  ·have:=ih (fun x hx=>h x (by simp[hx])) x hx;have:=h y (by simp);omega
theorem tdiv_le{n S:Int}(hS:0<S)(h0:0<=n)(h1:n<=S):0<=(1000*n).tdiv S/\(1000*n).tdiv S<=1000:=by
 rw[Int.tdiv_eq_ediv_of_nonneg (by omega)];refine⟨Int.ediv_nonneg (by omega) (by omega),?_⟩;exact Int.ediv_le_of_le_mul hS (by omega)
theorem jp5{e:Evid}{s:Sample}{S:Int}(hS:0<S)(hm:0<=s.move/\s.move<(e.moves.length:Int))(hs:0<=s.slack):∀(l:List Int) (i:Nat),(∀n∈l,0<=n/\n<=S)->(i+l.length:Int)<=e.mats->(purGo s S i l).all (purF e)=true
 | [],_,_,_=>rfl
 | n::r,i,h,hi=>by
  rw[List.length_cons]at hi;rw[purGo,List.all_cons,jp5 hS hm hs r (i+1) (fun x hx=>h x (by simp[hx])) (by omega),Bool.and_true,purF_iff];obtain⟨h0,h1⟩:=h n (by simp);obtain⟨t0,t1⟩:=tdiv_le hS h0 h1;have hh:lowF n S<=highF n S:=by unfold highF;split<;>omega
  have e1:lowF n S=(1000*n).tdiv S:=rfl;dsimp only[purOf];refine⟨hm,by omega,by omega,?_,by omega⟩;rw[e1]at hh⊢;omega
theorem sampled_ok{e:Evid}{s:Sample}(h:(jct e s).2=0):(jct e s).1.all (purF e)=true:=by
 unfold jct at h⊢;split
 ·rfl
 ·rename_i h1;rw[if_neg h1]at h;split
  ·rfl
  ·rename_i h2;rw[if_neg h2]at h;split
   ·rfl
   ·rename_i h3;simp at h1 h2 h3;have hl:=pur_len h1;show(jbn s).1.all (purF e)=true;have h1':=h1;unfold jbn at h1⊢;split at h1
    ·cases h1
    ·split at h1
     ·cases h1
     ·rename_i h4 h5;rw[if_neg h4,if_neg h5];simp only[Bool.not_eq_false,jhs,Bool.and_eq_true,btw_iff,Bool.not_eq_true',List.any_eq_false]at h4;obtain⟨⟨⟨⟨b1,b2⟩,b3⟩,b4⟩,b5⟩:=h4;have hb:∀x∈s.grams,0<=x:=fun x hx=>by
       have:=b4 x hx
       first | omega | (simp[btw_iff]at this;omega)
      have hle:=isum_mem hb;have hpos:0<=isum s.grams:=by
       cases hg:s.grams with
       | nil=>simp[isum]
       | cons y r=>
        have h1:=hb y (by rw[hg];simp);have h2:=hle y (by rw[hg];simp);rw[hg]at h2;omega
      exact jp5 (by omega) ⟨by omega,by omega⟩ (by omega) _ _ (fun n hn=>⟨hb n hn,hle n hn⟩) (by omega)
theorem jnx{e:Evid}{x:Recipe}(hm:0<=x.mat/\x.mat<e.mats)(hl:0<=x.least/\x.least<=x.most/\x.most<=1000):∀(l:List Move) (i:Nat),i+l.length<=e.moves.length->(jgo x i l).all (purF e)=true
 | [],_,_=>rfl
 | m::r,i,h=>by
  rw[List.length_cons]at h;have ih:=jnx hm hl r (i+1) (by omega);rw[jgo];split
  ·rw[List.all_cons,ih,Bool.and_true,purF_iff];refine⟨⟨?_,?_⟩,hm,hl⟩<;>dsimp only<;>omega
  ·exact ih
theorem cooked_ok{e:Evid}{x:Recipe}:(je1 e x).1.all (purF e)=true:=by
 unfold je1;split
 ·rfl
 ·split
  ·rfl
  ·split
   ·rfl
   ·split
    ·rfl
    ·split
     ·rfl
     ·rename_i h1 h2 h3 h4 h5;simp only[Bool.not_eq_false,btw_iff,decide_eq_true_eq]at h1 h2 h3 h4 h5;exact jnx (by omega) (by omega) _ _ (by omega)
theorem jq5(e:Evid):∀(ss:List Sample) (acc:List Purity),(addS e acc ss).2=0->∃m,(addS e acc ss).1=acc++m/\m.all (purF e)=true
 | [],acc,_=>⟨[],by simp[addS],rfl⟩
 | s::r,acc,h=>by
  rw[addS]at h⊢;split at h
  ·rename_i h1;rw[if_pos h1];obtain⟨m,h2,h3⟩:=jq5 e r _ h;exact⟨(jct e s).1++m,by rw[h2,List.append_assoc],by rw[List.all_append,h3,sampled_ok (of_decide_eq_true h1)];rfl⟩
  ·rename_i h1;simp at h1;exact absurd h h1
theorem jq7(e:Evid):∀(ss:List Recipe) (acc:List Purity),(addR e acc ss).2=0->∃m,(addR e acc ss).1=acc++m/\m.all (purF e)=true
 | [],acc,_=>⟨[],by simp[addR],rfl⟩
 | s::r,acc,h=>by
  rw[addR]at h⊢;split at h
  ·rename_i h1;rw[if_pos h1];obtain⟨m,h2,h3⟩:=jq7 e r _ h;exact⟨(je1 e s).1++m,by rw[h2,List.append_assoc],by rw[List.all_append,h3,cooked_ok];rfl⟩
  ·rename_i h1;simp at h1;exact absurd h h1
theorem expand_cases(e:Evid)(ss:List Sample)(rs:List Recipe)(h0:jbs e=0):((jd8 e ss rs).2≠0/\(jd8 e ss rs).1=zeroE)\/
  ∃m,jd8 e ss rs=({e with purs:=e.purs++m},0)/\m.all (purF e)=true/\jbs {e with purs:=e.purs++m}=0:=by
 unfold jd8;rw[if_neg (by simp[h0])];split
 ·rename_i h1;simp at h1;exact .inl ⟨h1,rfl⟩
 ·rename_i h1;split
  ·rename_i h2;simp at h2;exact .inl ⟨h2,rfl⟩
  ·rename_i h2;split
   ·exact .inl ⟨by decide,rfl⟩
   ·rename_i h3;simp at h1 h2 h3;obtain⟨m1,e1,a1⟩:=jq5 e ss e.purs h1;obtain⟨m2,e2,a2⟩:=jq7 e rs _ h2;rw[e1,List.append_assoc]at e2;rw[e1]at h3⊢;refine .inr ⟨m1++m2,by rw[e2],by rw[List.all_append,a1,a2];rfl,?_⟩;rw[e2]at h3;refine checkF_with h0 (by omega) ?_;rw[List.all_append,List.all_append,a1,a2,List.all_eq_true.2 (jiu h0)];rfl
end
section
open Go.Abs
attribute [local go_sem] Evid.iv Evid.c Place.c Move.c Cert.c Recall.c Purity.c Sample.c Recipe.c ints ic
set_option maxHeartbeats 2000000 in
theorem c23(g b:List Int)(slack:Int)(l:List Purity)(hp:jbn ⟨3,g,slack⟩=(l,0))(hg:g.length<=100000)(hb:b.length=2*l.length)(hl:l.length<=1000)
  (hall:∀(i:Nat) x,l[i]? =some x->b[2*i]? =some x.least/\b[2*i+1]? =some x.most/\x.move=3/\x.mat=i):Ctr G.P 90 [ints g,.int slack,ints b] (· = .bool true):=by
 have h10:=c10 ⟨3,g,slack⟩ hg;rw[hp]at h10;have w1:=ja6 (n:=2*(l.length:Int)) (by omega);have hb':decide (2*(l.length:Int)=b.length)=true:=decide_eq_true (by omega);refine jaa good _ _ [.tmp 6] Tryz.func90 rfl rfl (by decide+kernel) rfl ?_;simp only[go_sem];refine ja1 h10 (by decide) ?_;simp only[resP,purs,w1,hb',go_sem];clear h10 hb';refine jar [2,7,9] [] (fun i:Nat=>⟨[(2,.im (.sl (b.map ic))),(7,.im (.sl (l.map Purity.c))),(9,.im (.int i))],[],[]⟩) (fun i=>i<=l.length) (fun i=>l.length-i) 0 ?_ (Nat.zero_le _) ?_
 ·simp only[Int.natCast_zero,go_sem]
 ·intro i hi;by_cases hlt:(i:Int)<l.length
  ·have hd:decide ((i:Int)<l.length)=true:=decide_eq_true hlt;obtain⟨x,hx⟩:=jcm hlt;obtain⟨x1,x2,x3,x4⟩:=hall i x hx;have h1:=ja6 (n:=(i:Int)+1) (by omega);have h2:=ja6 (n:=2*(i:Int)) (by omega);have h3:=ja6 (n:=2*(i:Int)+1) (by omega);have n2:(2*(i:Int)).toNat=2*i:=by omega
   have n3:(2*(i:Int)+1).toNat=2*i+1:=by omega
   have p2:(0:Int)<=2*(i:Int):=by omega
   have p3:(0:Int)<=2*(i:Int)+1:=by omega
   simp only[hd,go_sem];refine jau 18 (by decide+kernel) ?_;simp only[hd,List.getElem?_map,hx,x1,x2,x3,x4,h1,h2,h3,n2,n3,p2,p3,eq_self,go_sem];refine ja9 (i+1) ?_ (by omega) (by omega);simp only[h1,Int.natCast_add,go_sem]
  ·have hd:decide ((i:Int)<l.length)=false:=decide_eq_false hlt;simp only[hd,go_sem]
end
section
open Go.Abs
attribute [local go_sem] Evid.iv Evid.c Place.c Move.c Cert.c Recall.c Purity.c Sample.c Recipe.c ints ic
set_option maxHeartbeats 2000000 in
theorem c12(e:Evid)(ss:List Sample)(rs:List Recipe)(hs:ss.length<=1000)(hr:rs.length<=1000)(hss:∀s∈ss,s.grams.length<=100000):Ctr G.P 37 [e.iv,jd3 ss,jd4 rs] (· =resE (jd8 e ss rs)):=by
 have h21:=c21 e;by_cases hk:jbs e=0
 ·obtain⟨hfit,hm⟩:=check_fit hk;obtain⟨l1,l2,l3,l4,l5,l6,l7,l8⟩:=jkd hfit;clear hfit l7 l8;have h31:=fun x=>c31 e x (by omega) (by omega) ⟨hm,by omega⟩;have hlS:=fun s=>sampled_len e s l6;have hlR:=fun s=>cooked_len e s l2;have h29:=c29 e.purs (by omega);have h32:=CtrV.ctr (c32 e.places (by omega));have h33:=CtrV.ctr (c33 e.moves (by omega));have h34:=CtrV.ctr (c34 e.certs (by omega));have h35:=CtrV.ctr (c35 e.recalls (by omega));rw[hk]at h21;have hx:jd8 e ss rs=if decide ((addS e e.purs ss).2=0)=false then(zeroE,(addS e e.purs ss).2)else
   if decide ((addR e (addS e e.purs ss).1 rs).2=0)=false then(zeroE,(addR e (addS e e.purs ss).1 rs).2)else
   if decide (200<((addR e (addS e e.purs ss).1 rs).1.length:Int))=true then(zeroE,6)else({e with purs:=(addR e (addS e e.purs ss).1 rs).1},0):=by simp[jd8,hk]
  rw[hx];clear hx hk l1 l3 l4;refine jaa good _ _ [.cell 6 28,.tmp 7] Tryz.func37 rfl rfl (by decide+kernel) rfl ?_;unfold jd3 jd4;simp only[go_sem];refine ja1 h21 (by decide) ?_;simp only[go_sem];clear h21;refine CallP_vec h29 (by decide) (jgd _) ?_;simp only[go_sem];clear h29;refine jdm [2,3,6,9,28,29,30] [3,6,46,27] [(9,46,31,4)] (fun g:Nat×List Purity=>⟨[(2,.im (.sl (rs.map Recipe.c))),(3,.loc 3 8 0 0),(6,.loc 6 8 0 0),(9,.vec 46 31 4 (g.2.map Purity.c)),(28,.im (.sl (ss.map Sample.c))),(29,.im (.int ss.length)),(30,.im (.int g.1))],
    [(6,8,[zeroE.c]),(3,8,[e.c])],[(46,4,g.2.length)]⟩)
   (fun g=>g.1<=ss.length/\addS e e.purs ss=addS e g.2 (ss.drop g.1)/\g.2.length<=200+6*g.1) (fun g=>ss.length-g.1) (0,e.purs) ?_ ?_ ⟨Nat.zero_le _,rfl,by show e.purs.length<=_;omega⟩ ?_
  ·simp only[List.length_map,go_sem]
  ·simp only[Int.natCast_zero,zeroE,List.map_nil,List.length_map,go_sem]
  intro⟨i,acc⟩ ⟨hi,ha,hl⟩;dsimp only at hi ha hl;by_cases hp:(i:Int)<ss.length
  ·have hd:decide ((i:Int)<ss.length)=true:=decide_eq_true hp;obtain⟨x,hx⟩:=jcm hp;have h1:=ja6 (n:=(i:Int)+1) (by omega);have h30:=c30 e x (hss x (List.mem_of_getElem? hx));have hlx:=hlS x;rw[jgm hx,addS]at ha;generalize jct e x=r at*;obtain⟨l,k⟩:=r;dsimp only at hlx ha;simp only[resP,purs]at h30;simp only[hd,List.getElem?_map,hx,go_sem];refine ja1 h30 (by decide) ?_;simp only[resP,purs,go_sem];refine jbl (fun hk=> ?_) (fun hk=> ?_)
   ·rw[hk,if_pos rfl]at ha;simp only[eq_self,go_sem];refine⟨jgd _,jgd _,by omega,?_⟩;refine ja9 (i+1,acc++l) ?_ ?_ ⟨?_,ha,?_⟩
    ·simp only[h1,Int.natCast_add,zeroE,List.map_nil,List.map_append,List.length_append,go_sem]
    ·show ss.length-(i+1)<ss.length-i;omega
    ·show i+1<=ss.length;omega
    ·show(acc++l).length<=200+6*(i+1);rw[List.length_append];omega
   ·rw[hk,if_neg Bool.false_ne_true]at ha;rw[ha];have hk':=of_decide_eq_false hk;simp only[hk',resE,zeroE,List.map_nil,go_sem]
  have hd:decide ((i:Int)<ss.length)=false:=decide_eq_false hp;rw[List.drop_of_length_le (by omega),addS]at ha;rw[ha];simp only[hd,go_sem];clear hd hp ha hlS;refine jdm [3,6,9,48,49,50] [3,6,66,46] [(9,66,31,4)] (fun g:Nat×List Purity=>⟨[(3,.loc 3 8 0 0),(6,.loc 6 8 0 0),(9,.vec 66 31 4 (g.2.map Purity.c)),(48,.im (.sl (rs.map Recipe.c))),(49,.im (.int rs.length)),(50,.im (.int g.1))],
    [(6,8,[zeroE.c]),(3,8,[e.c])],[(66,4,g.2.length)]⟩)
   (fun g=>g.1<=rs.length/\addR e acc rs=addR e g.2 (rs.drop g.1)/\g.2.length<=10000+200*g.1) (fun g=>rs.length-g.1) (0,acc) ?_ ?_ ⟨Nat.zero_le _,rfl,by show acc.length<=_;omega⟩ ?_
  ·simp only[List.length_map,go_sem]
  ·simp only[Int.natCast_zero,zeroE,List.map_nil,List.length_map,go_sem]
  clear hi hl;intro⟨i,acc'⟩ ⟨hi,ha,hl⟩;dsimp only at hi ha hl;by_cases hp:(i:Int)<rs.length
  ·have hd:decide ((i:Int)<rs.length)=true:=decide_eq_true hp;obtain⟨x,hx⟩:=jcm hp;have h1:=ja6 (n:=(i:Int)+1) (by omega);have h31':=h31 x;have hlx:=hlR x;rw[jgm hx,addR]at ha;generalize je1 e x=r at*;obtain⟨l,k⟩:=r;dsimp only at hlx ha;simp only[resP,purs]at h31';simp only[hd,List.getElem?_map,hx,go_sem];refine ja1 h31' (by decide) ?_;simp only[resP,purs,go_sem];refine jbl (fun hk=> ?_) (fun hk=> ?_)
   ·rw[hk,if_pos rfl]at ha;simp only[eq_self,go_sem];refine⟨jgd _,jgd _,by omega,?_⟩;refine ja9 (i+1,acc'++l) ?_ ?_ ⟨?_,ha,?_⟩
    ·simp only[h1,Int.natCast_add,zeroE,List.map_nil,List.map_append,List.length_append,go_sem]
    ·show rs.length-(i+1)<rs.length-i;omega
    ·show i+1<=rs.length;omega
    ·show(acc'++l).length<=10000+200*(i+1);rw[List.length_append];omega
   ·rw[hk,if_neg Bool.false_ne_true]at ha;rw[ha];have hk':=of_decide_eq_false hk;simp only[hk',resE,zeroE,List.map_nil,go_sem]
  ·have hd:decide ((i:Int)<rs.length)=false:=decide_eq_false hp;rw[List.drop_of_length_le (by omega),addR]at ha;rw[ha];simp only[hd,go_sem];refine jbl (fun hk=> ?_) (fun hk=> ?_)
   ·simp only[hk,resE,zeroE,List.map_nil,go_sem]
   ·have hk':¬(200<(acc'.length:Int)):=of_decide_eq_false hk;simp only[hk,go_sem];refine jb6 (by decide+kernel) ?_;simp only[go_sem];refine ja5 h32 (by decide) ?_;simp only[go_sem];refine ja5 h33 (by decide) ?_;simp only[go_sem];refine ja5 h34 (by decide) ?_;simp only[go_sem];refine ja5 h35 (by decide) ?_;simp only[resE,hk',hk,go_sem]
 ·have hx:jd8 e ss rs=(zeroE,jbs e):=by simp[jd8,hk]
  rw[hx];refine jaa good _ _ [.cell 6 28,.tmp 7] Tryz.func37 rfl rfl (by decide+kernel) rfl ?_;simp only[go_sem];refine ja1 h21 (by decide) ?_;simp only[hk,resE,zeroE,List.map_nil,go_sem]
end
section
open Go.Abs
attribute [local go_sem] Evid.iv Evid.c Place.c Move.c Cert.c Recall.c Purity.c Sample.c Recipe.c ints ic Abs.flat1
theorem jp0{P:Nat->Purity->Prop}{a b:Purity}(h0:P 0 a)(h1:P 1 b):∀(i:Nat) x,[a,b][i]? =some x->P i x
 | 0,x,h=>by simp at h;subst h;exact h0
 | 1,x,h=>by simp at h;subst h;exact h1
 | n+2,x,h=>by simp at h
def sanE:Evid:=⟨1,0,0,[⟨2,-1,-1⟩,⟨3,-1,-1⟩],[⟨0,0,1,-1,0,false⟩,⟨0,1,0,-1,0,false⟩],[],[],[]⟩
set_option maxHeartbeats 2000000 in
theorem c7:Ctr G.P 34 [] (· = .bool true):=by
 have s1:=c23 [900,100] [900,900,100,100] 0 [⟨3,0,900,900⟩,⟨3,1,100,100⟩] (by decide+kernel) (by simp) rfl (by simp) (jp0 ⟨rfl,rfl,rfl,rfl⟩ ⟨rfl,rfl,rfl,rfl⟩);have s2:=c23 [2,1] [666,667,333,334] 0 [⟨3,0,666,667⟩,⟨3,1,333,334⟩] (by decide+kernel) (by simp) rfl (by simp) (jp0 ⟨rfl,rfl,rfl,rfl⟩ ⟨rfl,rfl,rfl,rfl⟩);have s3:=c23 [2,1] [616,717,283,384] 50 [⟨3,0,616,717⟩,⟨3,1,283,384⟩] (by decide+kernel) (by simp) rfl (by simp) (jp0 ⟨rfl,rfl,rfl,rfl⟩ ⟨rfl,rfl,rfl,rfl⟩);have s4:=c23 [1,0] [970,1000,0,30] 30 [⟨3,0,970,1000⟩,⟨3,1,0,30⟩] (by decide+kernel) (by simp) rfl (by simp) (jp0 ⟨rfl,rfl,rfl,rfl⟩ ⟨rfl,rfl,rfl,rfl⟩);have s5:=c10 ⟨0,[0,0],30⟩ (by simp);rw[show jbn ⟨0,[0,0],30⟩=([],14)by decide+kernel]at s5;have s6:=c12 sanE [⟨1,[5],0⟩] [⟨0,1,0,7,9⟩] (by simp) (by simp) (by simp);rw[show jd8 sanE [⟨1,[5],0⟩] [⟨0,1,0,7,9⟩]=({sanE with purs:=[⟨1,0,1000,1000⟩,⟨0,0,7,9⟩]},0)by decide+kernel]at s6;have s7:=c14 [⟨1,0,1000,1000⟩,⟨0,0,7,9⟩] [⟨1,0,1000,1000⟩,⟨0,0,7,9⟩] (by simp);rw[decide_eq_true rfl]at s7;simp only[ints,ic,List.map_cons,List.map_nil,Sample.c,Evid.iv,Evid.c,Place.c,Move.c,Purity.c,Recipe.c,jd3,jd4,resE,resP,purs,sanE]at s1 s2 s3 s4 s5 s6 s7;refine jaa good _ _ [.tmp 0] Tryz.func34 rfl rfl (by decide+kernel) rfl ?_;simp only[go_sem];refine ja1 s1 (by decide) ?_;simp only[go_sem]
 refine ja1 s2 (by decide) ?_;simp only[go_sem];refine ja1 s3 (by decide) ?_;simp only[go_sem];refine ja1 s4 (by decide) ?_;simp only[go_sem];refine ja1 s5 (by decide) ?_;simp only[go_sem];refine ja1 s6 (by decide) ?_;simp only[go_sem];refine ja1 s7 (by decide) ?_;simp only[go_sem]
end
section
open Go.Abs
attribute [local go_sem] ints ic big frac
theorem g_cmp{a b:Rat}(ha:FL 19000000000 a)(hb:FL 19000000000 b):Ctr G.P 38 [frac a,frac b] (· = .int (cmpR a b)):=t_cmpf a b (by have:=ha.1;omega) (by have:=ha.2;omega) (by have:=hb.1;omega) (by have:=hb.2;omega)
end
section
open Go.Abs
open Go.LP (Dic Rw RT Ov OvRw tsum Sol IsMin NoMin Bds)
attribute [local go_sem] Evid.c Evid.iv ints ic big frac fc zc
theorem small_parts{e:Evid}{k m:Int}(h:jnc e k m=true):e.mats<=m/\(e.moves.length:Int)<=k/\e.purs.length<=6:=by
 simp only[jnc,Bool.and_eq_true,Bool.not_eq_true',decide_eq_false_iff_not,decide_eq_true_eq]at h;omega
theorem sampled_len2(e:Evid)(s:Sample){k:Nat}(h:e.mats<=k):(jct e s).1.length<=k:=by
 unfold jct;split
 ·simp
 ·split
  ·simp
  ·split
   ·simp
   ·rename_i h3;simp at h3;show(jbn s).1.length<=k;omega
theorem cooked_len2(e:Evid)(x:Recipe):(je1 e x).1.length<=e.moves.length:=by
 unfold je1;have:=jit x e.moves 0
 (repeat' split)<;>simp<;>omega
theorem jq4(e:Evid){k:Nat}(h:e.mats<=k):∀(ss:List Sample) (acc:List Purity),(addS e acc ss).1.length<=acc.length+k*ss.length
 | [],acc=>by simp[addS]
 | s::r,acc=>by
  rw[addS];split
  ·have h1:=jq4 e h r (acc++(jct e s).1);have h2:=sampled_len2 e s h;rw[List.length_append]at h1;rw[List.length_cons,Nat.mul_succ];omega
  ·simp
theorem jq6(e:Evid):∀(rs:List Recipe) (acc:List Purity),(addR e acc rs).1.length<=acc.length+e.moves.length*rs.length
 | [],acc=>by simp[addR]
 | s::r,acc=>by
  rw[addR];split
  ·have h1:=jq6 e r (acc++(je1 e s).1);have h2:=cooked_len2 e s;rw[List.length_append]at h1;rw[List.length_cons,Nat.mul_succ];omega
  ·simp
theorem expand_len{e:Evid}{ss:List Sample}{rs:List Recipe}(h0:(jd8 e ss rs).2=0)(hm:e.mats<=2)(hv:e.moves.length<=4)(hp:e.purs.length<=6)(hs:ss.length<=2)(hr:rs.length<=2):(jd8 e ss rs).1.purs.length<=40:=by
 have h1:=jq4 e (k:=2) hm ss e.purs;have h2:=jq6 e rs (addS e e.purs ss).1;have h3:e.moves.length*rs.length<=4*2:=Nat.mul_le_mul hv hr;unfold jd8 at h0⊢;split at h0
 ·rename_i h;rw[if_pos h];simp[zeroE]
 ·rename_i h;rw[if_neg h];split at h0
  ·rename_i h;rw[if_pos h];simp[zeroE]
  ·rename_i h;rw[if_neg h];split at h0
   ·rename_i h;rw[if_pos h];simp[zeroE]
   ·rename_i h;rw[if_neg h];split at h0
    ·rename_i h;rw[if_pos h];simp[zeroE]
    ·rename_i h;rw[if_neg h];show(addR e (addS e e.purs ss).1 rs).1.length<=40;omega
theorem RSay.cells{e:Evid}{ps:List (Int×Int)}{r:List IV}{f:Int}{b:Option (Rat×Option Rat)}(h:RSay e ps r f b){lo:Rat}{hi:Option Rat}(hb:b=some (lo,hi)):
  ∃(k:Int) (P Y Z P' Y' Z':List (List IV)),r=([.int 0]++fc lo++[.sl P,.sl Y,.sl Z])++([.int k]++sideC (hi.map fun v=> -v)++[.sl P',.sl Y',.sl Z'])/\decide (k=0)=hi.isSome:=by
 obtain⟨x,x',Y,Z,k,Y',Z',e1,e2,_⟩:=h.found lo hi hb;exact⟨k,_,Y,Z,_,Y',Z',e1,e2⟩
set_option maxHeartbeats 8000000 in
theorem w_sweighs(e:Evid)(ss:List Sample)(rs:List Recipe)(ps:List (Int×Int)):Ctr G.P 6 [e.iv,jd3 ss,jd4 rs,.sl (ps.map pickC)] (· = .bool true):=by
 have k7:=c7;have kS:=t_small14 e 4 2;have k9:=c9 ss rs;have hpl:(ps.map pickC).length=ps.length:=List.length_map _;have hsl:(ss.map Sample.c).length=ss.length:=List.length_map _;have hrl:(rs.map Recipe.c).length=rs.length:=List.length_map _;rcases h1:jnc e 4 2 with _ | _
 ·rw[h1]at kS;clear k9;refine jaa good _ _ [.tmp 8] Tryz.func6 rfl rfl (by decide+kernel) rfl ?_;unfold Evid.iv Evid.c jd3 jd4 at*;simp only[go_sem];refine ja1 k7 (by decide) ?_;simp only[go_sem];refine ja1 kS (by decide) ?_;simp only[*,go_sem]
 rw[h1]at kS;rcases d1:decide (2<(ss.length:Int))with _ | _
 case true=>
  clear k9;refine jaa good _ _ [.tmp 8] Tryz.func6 rfl rfl (by decide+kernel) rfl ?_;unfold Evid.iv Evid.c jd3 jd4 at*;simp only[go_sem];refine ja1 k7 (by decide) ?_;simp only[go_sem];refine ja1 kS (by decide) ?_;simp only[*,go_sem]
 rcases d2:decide (2<(rs.length:Int))with _ | _
 case true=>
  clear k9;refine jaa good _ _ [.tmp 8] Tryz.func6 rfl rfl (by decide+kernel) rfl ?_;unfold Evid.iv Evid.c jd3 jd4 at*;simp only[go_sem];refine ja1 k7 (by decide) ?_;simp only[go_sem];refine ja1 kS (by decide) ?_;simp only[*,go_sem]
 rcases h2:few19 ss rs with _ | _
 ·rw[h2]at k9;refine jaa good _ _ [.tmp 8] Tryz.func6 rfl rfl (by decide+kernel) rfl ?_;unfold Evid.iv Evid.c jd3 jd4 at*;simp only[go_sem];refine ja1 k7 (by decide) ?_;simp only[go_sem];refine ja1 kS (by decide) ?_;simp only[*,go_sem];refine ja1 k9 (by decide) ?_;simp only[*,go_sem]
 rw[h2]at k9;rcases d3:decide (3<(ps.length:Int))with _ | _
 case true=>
  refine jaa good _ _ [.tmp 8] Tryz.func6 rfl rfl (by decide+kernel) rfl ?_;unfold Evid.iv Evid.c jd3 jd4 at*;simp only[go_sem];refine ja1 k7 (by decide) ?_;simp only[go_sem];refine ja1 kS (by decide) ?_;simp only[*,go_sem];refine ja1 k9 (by decide) ?_;simp only[*,go_sem]
 have hs2:=of_decide_eq_false d1;have hr2:=of_decide_eq_false d2;have hp3:=of_decide_eq_false d3;obtain⟨hm,hv,hpu⟩:=small_parts h1;have hss:∀s∈ss,s.grams.length<=100000:=fun s hs=>by
  simp only[few19,Bool.and_eq_true,decide_eq_true_eq]at h2;have h:=h2.1;rw[List.take_of_length_le (by omega),List.all_eq_true]at h;have:=h s hs;simp[jl5]at this;omega
 have k12:=c12 e ss rs (by omega) (by omega) hss;rcases hk:decide ((jd8 e ss rs).2=0)with _ | _
 ·generalize jd8 e ss rs=r at*;obtain⟨e',k⟩:=r;dsimp only at hk;simp only[resE]at k12;clear hm hv hpu hss;refine jaa good _ _ [.tmp 8] Tryz.func6 rfl rfl (by decide+kernel) rfl ?_;unfold Evid.iv Evid.c jd3 jd4 at*;simp only[go_sem];refine ja1 k7 (by decide) ?_;simp only[go_sem];refine ja1 kS (by decide) ?_;simp only[*,go_sem];refine ja1 k9 (by decide) ?_;simp only[*,go_sem];refine ja1 k12 (by decide) ?_;simp only[*,go_sem]
 have hx0:=of_decide_eq_true hk;have hc:jbs e=0:=by
  by_cases hc:jbs e=0
  ·exact hc
  ·have hx:jd8 e ss rs=(zeroE,jbs e):=by simp[jd8,hc]
   rw[hx]at hx0;exact absurd hx0 hc
 rcases expand_cases e ss rs hc with ⟨h0,_⟩ | ⟨m,hx,_,hck⟩
 ·exact absurd hx0 h0
 have hlen:=expand_len hx0 hm (by omega) hpu (by omega) (by omega);rw[hx]at k12 hlen;clear hk hx0 hx;have hlen:(e.purs++m).length<=40:=hlen;obtain⟨r1,f1,b1,s1,kR1⟩:=w_range (e:=e) (ps:=ps) ⟨by omega,hm,by omega⟩ (by omega);obtain⟨r2,f2,b2,s2,kR2⟩:=w_range (e:={e with purs:=e.purs++m}) (ps:=ps) ⟨by dsimp only;omega,hm,hlen⟩ (by omega);have hoo:okP e ps=okP {e with purs:=e.purs++m} ps:=by
  rcases h:okP e ps with _ | _
  ·rcases h':okP {e with purs:=e.purs++m} ps with _ | _
   ·rfl
   ·rw[okP_to h' hc rfl rfl]at h;cases h
  ·exact(okP_to h hck rfl rfl).symm
 clear hm hv hpu hss hs2 hr2 hp3 hlen;rcases b2 with _ | ⟨lo2,hi2⟩
 ·obtain⟨hr2,hf2⟩:=s2.zero rfl;have hfl2:decide (f2=0)=false:=s2.flag;have hff:decide (f1=0)=true\/decide (f1=f2)=true:=by
   cases hb1:b1 with
   | some q=>left;rw[s1.flag,hb1];rfl
   | none=>
    right;have a1:=s1.arg;have a2:=s2.arg;rw[hoo]at a1;have z1:=(s1.zero hb1).2;refine decide_eq_true ?_;rcases h:okP {e with purs:=e.purs++m} ps with _ | _
    ·rw[a1.2 h,a2.2 h]
    ·rw[h]at a1 a2;rcases z1 with z1 | z1
     ·exact absurd (a1.1 z1) (by decide)
     ·rcases hf2 with z2 | z2
      ·exact absurd (a2.1 z2) (by decide)
      ·rw[z1,z2]
  obtain⟨k1,a1,c1,x1,y1,P1,Y1,Z1,k2,a2,c2,x2,y2,P2,Y2,Z2,e1⟩:=s1.shape;subst e1 hr2;clear s1 s2 hoo hf2;simp only[resE,Evid.iv,Evid.c,zo]at k12 kR1 kR2;rcases hff with hff | hff
  ·refine jaa good _ _ [.tmp 8] Tryz.func6 rfl rfl (by decide+kernel) rfl ?_;unfold Evid.iv Evid.c jd3 jd4 at*;simp only[go_sem];refine ja1 k7 (by decide) ?_;simp only[go_sem];refine ja1 kS (by decide) ?_;simp only[*,go_sem];refine ja1 k9 (by decide) ?_;simp only[*,go_sem];refine ja1 k12 (by decide) ?_;simp only[*,go_sem];refine ja1 kR1 (by decide) ?_;simp only[*,go_sem];refine ja1 kR2 (by decide) ?_;simp only[*,go_sem]
  ·rcases hf1:decide (f1=0)with _ | _
   ·refine jaa good _ _ [.tmp 8] Tryz.func6 rfl rfl (by decide+kernel) rfl ?_;unfold Evid.iv Evid.c jd3 jd4 at*;simp only[go_sem];refine ja1 k7 (by decide) ?_;simp only[go_sem];refine ja1 kS (by decide) ?_;simp only[*,go_sem];refine ja1 k9 (by decide) ?_;simp only[*,go_sem];refine ja1 k12 (by decide) ?_;simp only[*,go_sem];refine ja1 kR1 (by decide) ?_;simp only[*,go_sem];refine ja1 kR2 (by decide) ?_;simp only[*,go_sem]
   ·refine jaa good _ _ [.tmp 8] Tryz.func6 rfl rfl (by decide+kernel) rfl ?_;unfold Evid.iv Evid.c jd3 jd4 at*;simp only[go_sem];refine ja1 k7 (by decide) ?_;simp only[go_sem];refine ja1 kS (by decide) ?_;simp only[*,go_sem];refine ja1 k9 (by decide) ?_;simp only[*,go_sem];refine ja1 k12 (by decide) ?_;simp only[*,go_sem];refine ja1 kR1 (by decide) ?_;simp only[*,go_sem];refine ja1 kR2 (by decide) ?_;simp only[*,go_sem]
 ·obtain⟨lo1,hi1,rfl,g1,g2,g3,g4,g5,g6⟩:=s1.say.wider s2.say rfl hc rfl rfl (rows_sub rfl rfl rfl (fun M k x hx w hw=>hw) fun q hq=>List.mem_append_left _ hq);have hf1:decide (f1=0)=true:=s1.flag;have hf2:decide (f2=0)=true:=s2.flag;obtain⟨k1,P1,Y1,Z1,P1',Y1',Z1',e1,n1⟩:=s1.cells rfl;obtain⟨k2,P2,Y2,Z2,P2',Y2',Z2',e2,n2⟩:=s2.cells rfl;have kC:=g_cmp (g3.mono (by omega:4000000000<=19000000000)) (g5.mono (by omega:4000000000<=19000000000));have dC:decide (0<cmpR lo1 lo2)=false:=decide_eq_false (fun h=>by have:=cmpR_pos.1 h;grind);have hz1:=of_decide_eq_true hf1;have hz2:=of_decide_eq_true hf2;subst e1 e2 hz1 hz2;clear s1 s2 hoo hf1 hf2;rcases hi1 with _ | w
  ·have n1:decide (k1=0)=false:=n1;obtain⟨s,t,b,d,es⟩:=side_shape (hi2.map fun v=> -v);rw[es]at kR2;simp only[resE,Evid.iv,Evid.c,Option.map_none,sideC,zc,List.cons_append,List.nil_append,fc,frac]at k12 kR1 kR2 kC;clear g4 g6 g2;refine jaa good _ _ [.tmp 8] Tryz.func6 rfl rfl (by decide+kernel) rfl ?_;unfold Evid.iv Evid.c jd3 jd4 at*;simp only[go_sem];refine ja1 k7 (by decide) ?_;simp only[go_sem];refine ja1 kS (by decide) ?_;simp only[*,go_sem];refine ja1 k9 (by decide) ?_;simp only[*,go_sem];refine ja1 k12 (by decide) ?_;simp only[*,go_sem];refine ja1 kR1 (by decide) ?_;simp only[*,go_sem];refine ja1 kR2 (by decide) ?_;simp only[*,go_sem];refine ja1 kC (by decide) ?_;simp only[*,go_sem]
  ·obtain⟨w',rfl,hw⟩:=g2 w rfl;have n1:decide (k1=0)=true:=n1;have n2:decide (k2=0)=true:=n2;have kD:=g_cmp ((jje (g4 w rfl)).mono (by omega:4000000000<=19000000000)) ((jje (g6 w' rfl)).mono (by omega:4000000000<=19000000000));have dD:decide (cmpR (-w) (-w')<=0)=true:=decide_eq_true (by
    have:=(not_congr (cmpR_pos (a:= -w) (b:= -w'))).2 (by grind);omega)
   simp only[resE,Evid.iv,Evid.c,Option.map_some,sideC,List.cons_append,List.nil_append,fc,frac]at k12 kR1 kR2 kC kD;generalize-w=v at*;generalize-w'=v' at*;clear g4 g6 g2;refine jaa good _ _ [.tmp 8] Tryz.func6 rfl rfl (by decide+kernel) rfl ?_;unfold Evid.iv Evid.c jd3 jd4 at*;simp only[go_sem];refine ja1 k7 (by decide) ?_;simp only[go_sem];refine ja1 kS (by decide) ?_;simp only[*,go_sem];refine ja1 k9 (by decide) ?_;simp only[*,go_sem];refine ja1 k12 (by decide) ?_;simp only[*,go_sem];refine ja1 kR1 (by decide) ?_;simp only[*,go_sem];refine ja1 kR2 (by decide) ?_;simp only[*,go_sem];refine ja1 kC (by decide) ?_;simp only[*,go_sem];refine ja1 kD (by decide) ?_;simp only[*,go_sem]
end
end Go.Proofs.YtfahloobpegieaaGreat
namespace Go.Abs
section
open Go.RowKit (Below)
def tileB(G:Ctx):Nat->List (Nat×TypeId)->Nat->Bool
 | k,[],n=>k==n
 | k,(o,t)::r,n=>o==k&&tileB G (k+(G.ti t).size) r n
def opens(G:Ctx):Nat->TypeId->Bool
 | 0,_=>false
 | n+1,t=>(G.ti t).size !=0&&match(G.ti t).kind with
  | .it _ | .bl | .str=>(G.ti t).size==1
  | .sl e=>(G.ti t).size==1&&opens G n e
  | .st fs=>tileB G 0 fs (G.ti t).size&&fs.all fun p=>opens G n p.2
  | _=>false
def Fits(G:Ctx):Nat->TypeId->List IV->Prop
 | 0,_,_=>False
 | n+1,t,xs=>match(G.ti t).kind with
  | .it k=>∃i,xs=[.sc (.int k i)]/\(Lit.int k i).wf=true
  | .bl=>∃b,xs=[.sc (.bool b)]
  | .str=>∃s:ByteArray,xs=[.sc (.string s)]/\s.size<=maxLen
  | .sl e=>∃es,xs=[.sl es]/\es.length<=maxLen/\∀c∈es,Fits G n e c
  | .st fs=>xs.length=(G.ti t).size/\∀p∈fs,Fits G n p.2 ((xs.drop p.1).take (G.ti p.2).size)
  | _=>False
theorem jnk{α:Type}{R:Nat->α->Prop}:∀n,(∀i,i<n->∃x,R i x)->∃l:List α,l.length=n/\∀i x,l[i]? =some x->R i x
 | 0,_=>⟨[],rfl,fun i x h=>by simp at h⟩
 | n+1,h=>by
  obtain⟨l,hl,hR⟩:=jnk n fun i hi=>h i (by omega);obtain⟨x,hx⟩:=h n (by omega);refine⟨l++[x],by simp[hl],fun i y hy=> ?_⟩;rcases Nat.lt_or_ge i l.length with hi | hi
  ·rw[List.getElem?_append_left hi]at hy;exact hR i y hy
  ·rw[List.getElem?_append_right hi]at hy;have hi':i=l.length:=by
    have:=(List.getElem?_eq_some_iff.1 hy).1;simp at this;omega
   subst hi';simp at hy;subst hy;rw[hl];exact hx
theorem RepL.append{w:World}{M:Nat->Nat->Prop}{xs ys:List IV}{us vs:List Value}(h:RepL w M xs us)(h':RepL w M ys vs):RepL w M (xs++ys) (us++vs):=by
 refine⟨by simp[h.1,h'.1],fun k x v hx hv=> ?_⟩;rcases Nat.lt_or_ge k xs.length with hk | hk
 ·rw[List.getElem?_append_left hk]at hx;rw[List.getElem?_append_left (by rw[<-h.1];exact hk)]at hv;exact h.2 k x v hx hv
 ·rw[List.getElem?_append_right hk]at hx;rw[List.getElem?_append_right (by rw[<-h.1];exact hk),<-h.1]at hv;exact h'.2 _ x v hx hv
section
variable{G:Ctx}{H:Type}{enc:TypeId×Value->H}{w:World}{base:Nat}{spare:Nat->Bool}{held:Bool}
abbrev NoM:Nat->Nat->Prop:=fun _ _=>False
theorem jiv(hG:G.Ok){t:TypeId}(h:(G.ti t).size≠0):G.P.cellsOf t=(G.ti t).size:=by
 obtain⟨i,z,hi,hs,_⟩:=hG.info h;simp[Program.cellsOf,hi,hs]
theorem jm9(hG:G.Ok):∀(n m:Nat) (t:TypeId) (cs:List Value) (x:DataW H×List MemPlace),opens G n t=true->DataW.trod enc G.P w base spare held m t cs=some x->
  ∃xs,RepL w NoM xs cs/\(∀y∈xs,y.one=true)/\xs.length=(G.ti t).size/\Fits G n t xs
 | 0,_,_,_,_,ho,_=>by simp[opens]at ho
 | n+1,m,t,cs,x,ho,h=>by
  unfold opens at ho;simp only[Bool.and_eq_true,bne_iff_ne,ne_eq]at ho;obtain⟨h0,ho⟩:=ho;have one:∀{v:Value} {y:IV},Rep w NoM y v->y.one=true->Fits G (n+1) t [y]->(G.ti t).size=1->cs=[v]->
    ∃xs,RepL w NoM xs cs/\(∀y∈xs,y.one=true)/\xs.length=(G.ti t).size/\Fits G (n+1) t xs:=by
   intro v y h1 h2 h3 h4 h5;subst h5;exact⟨[y],RepL.cons h1 RepL.nil,by simpa using h2,h4.symm,h3⟩
  split at ho
  ·rename_i k hk;obtain⟨i,rfl,_,hwf⟩:=DataW.trod_int (hG.it h0 hk) h;exact one (.sc _ rfl) rfl (by unfold Fits;rw[hk];exact⟨i,rfl,hwf⟩) (by simpa using ho) rfl
  ·rename_i hk;obtain⟨b,rfl,rfl⟩:=DataW.trod_bool (hG.bl h0 hk) h;exact one (.sc _ rfl) rfl (by unfold Fits;rw[hk];exact⟨b,rfl⟩) (by simpa using ho) rfl
  ·rename_i hk;obtain⟨s,rfl,_,hwf⟩:=DataW.trod_string (hG.str h0 hk) h;exact one (.sc _ rfl) rfl (by unfold Fits;rw[hk];exact⟨s,rfl,hwf⟩) (by simpa using ho) rfl
  ·rename_i e hk;simp only[Bool.and_eq_true,beq_iff_eq]at ho;obtain⟨h1,ho⟩:=ho;rcases DataW.trod_slice (hG.sl h0 hk) h with ⟨rfl,_⟩ | ⟨a,len,cap,elems,rest,m',rfl,rfl,_,_,hlc,hcm,hel,hat,_⟩
   ·exact one (.nil _ _) rfl (by unfold Fits;rw[hk];exact⟨[],rfl,Nat.zero_le _,by simp⟩) h1 rfl
   ·have he0:(G.ti e).size≠0:=by
     cases n with
     | zero=>simp[opens]at ho
     | succ n=>
      unfold opens at ho;simp only[Bool.and_eq_true,bne_iff_ne,ne_eq]at ho;exact ho.1
    rw[jiv hG he0]at hat;have hex:∀i,i<len->∃p:List IV×List Value,w.cells? base (a.add (i*(G.ti e).size)) (G.ti e).size=some p.2/\RepL w NoM p.1 p.2/\(∀y∈p.1,y.one=true)/\p.1.length=(G.ti e).size/\Fits G n e p.1:=by
     intro i hi;have h3:=hat i hi;rw[List.getElem?_eq_getElem (by omega)]at h3;obtain⟨cs',h4,h5⟩:=Option.bind_eq_some_iff.1 h3;obtain⟨xs,h6,h7,h8,h9⟩:=jm9 hG n _ e cs' _ ho h5;exact⟨⟨xs,cs'⟩,h4,h6,h7,h8,h9⟩
    obtain⟨l,hl,hR⟩:=jnk len hex;have hmap:∀(i:Nat) c,(l.map (·.1))[i]? =some c->∃us,w.cells? base (a.add (i*(G.ti e).size)) (G.ti e).size=some us/\RepL w NoM c us/\(∀y∈c,y.one=true)/\c.length=(G.ti e).size/\Fits G n e c:=by
     intro i c hc;rw[List.getElem?_map]at hc;obtain⟨p,hp,rfl⟩:=Option.map_eq_some_iff.1 hc;obtain⟨h3,h4,h5,h6,h7⟩:=hR i p hp;exact⟨p.2,h3,h4,h5,h6,h7⟩
    have hlen:(l.map (·.1)).length=len:=by simpa using hl
    have hfit:Fits G (n+1) t [.sl (l.map (·.1))]:=by
     unfold Fits;rw[hk];refine⟨_,rfl,by omega,fun c hc=> ?_⟩;obtain⟨i,hi⟩:=List.getElem?_of_mem hc;obtain⟨_,_,_,_,_,h7⟩:=hmap i c hi;exact h7
    refine one (y:= .sl (l.map (·.1))) ?_ rfl hfit h1 rfl;by_cases hz:len=0
    ·subst hz;have:l=[]:=List.eq_nil_of_length_eq_zero hl;subst this;exact .nil _ _
    ·have hlist:∀i c j y,(l.map (·.1))[i]? =some c->c[j]? =some y->∃u,w.cell? (a.add (i*(G.ti e).size+j))=some u/\Rep w NoM y u/\y.one=true:=by
      intro i c j y hi hj;obtain⟨us,h3,h4,h5,h6,_⟩:=hmap i c hi;have hjl:=(List.getElem?_eq_some_iff.1 hj).1;obtain⟨_,h7,h8⟩:=World.cells?_some h3;have hu:us[j]? =some (us[j]'(by omega)):=List.getElem?_eq_getElem (by omega);refine⟨_,?_,h4.2 j y _ hj hu,h5 y (List.mem_of_getElem? hj)⟩;have:=h8 j (by omega);rw[Go.Deep.add_add]at this;rw[this,hu]
     have hsp:a=⟨a.block,a.off,none⟩:=by
      have hg:(l.map (·.1))[0]? =some ((l.map (·.1))[0]'(by omega)):=List.getElem?_eq_getElem (by omega);obtain⟨us,_,_,_,h6,_⟩:=hmap 0 _ hg;have hg2:((l.map (·.1))[0]'(by omega))[0]? =some (((l.map (·.1))[0]'(by omega))[0]'(by omega)):=List.getElem?_eq_getElem (by omega);obtain⟨u,h3,_⟩:=hlist 0 _ 0 _ hg hg2;simp[Addr.add]at h3;have:=World.cell?_spot h3;cases a;simp_all
     have hadd:∀k,a.add k=⟨a.block,a.off+k,none⟩:=fun k=>by
      obtain⟨b,o,sp⟩:=a;cases hsp;unfold Addr.add;split
      ·rename_i hk0;subst hk0;rfl
      ·rfl
     have hgo:∀(i:Nat) c (j:Nat) y,(l.map (·.1))[i]? =some c->c[j]? =some y->w.cell? ⟨a.block,a.off+i*(G.ti e).size+j,none⟩=some ((w.cell? ⟨a.block,a.off+i*(G.ti e).size+j,none⟩).getD undef)/\
       y.one=true/\Rep w NoM y ((w.cell? ⟨a.block,a.off+i*(G.ti e).size+j,none⟩).getD undef):=by
      intro i c j y hi hj;obtain⟨u,h3,h4,h5⟩:=hlist i c j y hi hj;rw[hadd,<-Nat.add_assoc]at h3;rw[h3];exact⟨rfl,h5,h4⟩
     have:=Rep.sl (w:=w) (M:=NoM) (l.map (·.1)) (G.ti e).size a.block a.off cap (fun i j=>(w.cell? ⟨a.block,a.off+i*(G.ti e).size+j,none⟩).getD undef)
      (by intro hn;rw[hn]at hlen;simp at hlen;omega)
      (fun c hc=>by obtain⟨i,hi⟩:=List.getElem?_of_mem hc;obtain⟨_,_,_,_,h6,_⟩:=hmap i c hi;exact h6)
      (by omega)
      (fun i c j y hi hj=>⟨(hgo i c j y hi hj).2.1,(hgo i c j y hi hj).1,fun h=>h⟩)
      (fun i c j y hi hj=>(hgo i c j y hi hj).2.2)
     rw[hlen,<-hsp]at this;exact this
  ·rename_i fs hk;simp only[Bool.and_eq_true]at ho;obtain⟨ht,ho⟩:=ho;obtain⟨gs,hu,hgs⟩:=hG.st h0 hk;obtain⟨xs,m',rfl,_,hcl,hxl,hat⟩:=DataW.trod_struct hu h;rw[jiv hG h0]at hcl;have hfield:∀p∈fs,∃ys,RepL w NoM ys ((cs.drop p.1).take (G.ti p.2).size)/\(∀y∈ys,y.one=true)/\ys.length=(G.ti p.2).size/\Fits G n p.2 ys:=by
    intro p hp;obtain⟨i,hi⟩:=List.getElem?_of_mem hp;rw[<-hgs,List.getElem?_map]at hi;obtain⟨f,hf,rfl⟩:=Option.map_eq_some_iff.1 hi;have hf':gs[i]? =some f:=by simpa using hf
    have h3:=hat i f hf';have hil:i<gs.size:=(Array.getElem?_eq_some_iff.1 hf').1;rw[List.getElem?_eq_getElem (by omega)]at h3;have hof:=List.all_eq_true.1 ho _ hp;have hs0:(G.ti f.type).size≠0:=by
     cases n with
     | zero=>simp[opens]at hof
     | succ n=>
      simp only[]at hof;unfold opens at hof;simp only[Bool.and_eq_true,bne_iff_ne,ne_eq]at hof;exact hof.1
    rw[jiv hG hs0]at h3;exact jm9 hG n _ _ _ _ hof h3
   have build:∀(r:List (Nat×TypeId)) (k:Nat),(∀p∈r,p∈fs)->tileB G k r (G.ti t).size=true->k<=cs.length->∃zs,RepL w NoM zs (cs.drop k)/\(∀y∈zs,y.one=true)/\
     ∀p∈r,k<=p.1/\Fits G n p.2 ((zs.drop (p.1-k)).take (G.ti p.2).size):=by
    intro r
    induction r with
    | nil=>
     intro k _ htl _;simp only[tileB,beq_iff_eq]at htl;refine⟨[],?_,by simp,by simp⟩;rw[List.drop_of_length_le (by omega)];exact RepL.nil
    | cons p r ih=>
     obtain⟨o,u⟩:=p;intro k hm htl hkl;simp only[tileB,Bool.and_eq_true,beq_iff_eq]at htl;obtain⟨rfl,htl⟩:=htl;obtain⟨ys,h3,h4,h5,h6⟩:=hfield (o,u) (hm _ (List.mem_cons_self ..));have hle:o+(G.ti u).size<=cs.length:=by
      have:=h3.1;simp at this h5;omega
     obtain⟨zs,h7,h8,h9⟩:=ih _ (fun p hp=>hm p (List.mem_cons_of_mem _ hp)) htl hle;refine⟨ys++zs,?_,?_,?_⟩
     ·have:=h3.append h7;rw[<-List.drop_drop,List.take_append_drop]at this;exact this
     ·intro y hy;rcases List.mem_append.1 hy with h | h
      ·exact h4 y h
      ·exact h8 y h
     ·intro p hp;rcases List.mem_cons.1 hp with rfl | hp
      ·refine⟨Nat.le_refl _,?_⟩;simp only[Nat.sub_self,List.drop_zero];rw[<-h5]
       simpa using h6
      ·obtain⟨h10,h11⟩:=h9 p hp;refine⟨by omega,?_⟩;rw[List.drop_append,List.drop_of_length_le (by simp at h5;omega),List.nil_append];have e:p.1-o-ys.length=p.1-(o+(G.ti u).size):=by simp at h5;omega
       rw[e];exact h11
   obtain⟨zs,h7,h8,h9⟩:=build fs 0 (fun _ h=>h) ht (Nat.zero_le _);rw[List.drop_zero]at h7;refine⟨zs,h7,h8,by rw[h7.1,hcl],?_⟩;unfold Fits;rw[hk];exact⟨by rw[h7.1,hcl],fun p hp=>by simpa using (h9 p hp).2⟩
  ·cases ho
end
end
section
open Go.RowKit (Below)
open Go.ChangeShapes Go.WideShapes
def FitsA(G:Ctx)(n:Nat)(t:TypeId)(y:IV):Prop:=
 if aggK (G.ti t).kind=true then ∃xs,y= .agg xs/\Fits G n t xs else Fits G n t [y]
def FitsL(G:Ctx)(n:Nat):List TypeId->List IV->Prop
 | [],[]=>True
 | t::ts,y::ys=>FitsA G n t y/\FitsL G n ts ys
 | _,_=>False
section
variable{G:Ctx}{H:Type}{enc:TypeId×Value->H}{w:World}{base:Nat}{spare:Nat->Bool}{held:Bool}{r:Reach}{b0 n:Nat}
theorem opens_ne{t:TypeId}(h:opens G n t=true):(G.ti t).size≠0:=by
 cases n with
 | zero=>simp[opens]at h
 | succ n=>
  unfold opens at h;simp only[Bool.and_eq_true,bne_iff_ne,ne_eq]at h;exact h.1
theorem open_arg(hG:G.Ok){t:TypeId}{v:Value}{d:DataW H}{p:List MemPlace}(ho:opens G n t=true)(hv:Value.okWide G.P w r b0 t v)(h:DataW.Trod enc G.P w base spare held t v d p):
  ∃y,Rep w NoM y v/\FitsA G n t y:=by
 obtain⟨m,hm⟩:=h;have h0:=opens_ne ho;obtain⟨xs,h1,h2,h3,h4⟩:=jm9 hG n m t _ _ ho hm;have single:v.cells= #[v]->aggK (G.ti t).kind=false->∃y,Rep w NoM y v/\FitsA G n t y:=by
  intro hc hk;rw[hc]at h1;obtain⟨hl,hr⟩:=h1
  match xs,hl with
  | [y],_=>
   refine⟨y,hr 0 y v rfl rfl,?_⟩;unfold FitsA;rw[hk];exact h4
 have ho':=ho;cases n with
 | zero=>simp[opens]at ho
 | succ n=>
  unfold opens at ho';simp only[Bool.and_eq_true]at ho';obtain⟨_,ho'⟩:=ho';split at ho'
  ·rename_i k hk;obtain⟨i,rfl⟩:=okWide_int (hG.it h0 hk) hv;exact single rfl (by rw[hk];rfl)
  ·rename_i hk;obtain⟨i,rfl⟩:=okWide_bool (hG.bl h0 hk) hv;exact single rfl (by rw[hk];rfl)
  ·rename_i hk;obtain⟨i,rfl⟩:=okWide_string (hG.str h0 hk) hv;exact single rfl (by rw[hk];rfl)
  ·rename_i e hk;obtain⟨a,l,c,rfl⟩:=okWide_slice (hG.sl h0 hk) hv;exact single rfl (by rw[hk];rfl)
  ·rename_i fs hk;obtain⟨gs,hu,_⟩:=hG.st h0 hk;obtain⟨cs,rfl,_⟩:=okWide_struct hu hv;refine⟨.agg xs,RepL.agg (by simpa [Value.cells]using h1) h2,?_⟩;unfold FitsA;rw[if_pos (by rw[hk];rfl)];exact⟨xs,rfl,h4⟩
  ·cases ho'
theorem jnn(hG:G.Ok):∀{ts:List TypeId} {vs:List Value} {ds:List (DataW H)} {p:List MemPlace},(∀t∈ts,opens G n t=true)->
  (∀(j:Nat) t v,ts[j]? =some t->vs[j]? =some v->Value.okWide G.P w r b0 t v)->DataW.TrodAll enc G.P w base spare held ts vs ds p->∃ys,RepL w NoM ys vs/\FitsL G n ts ys
 | [],[],[],_,_,_,_=>⟨[],RepL.nil,trivial⟩
 | t::ts,v::vs,d::ds,_,ho,hv,⟨_,_,h1,h2,_⟩=>by
  obtain⟨y,h3,h4⟩:=open_arg hG (ho t (List.mem_cons_self ..)) (hv 0 t v rfl rfl) h1;obtain⟨ys,h5,h6⟩:=jnn hG (fun t ht=>ho t (List.mem_cons_of_mem _ ht)) (fun j t v hj hk=>hv (j+1) t v (by simpa using hj) (by simpa using hk)) h2;exact⟨y::ys,RepL.cons h3 h5,h4,h6⟩
theorem jo0{P:Program}(hl:laidOutB P=true){W W':World}(hb:Below W.heap.size W W'):∀{ts:List TypeId} {vs:List Value} {ds:List (DataW H)} {ps:List MemPlace},
  (∀t∈ts,P.readableRec t=true/\t<P.types.size)->DataW.TrodAll enc P W 0 (fun _=>true) true ts vs ds ps->(∀x∈ps,x.block<W.heap.size)->
  DataW.TrodAll enc P W' 0 (fun b=>decide (b<W.heap.size)) true ts vs ds ps
 | [],[],[],_,_,h,_=>h
 | t::ts,v::vs,d::ds,_,ht,⟨p,q,h1,h2,e⟩,hlt=>by
  subst e;obtain⟨h3,h4⟩:=ht t (List.mem_cons_self ..);exact⟨p,q,Go.RowKit.Below.trod hl h3 h4 h1 hb (fun x hx=>hlt x (List.mem_append_left _ hx)),
   jo0 hl hb (fun t h=>ht t (List.mem_cons_of_mem _ h)) h2 (fun x hx=>hlt x (List.mem_append_right _ hx)),rfl⟩
theorem jjq{P:Program}:∀{ts:List TypeId} {vs:List Value} {ds:List (DataW H)} {ps:List MemPlace},DataW.TrodAll enc P w base spare held ts vs ds ps->ds.length=ts.length
 | [],[],[],_,_=>rfl
 | _::_,_::_,_::_,_,⟨_,_,_,h2,_⟩=>by simp[jjq h2]
theorem law_calls(hG:G.Good)(hl:laidOutB G.P=true){f:FuncId}{fn:Func}{s:ChangeSpec}{tb:TypeId}(n:Nat)(ts:List TypeId)
  (hp:fn.params.toList=ts) (hrt:fn.resultTypes.toList=[tb]) (hsz:fn.resultTypes.size=1) (htb:G.P.underlying tb=some .bool)
  (hts:(ts.all fun t=>opens G n t&&G.P.readableRec t&&decide (t<G.P.types.size))=true)
  (hvars:s.vars=[]) (hspec:∀ds:List (DataW H),ds.length=ts.length->s.fn H ds={results:=[.lit (.bool true)],args:=ds})
  (hc:∀ys,FitsL G n ts ys->Ctr G.P f ys (· = .bool true)) {W:World} {args:Array Value} {ds gs:List (DataW H)} {before:List MemPlace}
  (hval:∀(j:Nat) t v,fn.params[j]? =some t->args[j]? =some v->Value.okWide G.P W .any b0 t v) (hW:DataW.Whole enc G.P fn.params.toList s.vars false W args.toList ds gs before):
  Calls G.P f args W fun e W'=>∃v,e= .returned v/\s.post enc G.P fn false true false false W args v W':=by
 have hts':∀t∈ts,opens G n t=true/\G.P.readableRec t=true/\t<G.P.types.size:=fun t ht=>by
  have:=List.all_eq_true.1 hts t ht;simp only[Bool.and_eq_true,decide_eq_true_eq]at this;exact⟨this.1.1,this.1.2,this.2⟩
 have hW0:=hW;obtain⟨p,q,hA,hV,hpq,hfz,hnd⟩:=hW;rw[hvars]at hV;obtain⟨rfl,rfl⟩:=trodVars_none hV;rw[hp]at hA;obtain⟨ys,h1,h2⟩:=jnn hG.ok (fun t ht=>(hts' t ht).1) (fun j t v hj hk=>hval j t v (by rw[<-Array.getElem?_toList,hp];exact hj) (by rw[<-Array.getElem?_toList];exact hk)) hA;have hcall:=hc ys h2 W NoM args.toList (fun b o h=>h.elim) h1;rw[Array.toArray_toList]at hcall;refine hcall.mono fun e W' ⟨r,v,hr,he,hv,hb⟩=> ?_;subst hr;obtain rfl:=Rep.sc_inv hv;refine⟨_,he,?_⟩;have hsp:=hspec ds (jjq hA);have hlt:∀x∈before,x.block<W.heap.size:=fun x hx=>hW0.lt x hx;refine⟨ds,[],before,[],p,[],hW0,?_,?_,?_,World.keptBut_mono (fun p hp=>⟨hp,?_⟩) (hb.frame (· ∈before)),fun h=>by cases h⟩
 ·rw[hrt,hsz,List.append_nil,hsp];exact trodAll_mk1 (Go.RowKit.shut_bool htb _)
 ·rw[List.append_nil,hsp,hp];exact jo0 hl hb (fun t ht=>(hts' t ht).2) hA (fun x hx=>hlt x (by rw[hpq];simpa using hx))
 ·rw[List.append_nil,hsp,hvars];rfl
 ·rw[hpq,List.append_nil]at hp;exact .inr (.inl hp)
end
end
end Go.Abs
namespace Go.Proofs.YtfahloobpegieaaGreat
section
open Go.Abs
theorem jb8{t:TypeId}(hk:(G.ti t).kind= .it .i64):∀{n:Nat} {xs:List IV},Fits G n t xs->∃i,xs=[.int i]
 | 0,_,h=>h.elim
 | n+1,xs,h=>by
  unfold Fits at h;rw[hk]at h;obtain⟨i,rfl,_⟩:=h;exact⟨i,rfl⟩
theorem fits_bool{t:TypeId}(hk:(G.ti t).kind= .bl):∀{n:Nat} {xs:List IV},Fits G n t xs->∃i,xs=[.bool i]
 | 0,_,h=>h.elim
 | n+1,xs,h=>by
  unfold Fits at h;rw[hk]at h;exact h
theorem list_of{α:Type}{f:α->List IV}:∀{es:List (List IV)},(∀c∈es,∃p,c=f p)->∃l:List α,es=l.map f
 | [],_=>⟨[],rfl⟩
 | c::es,h=>by
  obtain⟨p,rfl⟩:=h c (List.mem_cons_self ..);obtain⟨l,rfl⟩:=list_of fun c hc=>h c (List.mem_cons_of_mem _ hc);exact⟨p::l,rfl⟩
theorem je0{α:Type}(f:α->List IV){t e:TypeId}(hk:(G.ti t).kind= .sl e)(hf:∀{n:Nat} (c:List IV),Fits G n e c->∃p,c=f p):∀{n:Nat} {xs:List IV},Fits G n t xs->∃l:List α,xs=[.sl (l.map f)]
 | 0,_,h=>h.elim
 | n+1,xs,h=>by
  unfold Fits at h;rw[hk]at h;obtain⟨es,rfl,_,h⟩:=h;obtain⟨l,rfl⟩:=list_of fun c hc=>hf c (h c hc);exact⟨l,rfl⟩
theorem fits_ints{t e:TypeId}(hk:(G.ti t).kind= .sl e)(he:(G.ti e).kind= .it .i64){n:Nat}{xs:List IV}(h:Fits G n t xs):∃l:List Int,xs=[ints l]:=
 je0 ic hk (fun _ hc=>jb8 he hc) h
theorem fitsA_struct{t:TypeId}{n:Nat}{y:IV}(hk:aggK (G.ti t).kind=true)(h:FitsA G n t y):∃xs,y= .agg xs/\Fits G n t xs:=by
 unfold FitsA at h
 rwa [if_pos hk]at h
theorem jkc{t:TypeId}{n:Nat}{y:IV}(hk:aggK (G.ti t).kind=false)(h:FitsA G n t y):Fits G n t [y]:=by
 unfold FitsA at h
 rwa [if_neg (by rw[hk];simp)]at h
theorem of_len2{α:Type}:∀{l:List α},l.length=2->∃x0 x1,l=[x0,x1]
 | [x0,x1],_=>⟨x0,x1,rfl⟩
theorem of_len3{α:Type}:∀{l:List α},l.length=3->∃x0 x1 x2,l=[x0,x1,x2]
 | [x0,x1,x2],_=>⟨x0,x1,x2,rfl⟩
theorem of_len4{α:Type}:∀{l:List α},l.length=4->∃x0 x1 x2 x3,l=[x0,x1,x2,x3]
 | [x0,x1,x2,x3],_=>⟨x0,x1,x2,x3,rfl⟩
theorem of_len5{α:Type}:∀{l:List α},l.length=5->∃x0 x1 x2 x3 x4,l=[x0,x1,x2,x3,x4]
 | [x0,x1,x2,x3,x4],_=>⟨x0,x1,x2,x3,x4,rfl⟩
theorem jh0{n:Nat}{t:TypeId}{ts:List TypeId}:∀{ys:List IV},FitsL G n (t::ts) ys->∃y ys',ys=y::ys'/\FitsA G n t y/\FitsL G n ts ys'
 | y::ys',h=>⟨y,ys',rfl,h⟩
theorem fitsL_nil{n:Nat}:∀{ys:List IV},FitsL G n [] ys->ys=[]
 | [],_=>rfl
end
section
open Go.Abs
theorem of_len6{α:Type}:∀{l:List α},l.length=6->∃x0 x1 x2 x3 x4 x5,l=[x0,x1,x2,x3,x4,x5]
 | [x0,x1,x2,x3,x4,x5],_=>⟨x0,x1,x2,x3,x4,x5,rfl⟩
theorem of_len8{α:Type}:∀{l:List α},l.length=8->∃x0 x1 x2 x3 x4 x5 x6 x7,l=[x0,x1,x2,x3,x4,x5,x6,x7]
 | [x0,x1,x2,x3,x4,x5,x6,x7],_=>⟨x0,x1,x2,x3,x4,x5,x6,x7,rfl⟩
theorem fits_Place:∀{n:Nat} {xs:List IV},Fits G n 86 xs->∃p:Place,xs=p.c
 | 0,_,h=>h.elim
 | n+1,xs,h=>by
  unfold Fits at h;have hk:(G.ti 86).kind= .st [(0,3),(1,3),(2,3)]:=rfl;rw[hk]at h;obtain⟨hl,hf⟩:=h;have hl:xs.length=3:=hl;obtain⟨x0,x1,x2,rfl⟩:=of_len3 hl;have h0:Fits G n 3 [x0]:=hf (0,3) (by simp);obtain⟨i0,e0⟩:=jb8 rfl h0;cases e0;have h1:Fits G n 3 [x1]:=hf (1,3) (by simp);obtain⟨i1,e1⟩:=jb8 rfl h1;cases e1;have h2:Fits G n 3 [x2]:=hf (2,3) (by simp);obtain⟨i2,e2⟩:=jb8 rfl h2;cases e2;exact⟨⟨i0,i1,i2⟩,rfl⟩
theorem fits_Move:∀{n:Nat} {xs:List IV},Fits G n 110 xs->∃p:Move,xs=p.c
 | 0,_,h=>h.elim
 | n+1,xs,h=>by
  unfold Fits at h;have hk:(G.ti 110).kind= .st [(0,3),(1,3),(2,3),(3,3),(4,3),(5,4)]:=rfl;rw[hk]at h;obtain⟨hl,hf⟩:=h;have hl:xs.length=6:=hl;obtain⟨x0,x1,x2,x3,x4,x5,rfl⟩:=of_len6 hl;have h0:Fits G n 3 [x0]:=hf (0,3) (by simp);obtain⟨i0,e0⟩:=jb8 rfl h0;cases e0;have h1:Fits G n 3 [x1]:=hf (1,3) (by simp);obtain⟨i1,e1⟩:=jb8 rfl h1;cases e1;have h2:Fits G n 3 [x2]:=hf (2,3) (by simp);obtain⟨i2,e2⟩:=jb8 rfl h2;cases e2;have h3:Fits G n 3 [x3]:=hf (3,3) (by simp);obtain⟨i3,e3⟩:=jb8 rfl h3;cases e3;have h4:Fits G n 3 [x4]:=hf (4,3) (by simp);obtain⟨i4,e4⟩:=jb8 rfl h4;cases e4;have h5:Fits G n 4 [x5]:=hf (5,4) (by simp);obtain⟨i5,e5⟩:=fits_bool rfl h5;cases e5;exact⟨⟨i0,i1,i2,i3,i4,i5⟩,rfl⟩
theorem fits_Cert:∀{n:Nat} {xs:List IV},Fits G n 33 xs->∃p:Cert,xs=p.c
 | 0,_,h=>h.elim
 | n+1,xs,h=>by
  unfold Fits at h;have hk:(G.ti 33).kind= .st [(0,3),(1,3),(2,3),(3,3),(4,3),(5,3)]:=rfl;rw[hk]at h;obtain⟨hl,hf⟩:=h;have hl:xs.length=6:=hl;obtain⟨x0,x1,x2,x3,x4,x5,rfl⟩:=of_len6 hl;have h0:Fits G n 3 [x0]:=hf (0,3) (by simp);obtain⟨i0,e0⟩:=jb8 rfl h0;cases e0;have h1:Fits G n 3 [x1]:=hf (1,3) (by simp);obtain⟨i1,e1⟩:=jb8 rfl h1;cases e1;have h2:Fits G n 3 [x2]:=hf (2,3) (by simp);obtain⟨i2,e2⟩:=jb8 rfl h2;cases e2;have h3:Fits G n 3 [x3]:=hf (3,3) (by simp);obtain⟨i3,e3⟩:=jb8 rfl h3;cases e3;have h4:Fits G n 3 [x4]:=hf (4,3) (by simp);obtain⟨i4,e4⟩:=jb8 rfl h4;cases e4;have h5:Fits G n 3 [x5]:=hf (5,3) (by simp);obtain⟨i5,e5⟩:=jb8 rfl h5;cases e5;exact⟨⟨i0,i1,i2,i3,i4,i5⟩,rfl⟩
theorem fits_Recall:∀{n:Nat} {xs:List IV},Fits G n 35 xs->∃p:Recall,xs=p.c
 | 0,_,h=>h.elim
 | n+1,xs,h=>by
  unfold Fits at h;have hk:(G.ti 35).kind= .st [(0,3),(1,3)]:=rfl;rw[hk]at h;obtain⟨hl,hf⟩:=h;have hl:xs.length=2:=hl;obtain⟨x0,x1,rfl⟩:=of_len2 hl;have h0:Fits G n 3 [x0]:=hf (0,3) (by simp);obtain⟨i0,e0⟩:=jb8 rfl h0;cases e0;have h1:Fits G n 3 [x1]:=hf (1,3) (by simp);obtain⟨i1,e1⟩:=jb8 rfl h1;cases e1;exact⟨⟨i0,i1⟩,rfl⟩
theorem fits_Purity:∀{n:Nat} {xs:List IV},Fits G n 31 xs->∃p:Purity,xs=p.c
 | 0,_,h=>h.elim
 | n+1,xs,h=>by
  unfold Fits at h;have hk:(G.ti 31).kind= .st [(0,3),(1,3),(2,3),(3,3)]:=rfl;rw[hk]at h;obtain⟨hl,hf⟩:=h;have hl:xs.length=4:=hl;obtain⟨x0,x1,x2,x3,rfl⟩:=of_len4 hl;have h0:Fits G n 3 [x0]:=hf (0,3) (by simp);obtain⟨i0,e0⟩:=jb8 rfl h0;cases e0;have h1:Fits G n 3 [x1]:=hf (1,3) (by simp);obtain⟨i1,e1⟩:=jb8 rfl h1;cases e1;have h2:Fits G n 3 [x2]:=hf (2,3) (by simp);obtain⟨i2,e2⟩:=jb8 rfl h2;cases e2;have h3:Fits G n 3 [x3]:=hf (3,3) (by simp);obtain⟨i3,e3⟩:=jb8 rfl h3;cases e3;exact⟨⟨i0,i1,i2,i3⟩,rfl⟩
theorem fits_Sample:∀{n:Nat} {xs:List IV},Fits G n 153 xs->∃p:Sample,xs=p.c
 | 0,_,h=>h.elim
 | n+1,xs,h=>by
  unfold Fits at h;have hk:(G.ti 153).kind= .st [(0,3),(1,38),(2,3)]:=rfl;rw[hk]at h;obtain⟨hl,hf⟩:=h;have hl:xs.length=3:=hl;obtain⟨x0,x1,x2,rfl⟩:=of_len3 hl;have h0:Fits G n 3 [x0]:=hf (0,3) (by simp);obtain⟨i0,e0⟩:=jb8 rfl h0;cases e0;have h1:Fits G n 38 [x1]:=hf (1,38) (by simp);obtain⟨i1,e1⟩:=fits_ints rfl rfl h1;cases e1;have h2:Fits G n 3 [x2]:=hf (2,3) (by simp);obtain⟨i2,e2⟩:=jb8 rfl h2;cases e2;exact⟨⟨i0,i1,i2⟩,rfl⟩
theorem fits_Recipe:∀{n:Nat} {xs:List IV},Fits G n 155 xs->∃p:Recipe,xs=p.c
 | 0,_,h=>h.elim
 | n+1,xs,h=>by
  unfold Fits at h;have hk:(G.ti 155).kind= .st [(0,3),(1,3),(2,3),(3,3),(4,3)]:=rfl;rw[hk]at h;obtain⟨hl,hf⟩:=h;have hl:xs.length=5:=hl;obtain⟨x0,x1,x2,x3,x4,rfl⟩:=of_len5 hl;have h0:Fits G n 3 [x0]:=hf (0,3) (by simp);obtain⟨i0,e0⟩:=jb8 rfl h0;cases e0;have h1:Fits G n 3 [x1]:=hf (1,3) (by simp);obtain⟨i1,e1⟩:=jb8 rfl h1;cases e1;have h2:Fits G n 3 [x2]:=hf (2,3) (by simp);obtain⟨i2,e2⟩:=jb8 rfl h2;cases e2;have h3:Fits G n 3 [x3]:=hf (3,3) (by simp);obtain⟨i3,e3⟩:=jb8 rfl h3;cases e3;have h4:Fits G n 3 [x4]:=hf (4,3) (by simp);obtain⟨i4,e4⟩:=jb8 rfl h4;cases e4;exact⟨⟨i0,i1,i2,i3,i4⟩,rfl⟩
theorem fits_Evid:∀{n:Nat} {xs:List IV},Fits G n 28 xs->∃p:Evid,xs=p.c
 | 0,_,h=>h.elim
 | n+1,xs,h=>by
  unfold Fits at h;have hk:(G.ti 28).kind= .st [(0,3),(1,3),(2,3),(3,22),(4,23),(5,24),(6,25),(7,26)]:=rfl;rw[hk]at h;obtain⟨hl,hf⟩:=h;have hl:xs.length=8:=hl;obtain⟨x0,x1,x2,x3,x4,x5,x6,x7,rfl⟩:=of_len8 hl;have h0:Fits G n 3 [x0]:=hf (0,3) (by simp);obtain⟨i0,e0⟩:=jb8 rfl h0;cases e0;have h1:Fits G n 3 [x1]:=hf (1,3) (by simp);obtain⟨i1,e1⟩:=jb8 rfl h1;cases e1;have h2:Fits G n 3 [x2]:=hf (2,3) (by simp);obtain⟨i2,e2⟩:=jb8 rfl h2;cases e2;have h3:Fits G n 22 [x3]:=hf (3,22) (by simp);obtain⟨i3,e3⟩:=je0 Place.c rfl (fun c hc=>fits_Place hc) h3;cases e3;have h4:Fits G n 23 [x4]:=hf (4,23) (by simp);obtain⟨i4,e4⟩:=je0 Move.c rfl (fun c hc=>fits_Move hc) h4;cases e4;have h5:Fits G n 24 [x5]:=hf (5,24) (by simp);obtain⟨i5,e5⟩:=je0 Cert.c rfl (fun c hc=>fits_Cert hc) h5;cases e5;have h6:Fits G n 25 [x6]:=hf (6,25) (by simp);obtain⟨i6,e6⟩:=je0 Recall.c rfl (fun c hc=>fits_Recall hc) h6;cases e6;have h7:Fits G n 26 [x7]:=hf (7,26) (by simp);obtain⟨i7,e7⟩:=je0 Purity.c rfl (fun c hc=>fits_Purity hc) h7;cases e7;exact⟨⟨i0,i1,i2,i3,i4,i5,i6,i7⟩,rfl⟩
theorem fitsA_Evid{n:Nat}{y:IV}(h:FitsA G n 28 y):∃e:Evid,y=e.iv:=by
 obtain⟨_,rfl,g⟩:=fitsA_struct rfl h;obtain⟨e,rfl⟩:=fits_Evid g;exact⟨e,rfl⟩
theorem fitsA_samples{n:Nat}{y:IV}(h:FitsA G n 88 y):∃l:List Sample,y= .sl (l.map Sample.c):=by
 obtain⟨l,e⟩:=je0 Sample.c rfl (fun _ hc=>fits_Sample hc) (jkc rfl h);cases e;exact⟨l,rfl⟩
theorem fitsA_recipes{n:Nat}{y:IV}(h:FitsA G n 89 y):∃l:List Recipe,y= .sl (l.map Recipe.c):=by
 obtain⟨l,e⟩:=je0 Recipe.c rfl (fun _ hc=>fits_Recipe hc) (jkc rfl h);cases e;exact⟨l,rfl⟩
end
section
open Go.Abs
theorem fits_Pick:∀{n:Nat} {xs:List IV},Fits G n 105 xs->∃p:Int×Int,xs=pickC p
 | 0,_,h=>h.elim
 | n+1,xs,h=>by
  unfold Fits at h;have hk:(G.ti 105).kind= .st [(0,3),(1,3)]:=rfl;rw[hk]at h;obtain⟨hl,hf⟩:=h;have hl:xs.length=2:=hl
  match xs,hl with
  | [x0,x1],_=>
   have h0:Fits G n 3 [x0]:=hf (0,3) (by simp);obtain⟨i0,e0⟩:=jb8 rfl h0;cases e0;have h1:Fits G n 3 [x1]:=hf (1,3) (by simp);obtain⟨i1,e1⟩:=jb8 rfl h1;cases e1;exact⟨(i0,i1),rfl⟩
theorem fitsA_picks{n:Nat}{y:IV}(h:FitsA G n 29 y):∃l:List (Int×Int),y= .sl (l.map pickC):=by
 obtain⟨l,e⟩:=je0 pickC rfl (fun _ hc=>fits_Pick hc) (jkc rfl h);cases e;exact⟨l,rfl⟩
end
end Go.Proofs.YtfahloobpegieaaGreat
