/- A part of the proof. No further condition. -/
import Derived.Test.YtjcjcpebocbonaaGreatKY10
set_option linter.all false
set_option maxRecDepth 10000000
set_option maxHeartbeats 16000000
namespace Go.Proofs.YtjcjcpebocbonaaGreat
section
set_option maxRecDepth 1000000
open Go.Abs
attribute [local go_sem] Evid.iv Evid.c Place.c Move.c Cert.c Recall.c Purity.c Sample.c Recipe.c ints ic
def jdq(e:Evid):Int->List Move->Int
 | _,[]=>0
 | last,m::r=>if decide (m.day<last)=true then 17 else if decide (100000<m.day)=true then 17 else if moveF e m=false then 1 else jdq e m.day r
def jbh(e:Evid):Int:=
 if(pairs e).all fitP=false then 6 else if decide (e.mats<1)=true then 1 else if decide (e.houses<0)=true then 1 else if decide (e.scales<0)=true then 1 else if e.places.all (jio e)=false then 1 else
 if jdq e 0 e.moves≠0 then jdq e 0 e.moves else if saidF e=true then 0 else 1
theorem jm7{α:Type}{l:List α}{i:Nat}{x:α}(h:l[i]? =some x):l.drop i=x::l.drop (i+1):=by
 obtain⟨hi,rfl⟩:=zr.1 h;exact qR hi
theorem jet{e:Evid}(h:(pairs e).all fitP=true):e.places.length<=100/\e.moves.length<=200/\e.certs.length<=100/\e.recalls.length<=30/\e.purs.length<=200/\e.mats<=6/\e.houses<=100/\e.scales<=30:=by
 simp[pairs,fitP]at h;omega
theorem c21(e:Evid):Ctr G.P 30 [e.iv] (· = .int (jbh e)):=by
 have a1:=c46 e;rcases hf:(pairs e).all fitP with _ | _
 ·have hc:jbh e=6:=by simp[jbh,hf]
  rw[hf]at a1;refine ja3 [.tmp 2] Tryz.func30 ?_;unfold Evid.iv Evid.c;rw[hc];simp only[go_sem];refine ja0 a1 ?_;simp only[go_sem]
 ·obtain⟨l1,l2,l3,l4,l5,_,_,_⟩:=jet hf;have a7:=c47 e (by omega);have a6:=c49 e (by omega) (by omega) (by omega);rw[hf]at a1;have hc:jbh e=if decide (e.mats<1)=true then 1 else if decide (e.houses<0)=true then 1 else if decide (e.scales<0)=true then 1 else if e.places.all (jio e)=false then 1 else
   if jdq e 0 e.moves≠0 then jdq e 0 e.moves else if saidF e=true then 0 else 1:=by simp[jbh,hf]
  clear hf;refine ja3 [.tmp 2] Tryz.func30 ?_;rw[hc];clear hc;generalize b1:e.places.all (jio e)=pl at*;generalize b0:saidF e=sd at*;unfold Evid.iv Evid.c;simp only[go_sem];refine ja0 a1 ?_;simp only[go_sem]
  repeat' (first | (refine jc5 (fun hd=> ?_) (fun hd=> ?_)<;>simp only[*,go_sem]) | (refine jc1 (a7) (by first | decide | assumption) ?_;simp only[*,go_sem]) | (refine ja4 (a7) (by decide) ?_;simp only[*,go_sem]))
  rename_i k1 k2 k3 k4;clear a7 a1;refine jai [1,3,29,30,31] [1] (fun g:Nat×Int=>⟨[(1,.loc 1 8 0 0),(3,.im (.int g.2)),(29,.im (.sl (e.moves.map Move.c))),(30,.im (.int e.moves.length)),(31,.im (.int g.1))],[(1,8,[e.c])],[]⟩)
   (fun g=>g.1<=e.moves.length/\jdq e 0 e.moves=jdq e g.2 (e.moves.drop g.1)) (fun g=>e.moves.length-g.1) (0,0) ?_ ⟨zG _,rfl⟩ ?_
  ·simp only[Evid.c,Int.natCast_zero,go_sem]
  ·intro⟨i,last⟩ ⟨hi,ha⟩;dsimp only at hi ha;by_cases hp:(i:Int)<e.moves.length
   ·have hd:decide ((i:Int)<e.moves.length)=true:=zp hp;obtain⟨x,hx⟩:=jcf hp;have h1:=ja8 ((i:Int)+1);rw[jm7 hx,jdq]at ha;simp only[hd,zq,hx,Move.c,Evid.c,go_sem]
    repeat' (first | (refine jc5 (fun hd=> ?_) (fun hd=> ?_)<;>simp only[*,go_sem]) | (refine jc1 (c48 e x) (by first | decide | assumption) ?_;simp only[*,go_sem]) | (refine ja4 (c48 e x) (by decide) ?_;simp only[*,go_sem]))
    refine ja7 (i+1,x.day) ?_ ?_ ⟨?_,?_⟩
    ·simp only[h1,Evid.c,Int.natCast_add,go_sem]
    ·show e.moves.length-(i+1)<e.moves.length-i;omega
    ·show i+1<=e.moves.length;omega
    ·rw[ha];simp only[*,yc,Bool.true_eq_false,qt]
   ·have hd:decide ((i:Int)<e.moves.length)=false:=zh hp;have a8:e.moves.drop i=[]:=zY (by omega);rw[a8,jdq]at ha;simp only[hd,Evid.c,go_sem];refine ja0 a6 ?_;simp only[*,go_sem]
    repeat' (first | (refine jc5 (fun hd=> ?_) (fun hd=> ?_)<;>simp only[*,go_sem]) | (refine jc1 (a6) (by first | decide | assumption) ?_;simp only[*,go_sem]) | (refine ja4 (a6) (by decide) ?_;simp only[*,go_sem]))
end
section
set_option maxRecDepth 1000000
open Go.Abs
attribute [local go_sem] Evid.iv Evid.c Place.c Move.c Cert.c Recall.c Purity.c Sample.c Recipe.c ints ic
theorem check_len{e:Evid}(h:jbh e=0):e.places.length<=100/\e.moves.length<=200/\e.certs.length<=100/\e.recalls.length<=30/\e.purs.length<=200/\e.mats<=6/\e.houses<=100/\e.scales<=30:=by
 refine jet ?_;by_cases hf:(pairs e).all fitP=true
 ·exact hf
 ·simp only[Bool.not_eq_true]at hf;unfold jbh at h;rw[ze hf]at h;cases h
end
section
set_option maxRecDepth 1000000
open Go.Abs
attribute [local go_sem] Evid.iv Evid.c Place.c Move.c Cert.c Recall.c Purity.c Sample.c Recipe.c ints ic
end
section
set_option maxRecDepth 1000000
open Go.Abs
attribute [local go_sem] Evid.iv Evid.c Place.c Move.c Cert.c Recall.c Purity.c Sample.c Recipe.c ints ic
def purs(l:List Purity):IV:= .sl (l.map Purity.c)
end
section
set_option maxRecDepth 1000000
open Go.Abs
attribute [local go_sem] Evid.iv Evid.c Place.c Move.c Cert.c Recall.c Purity.c Sample.c Recipe.c ints ic
theorem jf1{α:Type}{l:List α}{f:α->Bool}{i:Nat}{x:α}(h:l[i]? =some x):(l.take (i+1)).any f=((l.take i).any f || f x):=by
 rw[take_succ h,List.any_append];simp
theorem any_at{α:Type}{l:List α}{f:α->Bool}{i:Nat}{x:α}(h:l[i]? =some x)(hf:f x=true):l.any f=true:=
 jk.2 ⟨x,zk h,hf⟩
end
section
set_option maxRecDepth 1000000
open Go.Abs
attribute [local go_sem] ints ic Bat.c Pap.c Led.c
end
section
set_option maxRecDepth 1000000
open Go.Abs
attribute [local go_sem] ints ic Bat.c Pap.c Led.c
end
section
set_option maxRecDepth 1000000
open Go.Abs
attribute [local go_sem] ints ic Bat.c Pap.c Led.c
end
section
set_option maxRecDepth 1000000
open Go.Abs
attribute [local go_sem] ints ic Bat.c Pap.c Led.c
end
section
set_option maxRecDepth 1000000
open Go.Abs
attribute [local go_sem] ints ic Bat.c Pap.c Led.c
def bl(b:Bool):List IV:=[.bool b]
end
section
set_option maxRecDepth 1000000
open Go.Abs
attribute [local go_sem] ints ic Bat.c Pap.c Led.c
end
section
set_option maxRecDepth 1000000
open Go.Abs
theorem jay{e:Evid}(h:jbh e=0):(pairs e).all fitP=true/\1<=e.mats/\0<=e.houses/\0<=e.scales/\e.places.all (jio e)=true/\jdq e 0 e.moves=0/\saidF e=true:=by
 unfold jbh at h;split at h
 ·cases h
 ·split at h
  ·cases h
  ·split at h
   ·cases h
   ·split at h
    ·cases h
    ·split at h
     ·cases h
     ·split at h
      ·rename_i h6;exact absurd h h6
      ·split at h
       ·rename_i h1 h2 h3 h4 h5 h6 h7;simp at h1 h2 h3 h4 h5 h6;exact⟨by simpa using h1,by omega,by omega,by omega,by simpa using h5,h6,h7⟩
       ·cases h
theorem jp1{e:Evid}:∀{ms:List Move} {d:Int},jdq e d ms=0->∀m∈ms,moveF e m=true
 | [],_,_,m,hm=>by cases hm
 | x::r,d,h,m,hm=>by
  rw[jdq]at h;split at h
  ·cases h
  ·split at h
   ·cases h
   ·split at h
    ·cases h
    ·rename_i h3;rcases zL.1 hm with rfl | hm
     ·simpa using h3
     ·exact jp1 h m hm
theorem jmc{e:Evid}(h:jbh e=0):∀x∈e.moves,(0<=x.fr/\x.fr<(e.places.length:Int))/\(0<=x.to/\x.to<(e.places.length:Int)):=by
 intro x hx;have:=jp1 (jay h).2.2.2.2.2.1 x hx;simp only[moveF,zn,idx_iff]at this;exact⟨this.1.1.1.1.1.1.1,this.1.1.1.1.1.1.2⟩
theorem purF_iff{e:Evid}{p:Purity}:purF e p=true↔(0<=p.move/\p.move<(e.moves.length:Int))/\(0<=p.mat/\p.mat<e.mats)/\0<=p.least/\p.least<=p.most/\p.most<=1000:=by
 simp only[purF,zn,idx_iff,yR,qg];omega
theorem jhv{e:Evid}(h:jbh e=0):∀p∈e.purs,purF e p=true:=by
 have:=(jay h).2.2.2.2.2.2;simp only[saidF,zn,List.all_eq_true]at this;exact this.2
theorem check_purs'{e:Evid}(h:jbh e=0):∀p∈e.purs,(0<=p.mat/\p.mat<e.mats)/\(-9223372036854775808<=p.least/\p.least<=9223372036854775807)/\(-9223372036854775808<=p.most/\p.most<=9223372036854775807):=by
 intro p hp;have:=purF_iff.1 (jhv h p hp);omega
end
end Go.Proofs.YtjcjcpebocbonaaGreat
namespace Go.Abs
section
def val:List Int->Int
 | []=>0
 | d::l=>d+1048576*val l
def OkD(l:List Int):Prop:=∀d∈l,0<=d/\d<1048576
def dgt(l:List Int)(i:Nat):Int:=(l[i]?).getD 0
def dig(n:Nat):List Int:=if h:n=0 then []else((n % 1048576:Nat):Int)::dig (n/1048576)
 termination_by n
 decreasing_by omega
theorem OkD.nil:OkD []:=fun _ h=>by cases h
theorem OkD.cons{d:Int}{l:List Int}(h:0<=d/\d<1048576)(hl:OkD l):OkD (d::l):=fun x hx=>by
 rcases zL.1 hx with rfl | hx
 ·exact h
 ·exact hl x hx
theorem OkD.tail{d:Int}{l:List Int}(h:OkD (d::l)):OkD l:=fun x hx=>h x (zV _ hx)
theorem OkD.head{d:Int}{l:List Int}(h:OkD (d::l)):0<=d/\d<1048576:=h d (zQ ..)
theorem OkD.take{l:List Int}(h:OkD l)(n:Nat):OkD (l.take n):=fun x hx=>h x (yz hx)
theorem OkD.drop{l:List Int}(h:OkD l)(n:Nat):OkD (l.drop n):=fun x hx=>h x (yq hx)
theorem OkD.append{a b:List Int}(ha:OkD a)(hb:OkD b):OkD (a++b):=fun x hx=>(ql.1 hx).elim (ha x) (hb x)
theorem OkD.dgt{l:List Int}(h:OkD l)(i:Nat):0<=dgt l i/\dgt l i<1048576:=by
 unfold Go.Abs.dgt;cases hi:l[i]? with
 | none=>simp
 | some d=>exact h d (zk hi)
theorem jam:∀{l:List Int},OkD l->0<=val l
 | [],_=>yy _
 | d::l,h=>by
  have:=jam h.tail;have:=h.head;simp only[val];omega
theorem jd8:∀{l:List Int},OkD l->val l<1048576^l.length
 | [],_=>by simp[val]
 | d::l,h=>by
  have h1:=jd8 h.tail;have h2:=h.head;simp only[val,List.length_cons,Int.pow_succ];omega
theorem jb5:dig 0=[]:=by rw[dig];simp
theorem jgn{n:Nat}(h:n≠0):dig n=((n % 1048576:Nat):Int)::dig (n/1048576):=by
 conv=>lhs;rw[dig]
 rw[dif_neg h]
theorem jbd(n:Nat):OkD (dig n):=by
 induction n using Nat.strongRecOn with
 | _ n ih=>
  by_cases h:n=0
  ·subst h;rw[jb5];exact OkD.nil
  ·rw[jgn h];exact OkD.cons (by omega) (ih _ (by omega))
theorem jaq(n:Nat):val (dig n)=n:=by
 induction n using Nat.strongRecOn with
 | _ n ih=>
  by_cases h:n=0
  ·subst h;rw[jb5];rfl
  ·rw[jgn h,val,ih _ (by omega)];omega
theorem dig_nil{n:Nat}:dig n=[]↔n=0:=by
 constructor
 ·intro h;have:=jaq n;rw[h]at this;simp only[val]at this;omega
 ·intro h;subst h;exact jb5
theorem eq_dig:∀{l:List Int},OkD l->l.getLast? ≠some 0->l=dig (val l).toNat
 | [],_,_=>by simp[val,jb5]
 | d::l,h,hl=>by
  have hd:=h.head;have hv:=jam h.tail;cases l with
  | nil=>
   have:d≠0:=fun e=>hl (by simp[e]);simp only[val,qW,yf];rw[jgn (by omega),show d.toNat/1048576=0 by omega,jb5];congr 1;omega
  | cons e l=>
   have a1:(e::l).getLast? ≠some 0:=by rw[List.getLast?_cons_cons]at hl;exact hl
   have ih:=eq_dig h.tail a1;have a7:(val (e::l)).toNat≠0:=fun h0=>by rw[h0,jb5]at ih;cases ih
   generalize hw:e::l=w at*;have a6:val (d::w)=d+1048576*val w:=rfl;rw[jgn (by omega),show(val (d::w)).toNat/1048576=(val w).toNat by omega,<-ih];congr 1;omega
theorem joj(n:Nat):(dig n).getLast? ≠some 0:=by
 induction n using Nat.strongRecOn with
 | _ n ih=>
  by_cases h:n=0
  ·subst h;rw[jb5];simp
  ·rw[jgn h];by_cases h2:n/1048576=0
   ·rw[h2,jb5];simp;omega
   ·have:=ih (n/1048576) (by omega);cases hd:dig (n/1048576)with
    | nil=>rw[dig_nil]at hd;exact absurd hd h2
    | cons e l=>rw[List.getLast?_cons_cons,<-hd];exact this
theorem jf3:∀(a b:List Int),val (a++b)=val a+1048576^a.length*val b
 | [],b=>by simp[val]
 | d::a,b=>by
  simp only[List.cons_append,val,jf3 a b,List.length_cons,Int.pow_succ,qO,qK];rw[jW (1048576:Int)];omega
theorem jbt(l:List Int)(i:Nat):val (l.take (i+1))=val (l.take i)+1048576^i*dgt l i:=by
 rcases zU i l.length with h | h
 ·rw[List.take_succ_eq_append_getElem h,jf3];have:(l.take i).length=i:=by rw[qb];omega
  have hd:dgt l i=l[i]:=by unfold dgt;rw[za h];rfl
  rw[this,hd];have hs:val [l[i]]=l[i]:=by
   show l[i]+1048576*0=l[i];omega
  rw[hs]
 ·rw[tLo,zZ h,show dgt l i=0 by unfold dgt;rw[qo h];rfl,qW,yf]
theorem jdd(l:List Int)(i:Nat):val l=val (l.take i)+1048576^i*val (l.drop i):=by
 rcases zU i l.length with h | h
 ·conv=>lhs;rw[<-y9 i l]
  rw[jf3];have:(l.take i).length=i:=by rw[qb];omega
  rw[this]
 ·rw[zZ h,zY h];simp[val]
theorem jcx(l:List Int)(i:Nat):val (l.drop i)=dgt l i+1048576*val (l.drop (i+1)):=by
 rcases zU i l.length with h | h
 ·rw[qR h,val];simp[dgt,h]
 ·rw[zY h,zY (by omega)];simp[val,dgt,qo h]
theorem jfs(a b:List Int):∀(n k:Nat),a.length+b.length<=k+n->(∀j,k<=j->dgt a j=dgt b j)->val (a.drop k)=val (b.drop k)
 | 0,k,h,_=>by rw[zY (by omega),zY (by omega)]
 | n+1,k,h,hj=>by
  rw[jcx a,jcx b,hj k (zu _),jfs a b n (k+1) (by omega) fun j h=>hj j (by omega)]
theorem jda(i:Nat):(0:Int)<1048576^i:=Int.pow_pos (by omega)
theorem jdc{l:List Int}(h:OkD l)(i:Nat):val (l.take i)<1048576^i:=by
 have h1:=jd8 (h.take i);have h2:(1048576:Int)^(l.take i).length<=1048576^i:=by
  have hl:(l.take i).length<=i:=by rw[qb];omega
  have h3:(1048576:Nat)^(l.take i).length<=1048576^i:=yi (by omega) hl;have h4:=vu.2 h3;rw[Int.natCast_pow,Int.natCast_pow]at h4;exact h4
 omega
theorem lt_at{a b:List Int}(ha:OkD a)(hb:OkD b)(i:Nat)(h:∀j,i<j->dgt a j=dgt b j)(a1:dgt a i<dgt b i):val a<val b:=by
 have e:val (a.drop (i+1))=val (b.drop (i+1)):=jfs a b (a.length+b.length) (i+1) (by omega) fun j hj=>h j (by omega);have h1:=jdc ha i;have h2:=jam (hb.take i);have hp:=jda i;rw[jdd a i,jdd b i,jcx a i,jcx b i,e];generalize val (b.drop (i+1))=v;generalize (1048576:Int)^i=p at*;have h3:p*(dgt a i+1048576*v)+p<=p*(dgt b i+1048576*v):=by
  have:p*(dgt a i+1048576*v)+p=p*(dgt a i+1+1048576*v):=by rw[qO,qO,qO];omega
  rw[this];exact qz (by omega) (by omega)
 omega
theorem jo1{a b:List Int}(h:∀j,dgt a j=dgt b j):val a=val b:=by
 have:=jfs a b (a.length+b.length) 0 (by omega) fun j _=>h j
 simpa using this
theorem dgt_take{l:List Int}{n j:Nat}(h:∀i,n<=i->dgt l i=0):dgt (l.take n) j=dgt l j:=by
 unfold dgt at*;rw[qy];split
 ·rfl
 ·rename_i hj;exact(h j (by omega)).symm
theorem jnu{l:List Int}(hl:OkD l){n:Nat}(hn:n<=l.length)(hz:∀i,n<=i->dgt l i=0)(a1:n=0\/dgt l (n-1)≠0):l.take n=dig (val l).toNat:=by
 have hv:val (l.take n)=val l:=jo1 fun j=>dgt_take hz;rw[<-hv];refine eq_dig (hl.take n) fun h=> ?_;rcases a1 with h0 | h0
 ·subst h0;simp at h
 ·have hlen:(l.take n).length=n:=by rw[qb];omega
  rw[jq,hlen]at h;have a6:0<n:=by
   rcases yN n with e | e
   ·subst e;simp at h
   ·exact e
  rw[qy,iPo]at h;exact h0 (by simp[dgt,h])
end
section
theorem jjd(d:Int):val [d]=d:=by
 show d+1048576*0=d;omega
theorem jns(l:List Int)(d:Int):val (l++[d])=val l+1048576^l.length*d:=by rw[jf3,jjd]
theorem jcg(i:Nat):(1048576:Int)^(i+1)=1048576^i*1048576:=Int.pow_succ ..
theorem jn4{out a b:List Int}{i:Nat}{c n d c':Int}(hlen:out.length=i)(h:val out-1048576^i*c=val (a.take i)-val (b.take i))(hn:n=dgt a i-dgt b i-c)(hd:d-1048576*c'=n):
  val (out++[d])-1048576^(i+1)*c'=val (a.take (i+1))-val (b.take (i+1)):=by
 rw[jns,hlen,jbt,jbt,jcg];generalize (1048576:Int)^i=p at*;have e:p*d-p*1048576*c'=p*n:=by rw[qK,<-jC,hd]
 have e2:p*n=p*dgt a i-p*dgt b i-p*c:=by rw[hn,jC,jC]
 omega
theorem jbx{l:List Int}{i:Nat}(h:l.length<=i):val (l.take i)=val l:=by rw[zZ h]
theorem jfh{l:List Int}(hl:OkD l){i:Nat}(h:val l<1048576^i):val (l.drop i)=0:=by
 have h1:=jdd l i;have h2:=jam (hl.take i);have h3:=jam (hl.drop i);have hp:=jda i;rcases yB 0 (val (l.drop i))with h4 | h4
 ·have:1048576^i*1<=1048576^i*val (l.drop i):=qz (by omega) (by omega);omega
 ·omega
theorem jg0{l:List Int}(hl:OkD l){i:Nat}(h:val l<1048576^i):val (l.take i)=val l:=by
 have h1:=jdd l i;rw[jfh hl h,qW]at h1;omega
theorem jb2{n k:Nat}(h:(n:Int)<1048576^k):(dig n).length<=k:=by
 induction k generalizing n with
 | zero=>
  have:n=0:=by simp at h;omega
  subst this;rw[jb5];exact zu _
 | succ k ih=>
  by_cases hn:n=0
  ·subst hn;rw[jb5];exact zG _
  ·rw[jgn hn,List.length_cons];rw[jcg]at h;have:=ih (n:=n/1048576) (by omega);omega
end
end Go.Abs
namespace Go.Proofs.YtjcjcpebocbonaaGreat
section
set_option maxRecDepth 1000000
open Go.Abs
attribute [local go_sem] ints ic
theorem jgu(l:List Int):∀c∈l.map ic,c.length=1:=fun c hc=>by
 obtain⟨z,_,rfl⟩:=z8.1 hc;rfl
theorem jnc(l:List Int):((l.map ic).all fun c=>c.length==1)=true:=by
 rw[List.all_eq_true];intro c hc;rw[yC];exact jgu l c hc
theorem jaz{l:List Int}{i:Nat}(h:(i:Int)<l.length):l[i]? =some (dgt l i):=by
 have h:i<l.length:=by omega
 unfold dgt;rw[za h];rfl
theorem dgt_at{l:List Int}{i:Nat}{d:Int}(h:l[i]? =some d):dgt l i=d:=by simp[dgt,h]
theorem jdk{l:List Int}{i:Nat}(h:l.length<=i):dgt l i=0:=by simp[dgt,qo h]
theorem ji3(l:List Int)(i:Nat):Ctr G.P 149 [ints l,.int i] (· = .int (dgt l i)):=by
 by_cases hp:(i:Int)<l.length
 ·have hd:decide ((i:Int)<l.length)=true:=zp hp;have hx:l[i]? =some (dgt l i):=by
   have h:i<l.length:=by omega
   unfold dgt;rw[za h];rfl
  generalize dgt l i=d at*;refine ja3 [.tmp 4] Tryz.func149 ?_;simp only[hd,zq,hx,go_sem]
 ·have hd:decide ((i:Int)<l.length)=false:=zh hp;rw[jdk (by omega)];refine ja3 [.tmp 4] Tryz.func149 ?_;simp only[hd,go_sem]
theorem jms(l:List Int)(hl:OkD l)(hlen:l.length<=1000000000000):Ctr G.P 127 [ints l] (· =ints (dig (val l).toNat)):=by
 refine ja3 [.tmp 2] Tryz.func127 ?_;simp only[go_sem];refine jai [0,3] [] (fun n:Nat=>⟨[(0,.im (.sl (l.map ic))),(3,.im (.int n))],[],[]⟩) (fun n=>n<=l.length/\∀i,n<=i->dgt l i=0) (fun n=>n) l.length ?_ ⟨zu _,fun i hi=>jdk hi⟩ ?_
 ·simp only[go_sem]
 ·intro n ⟨hn,hz⟩;have fin:n=0\/dgt l (n-1)≠0->(l.map ic).take n=(dig (val l).toNat).map ic:=fun h=>by
   rw[<-vP,jnu hl hn hz h]
  have a7:(n:Int)<=l.length:=by omega
  rcases n with _ | m
  ·have hd:decide ((0:Int)<((0:Nat):Int))=false:=by decide
   have hf:=fin (.inl rfl);rw[List.take_zero]at hf;have hg:dig (val l).toNat=[]:=j9.1 hf.symm;rw[hg];simp only[hd,Int.natCast_zero,jI,jnc,go_sem];exact⟨by simp,by simp⟩
  ·have hd:decide ((0:Int)<((m+1:Nat):Int))=true:=dTo;have h1:=ja8 ((m:Int));have h2:((m+1:Nat):Int)-1=m:=by omega
   have h3:((m+1:Nat):Int).toNat=m+1:=by omega
   have h4:(0:Int)<=((m+1:Nat):Int):=by omega
   obtain⟨d,hx⟩:∃d,l[m]? =some d:=⟨_,za (by omega)⟩;have a6:=dgt_at hx;simp only[hd,h1,h2,zq,hx,go_sem];refine jbp (fun hb a1=> ?_) (fun hb a1=> ?_)
   ·simp only[hd,h1,h2,go_sem];refine ja7 m ?_ (by omega) ⟨by omega,fun i hi=> ?_⟩
    ·simp only[h1,h2,go_sem]
    ·rcases zU m i with h | h
     ·exact hz i h
     ·rw[show i=m by omega,a6];exact a1
   ·have hf:=fin (.inr (by rw[vT,a6];exact a1));simp only[jnc,a7,h3,h4,go_sem];refine⟨by simp,?_,?_,?_⟩
    ·rw[Nat.sub_zero,hf];exact jgu _
    ·rw[qb,zw];omega
    ·rw[Nat.sub_zero,hf]
end
end Go.Proofs.YtjcjcpebocbonaaGreat
namespace Go.Abs
section
theorem jgf:∀(l:List Int) (j:Nat) (v:Int),j<l.length->val (l.set j v)=val l+1048576^j*(v-dgt l j)
 | [],j,v,h=>by simp at h
 | d::l,0,v,_=>by
  have:dgt (d::l) 0=d:=rfl;rw[List.set_cons_zero,this,Int.pow_zero,yF];show v+1048576*val l=d+1048576*val l+(v-d);omega
 | d::l,j+1,v,h=>by
  have ih:=jgf l j v (by simpa using h);have hd:dgt (d::l) (j+1)=dgt l j:=by simp[dgt]
  rw[List.set_cons_succ,hd,jcg];show d+1048576*val (l.set j v)=d+1048576*val l+_;rw[ih,qO,qX (1048576^j) 1048576,qK];omega
theorem OkD.set{l:List Int}(h:OkD l){j:Nat}{v:Int}(hv:0<=v/\v<1048576):OkD (l.set j v):=fun x hx=>by
 rcases yj hx with h1 | h1
 ·exact h x h1
 ·rw[h1];exact hv
theorem jlf{x y:Int}(hx:0<=x/\x<1048576)(hy:0<=y/\y<1048576):0<=x*y/\x*y<=1048575*1048575:=
 ⟨qM hx.1 hy.1,va (by omega) (by omega) hy.1 (by omega)⟩
theorem jmr{out b:List Int}{j i k:Nat}{c n x V:Int}(hj:j=i+k)(a1:j<out.length)(h:val out+1048576^j*c=V+1048576^i*(x*val (b.take k)))(hn:n=dgt out j+x*dgt b k+c):
  val (out.set j (n % 1048576))+1048576^(j+1)*(n/1048576)=V+1048576^i*(x*val (b.take (k+1))):=by
 rw[jgf out j _ a1,jbt,jcg,qO x,qO];have e1:1048576^j*(n % 1048576-dgt out j)+1048576^j*1048576*(n/1048576)=1048576^j*(n-dgt out j):=by
  rw[qK,<-qO];congr 1;have:=qU n 1048576;omega
 have e2:1048576^j*(n-dgt out j)=1048576^j*c+1048576^j*(x*dgt b k):=by
  rw[<-qO];congr 1;omega
 have e3:(1048576:Int)^i*(x*(1048576^k*dgt b k))=1048576^j*(x*dgt b k):=by
  rw[hj,wn,jW x,qK]
 rw[e3];omega
theorem times_last{a b:List Int}{i:Nat}{x W c':Int}(ha:OkD a)(hb:OkD b)(hx:0<=x/\x<1048576)(hW:0<=W)(hc:0<=c')
  (h:W+1048576^(i+b.length+1)*c'=val (a.take i)*val b+1048576^i*(x*val b)):c'=0:=by
 have h1:=jdc ha i;have h0:=jam (ha.take i);have h2:=jd8 hb;have h3:=jam hb;have hp:=jda i;have e1:val (a.take i)*val b<=(1048576^i-1)*val b:=qf (by omega) h3;have e2:x*val b<=1048575*val b:=qf (by omega) h3;have e3:1048576^i*(x*val b)<=1048576^i*(1048575*val b):=qz e2 (by omega);have e4:(1048576:Int)^i*val b<=1048576^i*(1048576^b.length-1):=qz (by omega) (by omega);have e5:(1048576:Int)^(i+b.length+1)=1048576^i*1048576^b.length*1048576:=by rw[jcg,wn]
 rw[e5]at h;have e6:(1048576:Int)^i*(1048575*val b)=1048575*(1048576^i*val b):=by rw[jW]
 have e7:(1048576^i-1)*val b=1048576^i*val b-val b:=by rw[jU];omega
 have e8:(1048576:Int)^i*(1048576^b.length-1)=1048576^i*1048576^b.length-1048576^i:=by rw[jC];omega
 rcases yB 0 c' with h4 | h4
 ·have hq:0<(1048576:Int)^i*1048576^b.length*1048576:=Int.mul_pos (Int.mul_pos hp (jda _)) (by omega);have:(1048576:Int)^i*1048576^b.length*1048576*1<=1048576^i*1048576^b.length*1048576*c':=qz (by omega) (by omega);generalize (1048576:Int)^i*1048576^b.length*1048576*c'=Z at*;generalize (1048576:Int)^i*1048576^b.length=q at*;generalize (1048576:Int)^i*val b=r at*;omega
 ·omega
theorem jdx(n:Nat):val (List.replicate n 0)=0:=by
 induction n with
 | zero=>rfl
 | succ n ih=>rw[List.replicate_succ];show 0+1048576*val (List.replicate n 0)=0;rw[ih];rfl
theorem OkD.replicate(n:Nat):OkD (List.replicate n 0):=fun x hx=>by rw[vi hx];omega
end
section
section
variable{L R:Rows}{k d s b:Nat}{es:List (List IV)}
theorem look_filterQ(q:Nat->Bool)(l:Rows)(k:Nat):look (l.filter fun p=>q p.1) k=if q k=true then look l k else none:=jbr l q k
theorem jax(h:blks L)(hd:d<100000):look L d=none:=by
 cases hl:look L d with
 | none=>rfl
 | some x=>obtain⟨b,e⟩:=h d x hl;unfold hp at e;omega
theorem filter_of_none(h:look L d=none):L.filter (fun p=>p.1 !=d)=L:=by
 induction L with
 | nil=>rfl
 | cons p L ih=>
  obtain⟨j,v⟩:=p;by_cases e:d=j
  ·subst e;rw[ja2]at h;cases h
  ·rw[ja1 _ _ e]at h;rw[j3,ih h,ze (by simp only[qh,ne_eq];exact fun x=>e x.symm)]
theorem jds(h:look L d=none):L.map (fun p=>if p.1=d then(p.1,s,es)else p)=L:=by
 induction L with
 | nil=>rfl
 | cons p L ih=>
  obtain⟨j,v⟩:=p;by_cases e:d=j
  ·subst e;rw[ja2]at h;cases h
  ·rw[ja1 _ _ e]at h;rw[zt,ih h,zl (fun x=>e x.symm)]
theorem jed(h:blks L)(hd:d<100000):L.filter (fun p=>p.1 !=d)=L:=filter_of_none (jax h hd)
theorem joz(h:blks L)(hd:d<100000):L.map (fun p=>if p.1=d then(p.1,s,es)else p)=L:=jds (jax h hd)
theorem jag{x:Nat×List (List IV)}(h:look L k=some x):look (L.map (fun p=>if p.1=k then(p.1,s,es)else p)) k=some (s,es):=
 jc7 (by rw[h];rfl)
theorem jak{j:Nat}(h:j≠k):look (L.map (fun p=>if p.1=k then(p.1,s,es)else p)) j=look L j:=jcp h
theorem jb8(h:blks L):blks (L.map (fun p=>if p.1=k then(p.1,s,es)else p)):=fun j x hj=>by
 have:(look L j).isSome:=by
  have e:=jc6 (l:=L) (d:=k) (s:=s) (k:=j) (es:=es);unfold setRow at e;rw[<-e,hj];rfl
 obtain⟨y,hy⟩:=zD.1 this;exact h j y hy
theorem jao(h:blks L):blks ((hp b,s,es)::L):=fun j x hj=>by
 by_cases e:j=hp b
 ·exact⟨b,e⟩
 ·rw[ja1 _ _ e]at hj;exact h j x hj
theorem jb6:blks []:=fun _ _ h=>by cases h
theorem jch(h:blks L):blks (del L d):=fun j x hj=>by
 by_cases e:j=d
 ·subst e;rw[jab]at hj;cases hj
 ·rw[jaa _ e]at hj;exact h j x hj
def hiR(R:Rows):Rows:=R.filter fun p=>Nat.ble 100000 p.1
theorem joi:look (hiR R) k=if 100000<=k then look R k else none:=by
 unfold hiR;rw[look_filterQ];by_cases h:100000<=k
 ·rw[ze (Nat.ble_eq▸h),ze h]
 ·rw[zl (fun e=>h (yr e)),zl h]
theorem jas:look (hiR R) (hp b)=look R (hp b):=by rw[joi,ze (by unfold hp;omega)]
theorem jf0:blks (hiR R):=fun k x h=>by
 rw[joi]at h;split at h
 ·rename_i hk;exact⟨_,hp_of hk⟩
 ·cases h
theorem hiR_ret:∀k x,look (hiR R) k=some x->100000<=k/\look R k=some x:=fun k x h=>by
 rw[joi]at h;split at h
 ·exact⟨‹_›,h⟩
 ·cases h
theorem ja6{x:Nat×List (List IV)}(hd:d<100000)(hL:blks L)(h:SubR L R):SubR L ((d,x)::R):=fun k y hk=>by
 rw[ja1 _ _ (fun e=>by subst e;rw[jax hL hd]at hk;cases hk)];exact h k y hk
theorem jc0:SubR [] R:=fun _ _ h=>by cases h
theorem jbi{R':Rows}(p:Nat×Nat×List (List IV))(hs:SubR R' R):SubR (p::R') (p::R):=fun k x hk=>by
 obtain⟨j,v⟩:=p;by_cases e:k=j
 ·subst e;rw[ja2]at hk⊢;exact hk
 ·rw[ja1 _ _ e]at hk⊢;exact hs k x hk
theorem jaw{R':Rows}{p:Nat×Nat×List (List IV)}(h:look R' p.1=none)(hs:SubR R' R):SubR R' (p::R):=fun k x hk=>by
 obtain⟨j,v⟩:=p;rw[ja1 _ _ (fun e=>by subst e;rw[h]at hk;cases hk)];exact hs k x hk
theorem Behind_pre{L L':Rows}:∀(pre:Rows),(∀p∈pre,look L p.1=none)->jfr (pre++L) L L' (pre++L')
 | [],_=>fun _ _ h=> .inl h
 | (j,v)::pre,hp=>fun k x h=>by
  by_cases e:k=j
  ·subst e;rw[List.cons_append,ja2]at h⊢;exact .inr ⟨hp _ (zQ ..),h⟩
  ·rw[List.cons_append,ja1 _ _ e]at h⊢;exact Behind_pre pre (fun p h=>hp p (zV _ h)) k x h
theorem jba{L':Rows}:jfr R L L' L':=fun _ _ h=> .inl h
end
section
variable{R:Rows}
theorem jbl{G:Ctx}{rs:List ResultVar}{st:St}{φ:AV->Rows->Prop}(h:jgw G rs (fun r=>φ r (hiR st.rows)) st): @RetH G rs st ⟨φ⟩:=jgr (hiR st.rows) hiR_ret h
theorem jb1{G:Ctx}{rs:List ResultVar}{st:St}{φ:AV->Rows->Prop}(L':Rows)(hb:blks L')(hs:SubR L' st.rows)(h:jgw G rs (fun r=>φ r L') st): @RetH G rs st ⟨φ⟩:=
 jgr L' (fun k x hk=>⟨by obtain⟨b,rfl⟩:=hb k x hk;unfold hp;omega,hs k x hk⟩) h
end
def tab{α:Type}(n:Nat)(f:Nat->α):List α:=(List.range n).map f
section
variable{α β:Type}{n:Nat}{f g:Nat->α}
theorem jad:(tab n f).length=n:=by simp[tab]
theorem jgg{i:Nat}(h:i<n):(tab n f)[i]? =some (f i):=by simp[tab,h]
theorem tab_get_none{i:Nat}(h:¬i<n):(tab n f)[i]? =none:=by simp[tab];omega
theorem jan(h:∀k,k<n->f k=g k):tab n f=tab n g:=qV fun k hk=>h k (qw.1 hk)
theorem tab_ext{l:List α}(hl:l.length=n)(h:∀k,k<n->l[k]? =some (f k)):l=tab n f:=by
 apply ju;intro i;by_cases hi:i<n
 ·rw[h i hi,jgg hi]
 ·rw[tab_get_none hi,qo (by omega)]
theorem jnw{i:Nat}{x:α}:(tab n f).set i x=tab n fun k=>if k=i then x else f k:=by
 refine tab_ext (by rw[qd,jad]) fun k hk=> ?_;by_cases e:k=i
 ·subst e;rw[ze rfl,List.getElem?_set_self (by rw[jad];exact hk)]
 ·rw[zl e,jb (fun h=>e h.symm),jgg hk]
theorem jif:tab (n+1) f=tab n f++[f n]:=by simp[tab,List.range_succ]
theorem tab_zero:tab 0 f=[]:=rfl
theorem tab_replicate{x:α}:List.replicate n x=tab n fun _=>x:=tab_ext (by simp) fun k hk=>by simp[hk]
theorem tab_mem{x:α}(h:x∈tab n f):∃i,i<n/\f i=x:=by
 obtain⟨i,hi,rfl⟩:=z8.1 h;exact⟨i,qw.1 hi,rfl⟩
theorem mem_tab{i:Nat}(h:i<n):f i∈tab n f:=z8.2 ⟨i,qw.2 h,rfl⟩
theorem jd9:(tab n f).take n=tab n f:=zZ (by rw[jad];exact zu _)
theorem tab_nodup{A:Nat->Nat}(h:(tab n A).Nodup){i j:Nat}(hi:i<n)(hj:j<n)(e:A i=A j):i=j:=by
 have h1:=jgg (f:=A) hi;have h2:=jgg (f:=A) hj;rw[<-e]at h2;rw[zr]at h1 h2;obtain⟨a1,a2⟩:=h1;obtain⟨b1,b2⟩:=h2;exact(List.getElem_inj h).1 (a2.trans b2.symm)
end
theorem bF{L:Rows}(hb:blks L)(d:Nat)(h:d<100000):L.filter (fun p=>p.1 !=d)=L:=jed hb h
theorem bN{L:Rows}(hb:blks L)(d:Nat)(h:d<100000):look L d=none:=jax hb h
theorem bK{L:Rows}(hb:blks L)(d s:Nat)(es:List (List IV))(h:d<100000):L.map (fun p=>if p.1=d then(p.1,s,es)else p)=L:=joz hb h
theorem bB{L:Rows}(hb:blks L):(∀d,d<100000->L.filter (fun p=>p.1 !=d)=L)/\(∀d,d<100000->look L d=none)/\∀(d s:Nat) (es:List (List IV)),d<100000->L.map (fun p=>if p.1=d then(p.1,s,es)else p)=L:=⟨bF hb,bN hb,bK hb⟩
end
section
theorem CtrH.loc{P:Program}{f:FuncId}{b s i j:Nat}{args:List AV}{L:Rows}{φ:AV->Rows->Prop}(h:CtrH P f (.im (.pr b s i j)::args) L φ):CtrH P f (.loc (hp b) s i j::args) L φ:=
 fun w M vs h1 h2 h3 h4=>h w M vs h1 h2 (by simpa using h3) fun k av v hk hv=>by
  cases k with
  | zero=>
   simp at hk;subst hk;obtain⟨b',e1,e2⟩:=h4 0 (.loc (hp b) s i j) v rfl hv;rw[pβ_hp]at e1;cases e1;rw[e2];exact Rep.pr b s i j
  | succ k=>exact h4 (k+1) av v (by simpa using hk) hv
theorem St.le_lend(s:St)(d:Nat):St.Le s (s.lend d):=fun _ _ _ β _ _ h=>⟨β,h.lend d⟩
theorem jjx{G:Ctx}{c:Code}{Q:Exit->St->Prop}{st:St}(d:Nat)(h: @LoopP G ⟨c⟩ ⟨Q⟩ (st.lend d)): @LoopP G ⟨c⟩ ⟨Q⟩ st:=by
 obtain⟨I,n,⟨s0,h1,h2⟩,h3⟩:=h;exact⟨I,n,⟨s0,(St.le_lend st d).trans h1,h2⟩,h3⟩
end
section
open Go.RowKit (Below)
def frzL:List Nat->IV->Rows->IV
 | [],y,_=>y
 | b::bs,y,L=>match look L (hp b)with
  | some (s,es)=>frzL bs (frz3 b s es y) (del L (hp b))
  | none=>frzL bs y L
theorem jfm(y:IV)(L:Rows):frzL [] y L=y:=rfl
theorem jdn{b s:Nat}{es:List (List IV)}{bs:List Nat}{y:IV}{L:Rows}(h:look L (hp b)=some (s,es)):frzL (b::bs) y L=frzL bs (frz3 b s es y) (del L (hp b)):=by rw[frzL,h]
theorem jo2{w':World}{M:Nat->Nat->Prop}{v:Value}:∀(bs:List Nat) (y:IV) (L:Rows),(∀k s es,look L k=some (s,es)->∃b,k=hp b/\(∀o,¬M b o)/\RowRep w' (MoH M L) b s es)->Rep w' (MoH M L) y v->Rep w' M (frzL bs y L) v
 | [],y,L,_,hy=>hy.kept (Kept.less w' fun b o h=> .inl h)
 | b::bs,y,L,hL,hy=>by
  cases hl:look L (hp b)with
  | none=>
   rw[show frzL (b::bs) y L=frzL bs y L by rw[frzL,hl]];exact jo2 bs y L hL hy
  | some p=>
   obtain⟨s,es⟩:=p;rw[jdn hl];have a6:∀b' o,MoH M (del L (hp b)) b' o->MoH M L b' o:=fun b' o h=>by
    rcases h with h | h
    ·exact .inl h
    ·by_cases e:hp b'=hp b
     ·rw[e,jab]at h;cases h
     ·rw[jaa _ e]at h;exact .inr h
   have hk:=Kept.less w' a6;obtain⟨b',e,hn,a7⟩:=hL _ _ _ hl;have b0:=hp_inj.1 e;subst b0;have a8:∀o,¬MoH M (del L (hp b)) b o:=fun o h=>by
    rcases h with h | h
    ·exact hn o h
    ·rw[jab]at h;cases h
   refine jo2 bs _ _ (fun k s' es' a1=> ?_) (jt4 (a7.move hk rfl) a8 (hy.kept hk));by_cases e:k=hp b
   ·subst e;rw[jab]at a1;cases a1
   ·rw[jaa _ e]at a1;obtain⟨b2,h1,h2,h3⟩:=hL k s' es' a1;exact⟨b2,h1,h2,h3.move hk rfl⟩
theorem jhs{P:Program}{f:FuncId}{xs:List IV}{φ:AV->Rows->Prop}{ψ:IV->Prop}(h:CtrH P f (xs.map AV.im) [] φ)(hφ:∀r L',φ r L'->∃y bs,r= .im y/\ψ (frzL bs y L')):Ctr P f xs ψ:=fun w M vs hM hr=>by
 have a1:=hr;refine(h w M vs hM (fun k s es hk=>by cases hk) (by rw[zw];exact hr.1.symm) (fun i av v hi hv=> ?_)).mono ?_
 ·rw[zq]at hi;obtain⟨x,hx,rfl⟩:=qq.1 hi;exact(hr.2 i x v hx hv).kept (Kept.less w fun b o h=>h.elim id fun h=>by cases h)
 ·rintro en w' ⟨r,v,L',g1,g2,g3,g4,g5,g6⟩;obtain⟨y,bs,rfl,hψ⟩:=hφ r L' g1;refine⟨_,v,hψ,g2,jo2 bs y L' (fun k s es hk=> ?_) g6,?_⟩
  ·obtain⟨b,h1,h2,h3⟩:=g5 k s es hk;refine⟨b,h1,fun o hm=> ?_,h3⟩;rcases h2 with h2 | h2
   ·cases h2
   ·have:=hM b o hm;omega
  ·exact⟨g4.os,g4.tape,g4.output,g4.size,fun k hk=>g4.block k ⟨hk,rfl⟩⟩
end
end Go.Abs
namespace Go.Proofs.YtjcjcpebocbonaaGreat
section
set_option maxRecDepth 1000000
open Go.Abs
attribute [local go_sem] ints ic
theorem jft(l:List Int)(hl:OkD l)(hlen:l.length<=1000000000000):Ctr G.P 121 [ints l] (· =ints (dig (val l).toNat)):=by
 refine ja3 [.tmp 2] Tryz.func121 ?_;simp only[go_sem];refine jai [0,3] [] (fun n:Nat=>⟨[(0,.im (.sl (l.map ic))),(3,.im (.int n))],[],[]⟩) (fun n=>n<=l.length/\∀i,n<=i->dgt l i=0) (fun n=>n) l.length ?_ ⟨zu _,fun i hi=>jdk hi⟩ ?_
 ·simp only[go_sem]
 ·intro n ⟨hn,hz⟩;have fin:n=0\/dgt l (n-1)≠0->(l.map ic).take n=(dig (val l).toNat).map ic:=fun h=>by
   rw[<-vP,jnu hl hn hz h]
  have a7:(n:Int)<=l.length:=by omega
  rcases n with _ | m
  ·have hd:decide ((0:Int)<((0:Nat):Int))=false:=by decide
   have hf:=fin (.inl rfl);rw[List.take_zero]at hf;have hg:dig (val l).toNat=[]:=j9.1 hf.symm;rw[hg];simp only[hd,Int.natCast_zero,jI,jnc,go_sem]
  ·have hd:decide ((0:Int)<((m+1:Nat):Int))=true:=dTo;have h1:=ja8 ((m:Int));have h2:((m+1:Nat):Int)-1=m:=by omega
   have h3:((m+1:Nat):Int).toNat=m+1:=by omega
   have h4:(0:Int)<=((m+1:Nat):Int):=by omega
   obtain⟨d,hx⟩:∃d,l[m]? =some d:=⟨_,za (by omega)⟩;have a6:=dgt_at hx;simp only[hd,h1,h2,zq,hx,go_sem];refine jbp (fun hb a1=> ?_) (fun hb a1=> ?_)
   ·simp only[hd,h1,h2,hb,go_sem];refine ja7 m ?_ (by omega) ⟨by omega,fun i hi=> ?_⟩
    ·simp only[h1,h2,go_sem]
    ·rcases zU m i with h | h
     ·exact hz i h
     ·rw[show i=m by omega,a6];exact a1
   ·have hf:=fin (.inr (by rw[vT,a6];exact a1));simp only[jnc,a7,h3,h4,hb,hf,Nat.sub_zero,go_sem]
theorem jky(l:List Int)(hlen:l.length<=1000000000000):Ctr G.P 78 [ints l] (· =ints l):=by
 refine ja3 [.tmp 2] Tryz.func78 ?_;simp only[go_sem];refine jp4 (fun h=> ?_) ?_
 ·have:l=[]:=j9.1 h;subst this;simp only[zE,go_sem]
 ·simp only[go_sem];exact⟨by simp,jgu l,by omega⟩
theorem t_ptrimH(X:Nat)(l:List Int)(hl:OkD l)(hlen:l.length<=1000000000000):CtrH G.P 121 [.im (.ref X 3 1 l.length)] [(hp X,1,l.map ic)] (fun r L'=>r= .im (.ref X 3 1 (dig (val l).toNat).length)/\L'=[(hp X,1,l.map ic)]):=by
 have a8:=fun(d:Nat) (h:d<100000)=>hp_ne (n:=d) (b:=X) h;refine jap [] [] [.tmp 2] Tryz.func121 ?_;simp only[go_sem];refine jar [0,3] (fun n:Nat=>⟨[(0,.im (.ref X 3 1 l.length)),(3,.im (.int n))],[(hp X,1,l.map ic)],[]⟩) (fun n=>n<=l.length/\∀i,n<=i->dgt l i=0) (fun n=>n) l.length ?_ ja5 rfl ⟨zu _,fun i hi=>jdk hi⟩ ?_
 ·simp only[go_sem]
 ·intro n ⟨hn,hz⟩;have fin:n=0\/dgt l (n-1)≠0->(dig (val l).toNat).length=n:=fun h=>by
   rw[<-jnu hl hn hz h,qb];omega
  have a7:(n:Int)<=l.length:=by omega
  rcases n with _ | m
  ·have hd:decide ((0:Int)<((0:Nat):Int))=false:=by decide
   have hf:=fin (.inl rfl);rw[hf];simp only[hd,Int.natCast_zero,jI,jnc,yy,Int.toNat_zero,jm,go_sem];refine jb1 [(hp X,1,l.map ic)] (jao jb6) ja5 ?_;simp only[jm,go_sem]
  ·have hd:decide ((0:Int)<((m+1:Nat):Int))=true:=dTo;have h1:=ja8 ((m:Int));have h2:((m+1:Nat):Int)-1=m:=by omega
   have h3:((m+1:Nat):Int).toNat=m+1:=by omega
   have h4:(0:Int)<=((m+1:Nat):Int):=by omega
   have h5:(m:Int)<l.length:=by omega
   obtain⟨d,hx⟩:∃d,l[m]? =some d:=⟨_,za (by omega)⟩;have a6:=dgt_at hx;simp only[hd,h1,h2,h5,zq,hx,go_sem];refine jbp (fun hb a1=> ?_) (fun hb a1=> ?_)
   ·simp only[hd,h1,h2,hb,go_sem];refine jac m ?_ ja5 rfl (by omega) ⟨by omega,fun i hi=> ?_⟩
    ·simp only[h1,h2,go_sem]
    ·rcases zU m i with h | h
     ·exact hz i h
     ·rw[show i=m by omega,a6];exact a1
   ·have hf:=fin (.inr (by rw[vT,a6];exact a1));rw[hf];simp only[jnc,a7,h3,h4,hb,Nat.sub_zero,jm,go_sem];refine jb1 [(hp X,1,l.map ic)] (jao jb6) ja5 ?_;simp only[jm,go_sem]
theorem t_cloneH(l:List Int)(a6:l≠[])(hlen:l.length<=1000000000000):CtrH G.P 78 [.im (ints l)] [] (fun r L'=>∃X,r= .im (.ref X 3 1 l.length)/\L'=[(hp X,1,l.map ic)]):=by
 have a1:l.map ic≠[]:=fun h=>a6 (j9.1 h);refine jap [7] [] [.tmp 2] Tryz.func78 ?_;simp only[go_sem];refine jp4 (fun h=>absurd h a1) ?_;simp only[a1,go_sem];refine And.intro (jgu l) (And.intro (by omega) (jgs (fun X hX=> ?_)));clear hX;simp only[zw,go_sem];refine jb1 [(hp X,1,l.map ic)] (jao jb6) ja5 ?_;simp only[go_sem];exact⟨X,rfl,rfl⟩
end
end Go.Proofs.YtjcjcpebocbonaaGreat
namespace Go.Abs
section
theorem jip{a q:List Int}{m:Nat}{b R lo:Int}(hm:m<q.length)(h:val (a.drop (m+1))=val (q.drop (m+1))*b+R):
  val (a.drop m)=val ((q.set m lo).drop m)*b+(dgt a m+1048576*R-lo*b):=by
 rw[jcx a m,jcx (q.set m lo) m,h];have h1:dgt (q.set m lo) m=lo:=by simp[dgt,hm]
 have h2:(q.set m lo).drop (m+1)=q.drop (m+1):=by
  rw[List.drop_set_of_lt (by omega)]
 rw[h1,h2,yp,qK,qO];omega
theorem jo8{x q b R:Int}(h:x=q*b+R)(h0:0<=R)(h1:R<b):q=x/b/\R=x % b:=by
 have hb:0<b:=by omega
 have h2:x/b=q:=by
  rw[h,Int.add_comm,Int.add_mul_ediv_right _ _ (by omega),Int.ediv_eq_zero_of_lt h0 h1,yW]
 refine⟨h2.symm,?_⟩;have:=qU x b;rw[h2]at this;rw[qX]at this;omega
end
section
theorem jco(n:Int):(BitVec.ofInt 64 n).toNat=(n % 18446744073709551616).toNat:=by
 rw[BitVec.toNat_ofInt];rfl
theorem and20(n:Int):bits .and .i64 n 1048575=n % 1048576:=by
 have h1:(BitVec.ofInt 64 n&&&BitVec.ofInt 64 1048575).toNat=(n % 1048576).toNat:=by
  rw[BitVec.toNat_and,jco,jco];have e:((1048575:Int) % 18446744073709551616).toNat=2^20-1:=by decide
  rw[e,j0];have:(n % 18446744073709551616) % 1048576=n % 1048576:=Int.emod_emod_of_dvd n ⟨17592186044416,by decide⟩;omega
 have h2:bits .and .i64 n 1048575=IntKind.i64.wrap ((BitVec.ofInt 64 n&&&BitVec.ofInt 64 1048575).toNat:Nat):=rfl;rw[h2,h1];have h3:=j8 n (show(1048576:Int)≠0 by decide);have h4:=jQ n (show(0:Int)<1048576 by decide);rw[qH h3];exact IntWalk.i64_in _ (by omega)
theorem or20(r a:Int)(hr:0<=r/\r<8796093022208)(ha:0<=a/\a<1048576):bits .or .i64 (r*1048576) a=r*1048576+a:=by
 have h1:(BitVec.ofInt 64 (r*1048576) ||| BitVec.ofInt 64 a).toNat=(r*1048576+a).toNat:=by
  rw[BitVec.toNat_or,jco,jco,jX (by omega) (by omega),jX (by omega) (by omega)];have e1:(r*1048576).toNat=2^20*r.toNat:=by omega
  rw[e1,<-wD (by omega:a.toNat<2^20)];omega
 have h2:bits .or .i64 (r*1048576) a=IntKind.i64.wrap ((BitVec.ofInt 64 (r*1048576) ||| BitVec.ofInt 64 a).toNat:Nat):=rfl;rw[h2,h1,qH (by omega)];exact IntWalk.i64_in _ (by omega)
theorem fd20(n:Int):n.fdiv 1048576=n/1048576:=yJ n (by decide)
theorem and1(n:Int)(h: -9223372036854775808<=n/\n<=9223372036854775807):bits .and .i64 n 1=n % 2:=by
 have h1:(BitVec.ofInt 64 n&&&BitVec.ofInt 64 1).toNat=(n % 2).toNat:=by
  rw[BitVec.toNat_and,jco,jco];have e:((1:Int) % 18446744073709551616).toNat=2^1-1:=by decide
  rw[e,j0];omega
 have h2:bits .and .i64 n 1=IntKind.i64.wrap ((BitVec.ofInt 64 n&&&BitVec.ofInt 64 1).toNat:Nat):=rfl;rw[h2,h1,qH (by omega)];exact IntWalk.i64_in _ (by omega)
theorem jtm{out a b:List Int}{i:Nat}{c n:Int}(hi:i<out.length)(hz:dgt out i=0)(h:val out+1048576^i*c=val (a.take i)+val (b.take i))(hn:n=dgt a i+dgt b i+c):
  val (out.set i (n % 1048576))+1048576^(i+1)*(n/1048576)=val (a.take (i+1))+val (b.take (i+1)):=by
 rw[jgf _ _ _ hi,hz,jG,jbt,jbt,jcg];generalize (1048576:Int)^i=p at*;have e:p*(n % 1048576)+p*1048576*(n/1048576)=p*n:=by
  rw[qK,<-qO,qU]
 have e2:p*n=p*dgt a i+p*dgt b i+p*c:=by rw[hn,qO,qO]
 omega
theorem sub_step{out b:List Int}{i:Nat}{c n V:Int}(hi:i<out.length)(h:val out-1048576^i*c=V-val (b.take i))(hn:n=dgt out i-dgt b i-c):
  val (out.set i (n % 1048576))-1048576^(i+1)* -(n/1048576)=V-val (b.take (i+1)):=by
 rw[jgf _ _ _ hi,jbt,jcg];generalize (1048576:Int)^i=p at*;have e0:=qU n 1048576;have e:p*(n % 1048576-dgt out i)-p*1048576* -(n/1048576)=p*(n-dgt out i):=by
  rw[qK,<-jC];congr 1;omega
 have e2:p*(n-dgt out i)= -(p*dgt b i)-p*c:=by
  rw[hn,show dgt out i-dgt b i-c-dgt out i= -dgt b i-c by omega,jC,yY]
 omega
theorem jng{l:List Int}{i j:Nat}{v:Int}(h:i≠j):dgt (l.set i v) j=dgt l j:=by
 unfold dgt;rw[jb h]
theorem mb20:min 20 64=(20:Nat):=rfl
theorem pw20:(2:Int)^20=1048576:=by decide
end
end Go.Abs
namespace Go.Proofs.YtjcjcpebocbonaaGreat
section
set_option maxRecDepth 1000000
open Go.Abs
attribute [local go_sem] ints ic mb20 pw20 fd20
theorem t_short(a:List Int)(d:Int)(ha:OkD a)(hd:1<=d/\d<1048576)(la:a.length<=1000000000000):Ctr G.P 122 [ints a,.int d] (· = .tup [ints (dig (val a/d).toNat),.int (val a % d)]):=by
 have w1:=ja8 ((a.length:Int)-1);have w0:(a.length:Int)*8<=140737488355328:=by omega
 refine ja3 [.tmp 4,.tmp 5] Tryz.func122 ?_;simp only[w1,w0,go_sem];refine jai [0,1,6,7,8] [11] (fun g:Nat×List Int×Int=>⟨[(0,.im (.sl (a.map ic))),(1,.im (.int d)),(6,.gsl 11 3 1 a.length),(7,.im (.int g.2.2)),(8,.im (.int ((g.1:Int)-1)))],[(11,1,g.2.1.map ic)],[]⟩)
  (fun g=>g.1<=a.length/\g.2.1.length=a.length/\OkD g.2.1/\0<=g.2.2/\g.2.2<d/\val (a.drop g.1)=val (g.2.1.drop g.1)*d+g.2.2) (fun g=>g.1) (a.length,List.replicate a.length 0,0) ?_
  ⟨zu _,zR,OkD.replicate _,yy _,by dsimp only;omega,by
   dsimp only;rw[zY (zu _),zY (by rw[zR];exact zu _)];simp[val]⟩ ?_
 ·simp only[w1,yx,zR,go_sem]
 intro⟨n,q,r⟩ ⟨h1,h2,h3,h4,h5,h6⟩;dsimp only at h1 h2 h3 h4 h5 h6;rcases n with _ | m
 ·have hg:decide ((0:Int)<=((0:Nat):Int)-1)=false:=by decide
  rw[yH,yH]at h6;obtain⟨e1,e2⟩:=jo8 h6 h4 h5;have ht:=jft q h3 (by omega);rw[e1]at ht;rw[<-e2];simp only[ints]at ht;have b2:a.length<=q.length:=by omega
  have b0:(q.map ic).take a.length=q.map ic:=zZ (by rw[zw];omega);simp only[hg,b2,b0,go_sem];refine ja0 ht ?_;simp only[go_sem]
 ·have e1:((m+1:Nat):Int)-1=m:=by omega
  have hg:decide ((0:Int)<=(m:Int))=true:=dTo;have hx:=jaz (l:=a) (i:=m) (by omega);have b5:=ha.dgt m;have hq:(m:Int)<a.length:=by omega
  have b1:=jaz (l:=q) (i:=m) (by omega);have w2:=ja8 (r*1048576);have w3:=or20 r (dgt a m) (by omega) b5;generalize hR:r*1048576+dgt a m=R at*;have a6:0<=R:=by omega
  have b6:R<d*1048576:=by omega
  have b3:R/d<1048576:=jY (by omega) (by rw[qX];exact b6);have a8:0<=R/d:=jN a6 (by omega);have w4:IntKind.i64.wrap (R.tdiv d)=R/d:=by
   rw[yI a6];exact jdf (by omega)
  have w5:R.tmod d=R % d:=y8 a6;have w6:decide (d=0)=false:=dFo;have w7:=ja8 ((m:Int)-1);have d0:¬d=0:=by omega
  have hs:=jip (lo:=R/d) (by omega:m<q.length) h6;have a7:=j8 R (by omega:d≠0);have a1:=jQ R (by omega:0<d);have b4:dgt a m+1048576*r-R/d*d=R % d:=by
   have:=qU R d;rw[qX (R/d) d];omega
  rw[b4]at hs;simp only[e1,hg,hq,zq,hx,b1,w2,w3,w4,w5,w6,d0,<-qm,go_sem];refine ja7 (m,q.set m (R/d),R % d) ?_ ?_ ⟨?_,?_,?_,a7,a1,hs⟩
  ·simp only[w7,qm,go_sem]
  ·show m<m+1;omega
  ·show m<=a.length;omega
  ·show(q.set m (R/d)).length=a.length;rw[qd];exact h2
  ·exact h3.set ⟨a8,b3⟩
