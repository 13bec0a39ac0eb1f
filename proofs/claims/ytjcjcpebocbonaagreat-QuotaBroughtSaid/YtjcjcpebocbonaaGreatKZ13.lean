/- A part of the proof. No further condition. -/
import Derived.Test.YtjcjcpebocbonaaGreatKZ12
set_option linter.all false
set_option maxRecDepth 10000000
set_option maxHeartbeats 16000000
namespace Go.Abs
section
theorem ex2(x y D:Int):(x*1048576+y)*D=1048576*(x*D)+y*D:=by
 rw[yp,qX x,qI]
theorem ex3(g x y D z:Int):g*((x*1048576+y)*D+z)=1048576*(g*x*D)+g*y*D+g*z:=by
 rw[ex2,qO,qO,jV g,<-qI g,<-qI g]
theorem knuth_first{g rest top v1 v2 w V W D Vl Wl:Int}(hD:0<D)(hV:V=(v1*1048576+v2)*D+Vl)(a6:0<=Vl)(a1:0<=v2)(hW:W=(top*1048576+w)*D+Wl)(a8:Wl<D)
  (hw:w<1048576) (hg:g*v1+rest=top) (hr:rest<v1) (g0:0<=g):W<(g+1)*V:=by
 have h1:0<=g*(v2*D):=qM g0 (qM a1 (by omega));have b0:0<=g*Vl:=qM g0 a6;have a7:0<=v2*D:=qM a1 (by omega);have h2:(top+1)*D<=(g*v1+v1)*D:=qf (by omega) (by omega);have h3:w*D<=1048575*D:=qf (by omega) (by omega);have e:(g+1)*V=g*V+V:=by rw[yp,yE]
 rw[yp,yp,yE]at h2;rw[<-qI]at h1;have e2:g*V=1048576*(g*v1*D)+g*v2*D+g*Vl:=by rw[hV,ex3]
 have e3:V=1048576*(v1*D)+v2*D+Vl:=by rw[hV,ex2]
 have e4:W=1048576*(top*D)+w*D+Wl:=by rw[hW,ex2]
 rw[e,e2,e3,e4];clear hV hW e e2 e3 e4;omega
theorem knuth_down{g rest top v1 v2 w V W D Vl Wl:Int}(hD:0<D)(hV:V=(v1*1048576+v2)*D+Vl)(a1:0<=Vl)(hW:W=(top*1048576+w)*D+Wl)(a6:Wl<D)
  (hg:g*v1+rest=top) (g0:0<=g) (h:rest*1048576+w<g*v2):W<g*V:=by
 have h1:0<=g*Vl:=qM g0 a1;have h2:(rest*1048576+w+1)*D<=(g*v2)*D:=qf (by omega) (by omega);have h3:(g*v1+rest)*D=top*D:=by rw[hg]
 rw[yp,ex2,yE]at h2;rw[yp]at h3;have e2:g*V=1048576*(g*v1*D)+g*v2*D+g*Vl:=by rw[hV,ex3]
 have e4:W=1048576*(top*D)+w*D+Wl:=by rw[hW,ex2]
 rw[e2,e4];clear hV hW e2 e4;omega
theorem jna{g rest top v1 v2 w V W D Vl Wl:Int}(hD:0<D)(hV:V=(v1*1048576+v2)*D+Vl)(a7:Vl<D)(hW:W=(top*1048576+w)*D+Wl)(a6:0<=Wl)
  (hg:g*v1+rest=top) (g0:1<=g) (g1:g<1048576) (hv1:1<=v1) (a1:0<=v2/\v2<1048576) (hw:0<=w) (h:1048576<=rest\/g*v2<=rest*1048576+w):(g-1)*V<=W:=by
 have h0:g*v2<=rest*1048576+w:=by
  rcases h with h | h
  ·have:g*v2<=1048575*1048575:=vw (by omega) (by omega) a1.1 (by omega);omega
  ·exact h
 have h1:(g-1)*Vl<=(g-1)*D:=qq (by omega) (by omega);have h2:(g*v2)*D<=(rest*1048576+w)*D:=qf h0 (by omega);have h3:(g*v1+rest)*D=top*D:=by rw[hg]
 have h4:(g-1)*D<=(v1*1048576+v2)*D:=qf (by omega) (by omega);rw[ex2]at h2;rw[yp]at h3;rw[ex2]at h4;have e:(g-1)*V=g*V-V:=by rw[jT,yE]
 have e2:g*V=1048576*(g*v1*D)+g*v2*D+g*Vl:=by rw[hV,ex3]
 have e3:V=1048576*(v1*D)+v2*D+Vl:=by rw[hV,ex2]
 have e4:W=1048576*(top*D)+w*D+Wl:=by rw[hW,ex2]
 have e5:(g-1)*Vl=g*Vl-Vl:=by rw[jT,yE]
 have e6:(g-1)*D=g*D-D:=by rw[jT,yE]
 rw[e5,e6]at h1;rw[e6]at h4;rw[e,e2,e3,e4];clear hV hW e e2 e3 e4 e5 e6;omega
theorem jpz{g V W:Int}(hV:0<V)(h1:W<(g+1)*V)(h2:0<=W-g*V\/0<=W-(g-1)*V):
  (if 0<=W-g*V then g else g-1)=W/V/\W-(if 0<=W-g*V then g else g-1)*V=W % V:=by
 have key:∀q:Int,0<=W-q*V->W-q*V<V->q=W/V/\W-q*V=W % V:=fun q a6 a1=>by
  have hq:W/V=q:=by
   rw[show W=(W-q*V)+q*V by omega,Int.add_mul_ediv_right _ _ (by omega),Int.ediv_eq_zero_of_lt a6 a1,ja]
  refine⟨hq.symm,?_⟩;have:=qU W V;rw[hq,qX]at this;omega
 have e1:(g+1)*V=g*V+V:=by rw[yp,yE]
 have e2:(g-1)*V=g*V-V:=by rw[jT,yE]
 split
 ·rename_i h;exact key g h (by omega)
 ·rename_i h;exact key (g-1) (h2.resolve_left h) (by omega)
end
end Go.Abs
namespace Go.Proofs.YtjcjcpebocbonaaGreat
section
set_option maxRecDepth 1000000
open Go.Abs
attribute [local go_sem] ints ic mb20 pw20 fd20
theorem dgt_drop(l:List Int)(i j:Nat):dgt (l.drop i) j=dgt l (i+j):=by unfold dgt;rw[qQ]
theorem dgt_take_lt{l:List Int}{n j:Nat}(h:j<n):dgt (l.take n) j=dgt l j:=by unfold dgt;rw[qy,zh h]
theorem top_two{l:List Int}{n:Nat}(hl:OkD l)(hn:2<=n)(hlen:l.length=n):∃Vl,val l=(dgt l (n-1)*1048576+dgt l (n-2))*1048576^(n-2)+Vl/\0<=Vl/\Vl<1048576^(n-2):=by
 refine⟨val (l.take (n-2)),?_,jam (hl.take _),jde hl _⟩;have h1:=jdf l (n-2);have h2:=jcz l (n-2);have h3:=jcz l (n-2+1);rw[show n-2+1=n-1 by omega]at h2 h3;rw[zZ (by omega:l.length<=n-1+1),show val []=0 from rfl,qW,yh]at h3;rw[h3]at h2;rw[h2]at h1;rw[h1,qX (1048576^(n-2))];have:dgt l (n-2)+1048576*dgt l (n-1)=dgt l (n-1)*1048576+dgt l (n-2):=by omega
 rw[this];omega
theorem top_three{l:List Int}{n:Nat}(hl:OkD l)(hn:2<=n)(hlen:l.length=n+1):∃Wl,val l=((dgt l n*1048576+dgt l (n-1))*1048576+dgt l (n-2))*1048576^(n-2)+Wl/\0<=Wl/\Wl<1048576^(n-2):=by
 refine⟨val (l.take (n-2)),?_,jam (hl.take _),jde hl _⟩;have h1:=jdf l (n-2);have h2:=jcz l (n-2);have h3:=jcz l (n-2+1);rw[show n-2+1=n-1 by omega]at h2 h3;have h4:=jcz l (n-1+1);rw[show n-1+1=n by omega]at h3 h4;rw[zZ (by omega:l.length<=n+1),show val []=0 from rfl,qW,yh]at h4;rw[h4]at h3;rw[h3]at h2;rw[h2]at h1;rw[h1,qX (1048576^(n-2))];have:dgt l (n-2)+1048576*(dgt l (n-1)+1048576*dgt l n)=(dgt l n*1048576+dgt l (n-1))*1048576+dgt l (n-2):=by omega
 rw[this];omega
theorem shifted{y s n:Nat}(hn:(dig y).length=n)(b3:1<=n)(h1:524288<=dgt (dig y) (n-1)*s)(h2:(dgt (dig y) (n-1)+1)*s<=1048576):
  (dig (y*s)).length=n/\524288<=dgt (dig (y*s)) (n-1)/\(524288:Int)*1048576^(n-1)<=((y*s:Nat):Int):=by
 have hv:=jaq y;have ho:=jbe y;have hs:=jdf (dig y) (n-1);have hd:=jcz (dig y) (n-1);rw[zZ (by omega:(dig y).length<=n-1+1),show val []=0 from rfl,qW,yh]at hd;rw[hd,hv]at hs;have h3:=jde ho (n-1);have h4:=jam (ho.take (n-1));have hp:=jdd (n-1);have b1:(1048576:Int)^n=1048576^(n-1)*1048576:=by rw[<-jcg,show n-1+1=n by omega]
 generalize dgt (dig y) (n-1)=t at*;generalize val ((dig y).take (n-1))=lo at*;generalize hP:(1048576:Int)^(n-1)=P at*;have a1:((y*s:Nat):Int)=lo*s+P*(t*s):=by rw[Int.natCast_mul,hs,yp,qI]
 have a6:(0:Int)<=s:=Int.natCast_nonneg s;have e1:0<=lo*s:=qM h4 a6;have e2:P*524288<=P*(t*s):=qq h1 (by omega);have e3:lo*s<=(P-1)*s:=qf (by omega) a6;have e4:(P-1)*s=P*s-s:=by rw[jT,yE]
 have e5:P*((t+1)*s)<=P*1048576:=qq h2 (by omega);have e6:P*((t+1)*s)=P*(t*s)+P*s:=by rw[yp,yE,qO]
 have b0:(1:Int)<=s:=by
  rcases yM s with h | h
  ·subst h;simp at h1
  ·omega
 have a8:(524288:Int)*P<=((y*s:Nat):Int):=by rw[a1,qX 524288];omega
 have b2:((y*s:Nat):Int)<1048576^n:=by rw[a1,b1];omega
 have hle:(dig (y*s)).length<=n:=jb2 b2;have hvv:=jaq (y*s);have a7:=jbe (y*s);have hlen:(dig (y*s)).length=n:=by
  rcases zT (dig (y*s)).length n with h | h
  ·have g1:=jde a7 (n-1);rw[jbx (by omega:(dig (y*s)).length<=n-1),hvv,hP]at g1;omega
  ·omega
 refine⟨hlen,?_,a8⟩;have g1:=jdf (dig (y*s)) (n-1);have g2:=jcz (dig (y*s)) (n-1);rw[zZ (by omega:(dig (y*s)).length<=n-1+1),show val []=0 from rfl,qW,yh]at g2;have g3:=jde a7 (n-1);rw[g2,hvv,hP]at g1;rw[hP]at g3;generalize dgt (dig (y*s)) (n-1)=t' at*;rcases yu t' 524288 with h | h
 ·have:P*t'<=P*524287:=qq (by omega) (by omega);omega
 ·exact h
end
section
set_option maxRecDepth 1000000
open Go.Abs
theorem pow2_ok{j:Nat}{t:Int}(hj:j<=20)(ht:1<=t)(h:t*((2^j:Nat):Int)<1048576):(t+1)*((2^j:Nat):Int)<=1048576:=by
 have h1:((2^(20-j):Nat):Int)*((2^j:Nat):Int)=1048576:=by
  rw[<-Int.natCast_mul,<-Nat.pow_add,show 20-j+j=20 by omega];rfl
 have hp:0<((2^j:Nat):Int):=by have:=Nat.two_pow_pos j;omega
 rw[<-h1]at h⊢;have h2:t<((2^(20-j):Nat):Int):=Int.lt_of_mul_lt_mul_right h (by omega);exact qf (by omega) (by omega)
theorem pow2_lt{j:Nat}(h:((2^j:Nat):Int)<524288):j<19:=by
 rcases zT j 19 with h1 | h1
 ·exact h1
 ·have:2^19<=2^j:=yk (by omega) h1;omega
theorem win_dgt{U:List Int}{m n k:Nat}(hk:k<n):dgt ((U.drop m).take n) k=dgt U (m+k):=by rw[dgt_take_lt hk,dgt_drop]
theorem jrx{U X:List Int}{i j:Nat}(hi:i<=U.length)(hj:j<i):dgt (winL U i X) j=dgt U j:=by
 unfold dgt winL;rw[qe,zK (by rw[qb];omega),qy,zh hj]
theorem winL_ok{U X:List Int}{i:Nat}(hU:OkD U)(hX:OkD X):OkD (winL U i X):=((hU.take i).append hX).append (hU.drop _)
theorem jrv{U X:List Int}{i:Nat}(hi:i+X.length<=U.length)(hz:val (U.drop (i+X.length))=0):val ((winL U i X).drop i)=val X:=by
 have hl:(U.take i).length=i:=by rw[qb];omega
 rw[winL,qe,List.drop_append_of_le_length (by omega),zZ (by omega),List.nil_append,jf3,hz,qW,yh]
theorem pad_ok(n v:Nat):OkD (padD n v):=(jbe v).append (OkD.replicate _)
theorem pad_val(n v:Nat):val (padD n v)=v:=by rw[padD,jf3,jdz,qW,yh,jaq]
theorem t_pdiv1(x y:Nat)(hy:0<y)(lx:(dig x).length<=50000000000)(ly:(dig y).length<=50000000000)(a6:x<y):Ctr G.P 94 [ints (dig x),ints (dig y)] (· = .tup [ints (dig (x/y)),ints (dig (x % y))]):=by
 have a1:=jg0 x y (by omega) (by omega);have hd:cmpI (x:Int) (y:Int)= -1:=iPo;rw[hd]at a1;have a7:=jl0 (dig x) (by omega);rw[jY a6,jD a6,jb4];simp only[ints]at a1 a7;have a8:decide ((-1:Int)<0)=true:=by decide
 refine ja4 [.tmp 4,.tmp 5] Tryz.func94 ?_;simp only[go_sem,ints,ic,mb20,pw20,fd20];refine ja0 a1 ?_;simp only[a8,go_sem,ints,ic,mb20,pw20,fd20];refine ja0 a7 ?_;simp only[zF,go_sem,ints,ic,mb20,pw20,fd20]
theorem t_pdiv2(x y:Nat)(hy:0<y)(lx:(dig x).length<=50000000000)(ly:(dig y).length<=50000000000)(b3:¬x<y)(h1:(dig y).length=1):Ctr G.P 94 [ints (dig x),ints (dig y)] (· = .tup [ints (dig (x/y)),ints (dig (x % y))]):=by
 have a1:=jg0 x y (by omega) (by omega);have b2:decide (cmpI (x:Int) (y:Int)<0)=false:=by
  refine ze ?_;rw[cmpI,iNo];split<;>omega
 have a8:y<1048576:=by
  have h2:=jdb (jbe y);rw[jaq,h1]at h2;omega
 have b1:dig y=[(y:Int)]:=by
  rw[jgn (by omega),jD a8,jY a8,jb4]
 have a7:=t_short (dig x) y (jbe x) (by omega) (by omega);rw[jaq,<-Int.natCast_ediv,<-Int.natCast_emod,Int.toNat_natCast]at a7;have b0:OkD [((x % y:Nat):Int)]:=OkD.cons (by have:=jO x hy;omega) OkD.nil;have a6:=jfs [((x % y:Nat):Int)] b0 (by simp);rw[jji,Int.toNat_natCast]at a6;rw[b1]at a1⊢;simp only[ints,zt,zF]at a1 a7 a6;refine ja4 [.tmp 4,.tmp 5] Tryz.func94 ?_;simp only[zt,zF,go_sem,ints,ic,mb20,pw20,fd20];refine ja0 a1 ?_;simp only[b2,zt,zF,Int.toNat_zero,yc,go_sem,ints,ic,mb20,pw20,fd20];refine ja0 a7 ?_;simp only[go_sem,ints,ic,mb20,pw20,fd20];refine ja0 a6 ?_;simp only[go_sem,ints,ic,mb20,pw20,fd20]
end
end Go.Proofs.YtjcjcpebocbonaaGreat
namespace Go.Abs
section
open Go.RowKit (Below)
def isSp(o:Oper):Bool:=
 match o.op with
 | .call c=>match c.callee with
  | .value _=>true
  | .builtin b=>match b with
   | .append=>true
   | _=>false
  | _=>false
 | _=>false
def spY(G:Ctx)(st:St)(o:Oper)(T:AV->Rows->Prop):Prop:=if isSp o=true then sp G st o T else aq G st o fun av=>T av st.rows
def spListY(G:Ctx)(Rs:Rows)(K:St->Prop):List Oper->St->Prop
 | [],st=>K st
 | o::r,st=>o.guard=none/\spY G st o fun av R'=>(∀k x,look Rs k=some x->look R' k=some x)/\spListY G Rs K r ((⟨st.fr,R',st.toks⟩:St).put o.dst av)
section
variable{G:Ctx}{N:Nat}{w0:Base}{w w':World}{M0:Nat->Nat->Prop}{β:Nat->Option Nat}{st st':St}{a:Act}{ops:List Oper}
end
section
variable{G:Ctx}
def spListYN(G:Ctx)(ops:List Oper)(K:St->Prop)(Rs:Rows)(d:Nat)(z:List IV)(a1 l:List Oper)(st:St):Prop:=
 spListY G Rs (fun s'=>NewH (fun a6=>alist G ops K l a6) s' z.length [z] d (fun b=> .loc (hp b) z.length 0 0)) a1 st
theorem spListYN_nil(ops:List Oper)(K:St->Prop)(Rs:Rows)(d:Nat)(z:List IV)(l:List Oper)(st:St):spListYN G ops K Rs d z [] l st=NewP z.length [z] d (K:=⟨fun s=>alist G ops K l s⟩) (A:=⟨(st,fun b=> .loc (hp b) z.length 0 0)⟩):=rfl
end
attribute [go_sem ↓] spListYN_nil
end
section
open Go.RowKit (Below)
def jh2(G:Ctx)(t:TypeId)(p x:AV)(R:Rows)(T:AV->Rows->Prop):Prop:=
 match x,p.dp with
 | .im y,.loc d s i j=>match look R d with
  | some (s',es)=>match es[i]? with
   | some c=>s'=s/\(G.ti t).size≠0/\(cellsOf y).length=(G.ti t).size/\(cellsOf y).all IV.one=true/\j+(G.ti t).size<=c.length/\
     T jcc (setRow R d s (es.set i (jbp c j (cellsOf y))))
   | none=>False
  | none=>False
 | _,_=>False
def spZ(G:Ctx)(st:St)(o:Oper)(T:AV->Rows->Prop):Prop:=
 match o.op with
 | .store t p x=>jh2 G t (evO st p) (evO st x) st.rows T
 | _=>if isSp o=true then sp G st o T else aq G st o fun av=>T av st.rows
def spZ1(G:Ctx)(st:St)(o:Oper)(T:AV->Rows->Prop):Prop:=
 match o.op with
 | .store t p x=>jh2 G t (evO st p) (evO st x) st.rows T
 | _=>if isSp o=true then sp G st o T else ∃av,qVal G st o av/\T av st.rows
def jk2(ops:Array Oper):Nat->Nat->Nat->Bool
 | 0,j,i=>Region.waitsFor .any ops j i
 | f+1,j,i=>Region.waitsFor .any ops j i || (List.range j).any fun l=>Region.waitsFor .any ops j l&&jk2 ops f l i
theorem waitsT_listed{ops:Array Oper}{n:Nat}{a1:Array Bool}(inv:HeadInv .any ops n a1)(hw:∀j i,Region.waitsFor .any ops j i=true->a1.getD j false=true->a1.getD i false=true):
  ∀(f j i:Nat),jk2 ops f j i=true->a1.getD j false=true->a1.getD i false=true:=by
 intro f
 induction f with
 | zero=>exact fun j i h hl=>hw j i h hl
 | succ f ih=>
  intro j i h hl;rw[jk2,qt]at h;rcases h with h | h
  ·exact hw j i h hl
  ·obtain⟨l,_,h2⟩:=jk.1 h;rw[zn]at h2;exact ih l i h2.2 (hw j l h2.1 hl)
theorem spZ_1{G:Ctx}{st:St}{o:Oper}{T:AV->Rows->Prop}(h:spZ G st o T):spZ1 G st o T:=by
 unfold spZ at h;unfold spZ1;split at h
 ·exact h
 ·by_cases hs:isSp o=true
  ·rw[zh hs]at h⊢;exact h
  ·rw[zl hs]at h⊢;obtain⟨av,h1,h2⟩:=jfv h;exact⟨av,h1,h2⟩
def isStZ(o:Oper):Bool:=
 match o.op with
 | .store _ _ _=>true
 | _=>false
def stZ(ops:Array Oper)(m:List Bool):Bool:=(List.range m.length).all fun i=>(List.range m.length).all fun j=> !(m.getD i false) || m.getD j false || (match ops[i]?,ops[j]? with
 | some oi,some oj=> !isStZ oi || !jg6 oj || Region.waitsFor .any ops i j
 | _,_=>true)
section
variable{G:Ctx}{N:Nat}{w0:Base}{w w':World}{M0:Nat->Nat->Prop}{β:Nat->Option Nat}{st st':St}{a:Act}{ops:List Oper}
theorem spZ_congr{o:Oper}{T:AV->Rows->Prop}(h:∀t∈o.looksAt ops.toArray,st.get t=st'.get t)(hr:st.rows=st'.rows)(ht:st.toks=st'.toks)(hs:spZ1 G st o T):spZ1 G st' o T:=by
 have hx:∀x∈o.op.operands,evO st x=evO st' x:=fun x hx=>jds fun t ht=>h t (jbt hx ht);unfold spZ1 at hs⊢;split at hs
 ·rename_i t p x ho;rw[ho]at hx;rw[<-hx p (by simp[Op.operands]),<-hx x (by simp[Op.operands]),<-hr];exact hs
 ·by_cases hp:isSp o=true
  ·rw[zh hp]at hs⊢;exact sp_congr h hr hs
  ·rw[zl hp]at hs⊢;obtain⟨av,h1,h2⟩:=hs;exact⟨av,jhs h hr ht h1,hr▸h2⟩
theorem spZ_sound(hG:G.Good)(h:Sim N w0 M0 β st a w){o:Oper}{T:AV->Rows->Prop}(hd:∀d,o.dst=some d->d<N)(hA:spZ1 G st o T){K':Act->World->Prop}{Q':Exit->Act->World->Prop}
  (hK:∀av R' β' a' w',T av R'->Sim N w0 M0 β' ((⟨st.fr,R',st.toks⟩:St).put o.dst av) a' w'->K' a' w'):o.wp G.P a w K' Q':=by
 unfold spZ1 at hA;split at hA
 ·rename_i t p x ho;have a1:aop G o (fun st'=>∃av R',st'=(⟨st.fr,R',st.toks⟩:St).put o.dst av/\T av R') st:=by
   unfold aop;rw[ho];dsimp only;unfold jh2 at hA;split at hA
   ·rename_i y d s i j hx hp;have hl:st.lendO x=st:=by
     unfold St.lendO;rw[hx]
    rw[hl];unfold jnq;rw[hx,hp];dsimp only[ivE,ivOf];split at hA
    ·rename_i s' es a6;rw[a6];dsimp only;split at hA
     ·rename_i c hc;rw[hc];obtain⟨h1,h2,h3,h4,h5,h6⟩:=hA;exact⟨h1,h2,h3,h4,h5,_,_,rfl,h6⟩
     ·exact hA.elim
    ·exact hA.elim
   ·exact hA.elim
  refine jeo hG h hd a1 ?_;rintro st' β' a' w' ⟨av,R',rfl,hT⟩ hs;exact hK av R' β' a' w' hT hs
 ·by_cases hp:isSp o=true
  ·rw[zh hp]at hA;exact sp_sound hG h hd hA hK
  ·rw[zl hp]at hA;obtain⟨av,h1,h2⟩:=hA;refine jcs hG h h1 fun v w2 hb hv=>hK av st.rows β _ w2 h2 ?_;exact(h.ext hb).put (dst:=o.dst) hd hv
end
section
variable{G:Ctx}
def jrl(G:Ctx)(t:TypeId)(p x:AV)(R:Rows)[T:Hold (Rows->Prop)]:Prop:=jh2 G t p x R fun _ R'=>T.val R'
theorem jk3{t:TypeId}{p x:AV}{R:Rows}{T T':AV->Rows->Prop}(h:jh2 G t p x R T)(hT:∀av R',T av R'->T' av R'):jh2 G t p x R T':=by
 unfold jh2 at h⊢;split at h
 ·split at h
  ·split at h
   ·obtain⟨h1,h2,h3,h4,h5,h6⟩:=h;exact⟨h1,h2,h3,h4,h5,hT _ _ h6⟩
   ·exact h.elim
  ·exact h.elim
 ·exact h.elim
theorem SpStore_loc(t:TypeId)(d s i j:Nat)(y:IV)(R:Rows)(T:Rows->Prop): @jrl G t (.loc d s i j) (.im y) R ⟨T⟩=Opt (look R d) (K:=⟨fun p=>Opt p.2[i]? (K:=⟨fun c=>p.1=s/\(G.ti t).size≠0/\(cellsOf y).length=(G.ti t).size/\(cellsOf y).all IV.one=true/\j+(G.ti t).size<=c.length/\
  T (setRow R d s (p.2.set i (jbp c j (cellsOf y))))⟩)⟩):=by
 unfold jrl jh2 Opt AV.dp;dsimp only;cases h:look R d with
 | none=>rfl
 | some p=>
  obtain⟨s',es⟩:=p;dsimp only;cases es[i]? <;>rfl
end
attribute [go_sem ↓] SpStore_loc
end
section
open Go.RowKit (Below)
inductive OT where
 | fin:OT
 | none:OT
 | alt:Nat->OT->OT->OT
def OT.heads:OT->List Nat
 | .alt i _ r=>i::r.heads
 | _=>[]
def OT.emp:OT->Bool
 | .fin=>true
 | _=>false
def OT.cov(ops:Array Oper)(t:OT)(rem:List Nat):Bool:=(t.emp==rem.isEmpty)&&rem.all fun i=>t.heads.contains i || rem.any fun j=>jk2 ops 3 i j
def OT.ok(ops:Array Oper):OT->List Nat->Bool
 | .alt i s r,rem=>s.cov ops (rem.filter (· !=i))&&s.ok ops (rem.filter (· !=i))&&r.ok ops rem
 | _,_=>true
def okT(ops:Array Oper)(t:OT)(rem:List Nat):Bool:=t.cov ops rem&&t.ok ops rem
def drawN(ops:Array Oper)(m:List Bool):Bool:=
 drawB ops m.length&&(List.range m.length).all (fun j=>(List.range j).all fun i=>
  (!(m.getD i false&& !(m.getD j false)) || (match ops[i]?,ops[j]? with
   | some oi,some oj=>oi.apart ops oj
   | _,_=>false)))
def spMk(G:Ctx)(d:Nat)(t:TypeId)(l c:AV)(R:Rows)(T:AV->Rows->Prop):Prop:=
 match l,c with
 | .im (.sc (.int _ n)),.im (.sc (.int _ m))=>match(G.ti t).kind with
  | .sl e=>match jd3 G e with
   | some z=>G.perm.contains d=true/\(G.ti t).size≠0/\n=m/\0<=n/\n*(G.ti e).bytes<=140737488355328/\(G.ti e).bytes≠0/\
     ∀b,look R (hp b)=none->T (.im (.ref b e (G.ti e).size (List.replicate n.toNat z).length)) ((hp b,(G.ti e).size,List.replicate n.toNat z)::R)
   | none=>False
  | _=>False
 | _,_=>False
def spN(G:Ctx)(st:St)(o:Oper)(T:AV->Rows->Prop):Prop:=
 match o.op with
 | .alloc t=>match o.dst,jd3 G t with
  | some d,some z=>G.perm.contains d=true/\∀b,look st.rows (hp b)=none->T (.loc (hp b) z.length 0 0) ((hp b,z.length,[z])::st.rows)
  | _,_=>False
 | .makeSlice t l c=>match o.dst with
  | some d=>spMk G d t (evO st l) (evO st c) st.rows T
  | none=>False
 | _=>spZ G st o T
def spN1(G:Ctx)(st:St)(o:Oper)(T:AV->Rows->Prop):Prop:=
 match o.op with
 | .alloc t=>match o.dst,jd3 G t with
  | some d,some z=>G.perm.contains d=true/\∀b,look st.rows (hp b)=none->T (.loc (hp b) z.length 0 0) ((hp b,z.length,[z])::st.rows)
  | _,_=>False
 | .makeSlice t l c=>match o.dst with
  | some d=>spMk G d t (evO st l) (evO st c) st.rows T
  | none=>False
 | _=>spZ1 G st o T
def gOk(ops:List Oper)(st:St)(o:Oper):Prop:=match o.guard with
 | none=>True
 | some (j,want)=>jcx st ops j=some (some want)
theorem gOk_congr{ops:List Oper}{st st':St}{o:Oper}(h:∀t∈o.looksAt ops.toArray,st.get t=st'.get t)(hg:gOk ops st o):gOk ops st' o:=by
 unfold gOk at hg⊢;cases a1:o.guard with
 | none=>trivial
 | some p=>
  obtain⟨j,want⟩:=p;rw[a1]at hg;dsimp only at hg⊢;rw[<-hg];unfold jcx;cases ho:ops[j]? with
  | none=>rfl
  | some oj=>
   cases hd:oj.dst with
   | none=>simp only[hd]
   | some t=>
    have:t∈o.looksAt ops.toArray:=by
     have a6:ops.toArray[j]? =some oj:=by simpa using ho
     simp[Oper.looksAt,a1,a6,ho,hd]
    simp only[hd,h t this]
theorem gOk_wanted{N:Nat}{w0:Base}{M0:Nat->Nat->Prop}{β:Nat->Option Nat}{st:St}{a:Act}{w:World}{ops:List Oper}{o:Oper}(h:Sim N w0 M0 β st a w)(hg:gOk ops st o):Region.wanted o (yielded ops.toArray a.tmps)=true:=by
 unfold gOk at hg;cases a1:o.guard with
 | none=>simp[Region.wanted,a1]
 | some p=>
  obtain⟨j,want⟩:=p;rw[a1]at hg;simp[Region.wanted,a1,jdu h hg]
def spO(G:Ctx)(kp:Bool)(ops:List Oper)(K:St->Prop):OT->Rows->St->Prop
 | .fin,_,st=>K st
 | .none,_,_=>True
 | .alt i s r,Rs,st=>(match ops[i]? with
  | some o=>gOk ops st o/\spN G st o fun av R'=>(∀k x,look (if(isStZ o&& !kp)=true then []else Rs) k=some x->look R' k=some x)/\spO G kp ops K s (if(isStZ o&& !kp)=true then []else Rs) ((⟨st.fr,R',st.toks⟩:St).put o.dst av)
  | none=>False)/\spO G kp ops K r Rs st
theorem okT_nil{ops:Array Oper}{t:OT}(h:okT ops t []=true):t= .fin:=by
 cases t with
 | fin=>rfl
 | none=>cases h
 | alt i s r=>cases h
theorem okT_head{ops:Array Oper}{t:OT}{rem:List Nat}{i:Nat}(h:okT ops t rem=true)(hi:i∈rem)(hw:∀j∈rem,jk2 ops 3 i j=false):i∈t.heads:=by
 unfold okT OT.cov at h;rw[zn,zn]at h;have:=List.all_eq_true.1 h.1.2 i hi;rw[qt]at this;rcases this with h | h
 ·simpa using h
 ·obtain⟨j,hj,e⟩:=jk.1 h;rw[hw j hj]at e;cases e
theorem jpw{G:Ctx}{kp:Bool}{ops:List Oper}{K:St->Prop}{Rs:Rows}{st:St}{rem:List Nat}{i:Nat}:∀{t:OT},t.ok ops.toArray rem=true->i∈t.heads->spO G kp ops K t Rs st->
  ∃t2:OT,okT ops.toArray t2 (rem.filter (· !=i))=true/\match ops[i]? with
  | some o=>gOk ops st o/\spN G st o fun av R'=>(∀k x,look (if(isStZ o&& !kp)=true then []else Rs) k=some x->look R' k=some x)/\spO G kp ops K t2 (if(isStZ o&& !kp)=true then []else Rs) ((⟨st.fr,R',st.toks⟩:St).put o.dst av)
  | none=>False
 | .fin,_,hi,_=>by cases hi
 | .none,_,hi,_=>by cases hi
 | .alt j s r,h,hi,hs=>by
  rw[OT.ok,zn,zn]at h;rcases zL.1 hi with e | hi
  ·subst e;exact⟨s,by unfold okT;rw[h.1.1,h.1.2];rfl,hs.1⟩
  ·exact jpw h.2 hi hs.2
theorem spO_head{G:Ctx}{kp:Bool}{ops:List Oper}{K:St->Prop}{Rs:Rows}{st:St}{rem:List Nat}{i:Nat}{t:OT}(h:okT ops.toArray t rem=true)(hi:i∈t.heads)(hs:spO G kp ops K t Rs st):
  ∃t2:OT,okT ops.toArray t2 (rem.filter (· !=i))=true/\match ops[i]? with
  | some o=>gOk ops st o/\spN G st o fun av R'=>(∀k x,look (if(isStZ o&& !kp)=true then []else Rs) k=some x->look R' k=some x)/\spO G kp ops K t2 (if(isStZ o&& !kp)=true then []else Rs) ((⟨st.fr,R',st.toks⟩:St).put o.dst av)
  | none=>False:=jpw (by unfold okT at h;rw[zn]at h;exact h.2) hi hs
theorem spN_1{G:Ctx}{st:St}{o:Oper}{T:AV->Rows->Prop}(h:spN G st o T):spN1 G st o T:=by
 unfold spN at h;unfold spN1;split at h
 ·exact h
 ·exact h
 ·exact spZ_1 h
section
variable{G:Ctx}{kp:Bool}{N:Nat}{w0:Base}{w w':World}{M0:Nat->Nat->Prop}{β:Nat->Option Nat}{st st':St}{a:Act}{ops:List Oper}
theorem spN_congr{o:Oper}{T:AV->Rows->Prop}(h:∀t∈o.looksAt ops.toArray,st.get t=st'.get t)(hr:st.rows=st'.rows)(ht:st.toks=st'.toks)(hs:spN1 G st o T):spN1 G st' o T:=by
 have hx:∀x∈o.op.operands,evO st x=evO st' x:=fun x hx=>jds fun t ht=>h t (jbt hx ht);unfold spN1 at hs⊢;split at hs
 ·rw[<-hr];exact hs
 ·rename_i t l c ho;rw[ho]at hx;rw[<-hx l (by simp[Op.operands]),<-hx c (by simp[Op.operands]),<-hr];exact hs
 ·exact spZ_congr h hr ht hs
theorem spN_sound(hG:G.Good)(h:Sim N w0 M0 β st a w){o:Oper}{T:AV->Rows->Prop}(hd:∀d,o.dst=some d->d<N)(hA:spN1 G st o T){K':Act->World->Prop}{Q':Exit->Act->World->Prop}
  (hK:∀av R' β' a' w',T av R'->Sim N w0 M0 β' ((⟨st.fr,R',st.toks⟩:St).put o.dst av) a' w'->K' a' w'):o.wp G.P a w K' Q':=by
 unfold spN1 at hA;split at hA
 ·rename_i t ho;have a8:aop G o (fun st'=>∃av R',st'=(⟨st.fr,R',st.toks⟩:St).put o.dst av/\T av R') st:=by
   unfold aop;rw[ho];dsimp only;split at hA
   ·rename_i d z h1 h2;rw[h1,h2];dsimp only;rw[zh hA.1];exact fun b hb=>⟨_,_,rfl,hA.2 b hb⟩
   ·exact hA.elim
  refine jeo hG h hd a8 ?_;rintro st' β' a' w' ⟨av,R',rfl,hT⟩ hs;exact hK av R' β' a' w' hT hs
 ·rename_i t l c ho;have a8:aop G o (fun st'=>∃av R',st'=(⟨st.fr,R',st.toks⟩:St).put o.dst av/\T av R') st:=by
   unfold aop;rw[ho];dsimp only;split at hA
   ·rename_i d h1;rw[h1];unfold spMk at hA;unfold aMake;split at hA
    ·rename_i k n k' m h2 h3;rw[h2,h3];dsimp only;split at hA
     ·rename_i e h4;rw[h4];dsimp only;split at hA
      ·rename_i z h5;rw[h5];obtain⟨a1,a2,a3,a4,a5,a6,a7⟩:=hA;refine⟨a2,a3,a4,a5,a6,?_⟩;rw[zh a1];exact fun b hb=>⟨_,_,rfl,a7 b hb⟩
      ·exact hA.elim
     ·exact hA.elim
    ·exact hA.elim
   ·exact hA.elim
  refine jeo hG h hd a8 ?_;rintro st' β' a' w' ⟨av,R',rfl,hT⟩ hs;exact hK av R' β' a' w' hT hs
 ·exact spZ_sound hG h hd hA hK
theorem draw_soundN(hG:G.Good)(id:Nat)(m:List Bool)(t0:OT)(Rs:Rows)(hX:drawN ops.toArray m=true)(hZ:(kp || stZ ops.toArray m)=true)(r7:okT ops.toArray t0 ((List.range m.length).filter fun i=>m.getD i false)=true)(n3:∀o∈ops,∀d,o.dst=some d->d<N){K:St->Prop}{Q':Exit->Act->World->Prop}
  (hK:∀st' β' a' w',K st'->Sim N w0 M0 β' st' a' w'->Q' .normal a' w') (h:Sim N w0 M0 β st a w) (r8:∀k x,look Rs k=some x->look st.rows k=some x)
  (hA:jgb G ops (fun s=>spO G kp ops (fun s'=>alist G ops K (ops.drop m.length) s') t0 Rs ⟨s.fr,st.rows,s.toks⟩) m ops ⟨st.fr,Rs,st.toks⟩):(Code.region id ops.toArray true).wp G.P Q' a w:=by
 rw[drawN,zn]at hX;obtain⟨hB,hS⟩:=hX;simp only[drawB,zn,zO,qt,yB]at hB;obtain⟨⟨⟨⟨hn,k9⟩,l6⟩,l3⟩,o2⟩:=hB;have l4:ops.toArray.size=ops.length:=by simp
 have h0:m.length<=ops.length:=by rw[<-l4];exact hn
 obtain⟨b0,o3,o9⟩:=jjv m ops _ h0 hA;generalize p7:m.length=n at*;have e5:∀i,i<n->(ops.take n)[i]? =ops[i]? :=fun i hi=>by rw[qy,zh hi]
 have e0:∀i o,(ops.take n)[i]? =some o->i<n/\ops[i]? =some o:=fun i o hi=>by
  rw[qy]at hi;split at hi
  ·exact⟨‹_›,hi⟩
  ·cases hi
 have arr:∀(i:Nat) (o:Oper),ops[i]? =some o->ops.toArray[i]? =some o:=fun i o h=>by simpa using h
 have b7:∀i j oi oj,i<j->j<n->ops[i]? =some oi->ops[j]? =some oj->Region.waitsFor .any ops.toArray j i=true\/oi.apart ops.toArray oj=true:=by
  intro i j oi oj n0 hj h1 h2;have:=List.all_eq_true.1 (List.all_eq_true.1 l6 j (qx.2 hj)) i (qx.2 n0);rw[arr i oi h1,arr j oj h2]at this
  simpa using this
 have e9:∀i j oi oj,i<j->j<n->m.getD i false=true->m.getD j false=false->ops[i]? =some oi->ops[j]? =some oj->oi.apart ops.toArray oj=true:=by
  intro i j oi oj n0 hj h1 h2 h3 h4;have:=List.all_eq_true.1 (List.all_eq_true.1 hS j (qx.2 hj)) i (qx.2 n0);rw[h1,h2,arr i oi h3,arr j oj h4]at this
  simpa using this
 have o0:∀(i j:Nat) oi oj,i<n->j<n->m.getD i false=true->m.getD j false=false->ops[i]? =some oi->ops[j]? =some oj->kp=false->isStZ oi=true->jg6 oj=true->Region.waitsFor .any ops.toArray i j=true:=by
  intro i j oi oj hi hj h1 h2 h3 h4 p9 h5 h6;rw[p9,yn]at hZ;unfold stZ at hZ;rw[p7]at hZ;have:=List.all_eq_true.1 (List.all_eq_true.1 hZ i (qx.2 hi)) j (qx.2 hj);rw[h1,h2,arr i oi h3,arr j oj h4]at this
  simpa [h5,h6]using this
 have k5:∀(j:Nat) oj,ops[j]? =some oj->∀e∈oj.after,Region.binds .any e=true->e.on<j:=by
  intro j oj hj e he hb;have r0:j<ops.toArray.size:=by rw[l4];exact(zr.1 hj).1
  have:=List.all_eq_true.1 k9 j (qx.2 r0);rw[arr j oj hj]at this;have:=jQ.1 this e he
  simpa [hb]using this
 have main:∀c (a1:Array Bool) (a:Act) (w:World),cntB a1 n=c->HeadInv .any ops.toArray n a1->
   (∃(res:Nat->AV) (β:Nat->Option Nat) (R h7:Rows) (s:St),(∀i,i<n->m.getD i false=false->res i=b0 i)/\Sim N w0 M0 β (stUp res (fun i=>a1.getD i false) (ops.take n) ⟨st.fr,R,st.toks⟩) a w/\
    ((∀k x,look h7 k=some x->look R k=some x)/\(h7=Rs\/∀(j:Nat) oj,j<n->m.getD j false=false->a1.getD j false=false->ops[j]? =some oj->jg6 oj=false))/\(∃t1:OT,okT ops.toArray t1 ((List.range n).filter (fun i=>m.getD i false&& !(a1.getD i false)))=true/\spO G kp ops (fun s'=>alist G ops K (ops.drop n) s') t1 h7 s)/\s.rows=R/\s.toks=st.toks/\
    ∀t,s.get t=(stUp res (fun i=>hd m i || a1.getD i false) (ops.take n) ⟨st.fr,R,st.toks⟩).get t)->wpAny G.P .any ops.toArray Q' (c+(ops.toArray.size-n)) a1 a w:=by
  intro c
  induction c with
  | zero=>
   rintro a1 a w hc inv ⟨res,β,R,h7,s,k2,hs,⟨h9,h0⟩,b9,k8,k0,k1⟩;rw[qi];have e4:=jfh hc;have p1:a1=jen n ops.toArray.size:=by
    apply Array.ext
    ·rw[inv.size];simp[jen]
    ·intro i h1 h2;have l9:i<ops.length:=by rw[inv.size]at h1;simpa using h1
     by_cases b5:i<n
     ·have:=e4 i b5;have e1:a1[i]=true:=by simpa [h1]using this
      rw[e1];simp[jen,b5]
     ·have:=inv.tail i (by omega) (by rw[inv.size]at h1;exact h1);have e1:a1[i]=false:=by simpa [h1]using this
      rw[e1];simp[jen,b5]
   have o5:(List.range n).filter (fun i=>m.getD i false&& !(a1.getD i false))=[]:=List.filter_eq_nil_iff.2 fun k hk=>by
    rw[e4 k (qx.1 hk)];simp
   obtain⟨t1,h8,b9⟩:=b9;rw[o5]at h8;have:=okT_nil h8;subst this;have p4:Sim N w0 M0 β s a w:=by
    refine hs.congr (fun t=> ?_) ?_ ?_
    ·rw[k1];exact jbz _ _ _ _ _ _ rfl fun i o hi _=>by rw[e4 i (e0 i o hi).1];simp
    ·rw[(jaa _ _ _ _).1,k8]
    ·rw[(jaa _ _ _ _).2,k0]
   have l7:=jfi hG hK (ops.drop n) _ β a w (fun o ho=>n3 o (yq ho)) b9 p4;have p0:(ops.drop n).length=ops.toArray.size-n:=by simp
   have:=wpAny_of_seq (P:=G.P) (md:= .any) (Q':=Q') (ops.drop n) n a1 a w (fun j=>by simp[qQ]) (by rw[p1,p0];exact o2) l7
   rwa [p0]at this
  | succ c ih=>
   rintro a1 a w hc inv ⟨res,β,R,h7,s,k2,hs,⟨h9,h0⟩,b9,k8,k0,k1⟩;obtain⟨i0,n1,l0,o6⟩:=jhz (by omega:cntB a1 n≠0);have hL:∀i,i<n->(a1.getD i true=false↔a1.getD i false=false):=fun i hi=>by
    have:i<a1.size:=by rw[inv.size];omega
    simp[this]
   have c9:i0∈Region.ready .any ops.toArray a1:=by
    have l9:i0<ops.length:=by rw[<-l4];omega
    refine mem_ready.2 ⟨(hL i0 n1).2 l0,ops[i0],arr i0 _ (zw l9),fun e he hb=>o6 _ (k5 i0 _ (zw l9) e he hb)⟩
   have n2:(Region.ready .any ops.toArray a1=[]->Q' .normal a w)/\∀i∈Region.ready .any ops.toArray a1,wpOp G.P ops.toArray Q' i (wpAny G.P .any ops.toArray Q' (c+(ops.toArray.size-n)) (a1.setIfInBounds i true)) a w:=by
    refine⟨fun hr=>(by rw[hr]at c9;cases c9),fun i hi=> ?_⟩;obtain⟨p2,oi,k4,e4⟩:=mem_ready.1 hi;have a6:ops[i]? =some oi:=by simpa using k4
    have o8:i<ops.toArray.size:=(zm.1 k4).1;have b5:i<n:=by
     rcases zT i n with h' | h'
     ·exact h'
     ·rcases l3 with e | ⟨hsink,hchain⟩
      ·omega
      ·exact absurd hi (tail_waits hsink hchain (by omega) inv _ i0 rfl n1 ((hL i0 n1).2 l0) i h')
    have c4:a1.getD i false=false:=(hL i b5).1 p2;have c3:∀k,Region.waitsFor .any ops.toArray i k=true->a1.getD k false=true:=fun k hk=>by
     obtain⟨oj,c6,e,he,hb,k3⟩:=Region.waitsFor_spec hk;rw[k4]at c6;cases c6;rw[<-k3];exact e4 e he hb
    have k7:∀k,jk2 ops.toArray 3 i k=true->a1.getD k false=true:=fun k hk=>by
     rw[jk2,qt]at hk;rcases hk with h | h
     ·exact c3 k h
     ·obtain⟨l,_,h2⟩:=jk.1 h;rw[zn]at h2;refine waitsT_listed inv (fun j i hw hl=> ?_) 2 l k h2.2 (c3 l h2.1);obtain⟨oj,c6,e,he,hb,k3⟩:=Region.waitsFor_spec hw;rw[<-k3];exact inv.closed j oj c6 hl e he hb
    have e7:∀k,Region.waitsFor .any ops.toArray k i=true->a1.getD k false=false:=fun k hk=>by
     obtain⟨ok,a8,e,he,hb,k3⟩:=Region.waitsFor_spec hk;cases hl:a1.getD k false with
     | false=>rfl
     | true=>
      have:=inv.closed k ok a8 hl e he hb;rw[k3,c4]at this;cases this
    have l1:i<a1.size:=by rw[inv.size];exact o8
    have l2:cntB (a1.setIfInBounds i true) n=c:=by
     have:=jhy l1 c4 n;rw[zh b5]at this;omega
    have b3:∀k,k≠i->(a1.setIfInBounds i true).getD k false=a1.getD k false:=fun k hk=>getD_set_ne false (zH hk);have c7:(a1.setIfInBounds i true).getD i false=true:=by simp[l1]
    have e8:∀(t:Nat),oi.dst=some t->∀k ok,i<k->(ops.take n)[k]? =some ok->a1.getD k false=true->ok.dst≠some t:=by
     intro t b1 k ok e3 hk c5 b2;obtain⟨c8,a8⟩:=e0 k ok hk;rcases b7 i k oi ok e3 c8 a6 a8 with hw | b6
     ·rw[e7 k hw]at c5;cases c5
     ·exact(Oper.apart_spec b6).2.1 t b1 b2
    cases b8:m.getD i false with
    | false=>
     have r2:hd m i=true:=by unfold hd;rw[b8];rfl
     have c0:∀t∈oi.looksAt ops.toArray,(stUp b0 (fun k=>hd m k&&decide (k<i)) ops ⟨st.fr,R,st.toks⟩).get t=(stUp res (fun k=>a1.getD k false) (ops.take n) ⟨st.fr,R,st.toks⟩).get t:=by
      intro t ht;have e1:(stUp b0 (fun k=>hd m k&&decide (k<i)) ops ⟨st.fr,R,st.toks⟩).get t=(stUp b0 (fun k=>hd m k&&decide (k<i)) (ops.take n) ⟨st.fr,R,st.toks⟩).get t:=by
       have:∀(l:List Oper) (r:Nat->AV) (L:Nat->Bool) (n:Nat) (s:St),(∀k,n<=k->L k=false)->(stUp r L l s).get t=(stUp r L (l.take n) s).get t:=by
        intro l
        induction l with
        | nil=>intros;simp
        | cons o l ih=>
         intro r L n s hk;cases n with
         | zero=>
          have hf:∀(l:List Oper) (res:Nat->AV) (L:Nat->Bool) (st:St),(∀i,L i=false)->stUp res L l st=st:=by
           intro l
           induction l with
           | nil=>intros;rfl
           | cons o l ih=>
            intro res L st hL;simp only[stUp,hL 0];exact ih _ _ _ fun i=>hL (i+1)
          rw[hf _ _ _ _ fun i=>hk i (zG _)];rfl
         | succ n=>exact ih _ _ n _ fun k r9=>hk (k+1) (by omega)
       exact this _ _ _ _ _ fun k hk=>by simp;omega
      rw[e1];refine jio _ _ _ _ _ _ _ rfl fun k ok hk b2=> ?_;obtain⟨c8,a8⟩:=e0 k ok hk;cases b4:m.getD k false with
      | true=>
       have b6:ok.apart ops.toArray oi=true\/oi.apart ops.toArray ok=true\/a1.getD k false=false:=by
        rcases qS k i with a7 | a7 | a7
        ·exact .inl (e9 k i ok oi a7 b5 b4 b8 a8 a6)
        ·subst a7;rw[b8]at b4;cases b4
        ·rcases b7 i k oi ok a7 c8 a6 a8 with hw | b6
         ·exact .inr (.inr (e7 k hw))
         ·exact .inr (.inl b6)
       have hh:hd m k=false:=by unfold hd;rw[b4];rfl
       rcases b6 with b6 | b6 | b6
       ·exact absurd ht ((Oper.apart_spec b6).1 t b2)
       ·exact absurd ht ((Oper.apart_spec b6).2.2 t b2)
       ·rw[hh,b6];simp
      | false=>
       have hh:hd m k=true:=by unfold hd;rw[b4];rfl
       refine⟨?_,fun _=>(k2 k c8 b4).symm⟩;rw[hh];rcases qS k i with a7 | a7 | a7
       ·rcases b7 k i ok oi a7 b5 a8 a6 with hw | b6
        ·rw[c3 k hw];simp[a7]
        ·exact absurd ht ((Oper.apart_spec b6).1 t b2)
       ·subst a7;rw[c4];simp
       ·rcases b7 i k oi ok a7 c8 a6 a8 with hw | b6
        ·rw[e7 k hw];simp;omega
        ·exact absurd ht ((Oper.apart_spec b6).2.2 t b2)
     have p6:=o3 i oi (by omega) b8 a6;have p5:qStep G ops (stUp b0 (fun k=>hd m k&&decide (k<i)) ops ⟨st.fr,R,st.toks⟩) oi (b0 i):=by
      have:=jn1 (r:=R) (h0.elim (fun e=> .inr fun d x hx=>h9 d x (by rw[e];rwa [(jaa _ _ _ _).1]at hx)) (fun hh=> .inl (hh i oi b5 b8 c4 a6))) p6;refine jf9 (fun t _=> ?_) ?_ ?_ this
      ·show(stUp b0 (fun k=>hd m k&&decide (k<i)) ops ⟨st.fr,Rs,st.toks⟩).get t=_;exact jbz _ _ _ _ _ _ rfl fun _ _ _ _=>rfl
      ·show R=_;rw[(jaa _ _ _ _).1]
      ·show(stUp b0 (fun k=>hd m k&&decide (k<i)) ops ⟨st.fr,Rs,st.toks⟩).toks=_;rw[(jaa _ _ _ _).2,(jaa _ _ _ _).2]
     have hq:qStep G ops (stUp res (fun k=>a1.getD k false) (ops.take n) ⟨st.fr,R,st.toks⟩) oi (res i):=by
      rw[k2 i b5 b8];exact jf9 c0 (by rw[(jaa _ _ _ _).1,(jaa _ _ _ _).1]) (by rw[(jaa _ _ _ _).2,(jaa _ _ _ _).2]) p5
     have next:∀v w2,Below w.heap.size w w2->RepA w2 (Mo M0 β (stUp res (fun k=>a1.getD k false) (ops.take n) ⟨st.fr,R,st.toks⟩)) β (stUp res (fun k=>a1.getD k false) (ops.take n) ⟨st.fr,R,st.toks⟩).toks (res i) v->
       wpAny G.P .any ops.toArray Q' (c+(ops.toArray.size-n)) (a1.setIfInBounds i true) (a.put oi.dst v) w2:=by
      intro v w2 hb hv;have l5:=(hs.ext hb).put (dst:=oi.dst) (n3 oi (zk a6)) hv;refine ih _ _ _ l2 (inv.set hi b5) ⟨res,β,R,h7,s,k2,l5.congr (fun t=> ?_) ?_ ?_,⟨h9,h0.imp (fun e=>e) fun hh j oj hj e6 e2 c6=>hh j oj hj e6 (by
       by_cases e:j=i
       ·subst e;exact c4
       ·rw[b3 j e]at e2;exact e2) c6⟩,?_,k8,k0,fun t=> ?_⟩
      ·by_cases b1:oi.dst=some t
       ·rw[b1,jby];refine(jej (ops.take n) res _ _ i oi (by rw[e5 i b5];exact a6) b1 c7 fun k ok e3 hk c5=> ?_).symm;rw[b3 k (by omega)]at c5;exact e8 t b1 k ok e3 hk c5
       ·rw[jdl b1];refine jbz _ _ _ _ _ _ rfl fun k ok hk b2=> ?_;have:k≠i:=fun e=>by
         subst e;obtain⟨_,a8⟩:=e0 k ok hk;rw[a6]at a8;cases a8;exact b1 b2
        exact(b3 k this).symm
      ·rw[show((stUp res (fun k=>a1.getD k false) (ops.take n) ⟨st.fr,R,st.toks⟩).put oi.dst (res i)).rows=(stUp res (fun k=>a1.getD k false) (ops.take n) ⟨st.fr,R,st.toks⟩).rows by unfold St.put;split<;>rfl,(jaa _ _ _ _).1,(jaa _ _ _ _).1]
      ·rw[show((stUp res (fun k=>a1.getD k false) (ops.take n) ⟨st.fr,R,st.toks⟩).put oi.dst (res i)).toks=(stUp res (fun k=>a1.getD k false) (ops.take n) ⟨st.fr,R,st.toks⟩).toks by unfold St.put;split<;>rfl,(jaa _ _ _ _).2,(jaa _ _ _ _).2]
      ·have e:(fun k=>m.getD k false&& !((a1.setIfInBounds i true).getD k false))=fun k=>m.getD k false&& !(a1.getD k false):=by
        funext k;by_cases hk:k=i
        ·subst hk;rw[b8];rfl
        ·rw[b3 k hk]
       rw[e];exact b9
      ·rw[k1];refine jbz _ _ _ _ _ _ rfl fun k ok hk b2=> ?_;by_cases hk:k=i
       ·subst hk;rw[r2];rfl
       ·rw[b3 k hk]
     unfold wpOp;rw[k4];dsimp only;unfold qStep at hq;cases hg:oi.guard with
     | none=>
      rw[hg]at hq;rw[zh (by simp[Region.wanted,hg])];exact .inl (jcs hG hs hq next)
     | some p=>
      obtain⟨j,want⟩:=p;rw[hg]at hq;dsimp only at hq;split at hq
      ·rename_i b hy;have k6:=jdu hs hy;by_cases hb:b=want
       ·rw[zh hb]at hq;rw[zh (by simp[Region.wanted,hg,k6,hb])];exact .inl (jcs hG hs hq next)
       ·rw[zl hb]at hq;rw[zl (by simp[Region.wanted,hg,k6,hb])];exact next _ w (Below.refl _ _) (by rw[hq];exact Rep.sc _ rfl)
      ·rename_i hy;have k6:=jea hs hy;rw[zl (by simp[Region.wanted,hg,k6])];exact next _ w (Below.refl _ _) (by rw[hq];exact Rep.sc _ rfl)
      ·exact hq.elim
    | true=>
     obtain⟨t1,h8,b9⟩:=b9;have o7:i∈(List.range n).filter (fun k=>m.getD k false&& !(a1.getD k false)):=jL.2 ⟨qx.2 b5,by rw[b8,c4];rfl⟩;obtain⟨t2,p3,b9⟩:=spO_head h8 (okT_head h8 o7 fun j hj=>by
      have:=(jL.1 hj).2;cases hw:jk2 ops.toArray 3 i j with
      | false=>rfl
      | true=>rw[k7 j hw]at this;simp at this) b9
     rw[a6]at b9;obtain⟨hg,b9⟩:=b9;have n9:okT ops.toArray t2 ((List.range n).filter (fun k=>m.getD k false&& !((a1.setIfInBounds i true).getD k false)))=true:=by
      refine Eq.trans ?_ p3;rw[List.filter_filter];congr 1;refine wy fun k _=> ?_;by_cases hk:k=i
      ·subst hk;rw[c7];simp
      ·rw[b3 k hk];simp[hk]
     have c0:∀t∈oi.looksAt ops.toArray,s.get t=(stUp res (fun k=>a1.getD k false) (ops.take n) ⟨st.fr,R,st.toks⟩).get t:=by
      intro t ht;rw[k1];refine jbz _ _ _ _ _ _ rfl fun k ok hk b2=> ?_;obtain⟨c8,a8⟩:=e0 k ok hk;cases b4:m.getD k false with
      | true=>
       have hh:hd m k=false:=by unfold hd;rw[b4];rfl
       rw[hh];rfl
      | false=>
       rcases qS k i with a7 | a7 | a7
       ·rcases b7 k i ok oi a7 b5 a8 a6 with hw | b6
        ·rw[c3 k hw];simp
        ·exact absurd ht ((Oper.apart_spec b6).1 t b2)
       ·subst a7;rw[b8]at b4;cases b4
       ·exact absurd ht ((Oper.apart_spec (e9 i k oi ok a7 c8 b8 b4 a6 a8)).2.2 t b2)
     have o1:=spN_congr c0 (by rw[k8,(jaa _ _ _ _).1]) (by rw[k0,(jaa _ _ _ _).2]) (spN_1 b9);have r3:=gOk_wanted hs (gOk_congr c0 hg);unfold wpOp;rw[k4];dsimp only;rw[zh r3];refine .inl (spN_sound hG hs (n3 oi (zk a6)) o1 fun av R' β' a' w' ⟨r6,r5⟩ l5=> ?_);refine ih _ _ _ l2 (inv.set hi b5) ⟨fun k=>if k=i then av else res k,β',R',_,_,fun k hk b4=> ?_,l5.congr (fun t=> ?_) ?_ ?_,⟨r6,?_⟩,⟨t2,n9,r5⟩,?_,?_,fun t=> ?_⟩
     ·show(if k=i then av else res k)=b0 k;rw[zl (fun e=>by subst e;rw[b8]at b4;cases b4)];exact k2 k hk b4
     ·by_cases b1:oi.dst=some t
      ·rw[b1,jby];have:=jej (ops.take n) (fun k=>if k=i then av else res k) (fun k=>(a1.setIfInBounds i true).getD k false) ⟨st.fr,R',st.toks⟩ i oi (by rw[e5 i b5];exact a6) b1 c7 fun k ok e3 hk c5=>by
        rw[b3 k (by omega)]at c5;exact e8 t b1 k ok e3 hk c5
       rw[this,zh rfl]
      ·rw[jdl b1];have e1:(⟨(stUp res (fun k=>a1.getD k false) (ops.take n) ⟨st.fr,R,st.toks⟩).fr,R',(stUp res (fun k=>a1.getD k false) (ops.take n) ⟨st.fr,R,st.toks⟩).toks⟩:St).get t=(stUp res (fun k=>a1.getD k false) (ops.take n) ⟨st.fr,R,st.toks⟩).get t:=rfl;rw[e1];refine jio _ _ _ _ _ _ _ rfl fun k ok hk b2=> ?_;have a7:k≠i:=fun e=>by
        subst e;obtain⟨_,a8⟩:=e0 k ok hk;rw[a6]at a8;cases a8;exact b1 b2
       exact⟨(b3 k a7).symm,fun _=>(zl a7).symm⟩
     ·rw[show ∀(x:St),(x.put oi.dst av).rows=x.rows from fun x=>by unfold St.put;split<;>rfl,(jaa _ _ _ _).1]
     ·rw[show ∀(x:St),(x.put oi.dst av).toks=x.toks from fun x=>by unfold St.put;split<;>rfl];show(stUp _ _ _ _).toks=(stUp _ _ _ _).toks;rw[(jaa _ _ _ _).2,(jaa _ _ _ _).2]
     ·cases l8:(isStZ oi&& !kp)with
      | false=>
       rw[zl (by decide)];exact h0.imp (fun e=>e) fun hh j oj hj e6 e2 c6=>hh j oj hj e6 (by
        by_cases e:j=i
        ·subst e;exact c4
        ·rw[b3 j e]at e2;exact e2) c6
      | true=>
       rw[zn,yR]at l8;refine .inr fun j oj hj e6 e2 c6=> ?_;cases p8:jg6 oj with
       | false=>rfl
       | true=>
        have r1:j≠i:=fun e=>by subst e;rw[b8]at e6;cases e6
        have:=c3 j (o0 i j oi oj b5 hj b8 e6 a6 c6 l8.2 l8.1 p8);rw[b3 j r1,this]at e2;cases e2
     ·unfold St.put;split<;>rfl
     ·rw[show ∀(x:St),(x.put oi.dst av).toks=x.toks from fun x=>by unfold St.put;split<;>rfl];exact k0
     ·by_cases b1:oi.dst=some t
      ·rw[b1,jby];have:=jej (ops.take n) (fun k=>if k=i then av else res k) (fun k=>hd m k || (a1.setIfInBounds i true).getD k false) ⟨st.fr,R',st.toks⟩ i oi (by rw[e5 i b5];exact a6) b1 (by rw[c7];simp) fun k ok e3 hk c5 b2=>by
        obtain⟨c8,a8⟩:=e0 k ok hk;cases b4:m.getD k false with
        | true=>
         have hh:hd m k=false:=by unfold hd;rw[b4];rfl
         rw[hh,yn,b3 k (by omega)]at c5;exact e8 t b1 k ok e3 hk c5 b2
        | false=>exact(Oper.apart_spec (e9 i k oi ok e3 c8 b8 b4 a6 a8)).2.1 t b1 b2
       rw[this,zh rfl]
      ·rw[jdl b1];have e1:(⟨s.fr,R',s.toks⟩:St).get t=s.get t:=rfl;rw[e1,k1];refine jio _ _ _ _ _ _ _ rfl fun k ok hk b2=> ?_;have a7:k≠i:=fun e=>by
        subst e;obtain⟨_,a8⟩:=e0 k ok hk;rw[a6]at a8;cases a8;exact b1 b2
       exact⟨by rw[b3 k a7],fun _=>(zl a7).symm⟩
   have:c+1+(ops.toArray.size-n)=(c+(ops.toArray.size-n))+1:=by omega
   rw[this];exact n2
 refine wp_region_any hG.mixed ?_;have n4:HeadInv .any ops.toArray n (Array.replicate ops.toArray.size false):=
  ⟨by simp,fun j oj _ hl=>(by rw[getD_replicate_false]at hl;cases hl),fun t _ ht=>getD_in (by simpa using ht) (getD_replicate_false _ _)⟩
 have r4:∀k,cntB (Array.replicate ops.toArray.size false) k=k:=fun k=>by
  induction k with
  | zero=>rfl
  | succ k ihk=>simp only[cntB,ihk,getD_replicate_false];simp
 have hf:∀(l:List Oper) (res:Nat->AV) (L:Nat->Bool) (st:St),(∀i,L i=false)->stUp res L l st=st:=by
  intro l
  induction l with
  | nil=>intros;rfl
  | cons o l ih=>
   intro res L st hL;simp only[stUp,hL 0];exact ih _ _ _ fun i=>hL (i+1)
 have:=main n (Array.replicate ops.toArray.size false) a _ (r4 n) n4 ⟨b0,β,st.rows,Rs,⟨(stUp b0 (hd m) (ops.take n) ⟨st.fr,Rs,st.toks⟩).fr,st.rows,(stUp b0 (hd m) (ops.take n) ⟨st.fr,Rs,st.toks⟩).toks⟩,fun _ _ _=>rfl,h.drew.congr (fun t=>by
  rw[hf _ _ _ _ fun i=>getD_replicate_false _ _]) (jaa _ _ _ _).1.symm (jaa _ _ _ _).2.symm,⟨r8,.inl rfl⟩,(by
   refine⟨t0,?_,o9⟩;have e:(fun i=>m.getD i false&& !((Array.replicate ops.toArray.size false).getD i false))=fun i=>m.getD i false:=by
    funext i;rw[getD_replicate_false];simp
   rw[e];exact r7),rfl,(jaa _ _ _ _).2,fun t=>by
   show(stUp b0 (hd m) (ops.take n) ⟨st.fr,Rs,st.toks⟩).get t=_;exact jbz _ _ _ _ _ _ rfl fun k _ _ _=>by rw[getD_replicate_false];simp⟩
 rwa [show n+(ops.toArray.size-n)=ops.toArray.size by omega]at this
end
section
variable{G:Ctx}{kp:Bool}
def spOL(G:Ctx)(kp:Bool)(ops:List Oper)(K:St->Prop)(l:List Oper)(t:OT)(Rs:Rows)(st:St):Prop:=spO G kp ops (fun s=>alist G ops K l s) t Rs st
def jfj(G:Ctx)(kp:Bool)(ops:List Oper)(K:St->Prop)(R0 Rs:Rows)(t:OT)(m:List Bool)(l:List Oper)(st:St):Prop:=
 jgb G ops (fun s=>spOL G kp ops K (l.drop m.length) t Rs ⟨s.fr,R0,s.toks⟩) m l st
theorem jtq{ops:List Oper}{Q:Exit->St->Prop}{st:St}(m:List Bool)(t:OT)(Rs:Rows)(h:(drawN ops.toArray m&&stZ ops.toArray m&&okT ops.toArray t ((List.range m.length).filter fun i=>m.getD i false))=true)(hs:SubR Rs st.rows)
  (hA:jfj G false ops (Q .normal) st.rows Rs t m ops ⟨st.fr,Rs,st.toks⟩): @DrawP G ⟨ops⟩ ⟨Q⟩ st:=by
 rw[zn,zn]at h;exact DrawSem_of fun N w0 M0 β a w id Q' hG hd hK a1=>draw_soundN (kp:=false) hG id m t Rs h.1.1 h.1.2 h.2 hd hK a1 hs hA
theorem aheadTN_nil(ops:List Oper)(K:St->Prop)(R0 Rs:Rows)(t:OT)(l:List Oper)(st:St):jfj G kp ops K R0 Rs t [] l st=spOL G kp ops K l t Rs ⟨st.fr,R0,st.toks⟩:=by
 unfold jfj jgb;simp
theorem aheadTN_true(ops:List Oper)(K:St->Prop)(R0 Rs:Rows)(t:OT)(m:List Bool)(o:Oper)(l:List Oper)(st:St):
  jfj G kp ops K R0 Rs t (true::m) (o::l) st=jfj G kp ops K R0 Rs t m l st:=by
 simp only[jfj,List.length_cons,je]
 conv=>lhs;unfold jgb
theorem aheadTN_free(ops:List Oper)(K:St->Prop)(R0 Rs:Rows)(t:OT)(m:List Bool)(dst:Option Tmp)(op:Op)(ty:TypeId)(pos:String)(af:Array Edge)(r:List Oper)(st:St):
  jfj G kp ops K R0 Rs t (false::m) (⟨dst,op,ty,pos,af,.none⟩::r) st=aq G st ⟨dst,op,ty,pos,af,.none⟩ (fun av=>jfj G kp ops K R0 Rs t m r (st.put dst av)):=by
 simp only[jfj,List.length_cons,je]
 conv=>lhs;unfold jgb
def SpOne(G:Ctx)(kp:Bool)(ops:List Oper)(K:St->Prop)(l:List Oper)(o:Option Oper)(s:OT)(Rs:Rows)(st:St):Prop:=match o with
 | some o=>gOk ops st o/\spN G st o fun av R'=>(∀k x,look (if(isStZ o&& !kp)=true then []else Rs) k=some x->look R' k=some x)/\spOL G kp ops K l s (if(isStZ o&& !kp)=true then []else Rs) ((⟨st.fr,R',st.toks⟩:St).put o.dst av)
 | .none=>False
theorem spOL_fin(ops:List Oper)(K:St->Prop)(l:List Oper)(Rs:Rows)(st:St):spOL G kp ops K l .fin Rs st=alist G ops K l st:=propext ⟨fun h=>h,fun h=>h⟩
theorem spOL_one(ops:List Oper)(K:St->Prop)(l:List Oper)(i:Nat)(s:OT)(Rs:Rows)(st:St):spOL G kp ops K l (.alt i s .none) Rs st=SpOne G kp ops K l ops[i]? s Rs st:=propext ⟨fun h=>h.1,fun h=>⟨h,trivial⟩⟩
theorem spOL_alt(ops:List Oper)(K:St->Prop)(l:List Oper)(i j:Nat)(s r r':OT)(Rs:Rows)(st:St):spOL G kp ops K l (.alt i s (.alt j r r')) Rs st=(SpOne G kp ops K l ops[i]? s Rs st/\spOL G kp ops K l (.alt j r r') Rs st):=propext ⟨fun h=>h,fun h=>h⟩
def NewT(R:Rows)[T:Hold (Nat->Prop)]:Prop:=∀b,look R (hp b)=none->T.val b
theorem jro{R:Rows}{T:Nat->Prop}(h:∀b,look R (hp b)=none->T b): @NewT R ⟨T⟩:=h
theorem SpOne_alloc(ops:List Oper)(K:St->Prop)(l:List Oper)(d:Tmp)(t:TypeId)(ty:TypeId)(pos:String)(af:Array Edge)(s:OT)(Rs:Rows)(st:St):
  SpOne G kp ops K l (some ⟨some d,.alloc t,ty,pos,af,.none⟩) s Rs st=Opt (jd3 G t) (K:=⟨fun z=>G.perm.contains d=true/\NewT st.rows (T:=⟨fun b=>SubR Rs ((hp b,z.length,[z])::st.rows)/\spOL G kp ops K l s Rs ((⟨st.fr,(hp b,z.length,[z])::st.rows,st.toks⟩:St).put (some d) (.loc (hp b) z.length 0 0))⟩)⟩):=by
 unfold SpOne spN Opt;dsimp only;cases jd3 G t with
 | none=>exact propext ⟨fun h=>h.2,fun h=>h.elim⟩
 | some z=>exact propext ⟨fun h=>h.2,fun h=>⟨trivial,h⟩⟩
theorem SpOne_call(ops:List Oper)(K:St->Prop)(l:List Oper)(dst:Option Tmp)(f:Operand)(a1:Array Operand)(ts:Array TypeId)(ty:TypeId)(pos:String)(af:Array Edge)(s:OT)(Rs:Rows)(st:St):
  SpOne G kp ops K l (some ⟨dst,.call ⟨.value f,a1,ts⟩,ty,pos,af,.none⟩) s Rs st=SpCall G (evO st f) (a1.toList.map (evO st)) st.rows (T:=⟨fun av R'=>SubR Rs R'/\spOL G kp ops K l s Rs ((⟨st.fr,R',st.toks⟩:St).put dst av)⟩):=
 propext ⟨fun h=>h.2,fun h=>⟨trivial,h⟩⟩
theorem SpOne_build(ops:List Oper)(K:St->Prop)(l:List Oper)(dst:Option Tmp)(t:TypeId)(fs:Array (Nat×Operand))(ty:TypeId)(pos:String)(af:Array Edge)(s:OT)(Rs:Rows)(st:St):
  SpOne G kp ops K l (some ⟨dst,.build t fs,ty,pos,af,.none⟩) s Rs st=aq G st ⟨dst,.build t fs,ty,pos,af,.none⟩ (fun av=>SubR Rs st.rows/\spOL G kp ops K l s Rs ((⟨st.fr,st.rows,st.toks⟩:St).put dst av)):=
 propext ⟨fun h=>h.2,fun h=>⟨trivial,h⟩⟩
end
theorem jd9{L R:Rows}{d:Nat}{v:Nat×List (List IV)}(h:look R d=some v)(hs:SubR L R):SubR ((d,v)::L) R:=fun k x hk=>by
 by_cases e:k=d
 ·subst e;rw[ja2]at hk;cases hk;exact h
 ·rw[ja1 _ _ e]at hk;exact hs k x hk
attribute [go_sem ↓] aheadTN_nil aheadTN_true aheadTN_free spOL_fin spOL_one spOL_alt SpOne_alloc SpOne_call SpOne_build
end
section
section
variable{G:Ctx}{kp:Bool}
theorem SpOne_load(ops:List Oper)(K:St->Prop)(l:List Oper)(dst:Option Tmp)(t:TypeId)(p:Operand)(ty:TypeId)(pos:String)(af:Array Edge)(s:OT)(Rs:Rows)(st:St):
  SpOne G kp ops K l (some ⟨dst,.load t p,ty,pos,af,.none⟩) s Rs st=aq G st ⟨dst,.load t p,ty,pos,af,.none⟩ (fun av=>SubR Rs st.rows/\spOL G kp ops K l s Rs ((⟨st.fr,st.rows,st.toks⟩:St).put dst av)):=
 propext ⟨fun h=>h.2,fun h=>⟨trivial,h⟩⟩
theorem SpOne_fieldAddr(ops:List Oper)(K:St->Prop)(l:List Oper)(dst:Option Tmp)(t:TypeId)(p:Operand)(k:Nat)(ty:TypeId)(pos:String)(af:Array Edge)(s:OT)(Rs:Rows)(st:St):
  SpOne G kp ops K l (some ⟨dst,.fieldAddr t p k,ty,pos,af,.none⟩) s Rs st=aq G st ⟨dst,.fieldAddr t p k,ty,pos,af,.none⟩ (fun av=>SubR Rs st.rows/\spOL G kp ops K l s Rs ((⟨st.fr,st.rows,st.toks⟩:St).put dst av)):=
 propext ⟨fun h=>h.2,fun h=>⟨trivial,h⟩⟩
theorem SpOne_nilCheck(ops:List Oper)(K:St->Prop)(l:List Oper)(dst:Option Tmp)(p:Operand)(ty:TypeId)(pos:String)(af:Array Edge)(s:OT)(Rs:Rows)(st:St):
  SpOne G kp ops K l (some ⟨dst,.nilCheck p,ty,pos,af,.none⟩) s Rs st=aq G st ⟨dst,.nilCheck p,ty,pos,af,.none⟩ (fun av=>SubR Rs st.rows/\spOL G kp ops K l s Rs ((⟨st.fr,st.rows,st.toks⟩:St).put dst av)):=
 propext ⟨fun h=>h.2,fun h=>⟨trivial,h⟩⟩
theorem SpOne_store(ops:List Oper)(K:St->Prop)(l:List Oper)(t:TypeId)(p x:Operand)(ty:TypeId)(pos:String)(af:Array Edge)(s:OT)(Rs:Rows)(st:St):
  SpOne G false ops K l (some ⟨none,.store t p x,ty,pos,af,.none⟩) s Rs st=jrl G t (evO st p) (evO st x) st.rows (T:=⟨fun R'=>spOL G false ops K l s [] ⟨st.fr,R',st.toks⟩⟩):=by
 apply propext;constructor
 ·intro h;have h2:=h.2;unfold spN spZ at h2;dsimp only at h2;exact jk3 h2 fun _ _ h=>h.2
 ·intro h;refine⟨trivial,?_⟩;unfold spN spZ;dsimp only;exact jk3 h fun _ _ h=>⟨(fun k x hk=>by cases hk),h⟩
end
attribute [go_sem ↓] SpOne_load SpOne_fieldAddr SpOne_nilCheck SpOne_store
