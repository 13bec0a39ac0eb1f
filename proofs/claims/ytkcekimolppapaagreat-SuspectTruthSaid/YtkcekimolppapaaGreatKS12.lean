/- A part of the proof. No further condition. -/
import Derived.Test.YtkcekimolppapaaGreatKS11
set_option linter.all false
set_option maxRecDepth 10000000
set_option maxHeartbeats 16000000
namespace Go.Abs
section
theorem ex2(x y D:Int):(x*1048576+y)*D=1048576*(x*D)+y*D:=by
 rw[yU,yF x,qU]
theorem ex3(g x y D z:Int):g*((x*1048576+y)*D+z)=1048576*(g*x*D)+g*y*D+g*z:=by
 rw[ex2,qJ,qJ,vw g,<-qU g,<-qU g]
theorem knuth_first{g rest top v1 v2 w V W D Vl Wl:Int}(hD:0<D)(hV:V=(v1*1048576+v2)*D+Vl)(hVl:0<=Vl)(hv2:0<=v2)(hW:W=(top*1048576+w)*D+Wl)(hWl:Wl<D)
  (hw:w<1048576) (hg:g*v1+rest=top) (hr:rest<v1) (g0:0<=g):W<(g+1)*V:=by
 have h1:0<=g*(v2*D):=qZ g0 (qZ hv2 (by omega));have h1':0<=g*Vl:=qZ g0 hVl;have h1'':0<=v2*D:=qZ hv2 (by omega);have h2:(top+1)*D<=(g*v1+v1)*D:=qC (by omega) (by omega);have h3:w*D<=1048575*D:=qC (by omega) (by omega);have e:(g+1)*V=g*V+V:=by rw[yU,yT]
 rw[yU,yU,yT]at h2;rw[<-qU]at h1;have e2:g*V=1048576*(g*v1*D)+g*v2*D+g*Vl:=by rw[hV,ex3]
 have e3:V=1048576*(v1*D)+v2*D+Vl:=by rw[hV,ex2]
 have e4:W=1048576*(top*D)+w*D+Wl:=by rw[hW,ex2]
 rw[e,e2,e3,e4];clear hV hW e e2 e3 e4;omega
theorem knuth_down{g rest top v1 v2 w V W D Vl Wl:Int}(hD:0<D)(hV:V=(v1*1048576+v2)*D+Vl)(hVl:0<=Vl)(hW:W=(top*1048576+w)*D+Wl)(hWl:Wl<D)
  (hg:g*v1+rest=top) (g0:0<=g) (h:rest*1048576+w<g*v2):W<g*V:=by
 have h1:0<=g*Vl:=qZ g0 hVl;have h2:(rest*1048576+w+1)*D<=(g*v2)*D:=qC (by omega) (by omega);have h3:(g*v1+rest)*D=top*D:=by rw[hg]
 rw[yU,ex2,yT]at h2;rw[yU]at h3;have e2:g*V=1048576*(g*v1*D)+g*v2*D+g*Vl:=by rw[hV,ex3]
 have e4:W=1048576*(top*D)+w*D+Wl:=by rw[hW,ex2]
 rw[e2,e4];clear hV hW e2 e4;omega
theorem jn3{g rest top v1 v2 w V W D Vl Wl:Int}(hD:0<D)(hV:V=(v1*1048576+v2)*D+Vl)(hVl:Vl<D)(hW:W=(top*1048576+w)*D+Wl)(hWl:0<=Wl)
  (hg:g*v1+rest=top) (g0:1<=g) (g1:g<1048576) (hv1:1<=v1) (hv2:0<=v2/\v2<1048576) (hw:0<=w) (h:1048576<=rest\/g*v2<=rest*1048576+w):(g-1)*V<=W:=by
 have h0:g*v2<=rest*1048576+w:=by
  rcases h with h | h
  ·have:g*v2<=1048575*1048575:=vz (by omega) (by omega) hv2.1 (by omega);omega
  ·exact h
 have h1:(g-1)*Vl<=(g-1)*D:=qg (by omega) (by omega);have h2:(g*v2)*D<=(rest*1048576+w)*D:=qC h0 (by omega);have h3:(g*v1+rest)*D=top*D:=by rw[hg]
 have h4:(g-1)*D<=(v1*1048576+v2)*D:=qC (by omega) (by omega);rw[ex2]at h2;rw[yU]at h3;rw[ex2]at h4;have e:(g-1)*V=g*V-V:=by rw[jW,yT]
 have e2:g*V=1048576*(g*v1*D)+g*v2*D+g*Vl:=by rw[hV,ex3]
 have e3:V=1048576*(v1*D)+v2*D+Vl:=by rw[hV,ex2]
 have e4:W=1048576*(top*D)+w*D+Wl:=by rw[hW,ex2]
 have e5:(g-1)*Vl=g*Vl-Vl:=by rw[jW,yT]
 have e6:(g-1)*D=g*D-D:=by rw[jW,yT]
 rw[e5,e6]at h1;rw[e6]at h4;rw[e,e2,e3,e4];clear hV hW e e2 e3 e4 e5 e6;omega
theorem jpr{g V W:Int}(hV:0<V)(h1:W<(g+1)*V)(h2:0<=W-g*V\/0<=W-(g-1)*V):
  (if 0<=W-g*V then g else g-1)=W/V/\W-(if 0<=W-g*V then g else g-1)*V=W % V:=by
 have key:∀q:Int,0<=W-q*V->W-q*V<V->q=W/V/\W-q*V=W % V:=fun q hq0 hq1=>by
  have hq:W/V=q:=by
   rw[show W=(W-q*V)+q*V by omega,Int.add_mul_ediv_right _ _ (by omega),Int.ediv_eq_zero_of_lt hq0 hq1,jt]
  refine⟨hq.symm,?_⟩;have:=qY W V;rw[hq,yF]at this;omega
 have e1:(g+1)*V=g*V+V:=by rw[yU,yT]
 have e2:(g-1)*V=g*V-V:=by rw[jW,yT]
 split
 ·rename_i h;exact key g h (by omega)
 ·rename_i h;exact key (g-1) (h2.resolve_left h) (by omega)
end
end Go.Abs
namespace Go.Proofs.YtkcekimolppapaaGreat
section
open Go.Abs
attribute [local go_sem] ints ic mb20 pw20 fd20
theorem dgt_drop(l:List Int)(i j:Nat):dgt (l.drop i) j=dgt l (i+j):=by unfold dgt;rw[qt]
theorem dgt_take_lt{l:List Int}{n j:Nat}(h:j<n):dgt (l.take n) j=dgt l j:=by unfold dgt;rw[qb,zm h]
theorem top_two{l:List Int}{n:Nat}(hl:OkD l)(hn:2<=n)(hlen:l.length=n):∃Vl,val l=(dgt l (n-1)*1048576+dgt l (n-2))*1048576^(n-2)+Vl/\0<=Vl/\Vl<1048576^(n-2):=by
 refine⟨val (l.take (n-2)),?_,jb3 (hl.take _),jdt hl _⟩;have h1:=jde l (n-2);have h2:=jd5 l (n-2);have h3:=jd5 l (n-2+1);rw[show n-2+1=n-1 by omega]at h2 h3;rw[qy (by omega:l.length<=n-1+1),show val []=0 from rfl,yn,yM]at h3;rw[h3]at h2;rw[h2]at h1;rw[h1,yF (1048576^(n-2))];have:dgt l (n-2)+1048576*dgt l (n-1)=dgt l (n-1)*1048576+dgt l (n-2):=by omega
 rw[this];omega
theorem top_three{l:List Int}{n:Nat}(hl:OkD l)(hn:2<=n)(hlen:l.length=n+1):∃Wl,val l=((dgt l n*1048576+dgt l (n-1))*1048576+dgt l (n-2))*1048576^(n-2)+Wl/\0<=Wl/\Wl<1048576^(n-2):=by
 refine⟨val (l.take (n-2)),?_,jb3 (hl.take _),jdt hl _⟩;have h1:=jde l (n-2);have h2:=jd5 l (n-2);have h3:=jd5 l (n-2+1);rw[show n-2+1=n-1 by omega]at h2 h3;have h4:=jd5 l (n-1+1);rw[show n-1+1=n by omega]at h3 h4;rw[qy (by omega:l.length<=n+1),show val []=0 from rfl,yn,yM]at h4;rw[h4]at h3;rw[h3]at h2;rw[h2]at h1;rw[h1,yF (1048576^(n-2))];have:dgt l (n-2)+1048576*(dgt l (n-1)+1048576*dgt l n)=(dgt l n*1048576+dgt l (n-1))*1048576+dgt l (n-2):=by omega
 rw[this];omega
theorem shifted{y s n:Nat}(hn:(dig y).length=n)(hn1:1<=n)(h1:524288<=dgt (dig y) (n-1)*s)(h2:(dgt (dig y) (n-1)+1)*s<=1048576):
  (dig (y*s)).length=n/\524288<=dgt (dig (y*s)) (n-1)/\(524288:Int)*1048576^(n-1)<=((y*s:Nat):Int):=by
 have hv:=jb5 y;have ho:=jc4 y;have hs:=jde (dig y) (n-1);have hd:=jd5 (dig y) (n-1);rw[qy (by omega:(dig y).length<=n-1+1),show val []=0 from rfl,yn,yM]at hd;rw[hd,hv]at hs;have h3:=jdt ho (n-1);have h4:=jb3 (ho.take (n-1));have hp:=jds (n-1);have hpn:(1048576:Int)^n=1048576^(n-1)*1048576:=by rw[<-jdk,show n-1+1=n by omega]
 generalize dgt (dig y) (n-1)=t at*;generalize val ((dig y).take (n-1))=lo at*;generalize hP:(1048576:Int)^(n-1)=P at*;have hys:((y*s:Nat):Int)=lo*s+P*(t*s):=by rw[Int.natCast_mul,hs,yU,qU]
 have hs0:(0:Int)<=s:=Int.natCast_nonneg s;have e1:0<=lo*s:=qZ h4 hs0;have e2:P*524288<=P*(t*s):=qg h1 (by omega);have e3:lo*s<=(P-1)*s:=qC (by omega) hs0;have e4:(P-1)*s=P*s-s:=by rw[jW,yT]
 have e5:P*((t+1)*s)<=P*1048576:=qg h2 (by omega);have e6:P*((t+1)*s)=P*(t*s)+P*s:=by rw[yU,yT,qJ]
 have hspos:(1:Int)<=s:=by
  rcases ye s with h | h
  ·subst h;simp at h1
  ·omega
 have lo1:(524288:Int)*P<=((y*s:Nat):Int):=by rw[hys,yF 524288];omega
 have hi1:((y*s:Nat):Int)<1048576^n:=by rw[hys,hpn];omega
 have hle:(dig (y*s)).length<=n:=jc3 hi1;have hvv:=jb5 (y*s);have hoo:=jc4 (y*s);have hlen:(dig (y*s)).length=n:=by
  rcases zU (dig (y*s)).length n with h | h
  ·have g1:=jdt hoo (n-1);rw[jc6 (by omega:(dig (y*s)).length<=n-1),hvv,hP]at g1;omega
  ·omega
 refine⟨hlen,?_,lo1⟩;have g1:=jde (dig (y*s)) (n-1);have g2:=jd5 (dig (y*s)) (n-1);rw[qy (by omega:(dig (y*s)).length<=n-1+1),show val []=0 from rfl,yn,yM]at g2;have g3:=jdt hoo (n-1);rw[g2,hvv,hP]at g1;rw[hP]at g3;generalize dgt (dig (y*s)) (n-1)=t' at*;rcases yS t' 524288 with h | h
 ·have:P*t'<=P*524287:=qg (by omega) (by omega);omega
 ·exact h
end
section
open Go.Abs
theorem pow2_ok{j:Nat}{t:Int}(hj:j<=20)(ht:1<=t)(h:t*((2^j:Nat):Int)<1048576):(t+1)*((2^j:Nat):Int)<=1048576:=by
 have h1:((2^(20-j):Nat):Int)*((2^j:Nat):Int)=1048576:=by
  rw[<-Int.natCast_mul,<-Nat.pow_add,show 20-j+j=20 by omega];rfl
 have hp:0<((2^j:Nat):Int):=by have:=Nat.two_pow_pos j;omega
 rw[<-h1]at h⊢;have h2:t<((2^(20-j):Nat):Int):=Int.lt_of_mul_lt_mul_right h (by omega);exact qC (by omega) (by omega)
theorem pow2_lt{j:Nat}(h:((2^j:Nat):Int)<524288):j<19:=by
 rcases zU j 19 with h1 | h1
 ·exact h1
 ·have:2^19<=2^j:=qS (by omega) h1;omega
theorem win_dgt{U:List Int}{m n k:Nat}(hk:k<n):dgt ((U.drop m).take n) k=dgt U (m+k):=by rw[dgt_take_lt hk,dgt_drop]
theorem jrw{U X:List Int}{i j:Nat}(hi:i<=U.length)(hj:j<i):dgt (winL U i X) j=dgt U j:=by
 unfold dgt winL;rw[zS,zM (by rw[zY];omega),qb,zm hj]
theorem winL_ok{U X:List Int}{i:Nat}(hU:OkD U)(hX:OkD X):OkD (winL U i X):=((hU.take i).append hX).append (hU.drop _)
theorem jru{U X:List Int}{i:Nat}(hi:i+X.length<=U.length)(hz:val (U.drop (i+X.length))=0):val ((winL U i X).drop i)=val X:=by
 have hl:(U.take i).length=i:=by rw[zY];omega
 rw[winL,zS,List.drop_append_of_le_length (by omega),qy (by omega),List.nil_append,jf7,hz,yn,yM]
theorem jrc{n v:Nat}(h:(dig v).length<=n):(padD n v).length=n:=by rw[padD,zG,zT];omega
theorem pad_ok(n v:Nat):OkD (padD n v):=(jc4 v).append (OkD.replicate _)
theorem pad_val(n v:Nat):val (padD n v)=v:=by rw[padD,jf7,jdx,yn,yM,jb5]
theorem pad_take{n v:Nat}:(padD n v).take (dig v).length=dig v:=by rw[padD,jU (zt _),qe]
theorem t_pdiv1(x y:Nat)(hy:0<y)(lx:(dig x).length<=50000000000)(ly:(dig y).length<=50000000000)(hlt:x<y):Ctr G.P 161 [ints (dig x),ints (dig y)] (· = .tup [ints (dig (x/y)),ints (dig (x % y))]):=by
 have hcmp:=jg3 x y (by omega) (by omega);have hd:cmpI (x:Int) (y:Int)= -1:=zm (by omega);rw[hd]at hcmp;have hcl:=jh1 (dig x) (by omega);rw[jO hlt,jp hlt,jbz];simp only[ints]at hcmp hcl;have hdd:decide ((-1:Int)<0)=true:=by decide
 refine ja5 [.tmp 4,.tmp 5] Tryz.func161 ?_;simp only[go_sem,ints,ic,mb20,pw20,fd20];refine ja1 hcmp ?_;simp only[hdd,go_sem,ints,ic,mb20,pw20,fd20];refine ja1 hcl ?_;simp only[zF,go_sem,ints,ic,mb20,pw20,fd20]
theorem t_pdiv2(x y:Nat)(hy:0<y)(lx:(dig x).length<=50000000000)(ly:(dig y).length<=50000000000)(hlt:¬x<y)(h1:(dig y).length=1):Ctr G.P 161 [ints (dig x),ints (dig y)] (· = .tup [ints (dig (x/y)),ints (dig (x % y))]):=by
 have hcmp:=jg3 x y (by omega) (by omega);have hd0:decide (cmpI (x:Int) (y:Int)<0)=false:=by
  refine zw ?_;rw[cmpI,zn (by omega)];split<;>omega
 have hy1:y<1048576:=by
  have h2:=jep (jc4 y);rw[jb5,h1]at h2;omega
 have hdy:dig y=[(y:Int)]:=by
  rw[jgs (by omega),jp hy1,jO hy1,jbz]
 have hsh:=t_short (dig x) y (jc4 x) (by omega) (by omega);rw[jb5,<-Int.natCast_ediv,<-Int.natCast_emod,Int.toNat_natCast]at hsh;have hok:OkD [((x % y:Nat):Int)]:=OkD.cons (by have:=jN x hy;omega) OkD.nil;have htr:=jfc [((x % y:Nat):Int)] hok (by simp);rw[jnp,Int.toNat_natCast]at htr;rw[hdy]at hcmp⊢;simp only[ints,zB,zF]at hcmp hsh htr;refine ja5 [.tmp 4,.tmp 5] Tryz.func161 ?_;simp only[zB,zF,go_sem,ints,ic,mb20,pw20,fd20];refine ja1 hcmp ?_;simp only[hd0,zB,zF,Int.toNat_zero,yq,go_sem,ints,ic,mb20,pw20,fd20];refine ja1 hsh ?_;simp only[go_sem,ints,ic,mb20,pw20,fd20];refine ja1 htr ?_;simp only[go_sem,ints,ic,mb20,pw20,fd20]
end
end Go.Proofs.YtkcekimolppapaaGreat
namespace Go.Abs
section
section
variable{L R:Rows}{k d s b:Nat}{es:List (List IV)}
theorem look_filterQ(q:Nat->Bool)(l:Rows)(k:Nat):look (l.filter fun p=>q p.1) k=if q k=true then look l k else none:=jbu l q k
theorem jb2(h:blks L)(hd:d<100000):look L d=none:=by
 cases hl:look L d with
 | none=>rfl
 | some x=>obtain⟨b,e⟩:=h d x hl;unfold hp at e;omega
theorem filter_of_none(h:look L d=none):L.filter (fun p=>p.1 !=d)=L:=by
 induction L with
 | nil=>rfl
 | cons p L ih=>
  obtain⟨j,v⟩:=p;by_cases e:d=j
  ·subst e;rw[ja2]at h;cases h
  ·rw[ja0 _ _ e]at h;rw[ym,ih h,zm (by simp only[z7,ne_eq];exact fun x=>e x.symm)]
theorem jdu(h:look L d=none):L.map (fun p=>if p.1=d then(p.1,s,es)else p)=L:=by
 induction L with
 | nil=>rfl
 | cons p L ih=>
  obtain⟨j,v⟩:=p;by_cases e:d=j
  ·subst e;rw[ja2]at h;cases h
  ·rw[ja0 _ _ e]at h;rw[zB,ih h,zn (fun x=>e x.symm)]
theorem jeh(h:blks L)(hd:d<100000):L.filter (fun p=>p.1 !=d)=L:=filter_of_none (jb2 h hd)
theorem jou(h:blks L)(hd:d<100000):L.map (fun p=>if p.1=d then(p.1,s,es)else p)=L:=jdu (jb2 h hd)
theorem jah{x:Nat×List (List IV)}(h:look L k=some x):look (L.map (fun p=>if p.1=k then(p.1,s,es)else p)) k=some (s,es):=
 jc0 (by rw[h];rfl)
theorem jas{j:Nat}(h:j≠k):look (L.map (fun p=>if p.1=k then(p.1,s,es)else p)) j=look L j:=jce h
theorem jbd(h:blks L):blks (L.map (fun p=>if p.1=k then(p.1,s,es)else p)):=fun j x hj=>by
 have:(look L j).isSome:=by
  have e:=jbs (l:=L) (d:=k) (s:=s) (k:=j) (es:=es);unfold setRow at e;rw[<-e,hj];rfl
 obtain⟨y,hy⟩:=zp.1 this;exact h j y hy
theorem jad(h:blks L):blks ((hp b,s,es)::L):=fun j x hj=>by
 by_cases e:j=hp b
 ·exact⟨b,e⟩
 ·rw[ja0 _ _ e]at hj;exact h j x hj
theorem jaq:blks []:=fun _ _ h=>by cases h
theorem jbo(h:blks L):blks (del L d):=fun j x hj=>by
 by_cases e:j=d
 ·subst e;rw[ja9]at hj;cases hj
 ·rw[ja8 _ e]at hj;exact h j x hj
def hiR(R:Rows):Rows:=R.filter fun p=>Nat.ble 100000 p.1
theorem joe:look (hiR R) k=if 100000<=k then look R k else none:=by
 unfold hiR;rw[look_filterQ];by_cases h:100000<=k
 ·rw[zm (Nat.ble_eq▸h),zm h]
 ·rw[zn (fun e=>h (qW e)),zn h]
theorem jb0:look (hiR R) (hp b)=look R (hp b):=by rw[joe,zm (by unfold hp;omega)]
theorem jem:blks (hiR R):=fun k x h=>by
 rw[joe]at h;split at h
 ·rename_i hk;exact⟨_,hp_of hk⟩
 ·cases h
theorem hiR_ret:∀k x,look (hiR R) k=some x->100000<=k/\look R k=some x:=fun k x h=>by
 rw[joe]at h;split at h
 ·exact⟨‹_›,h⟩
 ·cases h
theorem ja3{x:Nat×List (List IV)}(hd:d<100000)(hL:blks L)(h:SubR L R):SubR L ((d,x)::R):=fun k y hk=>by
 rw[ja0 _ _ (fun e=>by subst e;rw[jb2 hL hd]at hk;cases hk)];exact h k y hk
theorem jac:SubR [] R:=fun _ _ h=>by cases h
theorem jay{R':Rows}(p:Nat×Nat×List (List IV))(hs:SubR R' R):SubR (p::R') (p::R):=fun k x hk=>by
 obtain⟨j,v⟩:=p;by_cases e:k=j
 ·subst e;rw[ja2]at hk⊢;exact hk
 ·rw[ja0 _ _ e]at hk⊢;exact hs k x hk
theorem jav{R':Rows}{p:Nat×Nat×List (List IV)}(h:look R' p.1=none)(hs:SubR R' R):SubR R' (p::R):=fun k x hk=>by
 obtain⟨j,v⟩:=p;rw[ja0 _ _ (fun e=>by subst e;rw[h]at hk;cases hk)];exact hs k x hk
theorem Behind_pre{L L':Rows}:∀(pre:Rows),(∀p∈pre,look L p.1=none)->jev (pre++L) L L' (pre++L')
 | [],_=>fun _ _ h=> .inl h
 | (j,v)::pre,hp=>fun k x h=>by
  by_cases e:k=j
  ·subst e;rw[List.cons_append,ja2]at h⊢;exact .inr ⟨hp _ (zZ ..),h⟩
  ·rw[List.cons_append,ja0 _ _ e]at h⊢;exact Behind_pre pre (fun p h=>hp p (qq _ h)) k x h
theorem jba{L':Rows}:jev R L L' L':=fun _ _ h=> .inl h
end
section
variable{R:Rows}
theorem jbh{G:Ctx}{rs:List ResultVar}{st:St}{φ:AV->Rows->Prop}(h:jma G rs (fun r=>φ r (hiR st.rows)) st): @RetH G rs st ⟨φ⟩:=jfl (hiR st.rows) hiR_ret h
theorem jb7{G:Ctx}{rs:List ResultVar}{st:St}{φ:AV->Rows->Prop}(L':Rows)(hb:blks L')(hs:SubR L' st.rows)(h:jma G rs (fun r=>φ r L') st): @RetH G rs st ⟨φ⟩:=
 jfl L' (fun k x hk=>⟨by obtain⟨b,rfl⟩:=hb k x hk;unfold hp;omega,hs k x hk⟩) h
end
def tab{α:Type}(n:Nat)(f:Nat->α):List α:=(List.range n).map f
section
variable{α β:Type}{n:Nat}{f g:Nat->α}
theorem jaa:(tab n f).length=n:=by simp[tab]
theorem jcw{i:Nat}(h:i<n):(tab n f)[i]? =some (f i):=by simp[tab,h]
theorem tab_get_none{i:Nat}(h:¬i<n):(tab n f)[i]? =none:=by simp[tab];omega
theorem jar(h:∀k,k<n->f k=g k):tab n f=tab n g:=ja fun k hk=>h k (qd.1 hk)
theorem jr2{l:List α}(hl:l.length=n)(h:∀k,k<n->l[k]? =some (f k)):l=tab n f:=by
 apply jI;intro i;by_cases hi:i<n
 ·rw[h i hi,jcw hi]
 ·rw[tab_get_none hi,qG (by omega)]
theorem jgi{i:Nat}{x:α}:(tab n f).set i x=tab n fun k=>if k=i then x else f k:=by
 refine jr2 (by rw[qa,jaa]) fun k hk=> ?_;by_cases e:k=i
 ·subst e;rw[zm rfl,vm (by rw[jaa];exact hk)]
 ·rw[zn e,yI (fun h=>e h.symm),jcw hk]
theorem jhp:tab (n+1) f=tab n f++[f n]:=by simp[tab,List.range_succ]
theorem tab_map(h:α->β):(tab n f).map h=tab n fun k=>h (f k):=by simp[tab]
theorem tab_zero:tab 0 f=[]:=rfl
theorem jih{x:α}:List.replicate n x=tab n fun _=>x:=jr2 (by simp) fun k hk=>by simp[hk]
theorem jr1{x:α}(h:x∈tab n f):∃i,i<n/\f i=x:=by
 obtain⟨i,hi,rfl⟩:=z8.1 h;exact⟨i,qd.1 hi,rfl⟩
theorem mem_tab{i:Nat}(h:i<n):f i∈tab n f:=z8.2 ⟨i,qd.2 h,rfl⟩
theorem jd0:(tab n f).take n=tab n f:=zu (by rw[jaa];exact zt _)
theorem tab_nodup{A:Nat->Nat}(h:(tab n A).Nodup){i j:Nat}(hi:i<n)(hj:j<n)(e:A i=A j):i=j:=by
 have h1:=jcw (f:=A) hi;have h2:=jcw (f:=A) hj;rw[<-e]at h2;rw[zl]at h1 h2;obtain⟨a1,a2⟩:=h1;obtain⟨b1,b2⟩:=h2;exact(List.getElem_inj h).1 (a2.trans b2.symm)
end
theorem bF{L:Rows}(hb:blks L)(d:Nat)(h:d<100000):L.filter (fun p=>p.1 !=d)=L:=jeh hb h
theorem bN{L:Rows}(hb:blks L)(d:Nat)(h:d<100000):look L d=none:=jb2 hb h
theorem bK{L:Rows}(hb:blks L)(d s:Nat)(es:List (List IV))(h:d<100000):L.map (fun p=>if p.1=d then(p.1,s,es)else p)=L:=jou hb h
end
section
theorem CtrH.loc{P:Program}{f:FuncId}{b s i j:Nat}{args:List AV}{L:Rows}{φ:AV->Rows->Prop}(h:CtrH P f (.im (.pr b s i j)::args) L φ):CtrH P f (.loc (hp b) s i j::args) L φ:=
 fun w M vs h1 h2 h3 h4=>h w M vs h1 h2 (by simpa using h3) fun k av v hk hv=>by
  cases k with
  | zero=>
   simp at hk;subst hk;obtain⟨b',e1,e2⟩:=h4 0 (.loc (hp b) s i j) v rfl hv;rw[pβ_hp]at e1;cases e1;rw[e2];exact Rep.pr b s i j
  | succ k=>exact h4 (k+1) av v (by simpa using hk) hv
theorem St.le_lend(s:St)(d:Nat):St.Le s (s.lend d):=fun _ _ _ β _ _ h=>⟨β,h.lend d⟩
theorem jjq{G:Ctx}{c:Code}{Q:Exit->St->Prop}{st:St}(d:Nat)(h: @LoopP G ⟨c⟩ ⟨Q⟩ (st.lend d)): @LoopP G ⟨c⟩ ⟨Q⟩ st:=by
 obtain⟨I,n,⟨s0,h1,h2⟩,h3⟩:=h;exact⟨I,n,⟨s0,(St.le_lend st d).trans h1,h2⟩,h3⟩
end
section
open Go.RowKit (Below)
def isSp(o:Oper):Bool:=
 match o.op with
 | .call c=>match c.callee with
  | .value _=>true
  | .builtin b=>match b with
   | .append=>true
   | _=>false
  | _=>false
 | _=>false
def spY(G:Ctx)(st:St)(o:Oper)(T:AV->Rows->Prop):Prop:=if isSp o=true then sp G st o T else aq G st o fun av=>T av st.rows
def spListY(G:Ctx)(Rs:Rows)(K:St->Prop):List Oper->St->Prop
 | [],st=>K st
 | o::r,st=>o.guard=none/\spY G st o fun av R'=>(∀k x,look Rs k=some x->look R' k=some x)/\spListY G Rs K r ((⟨st.fr,R',st.toks⟩:St).put o.dst av)
section
variable{G:Ctx}{N:Nat}{w0:Base}{w w':World}{M0:Nat->Nat->Prop}{β:Nat->Option Nat}{st st':St}{a:Act}{ops:List Oper}
end
section
variable{G:Ctx}
def spListYN(G:Ctx)(ops:List Oper)(K:St->Prop)(Rs:Rows)(d:Nat)(z:List IV)(sps l:List Oper)(st:St):Prop:=
 spListY G Rs (fun s'=>NewH (fun s''=>alist G ops K l s'') s' z.length [z] d (fun b=> .loc (hp b) z.length 0 0)) sps st
theorem spListYN_nil(ops:List Oper)(K:St->Prop)(Rs:Rows)(d:Nat)(z:List IV)(l:List Oper)(st:St):spListYN G ops K Rs d z [] l st=NewP z.length [z] d (K:=⟨fun s=>alist G ops K l s⟩) (A:=⟨(st,fun b=> .loc (hp b) z.length 0 0)⟩):=rfl
end
attribute [go_sem ↓] spListYN_nil
end
section
open Go.RowKit (Below)
def jh3(G:Ctx)(t:TypeId)(p x:AV)(R:Rows)(T:AV->Rows->Prop):Prop:=
 match x,p.dp with
 | .im y,.loc d s i j=>match look R d with
  | some (s',es)=>match es[i]? with
   | some c=>s'=s/\(G.ti t).size≠0/\(cellsOf y).length=(G.ti t).size/\(cellsOf y).all IV.one=true/\j+(G.ti t).size<=c.length/\
     T jcp (setRow R d s (es.set i (jbr c j (cellsOf y))))
   | none=>False
  | none=>False
 | _,_=>False
def spZ(G:Ctx)(st:St)(o:Oper)(T:AV->Rows->Prop):Prop:=
 match o.op with
 | .store t p x=>jh3 G t (evO st p) (evO st x) st.rows T
 | _=>if isSp o=true then sp G st o T else aq G st o fun av=>T av st.rows
def spZ1(G:Ctx)(st:St)(o:Oper)(T:AV->Rows->Prop):Prop:=
 match o.op with
 | .store t p x=>jh3 G t (evO st p) (evO st x) st.rows T
 | _=>if isSp o=true then sp G st o T else ∃av,qVal G st o av/\T av st.rows
def jjt(ops:Array Oper):Nat->Nat->Nat->Bool
 | 0,j,i=>Region.waitsFor .any ops j i
 | f+1,j,i=>Region.waitsFor .any ops j i || (List.range j).any fun l=>Region.waitsFor .any ops j l&&jjt ops f l i
theorem waitsT_listed{ops:Array Oper}{n:Nat}{listed:Array Bool}(inv:HeadInv .any ops n listed)(hw:∀j i,Region.waitsFor .any ops j i=true->listed.getD j false=true->listed.getD i false=true):
  ∀(f j i:Nat),jjt ops f j i=true->listed.getD j false=true->listed.getD i false=true:=by
 intro f
 induction f with
 | zero=>exact fun j i h hl=>hw j i h hl
 | succ f ih=>
  intro j i h hl;rw[jjt,qR]at h;rcases h with h | h
  ·exact hw j i h hl
  ·obtain⟨l,_,h2⟩:=yx.1 h;rw[zD]at h2;exact ih l i h2.2 (hw j l h2.1 hl)
theorem spZ_1{G:Ctx}{st:St}{o:Oper}{T:AV->Rows->Prop}(h:spZ G st o T):spZ1 G st o T:=by
 unfold spZ at h;unfold spZ1;split at h
 ·exact h
 ·by_cases hs:isSp o=true
  ·rw[zm hs]at h⊢;exact h
  ·rw[zn hs]at h⊢;obtain⟨av,h1,h2⟩:=jic h;exact⟨av,h1,h2⟩
def isStZ(o:Oper):Bool:=
 match o.op with
 | .store _ _ _=>true
 | _=>false
def stZ(ops:Array Oper)(m:List Bool):Bool:=(List.range m.length).all fun i=>(List.range m.length).all fun j=> !(m.getD i false) || m.getD j false || (match ops[i]?,ops[j]? with
 | some oi,some oj=> !isStZ oi || !jg8 oj || Region.waitsFor .any ops i j
 | _,_=>true)
section
variable{G:Ctx}{N:Nat}{w0:Base}{w w':World}{M0:Nat->Nat->Prop}{β:Nat->Option Nat}{st st':St}{a:Act}{ops:List Oper}
theorem spZ_congr{o:Oper}{T:AV->Rows->Prop}(h:∀t∈o.looksAt ops.toArray,st.get t=st'.get t)(hr:st.rows=st'.rows)(ht:st.toks=st'.toks)(hs:spZ1 G st o T):spZ1 G st' o T:=by
 have hx:∀x∈o.op.operands,evO st x=evO st' x:=fun x hx=>jha fun t ht=>h t (jdp hx ht);unfold spZ1 at hs⊢;split at hs
 ·rename_i t p x ho;rw[ho]at hx;rw[<-hx p (by simp[Op.operands]),<-hx x (by simp[Op.operands]),<-hr];exact hs
 ·by_cases hp:isSp o=true
  ·rw[zm hp]at hs⊢;exact sp_congr h hr hs
  ·rw[zn hp]at hs⊢;obtain⟨av,h1,h2⟩:=hs;exact⟨av,jje h hr ht h1,hr▸h2⟩
theorem spZ_sound(hG:G.Good)(h:Sim N w0 M0 β st a w){o:Oper}{T:AV->Rows->Prop}(hd:∀d,o.dst=some d->d<N)(hA:spZ1 G st o T){K':Act->World->Prop}{Q':Exit->Act->World->Prop}
  (hK:∀av R' β' a' w',T av R'->Sim N w0 M0 β' ((⟨st.fr,R',st.toks⟩:St).put o.dst av) a' w'->K' a' w'):o.wp G.P a w K' Q':=by
 unfold spZ1 at hA;split at hA
 ·rename_i t p x ho;have haop:aop G o (fun st'=>∃av R',st'=(⟨st.fr,R',st.toks⟩:St).put o.dst av/\T av R') st:=by
   unfold aop;rw[ho];dsimp only;unfold jh3 at hA;split at hA
   ·rename_i y d s i j hx hp;have hl:st.lendO x=st:=by
     unfold St.lendO;rw[hx]
    rw[hl];unfold jnh;rw[hx,hp];dsimp only[ivE,ivOf];split at hA
    ·rename_i s' es hlk;rw[hlk];dsimp only;split at hA
     ·rename_i c hc;rw[hc];obtain⟨h1,h2,h3,h4,h5,h6⟩:=hA;exact⟨h1,h2,h3,h4,h5,_,_,rfl,h6⟩
     ·exact hA.elim
    ·exact hA.elim
   ·exact hA.elim
  refine jdr hG h hd haop ?_;rintro st' β' a' w' ⟨av,R',rfl,hT⟩ hs;exact hK av R' β' a' w' hT hs
 ·by_cases hp:isSp o=true
  ·rw[zm hp]at hA;exact sp_sound hG h hd hA hK
  ·rw[zn hp]at hA;obtain⟨av,h1,h2⟩:=hA;refine jed hG h h1 fun v w2 hb hv=>hK av st.rows β _ w2 h2 ?_;exact(h.ext hb).put (dst:=o.dst) hd hv
end
section
variable{G:Ctx}
def jox(G:Ctx)(t:TypeId)(p x:AV)(R:Rows)[T:Hold (Rows->Prop)]:Prop:=jh3 G t p x R fun _ R'=>T.val R'
theorem jfn{t:TypeId}{p x:AV}{R:Rows}{T T':AV->Rows->Prop}(h:jh3 G t p x R T)(hT:∀av R',T av R'->T' av R'):jh3 G t p x R T':=by
 unfold jh3 at h⊢;split at h
 ·split at h
  ·split at h
   ·obtain⟨h1,h2,h3,h4,h5,h6⟩:=h;exact⟨h1,h2,h3,h4,h5,hT _ _ h6⟩
   ·exact h.elim
  ·exact h.elim
 ·exact h.elim
theorem SpStore_loc(t:TypeId)(d s i j:Nat)(y:IV)(R:Rows)(T:Rows->Prop): @jox G t (.loc d s i j) (.im y) R ⟨T⟩=Opt (look R d) (K:=⟨fun p=>Opt p.2[i]? (K:=⟨fun c=>p.1=s/\(G.ti t).size≠0/\(cellsOf y).length=(G.ti t).size/\(cellsOf y).all IV.one=true/\j+(G.ti t).size<=c.length/\
  T (setRow R d s (p.2.set i (jbr c j (cellsOf y))))⟩)⟩):=by
 unfold jox jh3 Opt AV.dp;dsimp only;cases h:look R d with
 | none=>rfl
 | some p=>
  obtain⟨s',es⟩:=p;dsimp only;cases es[i]? <;>rfl
end
attribute [go_sem ↓] SpStore_loc
