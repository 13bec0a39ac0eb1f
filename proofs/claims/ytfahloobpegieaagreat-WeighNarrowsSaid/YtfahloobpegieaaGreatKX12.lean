/- A part of the proof. No further condition. -/
import Derived.Test.YtfahloobpegieaaGreatKX11
set_option linter.all false
set_option maxRecDepth 100000
namespace Go.Abs
section
theorem ex2(x y D:Int):(x*1048576+y)*D=1048576*(x*D)+y*D:=by
 rw[Int.add_mul,Int.mul_comm x,Int.mul_assoc]
theorem ex3(g x y D z:Int):g*((x*1048576+y)*D+z)=1048576*(g*x*D)+g*y*D+g*z:=by
 rw[ex2,Int.mul_add,Int.mul_add,Int.mul_left_comm g,<-Int.mul_assoc g,<-Int.mul_assoc g]
theorem knuth_first{g rest top v1 v2 w V W D Vl Wl:Int}(hD:0<D)(hV:V=(v1*1048576+v2)*D+Vl)(hVl:0<=Vl)(hv2:0<=v2)(hW:W=(top*1048576+w)*D+Wl)(hWl:Wl<D)
  (hw:w<1048576) (hg:g*v1+rest=top) (hr:rest<v1) (g0:0<=g):W<(g+1)*V:=by
 have h1:0<=g*(v2*D):=Int.mul_nonneg g0 (Int.mul_nonneg hv2 (by omega));have h1':0<=g*Vl:=Int.mul_nonneg g0 hVl;have h1'':0<=v2*D:=Int.mul_nonneg hv2 (by omega);have h2:(top+1)*D<=(g*v1+v1)*D:=Int.mul_le_mul_of_nonneg_right (by omega) (by omega);have h3:w*D<=1048575*D:=Int.mul_le_mul_of_nonneg_right (by omega) (by omega);have e:(g+1)*V=g*V+V:=by rw[Int.add_mul,Int.one_mul]
 rw[Int.add_mul,Int.add_mul,Int.one_mul]at h2;rw[<-Int.mul_assoc]at h1;have e2:g*V=1048576*(g*v1*D)+g*v2*D+g*Vl:=by rw[hV,ex3]
 have e3:V=1048576*(v1*D)+v2*D+Vl:=by rw[hV,ex2]
 have e4:W=1048576*(top*D)+w*D+Wl:=by rw[hW,ex2]
 rw[e,e2,e3,e4];clear hV hW e e2 e3 e4;omega
theorem knuth_down{g rest top v1 v2 w V W D Vl Wl:Int}(hD:0<D)(hV:V=(v1*1048576+v2)*D+Vl)(hVl:0<=Vl)(hW:W=(top*1048576+w)*D+Wl)(hWl:Wl<D)
  (hg:g*v1+rest=top) (g0:0<=g) (h:rest*1048576+w<g*v2):W<g*V:=by
 have h1:0<=g*Vl:=Int.mul_nonneg g0 hVl;have h2:(rest*1048576+w+1)*D<=(g*v2)*D:=Int.mul_le_mul_of_nonneg_right (by omega) (by omega);have h3:(g*v1+rest)*D=top*D:=by rw[hg]
 rw[Int.add_mul,ex2,Int.one_mul]at h2;rw[Int.add_mul]at h3;have e2:g*V=1048576*(g*v1*D)+g*v2*D+g*Vl:=by rw[hV,ex3]
 have e4:W=1048576*(top*D)+w*D+Wl:=by rw[hW,ex2]
 rw[e2,e4];clear hV hW e2 e4;omega
theorem jl7{g rest top v1 v2 w V W D Vl Wl:Int}(hD:0<D)(hV:V=(v1*1048576+v2)*D+Vl)(hVl:Vl<D)(hW:W=(top*1048576+w)*D+Wl)(hWl:0<=Wl)
  (hg:g*v1+rest=top) (g0:1<=g) (g1:g<1048576) (hv1:1<=v1) (hv2:0<=v2/\v2<1048576) (hw:0<=w) (h:1048576<=rest\/g*v2<=rest*1048576+w):(g-1)*V<=W:=by
 have h0:g*v2<=rest*1048576+w:=by
  rcases h with h | h
  ·have:g*v2<=1048575*1048575:=Int.mul_le_mul (by omega) (by omega) hv2.1 (by omega);omega
  ·exact h
 have h1:(g-1)*Vl<=(g-1)*D:=Int.mul_le_mul_of_nonneg_left (by omega) (by omega);have h2:(g*v2)*D<=(rest*1048576+w)*D:=Int.mul_le_mul_of_nonneg_right h0 (by omega);have h3:(g*v1+rest)*D=top*D:=by rw[hg]
 have h4:(g-1)*D<=(v1*1048576+v2)*D:=Int.mul_le_mul_of_nonneg_right (by omega) (by omega);rw[ex2]at h2;rw[Int.add_mul]at h3;rw[ex2]at h4;have e:(g-1)*V=g*V-V:=by rw[Int.sub_mul,Int.one_mul]
 have e2:g*V=1048576*(g*v1*D)+g*v2*D+g*Vl:=by rw[hV,ex3]
 have e3:V=1048576*(v1*D)+v2*D+Vl:=by rw[hV,ex2]
 have e4:W=1048576*(top*D)+w*D+Wl:=by rw[hW,ex2]
 have e5:(g-1)*Vl=g*Vl-Vl:=by rw[Int.sub_mul,Int.one_mul]
 have e6:(g-1)*D=g*D-D:=by rw[Int.sub_mul,Int.one_mul]
 rw[e5,e6]at h1;rw[e6]at h4;rw[e,e2,e3,e4];clear hV hW e e2 e3 e4 e5 e6;omega
theorem jnf{g V W:Int}(hV:0<V)(h1:W<(g+1)*V)(h2:0<=W-g*V\/0<=W-(g-1)*V):
  (if 0<=W-g*V then g else g-1)=W/V/\W-(if 0<=W-g*V then g else g-1)*V=W % V:=by
 have key:∀q:Int,0<=W-q*V->W-q*V<V->q=W/V/\W-q*V=W % V:=fun q hq0 hq1=>by
  have hq:W/V=q:=by
   rw[show W=(W-q*V)+q*V by omega,Int.add_mul_ediv_right _ _ (by omega),Int.ediv_eq_zero_of_lt hq0 hq1,Int.zero_add]
  refine⟨hq.symm,?_⟩;have:=Int.emod_add_mul_ediv W V;rw[hq,Int.mul_comm]at this;omega
 have e1:(g+1)*V=g*V+V:=by rw[Int.add_mul,Int.one_mul]
 have e2:(g-1)*V=g*V-V:=by rw[Int.sub_mul,Int.one_mul]
 split
 ·rename_i h;exact key g h (by omega)
 ·rename_i h;exact key (g-1) (h2.resolve_left h) (by omega)
end
end Go.Abs
namespace Go.Proofs.YtfahloobpegieaaGreat
section
open Go.Abs
attribute [local go_sem] ints ic mb20 pw20 fd20
theorem dgt_drop(l:List Int)(i j:Nat):dgt (l.drop i) j=dgt l (i+j):=by unfold dgt;rw[List.getElem?_drop]
theorem dgt_take_lt{l:List Int}{n j:Nat}(h:j<n):dgt (l.take n) j=dgt l j:=by unfold dgt;rw[List.getElem?_take,if_pos h]
theorem top_two{l:List Int}{n:Nat}(hl:OkD l)(hn:2<=n)(hlen:l.length=n):∃Vl,val l=(dgt l (n-1)*1048576+dgt l (n-2))*1048576^(n-2)+Vl/\0<=Vl/\Vl<1048576^(n-2):=by
 refine⟨val (l.take (n-2)),?_,jb0 (hl.take _),jdf hl _⟩;have h1:=jcx l (n-2);have h2:=jcq l (n-2);have h3:=jcq l (n-2+1);rw[show n-2+1=n-1 by omega]at h2 h3;rw[List.drop_of_length_le (by omega:l.length<=n-1+1),show val []=0 from rfl,Int.mul_zero,Int.add_zero]at h3;rw[h3]at h2;rw[h2]at h1;rw[h1,Int.mul_comm (1048576^(n-2))];have:dgt l (n-2)+1048576*dgt l (n-1)=dgt l (n-1)*1048576+dgt l (n-2):=by omega
 rw[this];omega
theorem top_three{l:List Int}{n:Nat}(hl:OkD l)(hn:2<=n)(hlen:l.length=n+1):∃Wl,val l=((dgt l n*1048576+dgt l (n-1))*1048576+dgt l (n-2))*1048576^(n-2)+Wl/\0<=Wl/\Wl<1048576^(n-2):=by
 refine⟨val (l.take (n-2)),?_,jb0 (hl.take _),jdf hl _⟩;have h1:=jcx l (n-2);have h2:=jcq l (n-2);have h3:=jcq l (n-2+1);rw[show n-2+1=n-1 by omega]at h2 h3;have h4:=jcq l (n-1+1);rw[show n-1+1=n by omega]at h3 h4;rw[List.drop_of_length_le (by omega:l.length<=n+1),show val []=0 from rfl,Int.mul_zero,Int.add_zero]at h4;rw[h4]at h3;rw[h3]at h2;rw[h2]at h1;rw[h1,Int.mul_comm (1048576^(n-2))];have:dgt l (n-2)+1048576*(dgt l (n-1)+1048576*dgt l n)=(dgt l n*1048576+dgt l (n-1))*1048576+dgt l (n-2):=by omega
 rw[this];omega
theorem shifted{y s n:Nat}(hn:(dig y).length=n)(hn1:1<=n)(h1:524288<=dgt (dig y) (n-1)*s)(h2:(dgt (dig y) (n-1)+1)*s<=1048576):
  (dig (y*s)).length=n/\524288<=dgt (dig (y*s)) (n-1)/\(524288:Int)*1048576^(n-1)<=((y*s:Nat):Int):=by
 have hv:=jb6 y;have ho:=jbz y;have hs:=jcx (dig y) (n-1);have hd:=jcq (dig y) (n-1);rw[List.drop_of_length_le (by omega:(dig y).length<=n-1+1),show val []=0 from rfl,Int.mul_zero,Int.add_zero]at hd;rw[hd,hv]at hs;have h3:=jdf ho (n-1);have h4:=jb0 (ho.take (n-1));have hp:=jdp (n-1);have hpn:(1048576:Int)^n=1048576^(n-1)*1048576:=by rw[<-jd5,show n-1+1=n by omega]
 generalize dgt (dig y) (n-1)=t at*;generalize val ((dig y).take (n-1))=lo at*;generalize hP:(1048576:Int)^(n-1)=P at*;have hys:((y*s:Nat):Int)=lo*s+P*(t*s):=by rw[Int.natCast_mul,hs,Int.add_mul,Int.mul_assoc]
 have hs0:(0:Int)<=s:=Int.natCast_nonneg s;have e1:0<=lo*s:=Int.mul_nonneg h4 hs0;have e2:P*524288<=P*(t*s):=Int.mul_le_mul_of_nonneg_left h1 (by omega);have e3:lo*s<=(P-1)*s:=Int.mul_le_mul_of_nonneg_right (by omega) hs0;have e4:(P-1)*s=P*s-s:=by rw[Int.sub_mul,Int.one_mul]
 have e5:P*((t+1)*s)<=P*1048576:=Int.mul_le_mul_of_nonneg_left h2 (by omega);have e6:P*((t+1)*s)=P*(t*s)+P*s:=by rw[Int.add_mul,Int.one_mul,Int.mul_add]
 have hspos:(1:Int)<=s:=by
  rcases Nat.eq_zero_or_pos s with h | h
  ·subst h;simp at h1
  ·omega
 have lo1:(524288:Int)*P<=((y*s:Nat):Int):=by rw[hys,Int.mul_comm 524288];omega
 have hi1:((y*s:Nat):Int)<1048576^n:=by rw[hys,hpn];omega
 have hle:(dig (y*s)).length<=n:=jbx hi1;have hvv:=jb6 (y*s);have hoo:=jbz (y*s);have hlen:(dig (y*s)).length=n:=by
  rcases Nat.lt_or_ge (dig (y*s)).length n with h | h
  ·have g1:=jdf hoo (n-1);rw[jc1 (by omega:(dig (y*s)).length<=n-1),hvv,hP]at g1;omega
  ·omega
 refine⟨hlen,?_,lo1⟩;have g1:=jcx (dig (y*s)) (n-1);have g2:=jcq (dig (y*s)) (n-1);rw[List.drop_of_length_le (by omega:(dig (y*s)).length<=n-1+1),show val []=0 from rfl,Int.mul_zero,Int.add_zero]at g2;have g3:=jdf hoo (n-1);rw[g2,hvv,hP]at g1;rw[hP]at g3;generalize dgt (dig (y*s)) (n-1)=t' at*;rcases Int.lt_or_le t' 524288 with h | h
 ·have:P*t'<=P*524287:=Int.mul_le_mul_of_nonneg_left (by omega) (by omega);omega
 ·exact h
end
end Go.Proofs.YtfahloobpegieaaGreat
