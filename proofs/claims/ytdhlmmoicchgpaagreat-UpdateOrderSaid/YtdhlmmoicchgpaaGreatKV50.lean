/- A part of the proof. No further condition. -/
import Derived.Test.YtdhlmmoicchgpaaGreatKV49
set_option linter.all false
set_option maxRecDepth 10000000
set_option maxHeartbeats 16000000
namespace Go.Proofs.YtdhlmmoicchgpaaGreat
section
open Go.Abs
attribute [local go_sem] Evid.iv Evid.c Stp.cl Move.c Cert.c Recall.c Purity.c ints ic
section
variable{e:Evid}{qs:List (List (Int×Int))}{x y:Stp}
def OR(e:Evid)(x y:Stp)(L:Abs.Rows):Abs.Rows:=(7,19,[y.cl])::(6,19,[x.cl])::(4,8,[e.c])::L
def OS(e:Evid)(x y:Stp)(i:Nat×Abs.Rows):St:=
 ⟨[(4,.loc 4 8 0 0),(6,.loc 6 19 0 0),(7,.loc 7 19 0 0),(9,.im (.bool true)),(10,.im (.pr i.1 11 0 0))],OR e x y i.2,[]⟩
def OP(e:Evid)(qs:List (List (Int×Int)))(x y:Stp)(i:Nat×Abs.Rows):Prop:=HasW i.2 i.1 e qs/\Good e qs 0/\qs.length<=2/\x.kind≠0/\y.kind≠0/\(x.kind=1->y.kind=1->x.c.scale≠y.c.scale)
theorem uo_1{P:Exit->St->Prop}(hN:∀i s,OP e qs x y i->St.Le s (OS e x y i)->P .normal s)(hR:∀s,s.get 8= .im (.bool true)->P .ret s):awp (GH [] []) (putN 5 (tailN 0 (jcf Tryz.f5)) .skip) P (jc0 [.im e.iv,.im (.sl (qs.map qC)),.im (.agg x.cl),.im (.agg y.cl)] []):=by
 have k0:=u_small;have kF:=u_few e qs [];have kK:=c21 e;refine jhr rfl ?_
 as_aux_lemma=>
  simp only[List.cons_append,List.nil_append,go_sem];refine ja2 k0 ?_;simp only[List.cons_append,List.nil_append,go_sem];refine jhe kF ?_;rintro _ ⟨b,rfl,hb⟩;rcases b with _ | _
  ·simp only[List.cons_append,List.nil_append,go_sem];exact hR _ rfl
  rcases d1:decide ((1:Int)<e.purs.length)with _ | _
  case true=>
   simp only[d1,zq,List.cons_append,List.nil_append,go_sem];exact hR _ rfl
  rcases d2:decide ((2:Int)<qs.length)with _ | _
  case true=>
   simp only[d1,d2,zq,List.cons_append,List.nil_append,go_sem];exact hR _ rfl
  rcases dx:decide (x.kind=0)with _ | _
  case true=>
   simp only[d1,d2,dx,zq,List.cons_append,List.nil_append,go_sem];exact hR _ rfl
  rcases dy:decide (y.kind=0)with _ | _
  case true=>
   simp only[d1,d2,dx,dy,zq,List.cons_append,List.nil_append,go_sem];exact hR _ rfl
  have hfew:=hb rfl;have l1:=zJ d1;have l2:=zJ d2;have lx:=zJ dx;have ly:=zJ dy;have hsh:=hfew.short (by omega);rcases a1:decide (x.kind=1)with _ | _
  ·have hcc:x.kind=1->y.kind=1->x.c.scale≠y.c.scale:=fun h=>absurd h (zJ a1);simp only[d1,d2,dx,dy,a1,zq,List.cons_append,List.nil_append,go_sem];rcases hc:decide (jar e=0)with _ | _
   ·have kN:=ji6 (qs:=qs) (zJ hc) kK;refine jbn kN (by decide) rfl jak jad ?_;rintro _ L1 ⟨rfl,rfl⟩-;refine⟨_,jbh,?_⟩;simp only[go_sem];exact hR _ rfl
   ·have h0:=zK hc;rw[h0]at kK;have hsm:SmallE e:=by
     have h:=hfew.few;unfold few17 jic at h;simp only[zC,q6,zO,zT]at h;exact jhq (by omega) (by omega) (by have:=hfew.purs;omega)
    have kN:=u_new (e:=e) (qs:=qs) (f:=fB e) (p:=posF e) (jf3 h0) kK (by omega) (fun q hq=>by have:=hsh q hq;omega) (jcw e) (u_pos hsm) (fun q hq=>u_bd hsm (by have:=hsh q hq;omega));refine jbn kN (by decide) rfl jak jad ?_;rintro _ L1 (⟨_,rfl,rfl⟩ | ⟨hr,A,Q,B,rfl,hRW⟩)-
    ·refine⟨_,jbh,?_⟩;simp only[go_sem];exact hR _ rfl
    ·refine⟨OR e x y L1,jgr (pre:=[(7,19,[y.cl]),(6,19,[x.cl]),(4,8,[e.c])]),?_⟩;unfold OR;simp only[List.cons_append,List.nil_append,go_sem];refine hN (A,L1) _ ⟨⟨Q,B,hRW⟩,jnn hfew h0 hr (by omega),by omega,lx,ly,hcc⟩ (jc7 [4,6,7,9,10] ?_ ?_ rfl)
     ·unfold OS;simp only[go_sem]
     ·unfold OS OR;exact SubR.refl _
  rcases a2:decide (y.kind=1)with _ | _
  ·have hcc:x.kind=1->y.kind=1->x.c.scale≠y.c.scale:=fun _ h=>absurd h (zJ a2);simp only[d1,d2,dx,dy,a1,a2,zq,List.cons_append,List.nil_append,go_sem];rcases hc:decide (jar e=0)with _ | _
   ·have kN:=ji6 (qs:=qs) (zJ hc) kK;refine jbn kN (by decide) rfl jak jad ?_;rintro _ L1 ⟨rfl,rfl⟩-;refine⟨_,jbh,?_⟩;simp only[go_sem];exact hR _ rfl
   ·have h0:=zK hc;rw[h0]at kK;have hsm:SmallE e:=by
     have h:=hfew.few;unfold few17 jic at h;simp only[zC,q6,zO,zT]at h;exact jhq (by omega) (by omega) (by have:=hfew.purs;omega)
    have kN:=u_new (e:=e) (qs:=qs) (f:=fB e) (p:=posF e) (jf3 h0) kK (by omega) (fun q hq=>by have:=hsh q hq;omega) (jcw e) (u_pos hsm) (fun q hq=>u_bd hsm (by have:=hsh q hq;omega));refine jbn kN (by decide) rfl jak jad ?_;rintro _ L1 (⟨_,rfl,rfl⟩ | ⟨hr,A,Q,B,rfl,hRW⟩)-
    ·refine⟨_,jbh,?_⟩;simp only[go_sem];exact hR _ rfl
    ·refine⟨OR e x y L1,jgr (pre:=[(7,19,[y.cl]),(6,19,[x.cl]),(4,8,[e.c])]),?_⟩;unfold OR;simp only[List.cons_append,List.nil_append,go_sem];refine hN (A,L1) _ ⟨⟨Q,B,hRW⟩,jnn hfew h0 hr (by omega),by omega,lx,ly,hcc⟩ (jc7 [4,6,7,9,10] ?_ ?_ rfl)
     ·unfold OS;simp only[go_sem]
     ·unfold OS OR;exact SubR.refl _
  rcases a3:decide (x.c.scale=y.c.scale)with _ | _
  ·have hcc:x.kind=1->y.kind=1->x.c.scale≠y.c.scale:=fun _ _=>zJ a3;simp only[d1,d2,dx,dy,a1,a2,a3,zq,List.cons_append,List.nil_append,go_sem];rcases hc:decide (jar e=0)with _ | _
   ·have kN:=ji6 (qs:=qs) (zJ hc) kK;refine jbn kN (by decide) rfl jak jad ?_;rintro _ L1 ⟨rfl,rfl⟩-;refine⟨_,jbh,?_⟩;simp only[go_sem];exact hR _ rfl
   ·have h0:=zK hc;rw[h0]at kK;have hsm:SmallE e:=by
     have h:=hfew.few;unfold few17 jic at h;simp only[zC,q6,zO,zT]at h;exact jhq (by omega) (by omega) (by have:=hfew.purs;omega)
    have kN:=u_new (e:=e) (qs:=qs) (f:=fB e) (p:=posF e) (jf3 h0) kK (by omega) (fun q hq=>by have:=hsh q hq;omega) (jcw e) (u_pos hsm) (fun q hq=>u_bd hsm (by have:=hsh q hq;omega));refine jbn kN (by decide) rfl jak jad ?_;rintro _ L1 (⟨_,rfl,rfl⟩ | ⟨hr,A,Q,B,rfl,hRW⟩)-
    ·refine⟨_,jbh,?_⟩;simp only[go_sem];exact hR _ rfl
    ·refine⟨OR e x y L1,jgr (pre:=[(7,19,[y.cl]),(6,19,[x.cl]),(4,8,[e.c])]),?_⟩;unfold OR;simp only[List.cons_append,List.nil_append,go_sem];refine hN (A,L1) _ ⟨⟨Q,B,hRW⟩,jnn hfew h0 hr (by omega),by omega,lx,ly,hcc⟩ (jc7 [4,6,7,9,10] ?_ ?_ rfl)
     ·unfold OS;simp only[go_sem]
     ·unfold OS OR;exact SubR.refl _
  ·simp only[d1,d2,dx,dy,a1,a2,a3,zq,List.cons_append,List.nil_append,go_sem];exact hR _ rfl
