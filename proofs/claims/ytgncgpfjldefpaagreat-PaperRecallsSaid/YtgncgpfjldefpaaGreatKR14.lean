/- A part of the proof. No further condition. -/
import Derived.Test.YtgncgpfjldefpaaGreatKR12
set_option linter.all false
set_option maxRecDepth 10000000
set_option maxHeartbeats 16000000
namespace Go.Proofs.YtgncgpfjldefpaaGreat
section
open Go.Abs
attribute [local go_sem] ints ic Bat.c Pap.c Led.c
theorem joy(p:Led)(hb:p.bs≠[])(hp0:p.ps≠[])(hlb:p.bs.length<=1000)(hlp:p.ps.length<=1000)(hmv:jgw p):
  CtrH G.P 68 [.im (.agg p.c)] [] (fun r L'=>∃X Y,X≠Y/\r= .im (.agg [.ref X 52 2 p.bs.length,.ref Y 34 5 p.ps.length])/\blks L'/\Abs.look L' (hp X)=some (2,p.bs.map Bat.c)/\Abs.look L' (hp Y)=some (5,p.ps.map Pap.c)):=by
 have kC:=pb_cloneB p.bs hb (by omega);refine jan [3,12] [] [.cell 2 25] Tryz.func68 ?_;simp only[go_sem];refine jhr (ι:=Nat×Nat×Nat) (fun i=>⟨[(1,.loc 1 2 0 0),(2,.loc 2 2 0 0),(3,.loc (hp i.2.2) 2 0 0)],[(1,2,[p.c]),(2,2,[[.emp,.emp]]),(hp i.2.2,2,[[.ref i.1 52 2 p.bs.length,.ref i.2.1 34 5 p.ps.length]]),(hp i.1,2,p.bs.map Bat.c),(hp i.2.1,5,List.replicate p.ps.length [.int 0,.int 0,.int 0,.bool false,.bool false])],[]⟩)
  (fun i=>i.1≠i.2.1/\i.1≠i.2.2/\i.2.1≠i.2.2) ?_ ?_
 ·refine jhq [false,false,true,false,false,false,true,true,true] (.alt 2 (.alt 6 (.alt 7 (.alt 8 .fin .none) (.alt 8 (.alt 7 .fin .none) .none)) (.alt 8 (.alt 6 (.alt 7 .fin .none) .none) .none)) (.alt 6 (.alt 2 (.alt 7 (.alt 8 .fin .none) (.alt 8 (.alt 7 .fin .none) .none)) (.alt 8 (.alt 2 (.alt 7 .fin .none) .none) .none)) (.alt 8 (.alt 2 (.alt 6 (.alt 7 .fin .none) .none) (.alt 6 (.alt 2 (.alt 7 .fin .none) .none) .none)) .none))) [(1,2,[p.c])] (by decide+kernel) (ja5 (by simp only[go_sem]) ja7) ?_;simp only[zh,go_sem];refine And.intro ?_ (And.intro ?_ ?_)
  ·as_aux_lemma=>
    refine jbb kC (by decide) rfl jb0 ja7 ?_;rintro _ L0 ⟨X,rfl,hA0,hA1,hA2⟩ hfr;have hX:=(hfr (hp X) (jbh hA1)).resolve_left (by simp[Abs.look]);clear hfr;refine⟨_,jg6 hA1,?_⟩;refine And.intro (ja5 (by simp only[go_sem]) ja7) ?_;simp only[go_sem];refine And.intro ?_ ?_
    ·as_aux_lemma=>
      refine And.intro (by omega) (jbn (fun Y hY=>And.intro (ja5 (by simp only[go_sem]) ja7) ?_));simp only[go_sem];refine And.intro ?_ ?_
      ·as_aux_lemma=>
        refine And.intro (ja5 (by simp only[go_sem]) ja7) ?_
        try simp only[go_sem]
        refine jbn (fun O hO=>And.intro (ja5 (by simp only[go_sem]) ja7) ?_);simp only[go_sem];have dXY:X≠Y:=by first | (refine jb4 hX ?_;simp only[List.any_cons,zI,zP,zM];done) | (refine zw (jb4 hY ?_);simp only[List.any_cons,zI,zP,zM];done)
        have dXO:X≠O:=by first | (refine jb4 hX ?_;simp only[List.any_cons,zI,zP,zM];done) | (refine zw (jb4 hO ?_);simp only[List.any_cons,zI,zP,zM];done)
        have dYO:Y≠O:=by first | (refine jb4 hY ?_;simp only[List.any_cons,zI,zP,zM];done) | (refine zw (jb4 hO ?_);simp only[List.any_cons,zI,zP,zM];done)
        clear hX hY hO
        try simp only[dXY,dXO,dYO,zw dXY,zw dXO,zw dYO,go_sem]
        refine jbz (X,Y,O) ?_ ?_ ?_ ?_;exact⟨dXY,dXO,dYO⟩;simp only[zr,zE,go_sem];refine ja5 ?_ (ja5 ?_ (ja5 ?_ (ja5 ?_ (ja5 ?_ ja7))))
        iterate 5 (simp only[dXY,dXO,dYO,zw dXY,zw dXO,zw dYO,zN,go_sem])
        rfl
      ·as_aux_lemma=>
        refine jbn (fun O hO=>And.intro (ja5 (by simp only[go_sem]) ja7) ?_);simp only[go_sem];refine And.intro (ja5 (by simp only[go_sem]) ja7) ?_
        try simp only[go_sem]
        have dXY:X≠Y:=by first | (refine jb4 hX ?_;simp only[List.any_cons,zI,zP,zM];done) | (refine zw (jb4 hY ?_);simp only[List.any_cons,zI,zP,zM];done)
        have dXO:X≠O:=by first | (refine jb4 hX ?_;simp only[List.any_cons,zI,zP,zM];done) | (refine zw (jb4 hO ?_);simp only[List.any_cons,zI,zP,zM];done)
        have dYO:Y≠O:=by first | (refine jb4 hY ?_;simp only[List.any_cons,zI,zP,zM];done) | (refine zw (jb4 hO ?_);simp only[List.any_cons,zI,zP,zM];done)
        clear hX hY hO
        try simp only[dXY,dXO,dYO,zw dXY,zw dXO,zw dYO,go_sem]
        refine jbz (X,Y,O) ?_ ?_ ?_ ?_;exact⟨dXY,dXO,dYO⟩;simp only[zr,zE,go_sem];refine ja5 ?_ (ja5 ?_ (ja5 ?_ (ja5 ?_ (ja5 ?_ ja7))))
        iterate 5 (simp only[dXY,dXO,dYO,zw dXY,zw dXO,zw dYO,zN,go_sem])
        rfl
    ·as_aux_lemma=>
      refine jbn (fun O hO=>And.intro (ja5 (by simp only[go_sem]) ja7) ?_);simp only[go_sem];refine And.intro (by omega) (jbn (fun Y hY=>And.intro (ja5 (by simp only[go_sem]) ja7) ?_));simp only[go_sem];refine And.intro (ja5 (by simp only[go_sem]) ja7) ?_
      try simp only[go_sem]
      have dXY:X≠Y:=by first | (refine jb4 hX ?_;simp only[List.any_cons,zI,zP,zM];done) | (refine zw (jb4 hY ?_);simp only[List.any_cons,zI,zP,zM];done)
      have dXO:X≠O:=by first | (refine jb4 hX ?_;simp only[List.any_cons,zI,zP,zM];done) | (refine zw (jb4 hO ?_);simp only[List.any_cons,zI,zP,zM];done)
      have dYO:Y≠O:=by first | (refine jb4 hY ?_;simp only[List.any_cons,zI,zP,zM];done) | (refine zw (jb4 hO ?_);simp only[List.any_cons,zI,zP,zM];done)
      clear hX hY hO
      try simp only[dXY,dXO,dYO,zw dXY,zw dXO,zw dYO,go_sem]
      refine jbz (X,Y,O) ?_ ?_ ?_ ?_;exact⟨dXY,dXO,dYO⟩;simp only[zr,zE,go_sem];refine ja5 ?_ (ja5 ?_ (ja5 ?_ (ja5 ?_ (ja5 ?_ ja7))))
      iterate 5 (simp only[dXY,dXO,dYO,zw dXY,zw dXO,zw dYO,zN,go_sem])
      rfl
  ·as_aux_lemma=>
    refine And.intro (by omega) (jbn (fun Y hY=>And.intro (ja5 (by simp only[go_sem]) ja7) ?_));simp only[go_sem];refine And.intro ?_ ?_
    ·as_aux_lemma=>
      refine jbb kC (by decide) rfl jb0 ja7 ?_;rintro _ L0 ⟨X,rfl,hA0,hA1,hA2⟩ hfr;have hX:=(hfr (hp X) (jbh hA1)).resolve_left (by simp[Abs.look]);clear hfr;refine⟨_,jg6 hA1,?_⟩;refine And.intro (ja5 (by simp only[go_sem]) ja7) ?_;simp only[go_sem];refine And.intro ?_ ?_
      ·as_aux_lemma=>
        refine And.intro (ja5 (by simp only[go_sem]) ja7) ?_
        try simp only[go_sem]
        refine jbn (fun O hO=>And.intro (ja5 (by simp only[go_sem]) ja7) ?_);simp only[go_sem];have dXY:X≠Y:=by first | (refine jb4 hX ?_;simp only[List.any_cons,zI,zP,zM];done) | (refine zw (jb4 hY ?_);simp only[List.any_cons,zI,zP,zM];done)
        have dXO:X≠O:=by first | (refine jb4 hX ?_;simp only[List.any_cons,zI,zP,zM];done) | (refine zw (jb4 hO ?_);simp only[List.any_cons,zI,zP,zM];done)
        have dYO:Y≠O:=by first | (refine jb4 hY ?_;simp only[List.any_cons,zI,zP,zM];done) | (refine zw (jb4 hO ?_);simp only[List.any_cons,zI,zP,zM];done)
        clear hX hY hO
        try simp only[dXY,dXO,dYO,zw dXY,zw dXO,zw dYO,go_sem]
        refine jbz (X,Y,O) ?_ ?_ ?_ ?_;exact⟨dXY,dXO,dYO⟩;simp only[zr,zE,go_sem];refine ja5 ?_ (ja5 ?_ (ja5 ?_ (ja5 ?_ (ja5 ?_ ja7))))
        iterate 5 (simp only[dXY,dXO,dYO,zw dXY,zw dXO,zw dYO,zN,go_sem])
        rfl
      ·as_aux_lemma=>
        refine jbn (fun O hO=>And.intro (ja5 (by simp only[go_sem]) ja7) ?_);simp only[go_sem];refine And.intro (ja5 (by simp only[go_sem]) ja7) ?_
        try simp only[go_sem]
        have dXY:X≠Y:=by first | (refine jb4 hX ?_;simp only[List.any_cons,zI,zP,zM];done) | (refine zw (jb4 hY ?_);simp only[List.any_cons,zI,zP,zM];done)
        have dXO:X≠O:=by first | (refine jb4 hX ?_;simp only[List.any_cons,zI,zP,zM];done) | (refine zw (jb4 hO ?_);simp only[List.any_cons,zI,zP,zM];done)
        have dYO:Y≠O:=by first | (refine jb4 hY ?_;simp only[List.any_cons,zI,zP,zM];done) | (refine zw (jb4 hO ?_);simp only[List.any_cons,zI,zP,zM];done)
        clear hX hY hO
        try simp only[dXY,dXO,dYO,zw dXY,zw dXO,zw dYO,go_sem]
        refine jbz (X,Y,O) ?_ ?_ ?_ ?_;exact⟨dXY,dXO,dYO⟩;simp only[zr,zE,go_sem];refine ja5 ?_ (ja5 ?_ (ja5 ?_ (ja5 ?_ (ja5 ?_ ja7))))
        iterate 5 (simp only[dXY,dXO,dYO,zw dXY,zw dXO,zw dYO,zN,go_sem])
        rfl
    ·as_aux_lemma=>
      refine jbn (fun O hO=>And.intro (ja5 (by simp only[go_sem]) ja7) ?_);simp only[go_sem];refine jbb kC (by decide) rfl jb0 ja7 ?_;rintro _ L0 ⟨X,rfl,hA0,hA1,hA2⟩ hfr;have hX:=(hfr (hp X) (jbh hA1)).resolve_left (by simp[Abs.look]);clear hfr;refine⟨_,jg6 hA1,?_⟩;refine And.intro (ja5 (by simp only[go_sem]) ja7) ?_;simp only[go_sem];refine And.intro (ja5 (by simp only[go_sem]) ja7) ?_
      try simp only[go_sem]
      have dXY:X≠Y:=by first | (refine jb4 hX ?_;simp only[List.any_cons,zI,zP,zM];done) | (refine zw (jb4 hY ?_);simp only[List.any_cons,zI,zP,zM];done)
      have dXO:X≠O:=by first | (refine jb4 hX ?_;simp only[List.any_cons,zI,zP,zM];done) | (refine zw (jb4 hO ?_);simp only[List.any_cons,zI,zP,zM];done)
      have dYO:Y≠O:=by first | (refine jb4 hY ?_;simp only[List.any_cons,zI,zP,zM];done) | (refine zw (jb4 hO ?_);simp only[List.any_cons,zI,zP,zM];done)
      clear hX hY hO
      try simp only[dXY,dXO,dYO,zw dXY,zw dXO,zw dYO,go_sem]
      refine jbz (X,Y,O) ?_ ?_ ?_ ?_;exact⟨dXY,dXO,dYO⟩;simp only[zr,zE,go_sem];refine ja5 ?_ (ja5 ?_ (ja5 ?_ (ja5 ?_ (ja5 ?_ ja7))))
      iterate 5 (simp only[dXY,dXO,dYO,zw dXY,zw dXO,zw dYO,zN,go_sem])
      rfl
  ·as_aux_lemma=>
    refine jbn (fun O hO=>And.intro (ja5 (by simp only[go_sem]) ja7) ?_);simp only[go_sem];refine And.intro ?_ ?_
    ·as_aux_lemma=>
      refine jbb kC (by decide) rfl jb0 ja7 ?_;rintro _ L0 ⟨X,rfl,hA0,hA1,hA2⟩ hfr;have hX:=(hfr (hp X) (jbh hA1)).resolve_left (by simp[Abs.look]);clear hfr;refine⟨_,jg6 hA1,?_⟩;refine And.intro (ja5 (by simp only[go_sem]) ja7) ?_;simp only[go_sem];refine And.intro (by omega) (jbn (fun Y hY=>And.intro (ja5 (by simp only[go_sem]) ja7) ?_));simp only[go_sem];refine And.intro (ja5 (by simp only[go_sem]) ja7) ?_
      try simp only[go_sem]
      have dXY:X≠Y:=by first | (refine jb4 hX ?_;simp only[List.any_cons,zI,zP,zM];done) | (refine zw (jb4 hY ?_);simp only[List.any_cons,zI,zP,zM];done)
      have dXO:X≠O:=by first | (refine jb4 hX ?_;simp only[List.any_cons,zI,zP,zM];done) | (refine zw (jb4 hO ?_);simp only[List.any_cons,zI,zP,zM];done)
      have dYO:Y≠O:=by first | (refine jb4 hY ?_;simp only[List.any_cons,zI,zP,zM];done) | (refine zw (jb4 hO ?_);simp only[List.any_cons,zI,zP,zM];done)
      clear hX hY hO
      try simp only[dXY,dXO,dYO,zw dXY,zw dXO,zw dYO,go_sem]
      refine jbz (X,Y,O) ?_ ?_ ?_ ?_;exact⟨dXY,dXO,dYO⟩;simp only[zr,zE,go_sem];refine ja5 ?_ (ja5 ?_ (ja5 ?_ (ja5 ?_ (ja5 ?_ ja7))))
      iterate 5 (simp only[dXY,dXO,dYO,zw dXY,zw dXO,zw dYO,zN,go_sem])
      rfl
    ·as_aux_lemma=>
      refine And.intro (by omega) (jbn (fun Y hY=>And.intro (ja5 (by simp only[go_sem]) ja7) ?_));simp only[go_sem];refine jbb kC (by decide) rfl jb0 ja7 ?_;rintro _ L0 ⟨X,rfl,hA0,hA1,hA2⟩ hfr;have hX:=(hfr (hp X) (jbh hA1)).resolve_left (by simp[Abs.look]);clear hfr;refine⟨_,jg6 hA1,?_⟩;refine And.intro (ja5 (by simp only[go_sem]) ja7) ?_;simp only[go_sem];refine And.intro (ja5 (by simp only[go_sem]) ja7) ?_
      try simp only[go_sem]
      have dXY:X≠Y:=by first | (refine jb4 hX ?_;simp only[List.any_cons,zI,zP,zM];done) | (refine zw (jb4 hY ?_);simp only[List.any_cons,zI,zP,zM];done)
      have dXO:X≠O:=by first | (refine jb4 hX ?_;simp only[List.any_cons,zI,zP,zM];done) | (refine zw (jb4 hO ?_);simp only[List.any_cons,zI,zP,zM];done)
      have dYO:Y≠O:=by first | (refine jb4 hY ?_;simp only[List.any_cons,zI,zP,zM];done) | (refine zw (jb4 hO ?_);simp only[List.any_cons,zI,zP,zM];done)
      clear hX hY hO
      try simp only[dXY,dXO,dYO,zw dXY,zw dXO,zw dYO,go_sem]
      refine jbz (X,Y,O) ?_ ?_ ?_ ?_;exact⟨dXY,dXO,dYO⟩;simp only[zr,zE,go_sem];refine ja5 ?_ (ja5 ?_ (ja5 ?_ (ja5 ?_ (ja5 ?_ ja7))))
      iterate 5 (simp only[dXY,dXO,dYO,zw dXY,zw dXO,zw dYO,zN,go_sem])
      rfl
 ·intro q hq;have dXY:=hq.1;have dXO:=hq.2.1;have dYO:=hq.2.2;clear hq;generalize q.1=X at*;generalize q.2.1=Y at*;generalize q.2.2=O at*;simp only[dXY,dXO,dYO,zw dXY,zw dXO,zw dYO,go_sem];refine jaz [1,2,3,15,16,17] (fun i:Nat=>⟨[(1,.loc 1 2 0 0),(2,.loc 2 2 0 0),(3,.loc (hp O) 2 0 0),(15,.im (.ref X 52 2 p.bs.length)),(16,.im (.int p.bs.length)),(17,.im (.int i))],
    [(1,2,[p.c]),(2,2,[[.emp,.emp]]),(hp O,2,[[.ref X 52 2 p.bs.length,.ref Y 34 5 p.ps.length]]),(hp X,2,p.bs.map Bat.c),(hp Y,5,List.replicate p.ps.length [.int 0,.int 0,.int 0,.bool false,.bool false])],[]⟩)
   (fun i=>i<=p.bs.length) (fun i=>p.bs.length-i) 0 ?_ ?_ rfl (zG _) ?_
  ·simp only[Int.natCast_zero,go_sem]
  ·exact SubR.of_eq rfl
  intro i hi;by_cases hpi:(i:Int)<p.bs.length
  ·have hd:decide ((i:Int)<p.bs.length)=true:=zk hpi;obtain⟨x,hx⟩:=jbq hpi;have h1:=ja9 (n:=(i:Int)+1) (by omega);have hin:i<p.bs.length:=by omega
   have kI:=jhu x.mv (by have:=hmv x (zl hx);omega);simp only[ints]at kI;have hset:(p.bs.map Bat.c).set i [.int x.mat,.sl (x.mv.map ic)]=p.bs.map Bat.c:=by
    apply vn;intro k;rw[yK];by_cases e:i=k
    ·subst e;rw[zn rfl,zn (by simpa using hin),zq,hx];rfl
    ·rw[zp e]
   have hi0:(0:Int)<=i:=by omega
   simp only[hd,hpi,hi0,zq,hx,zh,dXY,dXO,dYO,zw dXY,zw dXO,zw dYO,go_sem];refine jai 6 ?_;simp only[hpi,hi0,zq,hx,zh,dXY,dXO,dYO,zw dXY,zw dXO,zw dYO,go_sem];refine ja6 kI (by decide) ?_;simp only[hpi,hi0,zq,hx,zh,dXY,dXO,dYO,zw dXY,zw dXO,zw dYO,hset,go_sem];refine jae (i+1) ?_ ?_ rfl (by show p.bs.length-(i+1)<p.bs.length-i;omega) (by show i+1<=p.bs.length;omega)
   ·simp only[h1,Int.natCast_add,go_sem]
   ·refine ja5 ?_ (ja5 ?_ (ja5 ?_ (ja5 ?_ (ja5 ?_ ja7))))
    all_goals simp only[dXY,dXO,dYO,zw dXY,zw dXO,zw dYO,go_sem]
  ·have hd:decide ((i:Int)<p.bs.length)=false:=za hpi;obtain⟨M,hM,b1,l1,l2⟩:∃M:Abs.Rows,M=[(hp X,2,p.bs.map Bat.c),(hp Y,5,p.ps.map Pap.c)]/\blks M/\Abs.look M (hp X)=some (2,p.bs.map Bat.c)/\Abs.look M (hp Y)=some (5,p.ps.map Pap.c):=
    ⟨_,rfl,jaq (jaq jb0),ja2 _ _ _,by rw[ja0 _ _ (fun e=>dXY (hp_inj.1 e).symm),ja2]⟩
   simp only[hd,dXY,dXO,dYO,zw dXY,zw dXO,zw dYO,go_sem];refine And.intro (fun c hc=>by obtain⟨z,_,rfl⟩:=qd.1 hc;rfl) ?_;refine jb8 M b1 ?_ ?_
   ·rw[hM];refine ja5 ?_ (ja5 ?_ ja7)
    all_goals simp only[dXY,dXO,dYO,zw dXY,zw dXO,zw dYO,go_sem]
   simp only[go_sem];exact⟨X,Y,dXY,rfl,b1,l1,l2⟩
