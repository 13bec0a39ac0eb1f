/- A part of the proof. No further condition. -/
import Derived.Test.YtgncgpfjldefpaaGreatKX14
set_option linter.all false
set_option maxRecDepth 100000
namespace Go.Proofs.YtgncgpfjldefpaaGreat
section
open Go.Abs
attribute [local go_sem] ints ic Bat.c Pap.c Led.c
set_option maxRecDepth 10000000 in
set_option maxHeartbeats 8000000 in
theorem jo9(p:Led)(hb:p.bs≠[])(hp0:p.ps≠[])(hlb:p.bs.length<=1000)(hlp:p.ps.length<=1000)(hmv:jg2 p):
  CtrH G.P 68 [.im (.agg p.c)] [] (fun r L'=>∃X Y,X≠Y/\r= .im (.agg [.ref X 52 2 p.bs.length,.ref Y 34 5 p.ps.length])/\blks L'/\Abs.look L' (hp X)=some (2,p.bs.map Bat.c)/\Abs.look L' (hp Y)=some (5,p.ps.map Pap.c)):=by
 have kC:=pb_cloneB p.bs hb (by omega);refine jb2 (goodH [3,12] []) _ _ [.cell 2 25] Tryz.func68 rfl rfl (by decide+kernel) rfl ?_;simp only[go_sem];refine jjv (ι:=Nat×Nat×Nat) (fun i=>⟨[(1,.loc 1 2 0 0),(2,.loc 2 2 0 0),(3,.loc (hp i.2.2) 2 0 0)],[(1,2,[p.c]),(2,2,[[.emp,.emp]]),(hp i.2.2,2,[[.ref i.1 52 2 p.bs.length,.ref i.2.1 34 5 p.ps.length]]),(hp i.1,2,p.bs.map Bat.c),(hp i.2.1,5,List.replicate p.ps.length [.int 0,.int 0,.int 0,.bool false,.bool false])],[]⟩)
  (fun i=>i.1≠i.2.1/\i.1≠i.2.2/\i.2.1≠i.2.2) ?_ ?_
 ·refine jnh [false,false,true,false,false,false,true,true,true] (.alt 2 (.alt 6 (.alt 7 (.alt 8 .fin .none) (.alt 8 (.alt 7 .fin .none) .none)) (.alt 8 (.alt 6 (.alt 7 .fin .none) .none) .none)) (.alt 6 (.alt 2 (.alt 7 (.alt 8 .fin .none) (.alt 8 (.alt 7 .fin .none) .none)) (.alt 8 (.alt 2 (.alt 7 .fin .none) .none) .none)) (.alt 8 (.alt 2 (.alt 6 (.alt 7 .fin .none) .none) (.alt 6 (.alt 2 (.alt 7 .fin .none) .none) .none)) .none))) [(1,2,[p.c])] (by decide+kernel) (ja6 (by simp only[go_sem]) ja7) ?_;simp only[List.length_map,go_sem];refine And.intro ?_ (And.intro ?_ ?_)
  ·as_aux_lemma=>
    refine jbm kC (by decide) rfl jb3 ja7 ?_;rintro _ L0 ⟨X,rfl,hA0,hA1,hA2⟩ hfr;have hX:=(hfr (hp X) (jbo hA1)).resolve_left (by simp[Abs.look]);clear hfr;refine⟨_,jg4 hA1,?_⟩;refine And.intro (ja6 (by simp only[go_sem]) ja7) ?_;simp only[go_sem];refine And.intro ?_ ?_
    ·as_aux_lemma=>
      refine And.intro (by omega) (jc0 (fun Y hY=>And.intro (ja6 (by simp only[go_sem]) ja7) ?_));simp only[go_sem];refine And.intro ?_ ?_
      ·as_aux_lemma=>
        refine And.intro (ja6 (by simp only[go_sem]) ja7) ?_
        try simp only[go_sem]
        refine jc0 (fun O hO=>And.intro (ja6 (by simp only[go_sem]) ja7) ?_);simp only[go_sem];have dXY:X≠Y:=by first | (refine jb7 hX ?_;simp only[List.any_cons,beq_self_eq_true,Bool.or_true,Bool.true_or];done) | (refine Ne.symm (jb7 hY ?_);simp only[List.any_cons,beq_self_eq_true,Bool.or_true,Bool.true_or];done)
        have dXO:X≠O:=by first | (refine jb7 hX ?_;simp only[List.any_cons,beq_self_eq_true,Bool.or_true,Bool.true_or];done) | (refine Ne.symm (jb7 hO ?_);simp only[List.any_cons,beq_self_eq_true,Bool.or_true,Bool.true_or];done)
        have dYO:Y≠O:=by first | (refine jb7 hY ?_;simp only[List.any_cons,beq_self_eq_true,Bool.or_true,Bool.true_or];done) | (refine Ne.symm (jb7 hO ?_);simp only[List.any_cons,beq_self_eq_true,Bool.or_true,Bool.true_or];done)
        clear hX hY hO
        try simp only[dXY,dXO,dYO,Ne.symm dXY,Ne.symm dXO,Ne.symm dYO,go_sem]
        refine jcb (X,Y,O) ?_ ?_ ?_ ?_;exact⟨dXY,dXO,dYO⟩;simp only[List.map_cons,List.map_nil,go_sem];refine ja6 ?_ (ja6 ?_ (ja6 ?_ (ja6 ?_ (ja6 ?_ ja7))))
        iterate 5 (simp only[dXY,dXO,dYO,Ne.symm dXY,Ne.symm dXO,Ne.symm dYO,List.length_replicate,go_sem])
        rfl
      ·as_aux_lemma=>
        refine jc0 (fun O hO=>And.intro (ja6 (by simp only[go_sem]) ja7) ?_);simp only[go_sem];refine And.intro (ja6 (by simp only[go_sem]) ja7) ?_
        try simp only[go_sem]
        have dXY:X≠Y:=by first | (refine jb7 hX ?_;simp only[List.any_cons,beq_self_eq_true,Bool.or_true,Bool.true_or];done) | (refine Ne.symm (jb7 hY ?_);simp only[List.any_cons,beq_self_eq_true,Bool.or_true,Bool.true_or];done)
        have dXO:X≠O:=by first | (refine jb7 hX ?_;simp only[List.any_cons,beq_self_eq_true,Bool.or_true,Bool.true_or];done) | (refine Ne.symm (jb7 hO ?_);simp only[List.any_cons,beq_self_eq_true,Bool.or_true,Bool.true_or];done)
        have dYO:Y≠O:=by first | (refine jb7 hY ?_;simp only[List.any_cons,beq_self_eq_true,Bool.or_true,Bool.true_or];done) | (refine Ne.symm (jb7 hO ?_);simp only[List.any_cons,beq_self_eq_true,Bool.or_true,Bool.true_or];done)
        clear hX hY hO
        try simp only[dXY,dXO,dYO,Ne.symm dXY,Ne.symm dXO,Ne.symm dYO,go_sem]
        refine jcb (X,Y,O) ?_ ?_ ?_ ?_;exact⟨dXY,dXO,dYO⟩;simp only[List.map_cons,List.map_nil,go_sem];refine ja6 ?_ (ja6 ?_ (ja6 ?_ (ja6 ?_ (ja6 ?_ ja7))))
        iterate 5 (simp only[dXY,dXO,dYO,Ne.symm dXY,Ne.symm dXO,Ne.symm dYO,List.length_replicate,go_sem])
        rfl
    ·as_aux_lemma=>
      refine jc0 (fun O hO=>And.intro (ja6 (by simp only[go_sem]) ja7) ?_);simp only[go_sem];refine And.intro (by omega) (jc0 (fun Y hY=>And.intro (ja6 (by simp only[go_sem]) ja7) ?_));simp only[go_sem];refine And.intro (ja6 (by simp only[go_sem]) ja7) ?_
      try simp only[go_sem]
      have dXY:X≠Y:=by first | (refine jb7 hX ?_;simp only[List.any_cons,beq_self_eq_true,Bool.or_true,Bool.true_or];done) | (refine Ne.symm (jb7 hY ?_);simp only[List.any_cons,beq_self_eq_true,Bool.or_true,Bool.true_or];done)
      have dXO:X≠O:=by first | (refine jb7 hX ?_;simp only[List.any_cons,beq_self_eq_true,Bool.or_true,Bool.true_or];done) | (refine Ne.symm (jb7 hO ?_);simp only[List.any_cons,beq_self_eq_true,Bool.or_true,Bool.true_or];done)
      have dYO:Y≠O:=by first | (refine jb7 hY ?_;simp only[List.any_cons,beq_self_eq_true,Bool.or_true,Bool.true_or];done) | (refine Ne.symm (jb7 hO ?_);simp only[List.any_cons,beq_self_eq_true,Bool.or_true,Bool.true_or];done)
      clear hX hY hO
      try simp only[dXY,dXO,dYO,Ne.symm dXY,Ne.symm dXO,Ne.symm dYO,go_sem]
      refine jcb (X,Y,O) ?_ ?_ ?_ ?_;exact⟨dXY,dXO,dYO⟩;simp only[List.map_cons,List.map_nil,go_sem];refine ja6 ?_ (ja6 ?_ (ja6 ?_ (ja6 ?_ (ja6 ?_ ja7))))
      iterate 5 (simp only[dXY,dXO,dYO,Ne.symm dXY,Ne.symm dXO,Ne.symm dYO,List.length_replicate,go_sem])
      rfl
  ·as_aux_lemma=>
    refine And.intro (by omega) (jc0 (fun Y hY=>And.intro (ja6 (by simp only[go_sem]) ja7) ?_));simp only[go_sem];refine And.intro ?_ ?_
    ·as_aux_lemma=>
      refine jbm kC (by decide) rfl jb3 ja7 ?_;rintro _ L0 ⟨X,rfl,hA0,hA1,hA2⟩ hfr;have hX:=(hfr (hp X) (jbo hA1)).resolve_left (by simp[Abs.look]);clear hfr;refine⟨_,jg4 hA1,?_⟩;refine And.intro (ja6 (by simp only[go_sem]) ja7) ?_;simp only[go_sem];refine And.intro ?_ ?_
      ·as_aux_lemma=>
        refine And.intro (ja6 (by simp only[go_sem]) ja7) ?_
        try simp only[go_sem]
        refine jc0 (fun O hO=>And.intro (ja6 (by simp only[go_sem]) ja7) ?_);simp only[go_sem];have dXY:X≠Y:=by first | (refine jb7 hX ?_;simp only[List.any_cons,beq_self_eq_true,Bool.or_true,Bool.true_or];done) | (refine Ne.symm (jb7 hY ?_);simp only[List.any_cons,beq_self_eq_true,Bool.or_true,Bool.true_or];done)
        have dXO:X≠O:=by first | (refine jb7 hX ?_;simp only[List.any_cons,beq_self_eq_true,Bool.or_true,Bool.true_or];done) | (refine Ne.symm (jb7 hO ?_);simp only[List.any_cons,beq_self_eq_true,Bool.or_true,Bool.true_or];done)
        have dYO:Y≠O:=by first | (refine jb7 hY ?_;simp only[List.any_cons,beq_self_eq_true,Bool.or_true,Bool.true_or];done) | (refine Ne.symm (jb7 hO ?_);simp only[List.any_cons,beq_self_eq_true,Bool.or_true,Bool.true_or];done)
        clear hX hY hO
        try simp only[dXY,dXO,dYO,Ne.symm dXY,Ne.symm dXO,Ne.symm dYO,go_sem]
        refine jcb (X,Y,O) ?_ ?_ ?_ ?_;exact⟨dXY,dXO,dYO⟩;simp only[List.map_cons,List.map_nil,go_sem];refine ja6 ?_ (ja6 ?_ (ja6 ?_ (ja6 ?_ (ja6 ?_ ja7))))
        iterate 5 (simp only[dXY,dXO,dYO,Ne.symm dXY,Ne.symm dXO,Ne.symm dYO,List.length_replicate,go_sem])
        rfl
      ·as_aux_lemma=>
        refine jc0 (fun O hO=>And.intro (ja6 (by simp only[go_sem]) ja7) ?_);simp only[go_sem];refine And.intro (ja6 (by simp only[go_sem]) ja7) ?_
        try simp only[go_sem]
        have dXY:X≠Y:=by first | (refine jb7 hX ?_;simp only[List.any_cons,beq_self_eq_true,Bool.or_true,Bool.true_or];done) | (refine Ne.symm (jb7 hY ?_);simp only[List.any_cons,beq_self_eq_true,Bool.or_true,Bool.true_or];done)
        have dXO:X≠O:=by first | (refine jb7 hX ?_;simp only[List.any_cons,beq_self_eq_true,Bool.or_true,Bool.true_or];done) | (refine Ne.symm (jb7 hO ?_);simp only[List.any_cons,beq_self_eq_true,Bool.or_true,Bool.true_or];done)
        have dYO:Y≠O:=by first | (refine jb7 hY ?_;simp only[List.any_cons,beq_self_eq_true,Bool.or_true,Bool.true_or];done) | (refine Ne.symm (jb7 hO ?_);simp only[List.any_cons,beq_self_eq_true,Bool.or_true,Bool.true_or];done)
        clear hX hY hO
        try simp only[dXY,dXO,dYO,Ne.symm dXY,Ne.symm dXO,Ne.symm dYO,go_sem]
        refine jcb (X,Y,O) ?_ ?_ ?_ ?_;exact⟨dXY,dXO,dYO⟩;simp only[List.map_cons,List.map_nil,go_sem];refine ja6 ?_ (ja6 ?_ (ja6 ?_ (ja6 ?_ (ja6 ?_ ja7))))
        iterate 5 (simp only[dXY,dXO,dYO,Ne.symm dXY,Ne.symm dXO,Ne.symm dYO,List.length_replicate,go_sem])
        rfl
    ·as_aux_lemma=>
      refine jc0 (fun O hO=>And.intro (ja6 (by simp only[go_sem]) ja7) ?_);simp only[go_sem];refine jbm kC (by decide) rfl jb3 ja7 ?_;rintro _ L0 ⟨X,rfl,hA0,hA1,hA2⟩ hfr;have hX:=(hfr (hp X) (jbo hA1)).resolve_left (by simp[Abs.look]);clear hfr;refine⟨_,jg4 hA1,?_⟩;refine And.intro (ja6 (by simp only[go_sem]) ja7) ?_;simp only[go_sem];refine And.intro (ja6 (by simp only[go_sem]) ja7) ?_
      try simp only[go_sem]
      have dXY:X≠Y:=by first | (refine jb7 hX ?_;simp only[List.any_cons,beq_self_eq_true,Bool.or_true,Bool.true_or];done) | (refine Ne.symm (jb7 hY ?_);simp only[List.any_cons,beq_self_eq_true,Bool.or_true,Bool.true_or];done)
      have dXO:X≠O:=by first | (refine jb7 hX ?_;simp only[List.any_cons,beq_self_eq_true,Bool.or_true,Bool.true_or];done) | (refine Ne.symm (jb7 hO ?_);simp only[List.any_cons,beq_self_eq_true,Bool.or_true,Bool.true_or];done)
      have dYO:Y≠O:=by first | (refine jb7 hY ?_;simp only[List.any_cons,beq_self_eq_true,Bool.or_true,Bool.true_or];done) | (refine Ne.symm (jb7 hO ?_);simp only[List.any_cons,beq_self_eq_true,Bool.or_true,Bool.true_or];done)
      clear hX hY hO
      try simp only[dXY,dXO,dYO,Ne.symm dXY,Ne.symm dXO,Ne.symm dYO,go_sem]
      refine jcb (X,Y,O) ?_ ?_ ?_ ?_;exact⟨dXY,dXO,dYO⟩;simp only[List.map_cons,List.map_nil,go_sem];refine ja6 ?_ (ja6 ?_ (ja6 ?_ (ja6 ?_ (ja6 ?_ ja7))))
      iterate 5 (simp only[dXY,dXO,dYO,Ne.symm dXY,Ne.symm dXO,Ne.symm dYO,List.length_replicate,go_sem])
      rfl
  ·as_aux_lemma=>
    refine jc0 (fun O hO=>And.intro (ja6 (by simp only[go_sem]) ja7) ?_);simp only[go_sem];refine And.intro ?_ ?_
    ·as_aux_lemma=>
      refine jbm kC (by decide) rfl jb3 ja7 ?_;rintro _ L0 ⟨X,rfl,hA0,hA1,hA2⟩ hfr;have hX:=(hfr (hp X) (jbo hA1)).resolve_left (by simp[Abs.look]);clear hfr;refine⟨_,jg4 hA1,?_⟩;refine And.intro (ja6 (by simp only[go_sem]) ja7) ?_;simp only[go_sem];refine And.intro (by omega) (jc0 (fun Y hY=>And.intro (ja6 (by simp only[go_sem]) ja7) ?_));simp only[go_sem];refine And.intro (ja6 (by simp only[go_sem]) ja7) ?_
      try simp only[go_sem]
      have dXY:X≠Y:=by first | (refine jb7 hX ?_;simp only[List.any_cons,beq_self_eq_true,Bool.or_true,Bool.true_or];done) | (refine Ne.symm (jb7 hY ?_);simp only[List.any_cons,beq_self_eq_true,Bool.or_true,Bool.true_or];done)
      have dXO:X≠O:=by first | (refine jb7 hX ?_;simp only[List.any_cons,beq_self_eq_true,Bool.or_true,Bool.true_or];done) | (refine Ne.symm (jb7 hO ?_);simp only[List.any_cons,beq_self_eq_true,Bool.or_true,Bool.true_or];done)
      have dYO:Y≠O:=by first | (refine jb7 hY ?_;simp only[List.any_cons,beq_self_eq_true,Bool.or_true,Bool.true_or];done) | (refine Ne.symm (jb7 hO ?_);simp only[List.any_cons,beq_self_eq_true,Bool.or_true,Bool.true_or];done)
      clear hX hY hO
      try simp only[dXY,dXO,dYO,Ne.symm dXY,Ne.symm dXO,Ne.symm dYO,go_sem]
      refine jcb (X,Y,O) ?_ ?_ ?_ ?_;exact⟨dXY,dXO,dYO⟩;simp only[List.map_cons,List.map_nil,go_sem];refine ja6 ?_ (ja6 ?_ (ja6 ?_ (ja6 ?_ (ja6 ?_ ja7))))
      iterate 5 (simp only[dXY,dXO,dYO,Ne.symm dXY,Ne.symm dXO,Ne.symm dYO,List.length_replicate,go_sem])
      rfl
    ·as_aux_lemma=>
      refine And.intro (by omega) (jc0 (fun Y hY=>And.intro (ja6 (by simp only[go_sem]) ja7) ?_));simp only[go_sem];refine jbm kC (by decide) rfl jb3 ja7 ?_;rintro _ L0 ⟨X,rfl,hA0,hA1,hA2⟩ hfr;have hX:=(hfr (hp X) (jbo hA1)).resolve_left (by simp[Abs.look]);clear hfr;refine⟨_,jg4 hA1,?_⟩;refine And.intro (ja6 (by simp only[go_sem]) ja7) ?_;simp only[go_sem];refine And.intro (ja6 (by simp only[go_sem]) ja7) ?_
      try simp only[go_sem]
      have dXY:X≠Y:=by first | (refine jb7 hX ?_;simp only[List.any_cons,beq_self_eq_true,Bool.or_true,Bool.true_or];done) | (refine Ne.symm (jb7 hY ?_);simp only[List.any_cons,beq_self_eq_true,Bool.or_true,Bool.true_or];done)
      have dXO:X≠O:=by first | (refine jb7 hX ?_;simp only[List.any_cons,beq_self_eq_true,Bool.or_true,Bool.true_or];done) | (refine Ne.symm (jb7 hO ?_);simp only[List.any_cons,beq_self_eq_true,Bool.or_true,Bool.true_or];done)
      have dYO:Y≠O:=by first | (refine jb7 hY ?_;simp only[List.any_cons,beq_self_eq_true,Bool.or_true,Bool.true_or];done) | (refine Ne.symm (jb7 hO ?_);simp only[List.any_cons,beq_self_eq_true,Bool.or_true,Bool.true_or];done)
      clear hX hY hO
      try simp only[dXY,dXO,dYO,Ne.symm dXY,Ne.symm dXO,Ne.symm dYO,go_sem]
      refine jcb (X,Y,O) ?_ ?_ ?_ ?_;exact⟨dXY,dXO,dYO⟩;simp only[List.map_cons,List.map_nil,go_sem];refine ja6 ?_ (ja6 ?_ (ja6 ?_ (ja6 ?_ (ja6 ?_ ja7))))
      iterate 5 (simp only[dXY,dXO,dYO,Ne.symm dXY,Ne.symm dXO,Ne.symm dYO,List.length_replicate,go_sem])
      rfl
 ·intro q hq;have dXY:=hq.1;have dXO:=hq.2.1;have dYO:=hq.2.2;clear hq;generalize q.1=X at*;generalize q.2.1=Y at*;generalize q.2.2=O at*;simp only[dXY,dXO,dYO,Ne.symm dXY,Ne.symm dXO,Ne.symm dYO,go_sem];refine jb9 [1,2,3,15,16,17] (fun i:Nat=>⟨[(1,.loc 1 2 0 0),(2,.loc 2 2 0 0),(3,.loc (hp O) 2 0 0),(15,.im (.ref X 52 2 p.bs.length)),(16,.im (.int p.bs.length)),(17,.im (.int i))],
    [(1,2,[p.c]),(2,2,[[.emp,.emp]]),(hp O,2,[[.ref X 52 2 p.bs.length,.ref Y 34 5 p.ps.length]]),(hp X,2,p.bs.map Bat.c),(hp Y,5,List.replicate p.ps.length [.int 0,.int 0,.int 0,.bool false,.bool false])],[]⟩)
   (fun i=>i<=p.bs.length) (fun i=>p.bs.length-i) 0 ?_ ?_ rfl (Nat.zero_le _) ?_
  ·simp only[Int.natCast_zero,go_sem]
  ·exact SubR.of_eq rfl
  intro i hi;by_cases hpi:(i:Int)<p.bs.length
  ·have hd:decide ((i:Int)<p.bs.length)=true:=decide_eq_true hpi;obtain⟨x,hx⟩:=jbv hpi;have h1:=jaa (n:=(i:Int)+1) (by omega);have hin:i<p.bs.length:=by omega
   have kI:=jhn x.mv (by have:=hmv x (List.mem_of_getElem? hx);omega);simp only[ints]at kI;have hset:(p.bs.map Bat.c).set i [.int x.mat,.sl (x.mv.map ic)]=p.bs.map Bat.c:=by
    apply List.ext_getElem?;intro k;rw[List.getElem?_set];by_cases e:i=k
    ·subst e;rw[if_pos rfl,if_pos (by simpa using hin),List.getElem?_map,hx];rfl
    ·rw[if_neg e]
   have hi0:(0:Int)<=i:=by omega
   simp only[hd,hpi,hi0,List.getElem?_map,hx,List.length_map,dXY,dXO,dYO,Ne.symm dXY,Ne.symm dXO,Ne.symm dYO,go_sem];refine jar 6 (by decide+kernel) ?_;simp only[hpi,hi0,List.getElem?_map,hx,List.length_map,dXY,dXO,dYO,Ne.symm dXY,Ne.symm dXO,Ne.symm dYO,go_sem];refine ja8 kI (by decide) ?_;simp only[hpi,hi0,List.getElem?_map,hx,List.length_map,dXY,dXO,dYO,Ne.symm dXY,Ne.symm dXO,Ne.symm dYO,hset,go_sem];refine jaf (i+1) ?_ ?_ rfl (by show p.bs.length-(i+1)<p.bs.length-i;omega) (by show i+1<=p.bs.length;omega)
   ·simp only[h1,Int.natCast_add,go_sem]
   ·refine ja6 ?_ (ja6 ?_ (ja6 ?_ (ja6 ?_ (ja6 ?_ ja7))))
    all_goals simp only[dXY,dXO,dYO,Ne.symm dXY,Ne.symm dXO,Ne.symm dYO,go_sem]
  ·have hd:decide ((i:Int)<p.bs.length)=false:=decide_eq_false hpi;obtain⟨M,hM,b1,l1,l2⟩:∃M:Abs.Rows,M=[(hp X,2,p.bs.map Bat.c),(hp Y,5,p.ps.map Pap.c)]/\blks M/\Abs.look M (hp X)=some (2,p.bs.map Bat.c)/\Abs.look M (hp Y)=some (5,p.ps.map Pap.c):=
    ⟨_,rfl,jam (jam jb3),ja2 _ _ _,by rw[ja0 _ _ (fun e=>dXY (hp_inj.1 e).symm),ja2]⟩
   simp only[hd,dXY,dXO,dYO,Ne.symm dXY,Ne.symm dXO,Ne.symm dYO,go_sem];refine And.intro (fun c hc=>by obtain⟨z,_,rfl⟩:=List.mem_map.1 hc;rfl) ?_;refine jbd M b1 ?_ ?_
   ·rw[hM];refine ja6 ?_ (ja6 ?_ ja7)
    all_goals simp only[dXY,dXO,dYO,Ne.symm dXY,Ne.symm dXO,Ne.symm dYO,go_sem]
   simp only[go_sem];exact⟨X,Y,dXY,rfl,b1,l1,l2⟩
end
end Go.Proofs.YtgncgpfjldefpaaGreat
