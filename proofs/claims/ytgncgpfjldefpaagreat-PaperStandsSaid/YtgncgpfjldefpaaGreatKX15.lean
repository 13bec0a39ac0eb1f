/- A part of the proof. No further condition. -/
import Derived.Test.YtgncgpfjldefpaaGreatKX14
set_option linter.all false
set_option maxRecDepth 100000
namespace Go.Proofs.YtgncgpfjldefpaaGreat
section
open Go.Abs
attribute [local go_sem] ints ic Bat.c Pap.c Led.c
set_option maxRecDepth 10000000 in
set_option maxHeartbeats 8000000 in
theorem pb_copied0:CtrH G.P 68 [.im (.agg [.sl [],.sl []])] [] (fun r L'=>∃Y,r= .im (.agg [.emp,.ref Y 34 5 0])/\blks L'/\Abs.look L' (hp Y)=some (5,[])):=by
 refine jb2 (goodH [3,12] []) _ _ [.cell 2 25] Tryz.func68 rfl rfl (by decide+kernel) rfl ?_;simp only[go_sem];refine jjv (ι:=Nat×Nat) (fun i=>⟨[(1,.loc 1 2 0 0),(2,.loc 2 2 0 0),(3,.loc (hp i.2) 2 0 0)],[(1,2,[[.sl [],.sl []]]),(2,2,[[.emp,.emp]]),(hp i.2,2,[[.emp,.ref i.1 34 5 0]]),(hp i.1,5,[])],[]⟩)
  (fun i=>i.1≠i.2) ?_ ?_
 ·refine jnh [false,false,true,false,false,false,true,true,true] (.alt 2 (.alt 6 (.alt 7 (.alt 8 .fin .none) (.alt 8 (.alt 7 .fin .none) .none)) (.alt 8 (.alt 6 (.alt 7 .fin .none) .none) .none)) (.alt 6 (.alt 2 (.alt 7 (.alt 8 .fin .none) (.alt 8 (.alt 7 .fin .none) .none)) (.alt 8 (.alt 2 (.alt 7 .fin .none) .none) .none)) (.alt 8 (.alt 2 (.alt 6 (.alt 7 .fin .none) .none) (.alt 6 (.alt 2 (.alt 7 .fin .none) .none) .none)) .none))) [(1,2,[[.sl [],.sl []]])] (by decide+kernel) (ja6 (by simp only[go_sem]) ja7) ?_;simp only[go_sem];refine And.intro ?_ (And.intro ?_ ?_)
  ·as_aux_lemma=>
    refine jbm jft (by decide) rfl jb3 ja7 ?_;rintro _ _ ⟨rfl,rfl⟩-;refine⟨_,fun k x hk=> .inr ⟨rfl,hk⟩,?_⟩;refine And.intro (ja6 (by simp only[go_sem]) ja7) ?_;simp only[go_sem];refine And.intro ?_ ?_
    ·as_aux_lemma=>
      refine jc0 (fun Y hY=>And.intro (ja6 (by simp only[go_sem]) ja7) ?_);simp only[go_sem];refine And.intro ?_ ?_
      ·as_aux_lemma=>
        refine And.intro (ja6 (by simp only[go_sem]) ja7) ?_
        try simp only[go_sem]
        refine jc0 (fun O hO=>And.intro (ja6 (by simp only[go_sem]) ja7) ?_);simp only[go_sem];have dYO:Y≠O:=by first | (refine jb7 hY ?_;simp only[List.any_cons,beq_self_eq_true,Bool.or_true,Bool.true_or];done) | (refine Ne.symm (jb7 hO ?_);simp only[List.any_cons,beq_self_eq_true,Bool.or_true,Bool.true_or];done)
        clear hY hO
        try simp only[dYO,Ne.symm dYO,go_sem]
        refine jcb (Y,O) ?_ ?_ ?_ ?_;exact dYO;simp only[go_sem];refine ja6 ?_ (ja6 ?_ (ja6 ?_ (ja6 ?_ ja7)))
        iterate 4 (simp only[dYO,Ne.symm dYO,go_sem])
        rfl
      ·as_aux_lemma=>
        refine jc0 (fun O hO=>And.intro (ja6 (by simp only[go_sem]) ja7) ?_);simp only[go_sem];refine And.intro (ja6 (by simp only[go_sem]) ja7) ?_
        try simp only[go_sem]
        have dYO:Y≠O:=by first | (refine jb7 hY ?_;simp only[List.any_cons,beq_self_eq_true,Bool.or_true,Bool.true_or];done) | (refine Ne.symm (jb7 hO ?_);simp only[List.any_cons,beq_self_eq_true,Bool.or_true,Bool.true_or];done)
        clear hY hO
        try simp only[dYO,Ne.symm dYO,go_sem]
        refine jcb (Y,O) ?_ ?_ ?_ ?_;exact dYO;simp only[go_sem];refine ja6 ?_ (ja6 ?_ (ja6 ?_ (ja6 ?_ ja7)))
        iterate 4 (simp only[dYO,Ne.symm dYO,go_sem])
        rfl
    ·as_aux_lemma=>
      refine jc0 (fun O hO=>And.intro (ja6 (by simp only[go_sem]) ja7) ?_);simp only[go_sem];refine jc0 (fun Y hY=>And.intro (ja6 (by simp only[go_sem]) ja7) ?_);simp only[go_sem];refine And.intro (ja6 (by simp only[go_sem]) ja7) ?_
      try simp only[go_sem]
      have dYO:Y≠O:=by first | (refine jb7 hY ?_;simp only[List.any_cons,beq_self_eq_true,Bool.or_true,Bool.true_or];done) | (refine Ne.symm (jb7 hO ?_);simp only[List.any_cons,beq_self_eq_true,Bool.or_true,Bool.true_or];done)
      clear hY hO
      try simp only[dYO,Ne.symm dYO,go_sem]
      refine jcb (Y,O) ?_ ?_ ?_ ?_;exact dYO;simp only[go_sem];refine ja6 ?_ (ja6 ?_ (ja6 ?_ (ja6 ?_ ja7)))
      iterate 4 (simp only[dYO,Ne.symm dYO,go_sem])
      rfl
  ·as_aux_lemma=>
    refine jc0 (fun Y hY=>And.intro (ja6 (by simp only[go_sem]) ja7) ?_);simp only[go_sem];refine And.intro ?_ ?_
    ·as_aux_lemma=>
      refine jbm jft (by decide) rfl jb3 ja7 ?_;rintro _ _ ⟨rfl,rfl⟩-;refine⟨_,fun k x hk=> .inr ⟨rfl,hk⟩,?_⟩;refine And.intro (ja6 (by simp only[go_sem]) ja7) ?_;simp only[go_sem];refine And.intro ?_ ?_
      ·as_aux_lemma=>
        refine And.intro (ja6 (by simp only[go_sem]) ja7) ?_
        try simp only[go_sem]
        refine jc0 (fun O hO=>And.intro (ja6 (by simp only[go_sem]) ja7) ?_);simp only[go_sem];have dYO:Y≠O:=by first | (refine jb7 hY ?_;simp only[List.any_cons,beq_self_eq_true,Bool.or_true,Bool.true_or];done) | (refine Ne.symm (jb7 hO ?_);simp only[List.any_cons,beq_self_eq_true,Bool.or_true,Bool.true_or];done)
        clear hY hO
        try simp only[dYO,Ne.symm dYO,go_sem]
        refine jcb (Y,O) ?_ ?_ ?_ ?_;exact dYO;simp only[go_sem];refine ja6 ?_ (ja6 ?_ (ja6 ?_ (ja6 ?_ ja7)))
        iterate 4 (simp only[dYO,Ne.symm dYO,go_sem])
        rfl
      ·as_aux_lemma=>
        refine jc0 (fun O hO=>And.intro (ja6 (by simp only[go_sem]) ja7) ?_);simp only[go_sem];refine And.intro (ja6 (by simp only[go_sem]) ja7) ?_
        try simp only[go_sem]
        have dYO:Y≠O:=by first | (refine jb7 hY ?_;simp only[List.any_cons,beq_self_eq_true,Bool.or_true,Bool.true_or];done) | (refine Ne.symm (jb7 hO ?_);simp only[List.any_cons,beq_self_eq_true,Bool.or_true,Bool.true_or];done)
        clear hY hO
        try simp only[dYO,Ne.symm dYO,go_sem]
        refine jcb (Y,O) ?_ ?_ ?_ ?_;exact dYO;simp only[go_sem];refine ja6 ?_ (ja6 ?_ (ja6 ?_ (ja6 ?_ ja7)))
        iterate 4 (simp only[dYO,Ne.symm dYO,go_sem])
        rfl
    ·as_aux_lemma=>
      refine jc0 (fun O hO=>And.intro (ja6 (by simp only[go_sem]) ja7) ?_);simp only[go_sem];refine jbm jft (by decide) rfl jb3 ja7 ?_;rintro _ _ ⟨rfl,rfl⟩-;refine⟨_,fun k x hk=> .inr ⟨rfl,hk⟩,?_⟩;refine And.intro (ja6 (by simp only[go_sem]) ja7) ?_;simp only[go_sem];refine And.intro (ja6 (by simp only[go_sem]) ja7) ?_
      try simp only[go_sem]
      have dYO:Y≠O:=by first | (refine jb7 hY ?_;simp only[List.any_cons,beq_self_eq_true,Bool.or_true,Bool.true_or];done) | (refine Ne.symm (jb7 hO ?_);simp only[List.any_cons,beq_self_eq_true,Bool.or_true,Bool.true_or];done)
      clear hY hO
      try simp only[dYO,Ne.symm dYO,go_sem]
      refine jcb (Y,O) ?_ ?_ ?_ ?_;exact dYO;simp only[go_sem];refine ja6 ?_ (ja6 ?_ (ja6 ?_ (ja6 ?_ ja7)))
      iterate 4 (simp only[dYO,Ne.symm dYO,go_sem])
      rfl
  ·as_aux_lemma=>
    refine jc0 (fun O hO=>And.intro (ja6 (by simp only[go_sem]) ja7) ?_);simp only[go_sem];refine And.intro ?_ ?_
    ·as_aux_lemma=>
      refine jbm jft (by decide) rfl jb3 ja7 ?_;rintro _ _ ⟨rfl,rfl⟩-;refine⟨_,fun k x hk=> .inr ⟨rfl,hk⟩,?_⟩;refine And.intro (ja6 (by simp only[go_sem]) ja7) ?_;simp only[go_sem];refine jc0 (fun Y hY=>And.intro (ja6 (by simp only[go_sem]) ja7) ?_);simp only[go_sem];refine And.intro (ja6 (by simp only[go_sem]) ja7) ?_
      try simp only[go_sem]
      have dYO:Y≠O:=by first | (refine jb7 hY ?_;simp only[List.any_cons,beq_self_eq_true,Bool.or_true,Bool.true_or];done) | (refine Ne.symm (jb7 hO ?_);simp only[List.any_cons,beq_self_eq_true,Bool.or_true,Bool.true_or];done)
      clear hY hO
      try simp only[dYO,Ne.symm dYO,go_sem]
      refine jcb (Y,O) ?_ ?_ ?_ ?_;exact dYO;simp only[go_sem];refine ja6 ?_ (ja6 ?_ (ja6 ?_ (ja6 ?_ ja7)))
      iterate 4 (simp only[dYO,Ne.symm dYO,go_sem])
      rfl
    ·as_aux_lemma=>
      refine jc0 (fun Y hY=>And.intro (ja6 (by simp only[go_sem]) ja7) ?_);simp only[go_sem];refine jbm jft (by decide) rfl jb3 ja7 ?_;rintro _ _ ⟨rfl,rfl⟩-;refine⟨_,fun k x hk=> .inr ⟨rfl,hk⟩,?_⟩;refine And.intro (ja6 (by simp only[go_sem]) ja7) ?_;simp only[go_sem];refine And.intro (ja6 (by simp only[go_sem]) ja7) ?_
      try simp only[go_sem]
      have dYO:Y≠O:=by first | (refine jb7 hY ?_;simp only[List.any_cons,beq_self_eq_true,Bool.or_true,Bool.true_or];done) | (refine Ne.symm (jb7 hO ?_);simp only[List.any_cons,beq_self_eq_true,Bool.or_true,Bool.true_or];done)
      clear hY hO
      try simp only[dYO,Ne.symm dYO,go_sem]
      refine jcb (Y,O) ?_ ?_ ?_ ?_;exact dYO;simp only[go_sem];refine ja6 ?_ (ja6 ?_ (ja6 ?_ (ja6 ?_ ja7)))
      iterate 4 (simp only[dYO,Ne.symm dYO,go_sem])
      rfl
 ·intro q dYO;generalize q.1=Y at*;generalize q.2=O at*;simp only[dYO,Ne.symm dYO,go_sem];refine jb9 [1,2,3,15,16,17] (fun _:Nat=>⟨[(1,.loc 1 2 0 0),(2,.loc 2 2 0 0),(3,.loc (hp O) 2 0 0),(15,.im .emp),(16,.im (.int 0)),(17,.im (.int 0))],
    [(1,2,[[.sl [],.sl []]]),(2,2,[[.emp,.emp]]),(hp O,2,[[.emp,.ref Y 34 5 0]]),(hp Y,5,[])],[]⟩)
   (fun _=>True) (fun i=>i) 0 ?_ ?_ rfl trivial ?_
  ·simp only[go_sem]
  ·exact SubR.of_eq rfl
  intro i _;have hd:decide ((0:Int)<0)=false:=rfl;simp only[hd,dYO,Ne.symm dYO,go_sem];refine And.intro (fun c hc=>by cases hc) ?_;obtain⟨M,hM,b1,l1⟩:∃M:Abs.Rows,M=[(hp Y,5,[])]/\blks M/\Abs.look M (hp Y)=some (5,[]):=⟨_,rfl,jam jb3,ja2 _ _ _⟩;refine jbd M b1 ?_ ?_
  ·rw[hM];refine ja6 ?_ ja7;simp only[dYO,Ne.symm dYO,go_sem]
  simp only[go_sem];exact⟨Y,rfl,b1,l1⟩
end
end Go.Proofs.YtgncgpfjldefpaaGreat
