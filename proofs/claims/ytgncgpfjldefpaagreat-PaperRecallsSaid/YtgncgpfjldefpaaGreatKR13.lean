/- A part of the proof. No further condition. -/
import Derived.Test.YtgncgpfjldefpaaGreatKR12
set_option linter.all false
set_option maxRecDepth 10000000
set_option maxHeartbeats 16000000
namespace Go.Proofs.YtgncgpfjldefpaaGreat
section
open Go.Abs
attribute [local go_sem] ints ic Bat.c Pap.c Led.c
theorem pb_copied0:CtrH G.P 68 [.im (.agg [.sl [],.sl []])] [] (fun r L'=>∃Y,r= .im (.agg [.emp,.ref Y 34 5 0])/\blks L'/\Abs.look L' (hp Y)=some (5,[])):=by
 refine jan [3,12] [] [.cell 2 25] Tryz.func68 ?_;simp only[go_sem];refine jhr (ι:=Nat×Nat) (fun i=>⟨[(1,.loc 1 2 0 0),(2,.loc 2 2 0 0),(3,.loc (hp i.2) 2 0 0)],[(1,2,[[.sl [],.sl []]]),(2,2,[[.emp,.emp]]),(hp i.2,2,[[.emp,.ref i.1 34 5 0]]),(hp i.1,5,[])],[]⟩)
  (fun i=>i.1≠i.2) ?_ ?_
 ·refine jhq [false,false,true,false,false,false,true,true,true] (.alt 2 (.alt 6 (.alt 7 (.alt 8 .fin .none) (.alt 8 (.alt 7 .fin .none) .none)) (.alt 8 (.alt 6 (.alt 7 .fin .none) .none) .none)) (.alt 6 (.alt 2 (.alt 7 (.alt 8 .fin .none) (.alt 8 (.alt 7 .fin .none) .none)) (.alt 8 (.alt 2 (.alt 7 .fin .none) .none) .none)) (.alt 8 (.alt 2 (.alt 6 (.alt 7 .fin .none) .none) (.alt 6 (.alt 2 (.alt 7 .fin .none) .none) .none)) .none))) [(1,2,[[.sl [],.sl []]])] (by decide+kernel) (ja5 (by simp only[go_sem]) ja7) ?_;simp only[go_sem];refine And.intro ?_ (And.intro ?_ ?_)
  ·as_aux_lemma=>
    refine jbb jfw (by decide) rfl jb0 ja7 ?_;rintro _ _ ⟨rfl,rfl⟩-;refine⟨_,fun k x hk=> .inr ⟨rfl,hk⟩,?_⟩;refine And.intro (ja5 (by simp only[go_sem]) ja7) ?_;simp only[go_sem];refine And.intro ?_ ?_
    ·as_aux_lemma=>
      refine jbn (fun Y hY=>And.intro (ja5 (by simp only[go_sem]) ja7) ?_);simp only[go_sem];refine And.intro ?_ ?_
      ·as_aux_lemma=>
        refine And.intro (ja5 (by simp only[go_sem]) ja7) ?_
        try simp only[go_sem]
        refine jbn (fun O hO=>And.intro (ja5 (by simp only[go_sem]) ja7) ?_);simp only[go_sem];have dYO:Y≠O:=by first | (refine jb4 hY ?_;simp only[List.any_cons,zI,zP,zM];done) | (refine zw (jb4 hO ?_);simp only[List.any_cons,zI,zP,zM];done)
        clear hY hO
        try simp only[dYO,zw dYO,go_sem]
        refine jbz (Y,O) ?_ ?_ ?_ ?_;exact dYO;simp only[go_sem];refine ja5 ?_ (ja5 ?_ (ja5 ?_ (ja5 ?_ ja7)))
        iterate 4 (simp only[dYO,zw dYO,go_sem])
        rfl
      ·as_aux_lemma=>
        refine jbn (fun O hO=>And.intro (ja5 (by simp only[go_sem]) ja7) ?_);simp only[go_sem];refine And.intro (ja5 (by simp only[go_sem]) ja7) ?_
        try simp only[go_sem]
        have dYO:Y≠O:=by first | (refine jb4 hY ?_;simp only[List.any_cons,zI,zP,zM];done) | (refine zw (jb4 hO ?_);simp only[List.any_cons,zI,zP,zM];done)
        clear hY hO
        try simp only[dYO,zw dYO,go_sem]
        refine jbz (Y,O) ?_ ?_ ?_ ?_;exact dYO;simp only[go_sem];refine ja5 ?_ (ja5 ?_ (ja5 ?_ (ja5 ?_ ja7)))
        iterate 4 (simp only[dYO,zw dYO,go_sem])
        rfl
    ·as_aux_lemma=>
      refine jbn (fun O hO=>And.intro (ja5 (by simp only[go_sem]) ja7) ?_);simp only[go_sem];refine jbn (fun Y hY=>And.intro (ja5 (by simp only[go_sem]) ja7) ?_);simp only[go_sem];refine And.intro (ja5 (by simp only[go_sem]) ja7) ?_
      try simp only[go_sem]
      have dYO:Y≠O:=by first | (refine jb4 hY ?_;simp only[List.any_cons,zI,zP,zM];done) | (refine zw (jb4 hO ?_);simp only[List.any_cons,zI,zP,zM];done)
      clear hY hO
      try simp only[dYO,zw dYO,go_sem]
      refine jbz (Y,O) ?_ ?_ ?_ ?_;exact dYO;simp only[go_sem];refine ja5 ?_ (ja5 ?_ (ja5 ?_ (ja5 ?_ ja7)))
      iterate 4 (simp only[dYO,zw dYO,go_sem])
      rfl
  ·as_aux_lemma=>
    refine jbn (fun Y hY=>And.intro (ja5 (by simp only[go_sem]) ja7) ?_);simp only[go_sem];refine And.intro ?_ ?_
    ·as_aux_lemma=>
      refine jbb jfw (by decide) rfl jb0 ja7 ?_;rintro _ _ ⟨rfl,rfl⟩-;refine⟨_,fun k x hk=> .inr ⟨rfl,hk⟩,?_⟩;refine And.intro (ja5 (by simp only[go_sem]) ja7) ?_;simp only[go_sem];refine And.intro ?_ ?_
      ·as_aux_lemma=>
        refine And.intro (ja5 (by simp only[go_sem]) ja7) ?_
        try simp only[go_sem]
        refine jbn (fun O hO=>And.intro (ja5 (by simp only[go_sem]) ja7) ?_);simp only[go_sem];have dYO:Y≠O:=by first | (refine jb4 hY ?_;simp only[List.any_cons,zI,zP,zM];done) | (refine zw (jb4 hO ?_);simp only[List.any_cons,zI,zP,zM];done)
        clear hY hO
        try simp only[dYO,zw dYO,go_sem]
        refine jbz (Y,O) ?_ ?_ ?_ ?_;exact dYO;simp only[go_sem];refine ja5 ?_ (ja5 ?_ (ja5 ?_ (ja5 ?_ ja7)))
        iterate 4 (simp only[dYO,zw dYO,go_sem])
        rfl
      ·as_aux_lemma=>
        refine jbn (fun O hO=>And.intro (ja5 (by simp only[go_sem]) ja7) ?_);simp only[go_sem];refine And.intro (ja5 (by simp only[go_sem]) ja7) ?_
        try simp only[go_sem]
        have dYO:Y≠O:=by first | (refine jb4 hY ?_;simp only[List.any_cons,zI,zP,zM];done) | (refine zw (jb4 hO ?_);simp only[List.any_cons,zI,zP,zM];done)
        clear hY hO
        try simp only[dYO,zw dYO,go_sem]
        refine jbz (Y,O) ?_ ?_ ?_ ?_;exact dYO;simp only[go_sem];refine ja5 ?_ (ja5 ?_ (ja5 ?_ (ja5 ?_ ja7)))
        iterate 4 (simp only[dYO,zw dYO,go_sem])
        rfl
    ·as_aux_lemma=>
      refine jbn (fun O hO=>And.intro (ja5 (by simp only[go_sem]) ja7) ?_);simp only[go_sem];refine jbb jfw (by decide) rfl jb0 ja7 ?_;rintro _ _ ⟨rfl,rfl⟩-;refine⟨_,fun k x hk=> .inr ⟨rfl,hk⟩,?_⟩;refine And.intro (ja5 (by simp only[go_sem]) ja7) ?_;simp only[go_sem];refine And.intro (ja5 (by simp only[go_sem]) ja7) ?_
      try simp only[go_sem]
      have dYO:Y≠O:=by first | (refine jb4 hY ?_;simp only[List.any_cons,zI,zP,zM];done) | (refine zw (jb4 hO ?_);simp only[List.any_cons,zI,zP,zM];done)
      clear hY hO
      try simp only[dYO,zw dYO,go_sem]
      refine jbz (Y,O) ?_ ?_ ?_ ?_;exact dYO;simp only[go_sem];refine ja5 ?_ (ja5 ?_ (ja5 ?_ (ja5 ?_ ja7)))
      iterate 4 (simp only[dYO,zw dYO,go_sem])
      rfl
  ·as_aux_lemma=>
    refine jbn (fun O hO=>And.intro (ja5 (by simp only[go_sem]) ja7) ?_);simp only[go_sem];refine And.intro ?_ ?_
    ·as_aux_lemma=>
      refine jbb jfw (by decide) rfl jb0 ja7 ?_;rintro _ _ ⟨rfl,rfl⟩-;refine⟨_,fun k x hk=> .inr ⟨rfl,hk⟩,?_⟩;refine And.intro (ja5 (by simp only[go_sem]) ja7) ?_;simp only[go_sem];refine jbn (fun Y hY=>And.intro (ja5 (by simp only[go_sem]) ja7) ?_);simp only[go_sem];refine And.intro (ja5 (by simp only[go_sem]) ja7) ?_
      try simp only[go_sem]
      have dYO:Y≠O:=by first | (refine jb4 hY ?_;simp only[List.any_cons,zI,zP,zM];done) | (refine zw (jb4 hO ?_);simp only[List.any_cons,zI,zP,zM];done)
      clear hY hO
      try simp only[dYO,zw dYO,go_sem]
      refine jbz (Y,O) ?_ ?_ ?_ ?_;exact dYO;simp only[go_sem];refine ja5 ?_ (ja5 ?_ (ja5 ?_ (ja5 ?_ ja7)))
      iterate 4 (simp only[dYO,zw dYO,go_sem])
      rfl
    ·as_aux_lemma=>
      refine jbn (fun Y hY=>And.intro (ja5 (by simp only[go_sem]) ja7) ?_);simp only[go_sem];refine jbb jfw (by decide) rfl jb0 ja7 ?_;rintro _ _ ⟨rfl,rfl⟩-;refine⟨_,fun k x hk=> .inr ⟨rfl,hk⟩,?_⟩;refine And.intro (ja5 (by simp only[go_sem]) ja7) ?_;simp only[go_sem];refine And.intro (ja5 (by simp only[go_sem]) ja7) ?_
      try simp only[go_sem]
      have dYO:Y≠O:=by first | (refine jb4 hY ?_;simp only[List.any_cons,zI,zP,zM];done) | (refine zw (jb4 hO ?_);simp only[List.any_cons,zI,zP,zM];done)
      clear hY hO
      try simp only[dYO,zw dYO,go_sem]
      refine jbz (Y,O) ?_ ?_ ?_ ?_;exact dYO;simp only[go_sem];refine ja5 ?_ (ja5 ?_ (ja5 ?_ (ja5 ?_ ja7)))
      iterate 4 (simp only[dYO,zw dYO,go_sem])
      rfl
 ·intro q dYO;generalize q.1=Y at*;generalize q.2=O at*;simp only[dYO,zw dYO,go_sem];refine jaz [1,2,3,15,16,17] (fun _:Nat=>⟨[(1,.loc 1 2 0 0),(2,.loc 2 2 0 0),(3,.loc (hp O) 2 0 0),(15,.im .emp),(16,.im (.int 0)),(17,.im (.int 0))],
    [(1,2,[[.sl [],.sl []]]),(2,2,[[.emp,.emp]]),(hp O,2,[[.emp,.ref Y 34 5 0]]),(hp Y,5,[])],[]⟩)
   (fun _=>True) (fun i=>i) 0 ?_ ?_ rfl trivial ?_
  ·simp only[go_sem]
  ·exact SubR.of_eq rfl
  intro i _;have hd:decide ((0:Int)<0)=false:=rfl;simp only[hd,dYO,zw dYO,go_sem];refine And.intro (fun c hc=>by cases hc) ?_;obtain⟨M,hM,b1,l1⟩:∃M:Abs.Rows,M=[(hp Y,5,[])]/\blks M/\Abs.look M (hp Y)=some (5,[]):=⟨_,rfl,jaq jb0,ja2 _ _ _⟩;refine jb8 M b1 ?_ ?_
  ·rw[hM];refine ja5 ?_ ja7;simp only[dYO,zw dYO,go_sem]
  simp only[go_sem];exact⟨Y,rfl,b1,l1⟩
