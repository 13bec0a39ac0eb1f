/- A part of the proof. No further condition. -/
import Derived.Test.YtfahloobpegieaaGreatKX8
set_option linter.all false
set_option maxRecDepth 100000
namespace Go.Abs
section
open Go.RowKit (Below)
def jlq(G:Ctx)(rs:List ResultVar)(φ:AV->Prop)(st:St):Prop:=
 match rs with
 | [.tmp t]=>φ (st.get t).toH
 | rs=>match resL G st rs with
  | some [x]=>φ (.im x)
  | some xs=>φ (.im (.tup xs))
  | none=>False
def aRetH(G:Ctx)(rs:List ResultVar)(φ:AV->Rows->Prop)(st:St):Prop:=
 ∃L':Rows,(∀k x,look L' k=some x->100000<=k/\look st.rows k=some x)/\jlq G rs (fun r=>φ r L') st
section
variable{G:Ctx}{N:Nat}{w0:Base}{w w':World}{M M0:Nat->Nat->Prop}{β:Nat->Option Nat}{st st':St}{a:Act}{av:AV}{v:Value}
theorem RepA.toH(hβ:∀b,β (hp b)=some b){toks:List (Nat×Nat×Nat)}{M2:Nat->Nat->Prop}(hM:∀b o,M2 b o->M b o)(hv:RepA w M β toks av v):RepA w M2 pβ [] av.toH v/\av.toH.toArg=av.toH:=by
 have hk:Kept w M w M2:=Kept.less w hM;have hb:∀d b,100000<=d->β d=some b->pβ d=some b:=fun d b hd hb=>by
  rw[hp_of hd,hβ]at hb;rw[<-hb];unfold pβ;rw[if_pos hd]
 cases av with
 | im x=>exact⟨Rep.kept (w:=w) hv hk,rfl⟩
 | und=>exact⟨trivial,rfl⟩
 | sx es=>exact⟨Rep.kept (w:=w) hv.1 hk,rfl⟩
 | vec d e s es=>exact⟨Rep.kept (w:=w) hv.1 hk,rfl⟩
 | mpo d sc kvs=>exact⟨trivial,rfl⟩
 | osl d s i n=>
  simp only[AV.toH];split
  ·rename_i hd;obtain⟨ad,c,h1,h2,h3⟩:=hv;exact⟨⟨ad,c,h1,h2,fun hn=>let⟨b,h4,h5⟩:=h3 hn;⟨b,hb d b hd h4,h5⟩⟩,rfl⟩
  ·exact⟨trivial,rfl⟩
 | gsl d e s n=>
  simp only[AV.toH];split
  ·rename_i hd;obtain⟨b,cap,cur,h1,h2⟩:=hv;exact⟨⟨b,cap,cur,hb d b hd h1,h2⟩,rfl⟩
  ·exact⟨trivial,rfl⟩
 | loc d s i j=>
  simp only[AV.toH];split
  ·rename_i hd;obtain⟨b,h1,h2⟩:=hv;exact⟨⟨b,hb d b hd h1,h2⟩,rfl⟩
  ·exact⟨trivial,rfl⟩
theorem ctrH_of_awp(hG:G.Good){f:FuncId}{fn:Func}{c:Code}{args:List AV}{L:Rows}{φ:AV->Rows->Prop}(hf:G.P.funcs[f]? =some fn)(hb:fn.body=some c)(hd:dstC fn.ntmps c=true)(hn:args.length<=fn.ntmps)
  (h:awp G c (fun e s=>match e with | .normal=>aRetH G fn.results.toList φ s | .ret=>aRetH G fn.results.toList φ s | _=>False) (jd6 args L)):CtrH G.P f args L φ:=by
 obtain⟨hN,hd⟩:=jmk hd;intro w M vs hM hrows hlen hargs;refine calls_of_wp hf hb ?_;have hMo:∀b o,Mo M pβ (jd6 args L) b o->MoH M L b o:=by
  rintro b o (hm | ⟨d,s,es,hd,hb⟩ | ⟨d,s,n,hd,_⟩)
  ·exact .inl hm
  ·rw[pβ_of hb]at hd;exact .inr (jc1 (show look L (hp b)=some (s,es)from hd))
  ·simp[jd6,look]at hd
 have hsim:Sim fn.ntmps (Base.exH w L) M pβ (jd6 args L) {tmps:=vs.toArray++Array.replicate (fn.ntmps-vs.toArray.size) undef,defers:=[]} w:=by
  refine⟨by simp;omega,rfl,Base.Fr.refl _,fun b o hm=>⟨hM b o hm,?_⟩,fun t=> ?_,fun d s es hd=> ?_,fun d s n hd=>by simp[jd6,look]at hd,fun d d' b h1 h2 hb hb'=> ?_,fun d _=>rfl,fun k _ hk hr=> ?_,hN,pβ_hp⟩
  ·cases hl:look L (hp b)with
   | none=>rfl
   | some x=>
    obtain⟨s,es⟩:=x;obtain⟨b',h1,h2,_⟩:=hrows _ s es hl;rw[hp_inj]at h1;subst h1;exact absurd hm (h2 o)
  ·have hg:=jkb args 0 t;rw[if_pos (Nat.zero_le _),Nat.sub_zero]at hg;have hg2:(jd6 args L).get t=(look (jhg 0 args) t).getD .und:=rfl;rw[hg2,hg];cases hx:args[t]? with
   | none=>trivial
   | some x=>
    have htl:t<vs.length:=by rw[hlen];exact(List.getElem?_eq_some_iff.1 hx).1
    have hv:(vs.toArray++Array.replicate (fn.ntmps-vs.toArray.size) undef).getD t undef=vs[t]:=by
     simp[Array.getElem?_append,htl]
    show RepA _ _ _ _ _ _;rw[hv];exact(hargs t x _ hx (List.getElem?_eq_getElem htl)).move (Kept.less w hMo) (fun _ _=>rfl) (fun _ _ _ _ hl=>hl) (fun _ _ _ _ _=>rfl) (Shp.refl _)
  ·have hd:look L d=some (s,es):=hd;obtain⟨b,rfl,h1,h2⟩:=hrows d s es hd;exact⟨b,pβ_hp b,fun hp=>(by rw[hp.2]at hd;cases hd),h2.move (Kept.less w hMo) rfl⟩
  ·rw[pβ_of hb,pβ_of hb']
  ·obtain⟨⟨s,es⟩,hl⟩:=Option.isSome_iff_exists.1 hr;obtain⟨b,rfl,_⟩:=hrows k s es hl;unfold hp at hk;omega
 refine wp_mono (ji8 hG c _ _ _ _ _ hd h hsim) fun e a' w' hq=> ?_;obtain⟨β,st,hq,hs⟩:=hq
 suffices hsuff:aRetH G fn.results.toList φ st->a'.defers=[]/\∃v,(results fn a'.tmps).run G.P w'= .ok v w'/\∃r v2 L',φ r L'/\Ending.returned v= .returned v2/\r.toArg=r/\(Base.exH w L).Fr w'/\
   (∀k s es,look L' k=some (s,es)->∃b,k=hp b/\((look L k).isSome\/w.heap.size<=b)/\RowRep w' (MoH M L') b s es)/\RepA w' (MoH M L') pβ [] r v2 by
  cases e with
  | normal=>obtain⟨h1,v,h2,h3⟩:=hsuff hq;exact⟨h1,v,h2,h3⟩
  | ret=>obtain⟨h1,v,h2,h3⟩:=hsuff hq;exact⟨h1,v,h2,h3⟩
  | _=>exact hq.elim
 clear hq;rintro⟨L',hL',hq⟩;refine⟨hs.defers,?_⟩;have hless:∀b o,MoH M L' b o->Mo M β st b o:=by
  rintro b o (hm | hm)
  ·exact .inl hm
  ·obtain⟨⟨s,es⟩,hl⟩:=Option.isSome_iff_exists.1 hm;exact .inr (.inl ⟨_,s,es,(hL' _ _ hl).2,hs.perm b⟩)
 have hrowsE:∀k s es,look L' k=some (s,es)->∃b,k=hp b/\((look L k).isSome\/w.heap.size<=b)/\RowRep w' (MoH M L') b s es:=fun k s es hk=>by
  obtain⟨h1,h2⟩:=hL' k _ hk;obtain⟨b,h3,h4,h5⟩:=hs.rows k s es h2;have hkb:=hp_of h1;rw[hkb,hs.perm]at h3;have h3:=Option.some.inj h3;rw[h3]at hkb;refine⟨b,hkb,?_,h5.move (Kept.less w' hless) rfl⟩;rw[hkb];cases hl:look L (hp b)with
  | some x=>exact .inl rfl
  | none=>
   refine .inr (Nat.le_of_not_lt fun hlt=>h4 ⟨hlt,hl⟩)
 have hres:∀(vs:List Value),(fn.results.toList.mapM (resF a'.tmps)).run G.P w'= .ok vs w'->
   (results fn a'.tmps).run G.P w'= .ok (if h:vs.toArray.size=1 then vs.toArray[0]else .tuple vs.toArray) w':=fun vs hv=>by
  rw[jev,Sem.run_bind,Array.mapM_eq_mapM_toList,Sem.run_map,hv];rfl
 unfold jlq at hq;split at hq
 ·rename_i t hrs;have hrun:(results fn a'.tmps).run G.P w'= .ok (a'.tmps.getD t undef) w':=by
   rw[jev,Sem.run_bind,Array.mapM_eq_mapM_toList,Sem.run_map,hrs];rfl
  obtain⟨h1,h2⟩:=(hs.fr t).toH hs.perm hless;exact⟨_,hrun,_,_,L',hq,rfl,h2,hs.below,hrowsE,h1⟩
 ·split at hq
  ·rename_i x hx;obtain⟨vs,h1,h2⟩:=jfw hG hs hx;obtain⟨v,vs',rfl,h3,h4⟩:=h2.uncons;obtain rfl:=h4.of_nil;exact⟨v,by rw[hres _ h1];rfl,.im x,v,L',hq,rfl,rfl,hs.below,hrowsE,Rep.less h3 hless⟩
  ·rename_i xs hne hx;obtain⟨vs,h1,h2⟩:=jfw hG hs hx;have hlen':¬vs.toArray.size=1:=fun e=>by
    have h3:xs.length=1:=by rw[h2.1];simpa using e
    match xs,h3 with
    | [y],_=>exact hne y rfl
   exact⟨.tuple vs.toArray,by rw[hres _ h1,dif_neg hlen'],.im (.tup xs),_,L',hq,rfl,rfl,hs.below,hrowsE,Rep.less (RepL.tup (vs:=vs.toArray) (by simpa using h2)) hless⟩
  ·exact hq.elim
theorem St.le_keep(s:St)(L R:List Nat):St.Le s (s.keep L R):=fun _ _ _ β _ _ h=>⟨β,h.keep L R⟩
structure St.Sub(s s':St):Prop where
 fr:∀t,s'.get t=s.get t\/s'.get t= .und
 rows:∀k x,look s'.rows k=some x->look s.rows k=some x
 toks:∀k x,look s'.toks k=some x->look s.toks k=some x
theorem St.Sub.le{s s':St}(hs:St.Sub s s'):St.Le s s':=by
 intro N w0 M0 β a w h;refine⟨β,?_⟩;have hM:∀b o,Mo M0 β s' b o->Mo M0 β s b o:=by
  rintro b o (hm | ⟨d,n,es,hd,hb⟩ | ⟨d,n,m,hd,hb⟩)
  ·exact .inl hm
  ·exact .inr (.inl ⟨d,n,es,hs.rows _ _ hd,hb⟩)
  ·exact .inr (.inr ⟨d,n,m,hs.toks _ _ hd,hb⟩)
 have some_of:∀{α:Type} {o o':Option α},(∀x,o=some x->o'=some x)->o.isSome->o'.isSome:=fun h ho=>by
  obtain⟨x,hx⟩:=Option.isSome_iff_exists.1 ho;rw[h x hx];rfl
 refine⟨h.size,h.defers,h.below,h.m0,fun t=> ?_,fun d n es hd=> ?_,fun d n m hd=>h.toks d n m (hs.toks _ _ hd),fun d d' b h1 h2=> ?_,fun d hd=> ?_,fun k hN hN' hk=> ?_,h.np,h.perm⟩
 ·rcases hs.fr t with e | e
  ·rw[e];exact(h.fr t).move (Kept.less w hM) (fun _ _=>rfl) (fun d s n _ hl=>hs.toks _ _ hl) (fun _ _ _ _ _=>rfl) (Shp.refl _)
  ·rw[e];trivial
 ·obtain⟨b,h1,h2,h3⟩:=h.rows d n es (hs.rows _ _ hd);exact⟨b,h1,h2,h3.move (Kept.less w hM) rfl⟩
 ·exact h.inj d d' b (h1.imp (some_of (hs.rows d)) (some_of (hs.toks d))) (h2.imp (some_of (hs.rows d')) (some_of (hs.toks d')))
 ·have:=h.excl d (some_of (hs.rows d) hd);cases hl:look s'.toks d with
  | none=>rfl
  | some x=>rw[hs.toks d x hl]at this;cases this
 ·obtain⟨x,hx⟩:=Option.isSome_iff_exists.1 hk;exact h.nam k hN hN' (jc1 (hs.rows k x hx))
theorem St.sub_of{s:St}(L:List Nat){s':St}(hf:L.map (fun t=>(t,s.get t))=s'.fr)(hr:∀k x,look s'.rows k=some x->look s.rows k=some x)(ht:s'.toks=[]):St.Sub s s':=by
 refine⟨fun t=> ?_,hr,fun k x hk=>by rw[ht]at hk;simp[look]at hk⟩;have h1:s'.get t=(s.keep L []).get t:=by
  show(look s'.fr t).getD .und=(look (L.map fun t=>(t,s.get t)) t).getD .und;rw[hf]
 rw[h1,jpo];split
 ·exact .inl rfl
 ·exact .inr rfl
end
end
end Go.Abs
