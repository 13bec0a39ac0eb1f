/- A part of the proof. No further condition. -/
import Derived.Test.YthahgoopboilkaaGreatKE8
set_option linter.all false
set_option maxRecDepth 10000000
set_option maxHeartbeats 16000000
namespace Go.Abs
section
open Go.RowKit (Below)
def jlx(G:Ctx)(rs:List ResultVar)(φ:AV->Prop)(st:St):Prop:=
 match rs with
 | [.tmp t]=>φ (st.get t).toH
 | rs=>match resL G st rs with
  | some [x]=>φ (.im x)
  | some xs=>φ (.im (.tup xs))
  | none=>False
def aRetH(G:Ctx)(rs:List ResultVar)(φ:AV->Rows->Prop)(st:St):Prop:=
 ∃L':Rows,(∀k x,look L' k=some x->100000<=k/\look st.rows k=some x)/\jlx G rs (fun r=>φ r L') st
section
variable{G:Ctx}{N:Nat}{w0:Base}{w w':World}{M M0:Nat->Nat->Prop}{β:Nat->Option Nat}{st st':St}{a:Act}{av:AV}{v:Value}
theorem RepA.toH(hβ:∀b,β (hp b)=some b){toks:List (Nat×Nat×Nat)}{M2:Nat->Nat->Prop}(hM:∀b o,M2 b o->M b o)(hv:RepA w M β toks av v):RepA w M2 pβ [] av.toH v/\av.toH.toArg=av.toH:=by
 have hk:Kept w M w M2:=Kept.less w hM;have hb:∀d b,100000<=d->β d=some b->pβ d=some b:=fun d b hd hb=>by
  rw[hp_of hd,hβ]at hb;rw[<-hb];unfold pβ;rw[zm hd]
 cases av with
 | im x=>exact⟨Rep.kept (w:=w) hv hk,rfl⟩
 | und=>exact⟨trivial,rfl⟩
 | sx es=>exact⟨Rep.kept (w:=w) hv.1 hk,rfl⟩
 | vec d e s es=>exact⟨Rep.kept (w:=w) hv.1 hk,rfl⟩
 | mpo d sc kvs=>exact⟨trivial,rfl⟩
 | osl d s i n=>
  simp only[AV.toH];split
  ·rename_i hd;obtain⟨ad,c,h1,h2,h3⟩:=hv;exact⟨⟨ad,c,h1,h2,fun hn=>let⟨b,h4,h5⟩:=h3 hn;⟨b,hb d b hd h4,h5⟩⟩,rfl⟩
  ·exact⟨trivial,rfl⟩
 | gsl d e s n=>
  simp only[AV.toH];split
  ·rename_i hd;obtain⟨b,cap,cur,h1,h2⟩:=hv;exact⟨⟨b,cap,cur,hb d b hd h1,h2⟩,rfl⟩
  ·exact⟨trivial,rfl⟩
 | loc d s i j=>
  simp only[AV.toH];split
  ·rename_i hd;obtain⟨b,h1,h2⟩:=hv;exact⟨⟨b,hb d b hd h1,h2⟩,rfl⟩
  ·exact⟨trivial,rfl⟩
def SemC(G:Ctx)(N:Nat)(c:Code)(Q:Exit->St->Prop)(st:St):Prop:=∀(w0:Base) (M0:Nat->Nat->Prop) (β:Nat->Option Nat) (a:Act) (w:World),Sim N w0 M0 β st a w->c.wp G.P (liftQ N w0 M0 Q) a w
def endQ(T:St->Prop):Exit->St->Prop
 | .normal,s=>T s
 | .ret,s=>T s
 | _,_=>False
theorem ctrS_of{f:FuncId}{fn:Func}{c:Code}{args:List AV}{L:Rows}{φ:AV->Rows->Prop}(hf:G.P.funcs[f]? =some fn)(hb:fn.body=some c)(hd:dstC fn.ntmps c=true)(hn:args.length<=fn.ntmps)(T:St->Prop)
  (h:SemC G fn.ntmps c (endQ T) (jcg args L))
  (hT:∀(w:World) (M:Nat->Nat->Prop) (β:Nat->Option Nat) (st:St) (a':Act) (w':World),T st->Sim fn.ntmps (Base.exH w L) M β st a' w'->∃v r L',(results fn a'.tmps).run G.P w'= .ok v w'/\φ r L'/\r.toArg=r/\
   (∀k s es,look L' k=some (s,es)->∃b,k=hp b/\((look L k).isSome\/w.heap.size<=b)/\RowRep w' (MoH M L') b s es)/\RepA w' (MoH M L') pβ [] r v):CtrH G.P f args L φ:=by
 obtain⟨hN,hd⟩:=jlk hd;intro w M vs hM hrows hlen hargs;refine calls_of_wp hf hb ?_;have hMo:∀b o,Mo M pβ (jcg args L) b o->MoH M L b o:=by
  rintro b o (hm | ⟨d,s,es,hd,hb⟩ | ⟨d,s,n,hd,_⟩)
  ·exact .inl hm
  ·rw[pβ_of hb]at hd;exact .inr (jc7 (show look L (hp b)=some (s,es)from hd))
  ·simp[jcg,look]at hd
 have hsim:Sim fn.ntmps (Base.exH w L) M pβ (jcg args L) {tmps:=vs.toArray++Array.replicate (fn.ntmps-vs.toArray.size) undef,defers:=[]} w:=by
  refine⟨by simp;omega,rfl,Base.Fr.refl _,fun b o hm=>⟨hM b o hm,?_⟩,fun t=> ?_,fun d s es hd=> ?_,fun d s n hd=>by simp[jcg,look]at hd,fun d d' b h1 h2 hb hb'=> ?_,fun d _=>rfl,fun k _ hk hr=> ?_,hN,pβ_hp⟩
  ·cases hl:look L (hp b)with
   | none=>rfl
   | some x=>
    obtain⟨s,es⟩:=x;obtain⟨b',h1,h2,_⟩:=hrows _ s es hl;rw[hp_inj]at h1;subst h1;exact absurd hm (h2 o)
  ·have hg:=jla args 0 t;rw[zm (zE _),Nat.sub_zero]at hg;have hg2:(jcg args L).get t=(look (jhp 0 args) t).getD .und:=rfl;rw[hg2,hg];cases hx:args[t]? with
   | none=>trivial
   | some x=>
    have htl:t<vs.length:=by rw[hlen];exact(zu.1 hx).1
    have hv:(vs.toArray++Array.replicate (fn.ntmps-vs.toArray.size) undef).getD t undef=vs[t]:=by
     simp[jG,htl]
    show RepA _ _ _ _ _ _;rw[hv];exact(hargs t x _ hx (zh htl)).move (Kept.less w hMo) (fun _ _=>rfl) (fun _ _ _ _ hl=>hl) (fun _ _ _ _ _=>rfl) (Shp.refl _)
  ·have hd:look L d=some (s,es):=hd;obtain⟨b,rfl,h1,h2⟩:=hrows d s es hd;exact⟨b,pβ_hp b,fun hp=>(by rw[hp.2]at hd;cases hd),h2.move (Kept.less w hMo) rfl⟩
  ·rw[pβ_of hb,pβ_of hb']
  ·obtain⟨⟨s,es⟩,hl⟩:=zp.1 hr;obtain⟨b,rfl,_⟩:=hrows k s es hl;unfold hp at hk;omega
 refine wp_mono (h _ _ _ _ _ hsim) fun e a' w' hq=> ?_;obtain⟨β,st,hq,hs⟩:=hq;have hsuff:T st->a'.defers=[]/\∃v,(results fn a'.tmps).run G.P w'= .ok v w'/\∃r v2 L',φ r L'/\Ending.returned v= .returned v2/\r.toArg=r/\(Base.exH w L).Fr w'/\
   (∀k s es,look L' k=some (s,es)->∃b,k=hp b/\((look L k).isSome\/w.heap.size<=b)/\RowRep w' (MoH M L') b s es)/\RepA w' (MoH M L') pβ [] r v2:=fun hq=>by
  obtain⟨v,r,L',h1,h2,h3,h4,h5⟩:=hT w M β st a' w' hq hs;exact⟨hs.defers,v,h1,r,v,L',h2,rfl,h3,hs.below,h4,h5⟩
 cases e with
 | normal=>obtain⟨h1,v,h2,h3⟩:=hsuff hq;exact⟨h1,v,h2,h3⟩
 | ret=>obtain⟨h1,v,h2,h3⟩:=hsuff hq;exact⟨h1,v,h2,h3⟩
 | _=>exact hq.elim
theorem jls(hG:G.Good){f:FuncId}{fn:Func}{c:Code}{args:List AV}{L:Rows}{φ:AV->Rows->Prop}(hf:G.P.funcs[f]? =some fn)(hb:fn.body=some c)(hd:dstC fn.ntmps c=true)(hn:args.length<=fn.ntmps)
  (h:SemC G fn.ntmps c (endQ (aRetH G fn.results.toList φ)) (jcg args L)):CtrH G.P f args L φ:=by
 refine ctrS_of hf hb hd hn _ h fun w M β st a' w' hq hs=> ?_;obtain⟨L',hL',hq⟩:=hq;have hless:∀b o,MoH M L' b o->Mo M β st b o:=by
  rintro b o (hm | hm)
  ·exact .inl hm
  ·obtain⟨⟨s,es⟩,hl⟩:=zp.1 hm;exact .inr (.inl ⟨_,s,es,(hL' _ _ hl).2,hs.perm b⟩)
 have hrowsE:∀k s es,look L' k=some (s,es)->∃b,k=hp b/\((look L k).isSome\/w.heap.size<=b)/\RowRep w' (MoH M L') b s es:=fun k s es hk=>by
  obtain⟨h1,h2⟩:=hL' k _ hk;obtain⟨b,h3,h4,h5⟩:=hs.rows k s es h2;have hkb:=hp_of h1;rw[hkb,hs.perm]at h3;have h3:=jP h3;rw[h3]at hkb;refine⟨b,hkb,?_,h5.move (Kept.less w' hless) rfl⟩;rw[hkb];cases hl:look L (hp b)with
  | some x=>exact .inl rfl
  | none=>
   refine .inr (Nat.le_of_not_lt fun hlt=>h4 ⟨hlt,hl⟩)
 have hres:∀(vs:List Value),(fn.results.toList.mapM (resF a'.tmps)).run G.P w'= .ok vs w'->
   (results fn a'.tmps).run G.P w'= .ok (if h:vs.toArray.size=1 then vs.toArray[0]else .tuple vs.toArray) w':=fun vs hv=>by
  rw[jf1,Sem.run_bind,yo,Sem.run_map,hv];rfl
 unfold jlx at hq;split at hq
 ·rename_i t hrs;have hrun:(results fn a'.tmps).run G.P w'= .ok (a'.tmps.getD t undef) w':=by
   rw[jf1,Sem.run_bind,yo,Sem.run_map,hrs];rfl
  obtain⟨h1,h2⟩:=(hs.fr t).toH hs.perm hless;exact⟨_,_,L',hrun,hq,h2,hrowsE,h1⟩
 ·split at hq
  ·rename_i x hx;obtain⟨vs,h1,h2⟩:=jg7 hG hs hx;obtain⟨v,vs',rfl,h3,h4⟩:=h2.uncons;obtain rfl:=h4.of_nil;exact⟨v,.im x,L',by rw[hres _ h1];rfl,hq,rfl,hrowsE,Rep.less h3 hless⟩
  ·rename_i xs hne hx;obtain⟨vs,h1,h2⟩:=jg7 hG hs hx;have hlen':¬vs.toArray.size=1:=fun e=>by
    have h3:xs.length=1:=by rw[h2.1];simpa using e
    match xs,h3 with
    | [y],_=>exact hne y rfl
   exact⟨.tuple vs.toArray,.im (.tup xs),L',by rw[hres _ h1,dif_neg hlen'],hq,rfl,hrowsE,Rep.less (RepL.tup (vs:=vs.toArray) (by simpa using h2)) hless⟩
  ·exact hq.elim
theorem SemC.awp{N:Nat}{c:Code}{Q:Exit->St->Prop}{st:St}(hG:G.Good)(hd:dstB N c=true)(h:Go.Abs.awp G c Q st):SemC G N c Q st:=fun w0 M0 β a w hs=>jem hG c Q st β a w hd h hs
theorem SemC.mono{N:Nat}{c:Code}{Q Q':Exit->St->Prop}{st:St}(h:SemC G N c Q st)(hQ:∀e s,Q e s->Q' e s):SemC G N c Q' st:=fun w0 M0 β a w hs=>
 wp_mono (h w0 M0 β a w hs) fun e _ _ ⟨β',st',hq,hs'⟩=>⟨β',st',hQ e st' hq,hs'⟩
theorem ctrH_of_awp(hG:G.Good){f:FuncId}{fn:Func}{c:Code}{args:List AV}{L:Rows}{φ:AV->Rows->Prop}(hf:G.P.funcs[f]? =some fn)(hb:fn.body=some c)(hd:dstC fn.ntmps c=true)(hn:args.length<=fn.ntmps)
  (h:awp G c (fun e s=>match e with | .normal=>aRetH G fn.results.toList φ s | .ret=>aRetH G fn.results.toList φ s | _=>False) (jcg args L)):CtrH G.P f args L φ:=
 jls hG hf hb hd hn ((SemC.awp hG (jlk hd).2 h).mono fun e s hq=>by cases e<;>exact hq)
theorem St.le_keep(s:St)(L R:List Nat):St.Le s (s.keep L R):=fun _ _ _ β _ _ h=>⟨β,h.keep L R⟩
structure St.Sub(s s':St):Prop where
 fr:∀t,s'.get t=s.get t\/s'.get t= .und
 rows:∀k x,look s'.rows k=some x->look s.rows k=some x
 toks:∀k x,look s'.toks k=some x->look s.toks k=some x
theorem St.Sub.le{s s':St}(hs:St.Sub s s'):St.Le s s':=by
 intro N w0 M0 β a w h;refine⟨β,?_⟩;have hM:∀b o,Mo M0 β s' b o->Mo M0 β s b o:=by
  rintro b o (hm | ⟨d,n,es,hd,hb⟩ | ⟨d,n,m,hd,hb⟩)
  ·exact .inl hm
  ·exact .inr (.inl ⟨d,n,es,hs.rows _ _ hd,hb⟩)
  ·exact .inr (.inr ⟨d,n,m,hs.toks _ _ hd,hb⟩)
 have some_of:∀{α:Type} {o o':Option α},(∀x,o=some x->o'=some x)->o.isSome->o'.isSome:=fun h ho=>by
  obtain⟨x,hx⟩:=zp.1 ho;rw[h x hx];rfl
 refine⟨h.size,h.defers,h.below,h.m0,fun t=> ?_,fun d n es hd=> ?_,fun d n m hd=>h.toks d n m (hs.toks _ _ hd),fun d d' b h1 h2=> ?_,fun d hd=> ?_,fun k hN hN' hk=> ?_,h.np,h.perm⟩
 ·rcases hs.fr t with e | e
  ·rw[e];exact(h.fr t).move (Kept.less w hM) (fun _ _=>rfl) (fun d s n _ hl=>hs.toks _ _ hl) (fun _ _ _ _ _=>rfl) (Shp.refl _)
  ·rw[e];trivial
 ·obtain⟨b,h1,h2,h3⟩:=h.rows d n es (hs.rows _ _ hd);exact⟨b,h1,h2,h3.move (Kept.less w hM) rfl⟩
 ·exact h.inj d d' b (h1.imp (some_of (hs.rows d)) (some_of (hs.toks d))) (h2.imp (some_of (hs.rows d')) (some_of (hs.toks d')))
 ·have:=h.excl d (some_of (hs.rows d) hd);cases hl:look s'.toks d with
  | none=>rfl
  | some x=>rw[hs.toks d x hl]at this;cases this
 ·obtain⟨x,hx⟩:=zp.1 hk;exact h.nam k hN hN' (jc7 (hs.rows k x hx))
theorem St.sub_of{s:St}(L:List Nat){s':St}(hf:L.map (fun t=>(t,s.get t))=s'.fr)(hr:∀k x,look s'.rows k=some x->look s.rows k=some x)(ht:s'.toks=[]):St.Sub s s':=by
 refine⟨fun t=> ?_,hr,fun k x hk=>by rw[ht]at hk;simp[look]at hk⟩;have h1:s'.get t=(s.keep L []).get t:=by
  show(look s'.fr t).getD .und=(look (L.map fun t=>(t,s.get t)) t).getD .und;rw[hf]
 rw[h1,js5];split
 ·exact .inl rfl
 ·exact .inr rfl
end
end
section
open Go.RowKit (Below)
universe u
class Hold (α:Sort u) where
 val:α
def Two(t:Bool)[A:Hold Prop][B:Hold Prop]:Prop:=(t=true->A.val)/\(t=false->B.val)
theorem Two_true{A B:Prop}: @Two true ⟨A⟩ ⟨B⟩=A:=by simp[Two]
theorem Two_false{A B:Prop}: @Two false ⟨A⟩ ⟨B⟩=B:=by simp[Two]
theorem Two_not{A B:Prop}{t:Bool}: @Two (!t) ⟨A⟩ ⟨B⟩= @Two t ⟨B⟩ ⟨A⟩:=by cases t<;>simp[Two]
theorem jcq{t:Bool}{A B:Prop}(h1:t=true->A)(h2:t=false->B): @Two t ⟨A⟩ ⟨B⟩:=⟨h1,h2⟩
theorem jcy{p:Prop}{i:Decidable p}{A B:Prop}(h1: @decide p i=true->p->A)(h2: @decide p i=false->¬p->B): @Two (@decide p i) ⟨A⟩ ⟨B⟩:=
 ⟨fun h=>h1 h (zI h),fun h=>h2 h (zJ h)⟩
def Opt{α:Type}(o:Option α)[K:Hold (α->Prop)]:Prop:=
 match o with
 | some x=>K.val x
 | none=>False
theorem Opt_some{α:Type}{x:α}{K:α->Prop}: @Opt α (some x) ⟨K⟩=K x:=propext ⟨fun h=>h,fun h=>h⟩
def asB:AV->Option Bool
 | .im (.sc (.bool t))=>some t
 | _=>none
section
variable{G:Ctx}
def LoopP(G:Ctx)[c:Hold Code][Q:Hold (Exit->St->Prop)](st:St):Prop:=awp G (.loop c.val) Q.val st
def DrawP(G:Ctx)[ops:Hold (List Oper)][Q:Hold (Exit->St->Prop)](st:St):Prop:=
 RegSem G ops.val (Q.val .normal) st
def AnyP(G:Ctx)[ops:Hold (List Oper)][K:Hold (St->Prop)](f:Nat)(listed:Array Bool)(st:St):Prop:=aAny G ops.val K.val f listed st
variable(dst:Option Tmp)(ty:TypeId)(pos:String)(af:Array Edge)(gd:Option (Nat×Bool))(st:St)(ops:List Oper)(r:List Oper)
theorem awp_skip(Q:Exit->St->Prop):awp G .skip Q st=Q .normal st:=propext ⟨fun h=>h,fun h=>h⟩
theorem awp_seq(x y:Code)(Q:Exit->St->Prop):
  awp G (.seq x y) Q st=awp G x (fun e s=>match e with | .normal=>awp G y Q s | e=>Q e s) st:=propext ⟨fun h=>h,fun h=>h⟩
theorem awp_cond(c:Operand)(x y:Code)(Q:Exit->St->Prop):
  awp G (.cond c x y) Q st=Opt (asB (evO st c)) (K:=⟨fun t=>Two t (A:=⟨awp G x Q st⟩) (B:=⟨awp G y Q st⟩)⟩):=by
 simp only[awp];generalize evO st c=av;cases av with
 | im x=>cases x with
  | sc v=>cases v<;>rfl
  | _=>rfl
 | _=>rfl
theorem awp_block(id:Nat)(c:Code)(Q:Exit->St->Prop):
  awp G (.block id c) Q st=awp G c (fun e s=>match e with | .exit k=>if k=id then Q .normal s else Q (.exit k) s | e=>Q e s) st:=propext ⟨fun h=>h,fun h=>h⟩
theorem awp_exit(id:Nat)(Q:Exit->St->Prop):awp G (.exit id) Q st=Q (.exit id) st:=propext ⟨fun h=>h,fun h=>h⟩
theorem awp_ret(Q:Exit->St->Prop):awp G .ret Q st=Q .ret st:=propext ⟨fun h=>h,fun h=>h⟩
theorem awp_loop(c:Code)(Q:Exit->St->Prop):awp G (.loop c) Q st=LoopP G (c:=⟨c⟩) (Q:=⟨Q⟩) st:=propext ⟨fun h=>h,fun h=>h⟩
theorem awp_region(id:Nat)(Q:Exit->St->Prop):
  awp G (.region id ops.toArray false) Q st=alist G ops (Q .normal) ops st:=by simp[awp]
theorem awp_draw(id:Nat)(Q:Exit->St->Prop):
  awp G (.region id ops.toArray true) Q st=DrawP G (ops:=⟨ops⟩) (Q:=⟨Q⟩) st:=by simp only[awp,DrawP,qC]
theorem jq1(ops:List Oper)(K:St->Prop)(st:St):alist G ops K [] st=K st:=propext ⟨fun h=>h,fun h=>h⟩
theorem alist_free(K:St->Prop)(op:Op):
  alist G ops K (⟨dst,op,ty,pos,af,none⟩::r) st=aop G ⟨dst,op,ty,pos,af,none⟩ (alist G ops K r) st:=propext ⟨fun h=>h,fun h=>h⟩
theorem Two_eq(A B:Prop)(b want:Bool):((b=want->A)/\(b≠want->B))=Two (b==want) (A:=⟨A⟩) (B:=⟨B⟩):=by
 cases b<;>cases want<;>simp[Two]
theorem alist_guard(K:St->Prop)(op:Op)(j:Nat)(want:Bool):
  alist G ops K (⟨dst,op,ty,pos,af,some (j,want)⟩::r) st=Opt (jd5 st ops j) (K:=⟨fun y=>match y with
   | some b=>Two (b==want) (A:=⟨aop G ⟨dst,op,ty,pos,af,some (j,want)⟩ (alist G ops K r) st⟩) (B:=⟨alist G ops K r (st.put dst jcs)⟩)
   | none=>alist G ops K r (st.put dst jcs)⟩):=by
 conv=>lhs;unfold alist
 simp only[Opt,Two_eq];split<;>rename_i h<;>rw[h]
theorem jq3(ops:List Oper)(K:St->Prop)(st:St):ahead G ops K [] st=K st:=propext ⟨fun h=>h,fun h=>h⟩
theorem ahead_free(ops:List Oper)(K:St->Prop)(dst:Option Tmp)(op:Op)(ty:TypeId)(pos:String)(af:Array Edge)(r:List Oper)(st:St):
  ahead G ops K (⟨dst,op,ty,pos,af,none⟩::r) st=aq G st ⟨dst,op,ty,pos,af,none⟩ (fun av=>ahead G ops K r (st.put dst av)):=propext ⟨fun h=>h,fun h=>h⟩
theorem ahead_guard(ops:List Oper)(K:St->Prop)(dst:Option Tmp)(op:Op)(ty:TypeId)(pos:String)(af:Array Edge)(j:Nat)(want:Bool)(r:List Oper)(st:St):
  ahead G ops K (⟨dst,op,ty,pos,af,some (j,want)⟩::r) st=Opt (jd5 st ops j) (K:=⟨fun y=>match y with
   | some b=>Two (b==want) (A:=⟨aq G st ⟨dst,op,ty,pos,af,some (j,want)⟩ (fun av=>ahead G ops K r (st.put dst av))⟩) (B:=⟨ahead G ops K r (st.put dst jcs)⟩)
   | none=>ahead G ops K r (st.put dst jcs)⟩):=by
 conv=>lhs;unfold ahead
 simp only[Opt,Two_eq];split<;>rename_i h<;>rw[h]
theorem jd3(K:St->Prop)(st:St)(o:Oper):aVal G K st o=Opt (yv G st o) (K:=⟨fun av=>K (st.put o.dst av)⟩):=by
 unfold aVal Opt;split<;>rename_i h<;>simp[h]
def jfh(G:Ctx)(ops:List Oper)(K:St->Prop)(n:Nat)(l:List Oper)(st:St):Prop:=ahead G ops (fun s=>alist G ops K (l.drop n) s) (l.take n) st
theorem DrawP_of{ops:List Oper}{Q:Exit->St->Prop}{st:St}(n:Nat)(h:drawB ops.toArray n=true)
  (hA:jfh G ops (Q .normal) n ops st): @DrawP G ⟨ops⟩ ⟨Q⟩ st:=fun _ _ _ _ _ _ id _ hG hd hK hs=>draw_sound hG id n h hd hK hs hA
theorem DrawS_of{ops:List Oper}{Q:Exit->St->Prop}{st:St}(h:drawS ops.toArray=true)
  (hA:jbb G ops (jip G (Q .normal) ops) ops (freshAll G ops st)): @DrawP G ⟨ops⟩ ⟨Q⟩ st:=fun _ _ _ _ _ _ id _ hG hd hK hs=>drawS_sound hG id h hd hK hs hA
theorem DrawE_of{ops:List Oper}{Q:Exit->St->Prop}{st:St}(hA: @AnyP G ⟨ops⟩ ⟨Q .normal⟩ ops.length (Array.replicate ops.length false) st): @DrawP G ⟨ops⟩ ⟨Q⟩ st:=fun _ _ _ _ _ _ id _ hG hd hK hs=>any_sound hG id hd hK hs hA
theorem joj{ops:List Oper}{K:St->Prop}{listed:Array Bool}{st:St}(h:(Region.ready .any ops.toArray listed==[])=true)(hA:K st): @AnyP G ⟨ops⟩ ⟨K⟩ 0 listed st:=⟨eq_of_beq h,hA⟩
theorem jeg{ops:List Oper}{K:St->Prop}{f:Nat}{listed:Array Bool}{st:St}(i:Nat){o:Oper}(h:(Region.ready .any ops.toArray listed==[i])=true)(ho:ops[i]? =some o)
  (hA:alist G ops (fun s=> @AnyP G ⟨ops⟩ ⟨K⟩ f (listed.setIfInBounds i true) s) [o] st): @AnyP G ⟨ops⟩ ⟨K⟩ (f+1) listed st:=by
 have h:=eq_of_beq h;have h0:Region.ready .any ops.toArray listed≠[]:=by rw[h];simp
 refine⟨h0,fun k hk=> ?_⟩;dsimp only at hk;rw[h,zF]at hk;subst hk;exact⟨o,ho,hA⟩
theorem jt2{ops:List Oper}{K:St->Prop}{f:Nat}{listed:Array Bool}{st:St}(i j:Nat){o p:Oper}(h:(Region.ready .any ops.toArray listed==[i,j])=true)(ho:ops[i]? =some o)(hp:ops[j]? =some p)
  (hA:alist G ops (fun s=> @AnyP G ⟨ops⟩ ⟨K⟩ f (listed.setIfInBounds i true) s) [o] st) (hB:alist G ops (fun s=> @AnyP G ⟨ops⟩ ⟨K⟩ f (listed.setIfInBounds j true) s) [p] st): @AnyP G ⟨ops⟩ ⟨K⟩ (f+1) listed st:=by
 have h:=eq_of_beq h;have h0:Region.ready .any ops.toArray listed≠[]:=by rw[h];simp
 refine⟨h0,fun k hk=> ?_⟩;dsimp only at hk;rw[h]at hk;rcases zS.1 hk with rfl | hk
 ·exact⟨o,ho,hA⟩
 ·rw[zF]at hk;subst hk;exact⟨p,hp,hB⟩
theorem aheadN_zero(K:St->Prop)(l:List Oper):jfh G ops K 0 l st=alist G ops K l st:=by
 simp only[jfh,List.take_zero,zX,jq3]
theorem aheadN_nil(K:St->Prop)(n:Nat):jfh G ops K n [] st=K st:=by
 simp only[jfh,List.take_nil,List.drop_nil,jq3,jq1]
theorem aheadN_free(K:St->Prop)(n:Nat)(op:Op):
  jfh G ops K (n+1) (⟨dst,op,ty,pos,af,none⟩::r) st=aq G st ⟨dst,op,ty,pos,af,none⟩ (fun av=>jfh G ops K n r (st.put dst av)):=by
 simp only[jfh,List.take_succ_cons,zO,ahead_free]
theorem aheadS_nil(K:St->Prop):jbb G ops K [] st=K st:=propext ⟨fun h=>h,fun h=>h⟩
theorem aheadS_store(K:St->Prop)(t:TypeId)(p x:Operand):
  jbb G ops K (⟨none,.store t p x,ty,pos,af,none⟩::r) st=jbb G ops K r st:=by
 conv=>lhs;unfold jbb
 rw[zm (by rfl)]
theorem aStores_nil(K:St->Prop):je9 G K [] st=K st:=propext ⟨fun h=>h,fun h=>h⟩
theorem aStores_other(K:St->Prop)(d:Tmp)(op:Op)(g:Option (Nat×Bool)):
  je9 G K (⟨some d,op,ty,pos,af,g⟩::r) st=je9 G K r st:=by
 conv=>lhs;unfold je9
 rw[zn (by unfold jbv;split<;>simp)]
theorem aStores_store(K:St->Prop)(t:TypeId)(p x:Operand):
  je9 G K (⟨none,.store t p x,ty,pos,af,none⟩::r) st=match ivOf (evO st x),evO st p with
   | some y,.loc d s i j=>match look st.rows d with
    | some (s',es)=>Opt es[i]? (K:=⟨fun c=>s'=s/\(G.ti t).size≠0/\(cellsOf y).length=(G.ti t).size/\(cellsOf y).all IV.one=true/\j+(G.ti t).size<=c.length/\
     je9 G K r {st with rows:=setRow st.rows d s (es.set i (jbp c j (cellsOf y)))}⟩)
    | none=>False
   | _,_=>False:=by
 conv=>lhs;unfold je9
 rw[zm (by rfl)];dsimp only;unfold aStQ;generalize ivOf (evO st x)=oy;generalize evO st p=pv;cases oy with
 | none=>rfl
 | some y=>cases pv with
  | loc d s i j=>
   dsimp only;generalize look st.rows d=o;cases o with
   | none=>rfl
   | some q=>
    obtain⟨s',es⟩:=q;dsimp only;unfold Opt;generalize es[i]? =oc;cases oc<;>rfl
  | _=>rfl
theorem aheadN_guard(K:St->Prop)(n:Nat)(op:Op)(j:Nat)(want:Bool):
  jfh G ops K (n+1) (⟨dst,op,ty,pos,af,some (j,want)⟩::r) st=Opt (jd5 st ops j) (K:=⟨fun y=>match y with
   | some b=>Two (b==want) (A:=⟨aq G st ⟨dst,op,ty,pos,af,some (j,want)⟩ (fun av=>jfh G ops K n r (st.put dst av))⟩) (B:=⟨jfh G ops K n r (st.put dst jcs)⟩)
   | none=>jfh G ops K n r (st.put dst jcs)⟩):=by
 unfold jfh;rw[List.take_succ_cons,zO,ahead_guard]
def CallP(G:Ctx)(g:Nat)(xs:List IV)[K:Hold (IV->Prop)][V:Hold (Nat->Nat->List (List IV)->Prop)][W:Hold Prop]:Prop:=
 (3<=g/\g<G.fns)/\((∃φ:IV->Prop,Ctr G.P g xs φ/\∀r,φ r->K.val r)\/(∃e s es,CtrV G.P g xs e s es/\(∀c∈es,c.length=s)/\V.val e s es)\/W.val)
theorem CallP_of{g:Nat}{xs:List IV}{K:IV->Prop}{V:Nat->Nat->List (List IV)->Prop}{W:Prop}{φ:IV->Prop}(h:Ctr G.P g xs φ)(hg:3<=g/\g<G.fns)(hK:∀r,φ r->K r): @CallP G g xs ⟨K⟩ ⟨V⟩ ⟨W⟩:=⟨hg,.inl ⟨φ,h,hK⟩⟩
theorem jc0{g:Nat}{xs:List IV}{K:IV->Prop}{V:Nat->Nat->List (List IV)->Prop}{W:Prop}{r:IV}(h:Ctr G.P g xs (· =r))(hg:3<=g/\g<G.fns)(hK:K r): @CallP G g xs ⟨K⟩ ⟨V⟩ ⟨W⟩:=⟨hg,.inl ⟨_,h,fun _ e=>e▸hK⟩⟩
def jql(st:St)(ρ:List (Nat×Nat)):Rows->Prop
 | []=>True
 | p::L=>look st.rows (rnm ρ p.1)=some p.2/\jql st ρ L
theorem jmw{st:St}{ρ:List (Nat×Nat)}:∀{L:Rows},jql st ρ L->∀p∈L,look st.rows (rnm ρ p.1)=some p.2
 | [],_,p,hp=>by cases hp
 | q::L,h,p,hp=>by
  rcases zS.1 hp with rfl | hp
  ·exact h.1
  ·exact jmw h.2 p hp
def dstOk(dst:Option Nat)(ρ:List (Nat×Nat))(L:Rows):Bool:=L.all fun p=>dst !=some (rnm ρ p.1)
theorem jm4{g:Nat}{xs:List IV}{K':IV->Prop}{V:Nat->Nat->List (List IV)->Prop}{K:St->Prop}{st st':St}{dst:Option Nat}{args:List AV}(ρ:List (Nat×Nat)){args':List AV}{L:Rows}{r0:AV}{Es0:List (List (List IV))}{new0:Option (Nat×List (List IV))}
  (h:CtrM G.P g args' L (fun r Es new=>r=r0/\Es=Es0/\new=new0)) (hg:3<=g/\g<G.fns) (hN:(L.map (·.1)).Nodup) (hN':(L.map fun p=>rnm ρ p.1).Nodup) (hr:jql st ρ L) (h9:look L 901=none) (hd:dstOk dst ρ L=true)
  (ha:args'.map (AV.rn ρ)=args.map AV.toArg) (hst:jn5 st ρ L Es0 new0 dst r0=some st') (hK:K st') {W:Prop} (hρ:(ρ.all fun p=>Nat.blt p.1 100000)=true): @CallP G g xs ⟨K'⟩ ⟨V⟩ ⟨aCallM G K st dst g args\/W⟩:=
 ⟨hg,.inr (.inr (.inl ⟨ρ,L,args',_,⟨hN,hN',jmw hr,fun p hp=>by
  have:=List.all_eq_true.1 hρ p hp
  rwa [Nat.blt_eq]at this⟩,h9,fun k hk e=>by
  obtain⟨x,hx⟩:=zp.1 hk;have:=List.all_eq_true.1 hd _ (jcp hx);subst e;simp at this,ha,h,fun r Es new ⟨h1,h2,h3⟩=>by subst h1 h2 h3;exact⟨st',hst,hK⟩⟩))⟩
def CallD(G:Ctx)(g:Nat)(xs:List IV)[K:Hold (IV->Prop)]:Prop:=
 (3<=g/\g<G.fns)/\∃r,Ctr G.P g xs (· =r)/\K.val r
theorem ja4{g:Nat}{xs:List IV}{K:IV->Prop}{r:IV}(h:Ctr G.P g xs (· =r))(hg:3<=g/\g<G.fns)(hK:K r): @CallD G g xs ⟨K⟩:=⟨hg,r,h,hK⟩
def CallH(G:Ctx)(g:Nat)(st:St)(dst:Option Nat)(args:List AV)[K:Hold (St->Prop)]:Prop:=(3<=g/\g<G.fns)/\jly G K.val st dst g args
def SubR(R' R:Rows):Prop:=∀k x,look R' k=some x->look R k=some x
theorem SubR.refl(R:Rows):SubR R R:=fun _ _ h=>h
theorem SubR.of_eq{R' R:Rows}(h:R'=R):SubR R' R:=by subst h;exact SubR.refl _
def jfk(R L L' R':Rows):Prop:=∀k x,look R' k=some x->look L' k=some x\/(look L k=none/\look R k=some x)
def blks(L:Rows):Prop:=∀k x,look L k=some x->∃b,k=hp b
theorem jsj{g:Nat}{st:St}{dst:Option Nat}{args args':List AV}{K:St->Prop}{L:Rows}{φ:AV->Rows->Prop}(h:CtrH G.P g args' L φ)(ha:args.map AV.toH=args')(hL:blks L)(hR:SubR L st.rows)
  (hK:∀r L',φ r L'->(∀k,(look L' k).isSome->(look L k).isSome\/look st.rows k=none)->∃R',jfk st.rows L L' R'/\K ((⟨st.fr,R',st.toks⟩:St).put dst r)):jly G K st dst g args:=by
 subst ha;exact⟨L,φ,⟨hL,hR⟩,h,hK⟩
theorem jaj{g:Nat}{st:St}{dst:Option Nat}{args args':List AV}{K:St->Prop}{L:Rows}{φ:AV->Rows->Prop}(h:CtrH G.P g args' L φ)(hg:3<=g/\g<G.fns)(ha:args.map AV.toH=args')(hL:blks L)(hR:SubR L st.rows)
  (hK:∀r L',φ r L'->(∀k,(look L' k).isSome->(look L k).isSome\/look st.rows k=none)->∃R',jfk st.rows L L' R'/\K ((⟨st.fr,R',st.toks⟩:St).put dst r)): @CallH G g st dst args ⟨K⟩:=
 ⟨hg,jsj h ha hL hR hK⟩
theorem jd4{g:Nat}{xs:List IV}{K':IV->Prop}{V:Nat->Nat->List (List IV)->Prop}{W:Prop}{st:St}{dst:Option Nat}{args args':List AV}{K:St->Prop}{L:Rows}{φ:AV->Rows->Prop}(h:CtrH G.P g args' L φ)(hg:3<=g/\g<G.fns)(ha:args.map AV.toH=args')(hL:blks L)(hR:SubR L st.rows)
  (hK:∀r L',φ r L'->(∀k,(look L' k).isSome->(look L k).isSome\/look st.rows k=none)->∃R',jfk st.rows L L' R'/\K ((⟨st.fr,R',st.toks⟩:St).put dst r)): @CallP G g xs ⟨K'⟩ ⟨V⟩ ⟨W\/jly G K st dst g args⟩:=
 ⟨hg,.inr (.inr (.inr (jsj h ha hL hR hK)))⟩
theorem jn9{ops:List Oper}{Q:Exit->St->Prop}{st:St}(h:RegSem G ops (Q .normal) st): @DrawP G ⟨ops⟩ ⟨Q⟩ st:=h
def SpCall(G:Ctx)(fv:AV)(args:List AV)(R:Rows)[T:Hold (AV->Rows->Prop)]:Prop:=spCall G fv args R T.val
theorem jct{g:Nat}{caps:List IV}{args args':List AV}{R:Rows}{T:AV->Rows->Prop}{L:Rows}{φ:AV->Rows->Prop}(h:CtrH G.P g args' L φ)(hg:3<=g/\g<G.fns)(ha:(args++caps.map AV.im).map AV.toH=args')(hL:blks L)(hR:SubR L R)
  (hK:∀r L',φ r L'->(∀k,(look L' k).isSome->(look L k).isSome\/look R k=none)->∃R',jfk R L L' R'/\T r R'): @SpCall G (.im (.clo g caps)) args R ⟨T⟩:=
 ⟨g,caps,rfl,hg,L,φ,hL,hR,by rw[ha];exact h,hK⟩
def GrowX(b s:Nat)(es:List (List IV))(e n:Nat)(R:Rows)[T:Hold (AV->Rows->Prop)]:Prop:=∀X,look (del R (hp b)) (hp X)=none->T.val (.im (.ref X e s n)) ((hp X,s,es)::del R (hp b))
theorem jhh{b s:Nat}{es:List (List IV)}{e n:Nat}{R:Rows}{T:AV->Rows->Prop}(h:∀X,look (del R (hp b)) (hp X)=none->T (.im (.ref X e s n)) ((hp X,s,es)::del R (hp b))): @GrowX b s es e n R ⟨T⟩:=h
def NewX(s:Nat)(es:List (List IV))(e n:Nat)(R:Rows)[T:Hold (AV->Rows->Prop)]:Prop:=∀b,look R (hp b)=none->T.val (.im (.ref b e s n)) ((hp b,s,es)::R)
theorem jji{s:Nat}{es:List (List IV)}{e n:Nat}{R:Rows}{T:AV->Rows->Prop}(h:∀b,look R (hp b)=none->T (.im (.ref b e s n)) ((hp b,s,es)::R)): @NewX s es e n R ⟨T⟩:=h
def SpApp(G:Ctx)(d:Nat)(t e:TypeId)(sv:AV)(xo:Option (List (List IV)))(R:Rows)[T:Hold (AV->Rows->Prop)]:Prop:=spApp G d t e sv xo R T.val
theorem SpApp_ref(d:Nat)(t e:TypeId)(b e' s' n:Nat)(xs:List (List IV))(R:Rows)(T:AV->Rows->Prop): @SpApp G d t e (.im (.ref b e' s' n)) (some xs) R ⟨T⟩=Opt (look R (hp b)) (K:=⟨fun p=>
  (e'=e/\s'=(G.ti e).size/\p.1=(G.ti e).size)/\(G.ti t).size≠0/\(G.ti e).size≠0/\(G.ti e).bytes≠0/\(∀c∈xs,c.length=(G.ti e).size)/\n<=p.2.length/\(n+xs.length)*(G.ti e).bytes<=140737488355328/\
   GrowX b (G.ti e).size (p.2.take n++xs) e (n+xs.length) R (T:=⟨T⟩)⟩):=by
 apply propext;constructor
 ·rintro⟨xs',hx,h1,h2,h3,h4,⟨b',n',es,hs,hl,h5,h6,h7⟩ | ⟨hs,_⟩ | ⟨hs,_⟩⟩
  ·cases hx;cases hs;unfold Opt;rw[hl];exact⟨⟨rfl,rfl,rfl⟩,h1,h2,h3,h4,h5,h6,h7⟩
  ·exact absurd (show false=true from hs) (by decide)
  ·exact absurd (show false=true from hs) (by decide)
 ·intro h;unfold Opt at h;split at h
  ·rename_i p hl;obtain⟨s2,es⟩:=p;obtain⟨⟨rfl,rfl,h0⟩,h1,h2,h3,h4,h5,h6,h7⟩:=h;dsimp only at h0 h5 h7;subst h0;exact⟨xs,rfl,h1,h2,h3,h4,.inl ⟨b,n,es,rfl,hl,h5,h6,h7⟩⟩
  ·exact h.elim
theorem SpApp_emp(d:Nat)(t e:TypeId)(x:List IV)(xr:List (List IV))(R:Rows)(T:AV->Rows->Prop): @SpApp G d t e (.im .emp) (some (x::xr)) R ⟨T⟩=(G.perm.contains d=true/\(G.ti t).size≠0/\(G.ti e).size≠0/\(G.ti e).bytes≠0/\(∀c∈(x::xr),c.length=(G.ti e).size)/\(x::xr)≠[]/\(x::xr).length*(G.ti e).bytes<=140737488355328/\
   NewX (G.ti e).size (x::xr) e (x::xr).length R (T:=⟨T⟩)):=by
 apply propext;constructor
 ·rintro⟨xs',hx,h1,h2,h3,h4,⟨b',n',es,hs,_⟩ | ⟨_,h5,h6,h7,h8⟩ | ⟨_,h0,_⟩⟩
  ·cases hs
  ·cases hx;exact⟨h5,h1,h2,h3,h4,h6,h7,h8⟩
  ·cases hx;cases h0
 ·rintro⟨h5,h1,h2,h3,h4,h6,h7,h8⟩;exact⟨x::xr,rfl,h1,h2,h3,h4,.inr (.inl ⟨rfl,h5,h6,h7,h8⟩)⟩
theorem SpApp_sx0(d:Nat)(t e:TypeId)(x:List IV)(xr:List (List IV))(R:Rows)(T:AV->Rows->Prop): @SpApp G d t e (.sx []) (some (x::xr)) R ⟨T⟩=(G.perm.contains d=true/\(G.ti t).size≠0/\(G.ti e).size≠0/\(G.ti e).bytes≠0/\(∀c∈(x::xr),c.length=(G.ti e).size)/\(x::xr)≠[]/\(x::xr).length*(G.ti e).bytes<=140737488355328/\
   NewX (G.ti e).size (x::xr) e (x::xr).length R (T:=⟨T⟩)):=by
 apply propext;constructor
 ·rintro⟨xs',hx,h1,h2,h3,h4,⟨b',n',es,hs,_⟩ | ⟨_,h5,h6,h7,h8⟩ | ⟨_,h0,_⟩⟩
  ·cases hs
  ·cases hx;exact⟨h5,h1,h2,h3,h4,h6,h7,h8⟩
  ·cases hx;cases h0
 ·rintro⟨h5,h1,h2,h3,h4,h6,h7,h8⟩;exact⟨x::xr,rfl,h1,h2,h3,h4,.inr (.inl ⟨rfl,h5,h6,h7,h8⟩)⟩
def NewP(s:Nat)(es:List (List IV))(d:Nat)[K:Hold (St->Prop)][A:Hold (St×(Nat->AV))]:Prop:=NewH K.val A.val.1 s es d A.val.2
theorem jhw{K:St->Prop}{st:St}{s:Nat}{es:List (List IV)}{d:Nat}{av:Nat->AV}(h:∀b,look st.rows (hp b)=none->K (st.addH b s es d (av b))): @NewP s es d ⟨K⟩ ⟨(st,av)⟩:=h
def GrowP(b s:Nat)(es:List (List IV))(d e n:Nat)[K:Hold (St->Prop)][A:Hold St]:Prop:=GrowH K.val A.val b s es d e n
theorem jsv{K:St->Prop}{st:St}{b s:Nat}{es:List (List IV)}{d e n:Nat}(h:∀X,look (del st.rows (hp b)) (hp X)=none->K ((jdp st (hp b) X s es).put (some d) (.im (.ref X e s n)))): @GrowP b s es d e n ⟨K⟩ ⟨st⟩:=h
theorem aCall_eq(K:St->Prop)(dst:Option Nat)(f:Operand)(args:List Operand):
  aCall G K st dst f args=if isFrz G dst=true then jjz G K (st.frzOs args) dst f args else jjz G K st dst f args:=propext ⟨fun h=>h,fun h=>h⟩
theorem aCall0_eq(K:St->Prop)(dst:Option Nat)(f:Operand)(args:List Operand):
  jjz G K st dst f args=if(args.any fun x=>isHa (evO st x))=true then(match evO st f with
   | .im (.clo g caps)=>CallH G g st dst (args.map (evO st)++caps.map .im) (K:=⟨K⟩)
   | _=>False)else match evO st f,ivsOf (args.map (evO (st.lendOs args)))with
   | .im (.clo g caps),some xs=>CallP G g (xs++caps) (K:=⟨fun r=>K ((if flatB r=true then st else st.lendOs args).put dst (.im r))⟩)
     (V:=⟨fun e s es=>match dst with | some d=>K ((tokSt (st.lendOs args) d d s es.length).put (some d) (.vec d e s es)) | none=>False⟩) (W:=⟨aCallM G K st dst g (args.map (evO st)++caps.map .im)\/jly G K st dst g (args.map (evO st)++caps.map .im)⟩)
   | _,_=>False:=by
 unfold jjz CallP;generalize (args.any fun x=>isHa (evO st x))=hb;generalize evO st f=fv;generalize ivsOf (args.map (evO (st.lendOs args)))=oxs;cases hb with
 | true=>rfl
 | false=>
 simp only[qS,qt];cases fv with
 | im x=>cases x with
  | clo g caps=>cases oxs with
   | none=>rfl
   | some xs=>
    dsimp only;cases dst with
    | none=>simp
    | some d=>simp
  | _=>rfl
 | _=>rfl
def NilP(es:List (List IV))[K:Hold (Bool->Prop)]:Prop:=∀b:Bool,(b=true->es=[])->K.val b
theorem jqt{es:List (List IV)}{K:Bool->Prop}(h1:es=[]->K true)(h2:K false): @NilP es ⟨K⟩:=fun b hb=>by
 cases b
 ·exact h2
 ·exact h1 (hb rfl)
theorem aNil_eq(K:St->Prop)(dst:Option Nat)(op:BinOp)(t:TypeId)(x:Operand):aNil G K st dst op t x=if jrz (evO st x)=true then(match op with
  | .eql=>(G.ti t).size≠0/\isSl (G.ti t).kind=true/\K (st.put dst (.im (.sc (.bool false))))
  | .neq=>(G.ti t).size≠0/\isSl (G.ti t).kind=true/\K (st.put dst (.im (.sc (.bool true))))
  | _=>False)
 else match jcm (evO st x),op with
  | some es,.eql=>(G.ti t).size≠0/\isSl (G.ti t).kind=true/\NilP es (K:=⟨fun b=>K (st.put dst (.im (.sc (.bool b))))⟩)
  | some es,.neq=>(G.ti t).size≠0/\isSl (G.ti t).kind=true/\NilP es (K:=⟨fun b=>K (st.put dst (.im (.sc (.bool !b))))⟩)
  | _,_=>False:=propext ⟨fun h=>h,fun h=>h⟩
theorem aq_eq(st:St)(o:Oper)(K:AV->Prop):aq G st o K=match o.op with
  | .call c=>match c.callee with
   | .value f=>match evO st f,ivsOf (c.args.toList.map (evO st))with
    | .im (.clo g caps),some xs=>CallD G g (xs++caps) (K:=⟨fun r=>K (.im r)⟩)
    | _,_=>False
   | .builtin .append=>appP G st c.argTypes.toList c.args.toList K
   | _=>Opt (yv G st o) (K:=⟨K⟩)
  | _=>Opt (yv G st o) (K:=⟨K⟩):=by
 obtain⟨dst,op,ty,pos,af,gd⟩:=o;unfold aq Opt;cases op<;>dsimp only<;>first
  | (generalize yv G st _=y;cases y<;>rfl)
  | rfl
  | (rename_i c;obtain⟨callee,azz,ts⟩:=c;cases callee<;>first
    | (dsimp only;generalize yv G st _=y;cases y<;>rfl)
    | rfl
    | (rename_i b;cases b<;>dsimp only<;>first | (generalize yv G st _=y;cases y<;>rfl) | rfl))
def isMk:Op->Bool
 | .alloc _=>true
 | _=>false
theorem jjd{o:Oper}(h:isMk o.op=false):jbf G o=none:=by
 obtain⟨dst,op,ty,pos,af,gd⟩:=o;cases op<;>first | (cases h;done) | rfl
theorem jl6{d:Tmp}{op:Op}{ty:TypeId}{pos:String}{af:Array Edge}{g:Option (Nat×Bool)}:jbv ⟨some d,op,ty,pos,af,g⟩=false:=by
 unfold jbv;split<;>simp
theorem jc2(ops:List Oper)(K:St->Prop)(d:Tmp)(op:Op)(ty:TypeId)(pos:String)(af:Array Edge)(r:List Oper)(st:St)(hm:isMk op=false):
  jbb G ops K (⟨some d,op,ty,pos,af,none⟩::r) st=aq G st ⟨some d,op,ty,pos,af,none⟩ (fun av=>jbb G ops K r (st.put (some d) av)):=by
 conv=>lhs;unfold jbb
 rw[zn (by rw[jl6];simp),jjd hm]
theorem aheadS_alloc(K:St->Prop)(d:Tmp)(t:TypeId):
  jbb G ops K (⟨some d,.alloc t,ty,pos,af,none⟩::r) st=Opt (jcz G t) (K:=⟨fun z=>jbb G ops K r (st.put (some d) (.loc d z.length 0 0))⟩):=by
 conv=>lhs;unfold jbb
 rw[zn (by rw[jl6];simp)];unfold jbf;dsimp only;generalize hz:jcz G t=oz;cases oz with
 | none=>simp only[aq_eq,yv,Opt]
 | some z=>rfl
theorem freshAll_nil:freshAll G [] st=st:=rfl
theorem jb6(dst:Option Tmp)(op:Op)(ty:TypeId)(pos:String)(af:Array Edge)(g:Option (Nat×Bool))(r:List Oper)(st:St)(hm:isMk op=false):freshAll G (⟨dst,op,ty,pos,af,g⟩::r) st=freshAll G r st:=by
 conv=>lhs;unfold freshAll
 rw[jjd hm]
theorem freshAll_alloc(d:Tmp)(t:TypeId):freshAll G (⟨some d,.alloc t,ty,pos,af,none⟩::r) st=match jcz G t with | some _=>freshAll G r (st.fresh d) | none=>freshAll G r st:=by
 conv=>lhs;unfold freshAll
 unfold jbf;dsimp only;generalize jcz G t=oz;cases oz<;>rfl
theorem mkRows_nil:jba G []=[]:=rfl
theorem jbj(dst:Option Tmp)(op:Op)(ty:TypeId)(pos:String)(af:Array Edge)(g:Option (Nat×Bool))(r:List Oper)(hm:isMk op=false):jba G (⟨dst,op,ty,pos,af,g⟩::r)=jba G r:=by
 conv=>lhs;unfold jba
 rw[jjd hm]
theorem mkRows_alloc(d:Tmp)(t:TypeId):jba G (⟨some d,.alloc t,ty,pos,af,none⟩::r)=match jcz G t with | some z=>(d,z.length,[z])::jba G r | none=>jba G r:=by
 conv=>lhs;unfold jba
 unfold jbf;dsimp only;generalize jcz G t=oz;cases oz<;>rfl
theorem aheadS_move(K:St->Prop)(d:Tmp){x0}:jbb G ops K (⟨some d,.move x0,ty,pos,af,none⟩::r) st=aq G st ⟨some d,.move x0,ty,pos,af,none⟩ (fun av=>jbb G ops K r (st.put (some d) av)):=jc2 _ _ _ _ _ _ _ _ _ rfl
theorem freshAll_move{x0}(g:Option (Nat×Bool)):freshAll G (⟨dst,.move x0,ty,pos,af,g⟩::r) st=freshAll G r st:=jb6 _ _ _ _ _ _ _ _ rfl
theorem mkRows_move{x0}(g:Option (Nat×Bool)):jba G (⟨dst,.move x0,ty,pos,af,g⟩::r)=jba G r:=jbj _ _ _ _ _ _ _ rfl
theorem aheadS_assign(K:St->Prop)(d:Tmp){x0}:jbb G ops K (⟨some d,.assign x0,ty,pos,af,none⟩::r) st=aq G st ⟨some d,.assign x0,ty,pos,af,none⟩ (fun av=>jbb G ops K r (st.put (some d) av)):=jc2 _ _ _ _ _ _ _ _ _ rfl
theorem freshAll_assign{x0}(g:Option (Nat×Bool)):freshAll G (⟨dst,.assign x0,ty,pos,af,g⟩::r) st=freshAll G r st:=jb6 _ _ _ _ _ _ _ _ rfl
theorem mkRows_assign{x0}(g:Option (Nat×Bool)):jba G (⟨dst,.assign x0,ty,pos,af,g⟩::r)=jba G r:=jbj _ _ _ _ _ _ _ rfl
theorem aheadS_build(K:St->Prop)(d:Tmp){x0 x1}:jbb G ops K (⟨some d,.build x0 x1,ty,pos,af,none⟩::r) st=aq G st ⟨some d,.build x0 x1,ty,pos,af,none⟩ (fun av=>jbb G ops K r (st.put (some d) av)):=jc2 _ _ _ _ _ _ _ _ _ rfl
theorem freshAll_build{x0 x1}(g:Option (Nat×Bool)):freshAll G (⟨dst,.build x0 x1,ty,pos,af,g⟩::r) st=freshAll G r st:=jb6 _ _ _ _ _ _ _ _ rfl
theorem mkRows_build{x0 x1}(g:Option (Nat×Bool)):jba G (⟨dst,.build x0 x1,ty,pos,af,g⟩::r)=jba G r:=jbj _ _ _ _ _ _ _ rfl
theorem aheadS_buildSlice(K:St->Prop)(d:Tmp){x0 x1 x2}:jbb G ops K (⟨some d,.buildSlice x0 x1 x2,ty,pos,af,none⟩::r) st=aq G st ⟨some d,.buildSlice x0 x1 x2,ty,pos,af,none⟩ (fun av=>jbb G ops K r (st.put (some d) av)):=jc2 _ _ _ _ _ _ _ _ _ rfl
theorem freshAll_buildSlice{x0 x1 x2}(g:Option (Nat×Bool)):freshAll G (⟨dst,.buildSlice x0 x1 x2,ty,pos,af,g⟩::r) st=freshAll G r st:=jb6 _ _ _ _ _ _ _ _ rfl
theorem mkRows_buildSlice{x0 x1 x2}(g:Option (Nat×Bool)):jba G (⟨dst,.buildSlice x0 x1 x2,ty,pos,af,g⟩::r)=jba G r:=jbj _ _ _ _ _ _ _ rfl
theorem aheadS_load(K:St->Prop)(d:Tmp){x0 x1}:jbb G ops K (⟨some d,.load x0 x1,ty,pos,af,none⟩::r) st=aq G st ⟨some d,.load x0 x1,ty,pos,af,none⟩ (fun av=>jbb G ops K r (st.put (some d) av)):=jc2 _ _ _ _ _ _ _ _ _ rfl
theorem freshAll_load{x0 x1}(g:Option (Nat×Bool)):freshAll G (⟨dst,.load x0 x1,ty,pos,af,g⟩::r) st=freshAll G r st:=jb6 _ _ _ _ _ _ _ _ rfl
theorem mkRows_load{x0 x1}(g:Option (Nat×Bool)):jba G (⟨dst,.load x0 x1,ty,pos,af,g⟩::r)=jba G r:=jbj _ _ _ _ _ _ _ rfl
theorem aheadS_nilCheck(K:St->Prop)(d:Tmp){x0}:jbb G ops K (⟨some d,.nilCheck x0,ty,pos,af,none⟩::r) st=aq G st ⟨some d,.nilCheck x0,ty,pos,af,none⟩ (fun av=>jbb G ops K r (st.put (some d) av)):=jc2 _ _ _ _ _ _ _ _ _ rfl
theorem freshAll_nilCheck{x0}(g:Option (Nat×Bool)):freshAll G (⟨dst,.nilCheck x0,ty,pos,af,g⟩::r) st=freshAll G r st:=jb6 _ _ _ _ _ _ _ _ rfl
theorem mkRows_nilCheck{x0}(g:Option (Nat×Bool)):jba G (⟨dst,.nilCheck x0,ty,pos,af,g⟩::r)=jba G r:=jbj _ _ _ _ _ _ _ rfl
theorem aheadS_binOp(K:St->Prop)(d:Tmp){x0 x1 x2 x3 x4}:jbb G ops K (⟨some d,.binOp x0 x1 x2 x3 x4,ty,pos,af,none⟩::r) st=aq G st ⟨some d,.binOp x0 x1 x2 x3 x4,ty,pos,af,none⟩ (fun av=>jbb G ops K r (st.put (some d) av)):=jc2 _ _ _ _ _ _ _ _ _ rfl
theorem freshAll_binOp{x0 x1 x2 x3 x4}(g:Option (Nat×Bool)):freshAll G (⟨dst,.binOp x0 x1 x2 x3 x4,ty,pos,af,g⟩::r) st=freshAll G r st:=jb6 _ _ _ _ _ _ _ _ rfl
theorem mkRows_binOp{x0 x1 x2 x3 x4}(g:Option (Nat×Bool)):jba G (⟨dst,.binOp x0 x1 x2 x3 x4,ty,pos,af,g⟩::r)=jba G r:=jbj _ _ _ _ _ _ _ rfl
theorem aheadS_unOp(K:St->Prop)(d:Tmp){x0 x1 x2}:jbb G ops K (⟨some d,.unOp x0 x1 x2,ty,pos,af,none⟩::r) st=aq G st ⟨some d,.unOp x0 x1 x2,ty,pos,af,none⟩ (fun av=>jbb G ops K r (st.put (some d) av)):=jc2 _ _ _ _ _ _ _ _ _ rfl
theorem freshAll_unOp{x0 x1 x2}(g:Option (Nat×Bool)):freshAll G (⟨dst,.unOp x0 x1 x2,ty,pos,af,g⟩::r) st=freshAll G r st:=jb6 _ _ _ _ _ _ _ _ rfl
theorem mkRows_unOp{x0 x1 x2}(g:Option (Nat×Bool)):jba G (⟨dst,.unOp x0 x1 x2,ty,pos,af,g⟩::r)=jba G r:=jbj _ _ _ _ _ _ _ rfl
theorem aheadS_slice(K:St->Prop)(d:Tmp){x0 x1 x2 x3 x4}:jbb G ops K (⟨some d,.slice x0 x1 x2 x3 x4,ty,pos,af,none⟩::r) st=aq G st ⟨some d,.slice x0 x1 x2 x3 x4,ty,pos,af,none⟩ (fun av=>jbb G ops K r (st.put (some d) av)):=jc2 _ _ _ _ _ _ _ _ _ rfl
theorem freshAll_slice{x0 x1 x2 x3 x4}(g:Option (Nat×Bool)):freshAll G (⟨dst,.slice x0 x1 x2 x3 x4,ty,pos,af,g⟩::r) st=freshAll G r st:=jb6 _ _ _ _ _ _ _ _ rfl
theorem mkRows_slice{x0 x1 x2 x3 x4}(g:Option (Nat×Bool)):jba G (⟨dst,.slice x0 x1 x2 x3 x4,ty,pos,af,g⟩::r)=jba G r:=jbj _ _ _ _ _ _ _ rfl
theorem aheadS_fieldAddr(K:St->Prop)(d:Tmp){x0 x1 x2}:jbb G ops K (⟨some d,.fieldAddr x0 x1 x2,ty,pos,af,none⟩::r) st=aq G st ⟨some d,.fieldAddr x0 x1 x2,ty,pos,af,none⟩ (fun av=>jbb G ops K r (st.put (some d) av)):=jc2 _ _ _ _ _ _ _ _ _ rfl
theorem freshAll_fieldAddr{x0 x1 x2}(g:Option (Nat×Bool)):freshAll G (⟨dst,.fieldAddr x0 x1 x2,ty,pos,af,g⟩::r) st=freshAll G r st:=jb6 _ _ _ _ _ _ _ _ rfl
theorem mkRows_fieldAddr{x0 x1 x2}(g:Option (Nat×Bool)):jba G (⟨dst,.fieldAddr x0 x1 x2,ty,pos,af,g⟩::r)=jba G r:=jbj _ _ _ _ _ _ _ rfl
theorem aheadS_indexAddr(K:St->Prop)(d:Tmp){x0 x1 x2}:jbb G ops K (⟨some d,.indexAddr x0 x1 x2,ty,pos,af,none⟩::r) st=aq G st ⟨some d,.indexAddr x0 x1 x2,ty,pos,af,none⟩ (fun av=>jbb G ops K r (st.put (some d) av)):=jc2 _ _ _ _ _ _ _ _ _ rfl
theorem freshAll_indexAddr{x0 x1 x2}(g:Option (Nat×Bool)):freshAll G (⟨dst,.indexAddr x0 x1 x2,ty,pos,af,g⟩::r) st=freshAll G r st:=jb6 _ _ _ _ _ _ _ _ rfl
theorem mkRows_indexAddr{x0 x1 x2}(g:Option (Nat×Bool)):jba G (⟨dst,.indexAddr x0 x1 x2,ty,pos,af,g⟩::r)=jba G r:=jbj _ _ _ _ _ _ _ rfl
theorem aheadS_extract(K:St->Prop)(d:Tmp){x0 x1}:jbb G ops K (⟨some d,.extract x0 x1,ty,pos,af,none⟩::r) st=aq G st ⟨some d,.extract x0 x1,ty,pos,af,none⟩ (fun av=>jbb G ops K r (st.put (some d) av)):=jc2 _ _ _ _ _ _ _ _ _ rfl
theorem freshAll_extract{x0 x1}(g:Option (Nat×Bool)):freshAll G (⟨dst,.extract x0 x1,ty,pos,af,g⟩::r) st=freshAll G r st:=jb6 _ _ _ _ _ _ _ _ rfl
theorem mkRows_extract{x0 x1}(g:Option (Nat×Bool)):jba G (⟨dst,.extract x0 x1,ty,pos,af,g⟩::r)=jba G r:=jbj _ _ _ _ _ _ _ rfl
theorem aheadS_call(K:St->Prop)(d:Tmp){x0}:jbb G ops K (⟨some d,.call x0,ty,pos,af,none⟩::r) st=aq G st ⟨some d,.call x0,ty,pos,af,none⟩ (fun av=>jbb G ops K r (st.put (some d) av)):=jc2 _ _ _ _ _ _ _ _ _ rfl
theorem freshAll_call{x0}(g:Option (Nat×Bool)):freshAll G (⟨dst,.call x0,ty,pos,af,g⟩::r) st=freshAll G r st:=jb6 _ _ _ _ _ _ _ _ rfl
theorem mkRows_call{x0}(g:Option (Nat×Bool)):jba G (⟨dst,.call x0,ty,pos,af,g⟩::r)=jba G r:=jbj _ _ _ _ _ _ _ rfl
theorem freshAll_store{x0 x1 x2}(g:Option (Nat×Bool)):freshAll G (⟨dst,.store x0 x1 x2,ty,pos,af,g⟩::r) st=freshAll G r st:=jb6 _ _ _ _ _ _ _ _ rfl
theorem mkRows_store{x0 x1 x2}(g:Option (Nat×Bool)):jba G (⟨dst,.store x0 x1 x2,ty,pos,af,g⟩::r)=jba G r:=jbj _ _ _ _ _ _ _ rfl
theorem aStores0_eq(K:St->Prop):jip G K ops st=je9 G K ops ⟨st.fr,jba G ops++st.rows,st.toks⟩:=rfl
theorem aStore_eq(K:St->Prop)(dst:Option Nat)(t:TypeId)(p x:Operand):
  jn6 G K st dst t p x=match ivE G (evO st x),(evO st p).dp with
   | some y,.loc d s i j=>match look st.rows d with
    | some (s',es)=>Opt es[i]? (K:=⟨fun c=>s'=s/\(G.ti t).size≠0/\(cellsOf y).length=(G.ti t).size/\(cellsOf y).all IV.one=true/\j+(G.ti t).size<=c.length/\
     K (St.put {st with rows:=setRow st.rows d s (es.set i (jbp c j (cellsOf y)))} dst jcs)⟩)
    | none=>False
   | _,_=>False:=by
 unfold jn6;generalize ivE G (evO st x)=oy;generalize (evO st p).dp=pv;cases oy with
 | none=>rfl
 | some y=>cases pv with
  | loc d s i j=>
   dsimp only;generalize look st.rows d=o;cases o with
   | none=>rfl
   | some q=>
    obtain⟨s',es⟩:=q;dsimp only;unfold Opt;generalize es[i]? =oc;cases oc<;>rfl
  | _=>rfl
def jq5{α:Type}[LR:Hold (List Nat×List Nat)][S:Hold (α->St)][P:Hold (α->Prop)][M:Hold ((α->Nat)×α)](s:St):Prop:=∃a',P.val a'/\M.val.1 a'<M.val.1 M.val.2/\St.Le s (S.val a')
theorem jab{α:Type}{L R:List Nat}{S:α->St}{P:α->Prop}{μ:α->Nat}{a:α}{s:St}(a':α)(hs:s.keep L R=S a')(hμ:μ a'<μ a)(hP:P a'): @jq5 α ⟨(L,R)⟩ ⟨S⟩ ⟨P⟩ ⟨(μ,a)⟩ s:=⟨a',hP,hμ,by show St.Le s (S a');rw[<-hs];exact St.le_keep s L R⟩
def St.prom1(s:St)(t d e k:Nat):St:=
 if k=0 then s.forget t else if d<100000 then(match s.get t with
 | .vec _ _ _ _=>s.ren t d
 | _=>s.prom t d e k)else s.forget t
def St.proms:St->List (Nat×Nat×Nat×Nat)->St
 | s,[]=>s
 | s,(t,d,e,k)::r=>St.proms (s.prom1 t d e k) r
def jnj:St->List (Nat×Nat×Nat×Nat)->Prop
 | _,[]=>True
 | s,(t,d,e,k)::r=>(if k=0 then True else match s.get t with | .sx es=>∀c∈es,c.length=k | .vec d0 _ s' es=>look s.toks d0=some (s',es.length) | _=>False)/\jnj (s.prom1 t d e k) r
theorem St.le_proms:∀(l:List (Nat×Nat×Nat×Nat)) (s:St),jnj s l->St.Le s (s.proms l)
 | [],s,_=>St.Le.refl s
 | (t,d,e,k)::r,s,h=>by
  obtain⟨h1,h2⟩:=h;have h3:St.Le s (s.prom1 t d e k):=by
   unfold St.prom1;by_cases hk:k=0
   ·rw[zm hk];exact St.le_forget s t
   rw[zn hk]at h1⊢;by_cases hdN:d<100000
   case neg=>rw[zn hdN];exact St.le_forget s t
   rw[zm hdN];split at h1
   ·rename_i es hg;simp only[hg];exact St.le_prom hdN hg h1
   ·rename_i hg;simp only[hg];exact St.le_ren hdN hg h1
   ·exact h1.elim
  exact h3.trans (St.le_proms r _ h2)
theorem jh3{α:Type}{c:Code}{Q:Exit->St->Prop}{st:St}(L R:List Nat)(ps:List (Nat×Nat×Nat×Nat))(S:α->St)(P:α->Prop)(μ:α->Nat)(a:α)(hps:jnj (st.keep L R) ps)(hs:(st.keep L R).proms ps=S a)(hP:P a)
  (h:∀a,P a->awp G c (fun e s=>match e with | .normal=> @jq5 α ⟨(L,R)⟩ ⟨S⟩ ⟨P⟩ ⟨(μ,a)⟩ s | e=>Q e s) (S a)): @LoopP G ⟨c⟩ ⟨Q⟩ st:=by
 refine⟨fun n s=>∃a,μ a=n/\P a/\s=S a,μ a,⟨_,(St.le_keep st L R).trans (St.le_proms ps _ hps),a,rfl,hP,hs⟩,fun n s ⟨a,hn,hP,hs⟩=> ?_⟩;subst hn;subst hs;have e:(fun(e:Exit) (s':St)=>match e with | .normal=>∃n',n'<μ a/\∃s1,St.Le s' s1/\∃b,μ b=n'/\P b/\s1=S b | e=>Q e s')=
   (fun e s=>match e with | .normal=> @jq5 α ⟨(L,R)⟩ ⟨S⟩ ⟨P⟩ ⟨(μ,a)⟩ s | e=>Q e s):=by
  funext e s;cases e<;>first | rfl | skip;simp only[jq5,eq_iff_iff];exact⟨fun⟨n',h1,s1,h5,b,h2,h3,h4⟩=>⟨b,h3,h2▸h1,h4▸h5⟩,fun⟨b,h3,h1,h4⟩=>⟨_,h1,_,h4,b,rfl,h3,rfl⟩⟩
 refine(congrFun (qd (awp G c) e) (S a)).mpr (h a hP)
theorem jal{α:Type}{c:Code}{Q:Exit->St->Prop}{st:St}(L R:List Nat)(S:α->St)(P:α->Prop)(μ:α->Nat)(a:α)(hs:st.keep L R=S a)(hP:P a)
  (h:∀a,P a->awp G c (fun e s=>match e with | .normal=> @jq5 α ⟨(L,R)⟩ ⟨S⟩ ⟨P⟩ ⟨(μ,a)⟩ s | e=>Q e s) (S a)): @LoopP G ⟨c⟩ ⟨Q⟩ st:=by
 exact jh3 L R [] S P μ a trivial hs hP h
theorem bq_true(b:Bool):(b==true)=b:=by cases b<;>rfl
theorem bq_false(b:Bool):(b==false)= !b:=by cases b<;>rfl
def noZ:ZC->Bool
 | .no=>true
 | _=>false
theorem zeroIV_eq(t:TypeId):jcz G t=if(G.ti t).size=0 then none else if(G.ti t).zero.any noZ=true then none else some ((G.ti t).zero.map (ZC.ivG G.emp)):=by
 have:(G.ti t).zero.contains .no=(G.ti t).zero.any noZ:=by
  induction (G.ti t).zero with
  | nil=>rfl
  | cons x l ih=>rw[List.contains_cons,List.any_cons,ih];cases x<;>rfl
 unfold jcz;rw[this]
theorem oc_int(k:IntKind)(n:Int):(Value.int k n).oneCell'=true:=rfl
theorem oc_bool(b:Bool):(Value.bool b).oneCell'=true:=rfl
theorem oc_string(s:ByteArray):(Value.string s).oneCell'=true:=rfl
theorem ctr_go(hG:G.Good){f:FuncId}{args:List IV}{φ:IV->Prop}(fn:Func)(c:Code)(rs:List ResultVar)(hf:G.P.funcs[f]? =some fn)(hb:fn.body=some c)(hr:fn.results.toList=rs)(hd:dstC fn.ntmps c=true)
  (hn:Nat.ble args.length fn.ntmps=true) (h:awp G c (fun e s=>match e with | .normal=>aRet G rs φ s | .ret=>aRet G rs φ s | _=>False) (initSt args)):Ctr G.P f args φ:=by
 subst hr;exact ctr_of_awp hG hf hb hd (qT hn) h
theorem ctrv_go(hG:G.Good){f:FuncId}{args:List IV}{e s:Nat}{es:List (List IV)}(fn:Func)(c:Code)(rs:List ResultVar)(hf:G.P.funcs[f]? =some fn)(hb:fn.body=some c)(hr:fn.results.toList=rs)(hd:dstC fn.ntmps c=true)
  (hn:Nat.ble args.length fn.ntmps=true) (h:awp G c (fun x st=>match x with | .normal=>aRetV rs e s es st | .ret=>aRetV rs e s es st | _=>False) (initSt args)):CtrV G.P f args e s es:=by
 subst hr;exact ctrv_of_awp hG hf hb hd (qT hn) h
def rowsB(n:Nat)(L:Rows):Bool:=L.all fun p=>(Nat.ble n p.1&&Nat.blt p.1 100000)&&p.1 !=901
theorem jo1(hG:G.Good){f:FuncId}{args:List AV}{L:Rows}{φ:AV->List (List (List IV))->Option (Nat×List (List IV))->Prop}(fn:Func)(c:Code)(rs:List ResultVar)(hf:G.P.funcs[f]? =some fn)(hb:fn.body=some c)(hr:fn.results.toList=rs)(hd:dstC fn.ntmps c=true)
  (hn:Nat.ble args.length fn.ntmps=true) (hL:rowsB fn.ntmps L=true) (hN:(L.map (·.1)).Nodup)
  (h:awp G c (fun x st=>match x with | .normal=>aRetM G rs L φ st | .ret=>aRetM G rs L φ st | _=>False) (jcg args L)):CtrM G.P f args L φ:=by
 subst hr;refine ctrM_of_awp hG hf hb hd (qT hn) (fun p hp=> ?_) hN h;have:=List.all_eq_true.1 hL p hp;simp only[zr,qk,ne_eq]at this;exact⟨⟨qT this.1.1,by have:=this.1.2;rwa [Nat.blt_eq]at this⟩,this.2⟩
def RetH(G:Ctx)(rs:List ResultVar)(st:St)[φ:Hold (AV->Rows->Prop)]:Prop:=aRetH G rs φ.val st
theorem jgh{rs:List ResultVar}{st:St}{φ:AV->Rows->Prop}(L':Rows)(hL:∀k x,look L' k=some x->100000<=k/\look st.rows k=some x)(h:jlx G rs (fun r=>φ r L') st): @RetH G rs st ⟨φ⟩:=⟨L',hL,h⟩
def RetF(G:Ctx)(rs:List ResultVar)(st:St)[φ:Hold (IV->Prop)]:Prop:=aRetF G rs φ.val st
theorem jea{rs:List ResultVar}{st:St}{φ:IV->Prop}(bs:List Nat)(h:aRet G rs φ (bs.foldl St.frz st)): @RetF G rs st ⟨φ⟩:=⟨bs,h⟩
theorem ctrh_go(hG:G.Good){f:FuncId}{args:List AV}{L:Rows}{φ:AV->Rows->Prop}(fn:Func)(c:Code)(rs:List ResultVar)(hf:G.P.funcs[f]? =some fn)(hb:fn.body=some c)(hr:fn.results.toList=rs)(hd:dstC fn.ntmps c=true)
  (hn:Nat.ble args.length fn.ntmps=true) (h:awp G c (fun x st=>match x with | .normal=> @RetH G rs st ⟨φ⟩ | .ret=> @RetH G rs st ⟨φ⟩ | _=>False) (jcg args L)):CtrH G.P f args L φ:=by
 subst hr;exact ctrH_of_awp hG hf hb hd (qT hn) h
theorem jo2(hG:G.Good){f:FuncId}{args:List IV}{φ:IV->Prop}(fn:Func)(c:Code)(rs:List ResultVar)(hf:G.P.funcs[f]? =some fn)(hb:fn.body=some c)(hr:fn.results.toList=rs)(hd:dstC fn.ntmps c=true)
  (hn:Nat.ble args.length fn.ntmps=true) (h:awp G c (fun x st=>match x with | .normal=> @RetF G rs st ⟨φ⟩ | .ret=> @RetF G rs st ⟨φ⟩ | _=>False) (initSt args)):Ctr G.P f args φ:=by
 subst hr;exact ctrF_of_awp hG hf hb hd (qT hn) h
def jsr{α:Type}(s:St)[L:Hold (List Nat)][S:Hold (α->St)][P:Hold (α->Prop)][M:Hold ((α->Nat)×α)]:Prop:=∃a',P.val a'/\M.val.1 a'<M.val.1 M.val.2/\St.Le s (S.val a')
theorem jaa{α:Type}{L:List Nat}{S:α->St}{P:α->Prop}{μ:α->Nat}{a:α}{s:St}(a':α)(hf:L.map (fun t=>(t,s.get t))=(S a').fr)(hr:SubR (S a').rows s.rows)(ht:(S a').toks=[])(hμ:μ a'<μ a)(hP:P a'):
  @jsr α s ⟨L⟩ ⟨S⟩ ⟨P⟩ ⟨(μ,a)⟩:=⟨a',hP,hμ,(St.sub_of L hf hr ht).le⟩
theorem jaz{α:Type}{c:Code}{Q:Exit->St->Prop}{st:St}(L:List Nat)(S:α->St)(P:α->Prop)(μ:α->Nat)(a:α)(hf:L.map (fun t=>(t,st.get t))=(S a).fr)(hr:SubR (S a).rows st.rows)(ht:(S a).toks=[])(hP:P a)
  (h:∀a,P a->awp G c (fun e s=>match e with | .normal=> @jsr α s ⟨L⟩ ⟨S⟩ ⟨P⟩ ⟨(μ,a)⟩ | e=>Q e s) (S a)): @LoopP G ⟨c⟩ ⟨Q⟩ st:=by
 refine⟨fun n s=>∃a,μ a=n/\P a/\s=S a,μ a,⟨_,(St.sub_of L hf hr ht).le,a,rfl,hP,rfl⟩,fun n s ⟨a,hn,hP,hs⟩=> ?_⟩;subst hn;subst hs;have e:(fun(e:Exit) (s':St)=>match e with | .normal=>∃n',n'<μ a/\∃s1,St.Le s' s1/\∃b,μ b=n'/\P b/\s1=S b | e=>Q e s')=
   (fun e s=>match e with | .normal=> @jsr α s ⟨L⟩ ⟨S⟩ ⟨P⟩ ⟨(μ,a)⟩ | e=>Q e s):=by
  funext e s;cases e<;>first | rfl | skip;simp only[jsr,eq_iff_iff];exact⟨fun⟨n',h1,s1,h5,b,h2,h3,h4⟩=>⟨b,h3,h2▸h1,h4▸h5⟩,fun⟨b,h3,h1,h4⟩=>⟨_,h1,_,h4,b,rfl,h3,rfl⟩⟩
 refine(congrFun (qd (awp G c) e) (S a)).mpr (h a hP)
end
theorem jm3{G:Ctx}{g:Nat}{xs:List IV}{K:IV->Prop}{V:Nat->Nat->List (List IV)->Prop}{W:Prop}{φ:IV->Prop}(h:Ctr G.P g xs φ)(hK:∀r,φ r->K r)(hg:3<=g/\g<G.fns:=by decide): @CallP G g xs ⟨K⟩ ⟨V⟩ ⟨W⟩:=CallP_of h hg hK
theorem ja1{G:Ctx}{g:Nat}{xs:List IV}{K:IV->Prop}{V:Nat->Nat->List (List IV)->Prop}{W:Prop}{r:IV}(h:Ctr G.P g xs (· =r))(hK:K r)(hg:3<=g/\g<G.fns:=by decide): @CallP G g xs ⟨K⟩ ⟨V⟩ ⟨W⟩:=jc0 h hg hK
theorem jac{G:Ctx}{ops:List Oper}{Q:Exit->St->Prop}{st:St}(n:Nat)(hA:jfh G ops (Q .normal) n ops st)(h:drawB ops.toArray n=true:=by decide+kernel): @DrawP G ⟨ops⟩ ⟨Q⟩ st:=DrawP_of n h hA
theorem jaf{G:Ctx}{ops:List Oper}{Q:Exit->St->Prop}{st:St}(hA:jbb G ops (jip G (Q .normal) ops) ops (freshAll G ops st))(h:drawS ops.toArray=true:=by decide+kernel): @DrawP G ⟨ops⟩ ⟨Q⟩ st:=DrawS_of h hA
