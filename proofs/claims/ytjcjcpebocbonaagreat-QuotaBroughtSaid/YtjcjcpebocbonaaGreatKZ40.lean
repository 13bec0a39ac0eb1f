/- A part of the proof. No further condition. -/
import Derived.Test.YtjcjcpebocbonaaGreatKZ10
set_option linter.all false
set_option maxRecDepth 10000000
set_option maxHeartbeats 16000000
namespace Go.Abs
section
open Go.RowKit (Below)
def aRetO(rs:List ResultVar)(sc:Nat×Bool)(kvs:List (List Int×List Int))(st:St):Prop:=
 match rs with
 | [.tmp t]=>match st.get t with
  | .mpo d sc' kvs'=>sc'=sc/\kvs'=kvs/\look st.toks d=some (0,0)
  | _=>False
 | _=>False
theorem ctro_go{G:Ctx}(hG:G.Good){f:FuncId}{args:List IV}{sc:Nat×Bool}{kvs:List (List Int×List Int)}(fn:Func)(c:Code)(rs:List ResultVar)(hf:G.P.funcs[f]? =some fn)(hb:fn.body=some c)(a6:fn.results.toList=rs)(hd:dstC fn.ntmps c=true)
  (hn:Nat.ble args.length fn.ntmps=true) (h:awp G c (fun x st=>match x with | .normal=>aRetO rs sc kvs st | .ret=>aRetO rs sc kvs st | _=>False) (jci args)):CtrO G.P f args sc kvs:=by
 subst a6;intro w M vs hM hr;refine calls_of_wp hf hb ?_;obtain⟨hN,hd⟩:=joy hd;refine wp_mono (jhg hG c _ _ _ _ _ hd h (Sim.init hN hM hr (ye hn))) fun x a' w' hq=> ?_;obtain⟨β,st,hq,hs⟩:=hq;have fin:aRetO fn.results.toList sc kvs st->a'.defers=[]/\∃v,(results fn a'.tmps).run G.P w'= .ok v w'/\∃b es c,Ending.returned v= .returned (.map (some b))/\Below w.heap.size w w'/\w.heap.size<=b/\w'.heap[b]? =some (.map es c)/\Ents sc kvs es/\Born es c:=by
  intro hq;unfold aRetO at hq;split at hq
  ·rename_i t a6;have a7:(results fn a'.tmps).run G.P w'= .ok (a'.tmps.getD t undef) w':=by
    rw[jhr,Sem.run_bind,jq,Sem.run_map,a6];rfl
   have hv:=hs.fr t;refine⟨hs.defers,_,a7,?_⟩;split at hq
   ·rename_i d b0 a8 hg;obtain⟨rfl,rfl,a1⟩:=hq;rw[hg]at hv;obtain⟨b,h1,h2,h3⟩:=hv;obtain⟨es,cl,h4,h5,h6⟩:=h3 a1;obtain⟨h7,h8⟩:=hs.toks d _ _ a1 b h1;exact⟨b,es,cl,by rw[h2],hs.below.below,Nat.le_of_not_lt h7,h4,h5,h6⟩
   ·exact hq.elim
  ·exact hq.elim
 cases x with
 | normal=>obtain⟨h1,v,h2,h3⟩:=fin hq;exact⟨h1,v,h2,h3⟩
 | ret=>obtain⟨h1,v,h2,h3⟩:=fin hq;exact⟨h1,v,h2,h3⟩
 | _=>exact hq.elim
theorem CtrO.ctr{P:Program}{f:FuncId}{args:List IV}{sc:Nat×Bool}{kvs:List (List Int×List Int)}(h:CtrO P f args sc kvs):Ctr P f args (· = .mp sc kvs):=by
 intro w M vs hM hr;refine(h w M vs hM hr).mono fun en w' ⟨b,es,c,he,hb,a7,hh,a1,a6⟩=> ?_;exact⟨_,_,rfl,he,.mp sc kvs b es c hh (fun hm=>absurd (hM b 0 hm) (by omega)) a1 a6,hb⟩
theorem DrawLe_of{G:Ctx}{ops:List Oper}{Q:Exit->St->Prop}{st st':St}(h:St.Le st st')(hA: @DrawP G ⟨ops⟩ ⟨Q⟩ st'): @DrawP G ⟨ops⟩ ⟨Q⟩ st:=fun N w0 M0 β a w id Q' hG hd hK hs=>
 let⟨β',hs'⟩:=h N w0 M0 β a w hs
 hA N w0 M0 β' a w id Q' hG hd hK hs'
theorem jsr(st:St):∀ds:List Nat,St.Le st (ds.foldl St.lend st)
 | []=>St.Le.refl _
 | d::ds=>St.Le.trans (fun _ _ _ β _ _ h=>⟨β,h.lend d⟩) (jsr (st.lend d) ds)
def aqO(G:Ctx)(st:St)(d:Nat)(o:Oper)(K:AV->Prop):Prop:=
 match o.op with
 | .call c=>match c.callee with
  | .value f=>match evO st f,ivsOf (c.args.toList.map (evO st))with
   | .im (.clo g caps),some xs=>(3<=g/\g<G.fns)/\∃sc kvs,CtrO G.P g (xs++caps) sc kvs/\look st.toks d=some (0,0)/\K (.mpo d sc kvs)
   | _,_=>False
  | _=>False
 | _=>False
def jhh(G:Ctx)(ops:List Oper)(K:St->Prop)(d:Nat):Nat->List Oper->St->Prop
 | _,[],_=>False
 | 0,o::r,st=>o.guard=none/\o.dst=some d/\aqO G st d o fun av=>ahead G ops K r (st.put o.dst av)
 | k+1,o::r,st=>match o.guard with
  | none=>aq G st o fun av=>jhh G ops K d k r (st.put o.dst av)
  | some (j,want)=>match jcx st ops j with
   | some (some b)=>(b=want->aq G st o fun av=>jhh G ops K d k r (st.put o.dst av))/\(b≠want->jhh G ops K d k r (st.put o.dst jcc))
   | some none=>jhh G ops K d k r (st.put o.dst jcc)
   | none=>False
section
variable{G:Ctx}{N:Nat}{w0:Base}{w w':World}{M0:Nat->Nat->Prop}{β:Nat->Option Nat}{st st':St}{a:Act}{ops:List Oper}
def qValO(G:Ctx)(st:St)(d:Nat)(o:Oper)(av:AV):Prop:=
 ∃c f g caps xs sc kvs,o.op= .call c/\c.callee= .value f/\evO st f= .im (.clo g caps)/\ivsOf (c.args.toList.map (evO st))=some xs/\(3<=g/\g<G.fns)/\CtrO G.P g (xs++caps) sc kvs/\look st.toks d=some (0,0)/\av= .mpo d sc kvs
def jk7(G:Ctx)(ops:List Oper)(st:St)(d:Nat)(b:Bool)(o:Oper)(av:AV):Prop:=
 if b=true then o.guard=none/\o.dst=some d/\qValO G st d o av else qStep G ops st o av
theorem qStepO_congr{d:Nat}{b:Bool}{o:Oper}{av:AV}(h:∀t∈o.looksAt ops.toArray,st.get t=st'.get t)(hr:st.rows=st'.rows)(ht:st.toks=st'.toks)(hq:jk7 G ops st d b o av):jk7 G ops st' d b o av:=by
 unfold jk7 at hq⊢;split at hq
 ·rename_i hb;rw[zh hb];obtain⟨h1,h2,c,f,g,caps,xs,sc,kvs,ho,hc,hf,a6,hg,hv,a1,rfl⟩:=hq;have hx:∀x∈o.op.operands,evO st x=evO st' x:=fun x hx=>jds fun t ht=>h t (jbt hx ht);refine⟨h1,h2,c,f,g,caps,xs,sc,kvs,ho,hc,?_,?_,hg,hv,by rw[<-ht];exact a1,rfl⟩
  ·rw[<-hx f (by rw[ho];simp[Op.operands,Call.operands,hc])];exact hf
  ·rw[<-a6];congr 1;exact(qV fun x a7=>(hx x (by rw[ho];simp[Op.operands,Call.operands,yF.1 a7])).symm)
 ·rename_i hb;rw[zl hb];exact jf9 h hr ht hq
theorem jnn{K:St->Prop}{d:Nat}:∀(l:List Oper) (st:St) (k:Nat),jhh G ops K d k l st->
  ∃res:Nat->AV,(∀i o,l[i]? =some o->jk7 G ops (stUp res (fun _=>true) (l.take i) st) d (decide (i=k)) o (res i))/\K (stUp res (fun _=>true) l st)
 | [],st,k,h=>by cases k<;>exact h.elim
 | o::l,st,0,h=>by
  obtain⟨hg,a6,h⟩:=h;have key:∃av,qValO G st d o av/\ahead G ops K l (st.put o.dst av):=by
   unfold aqO at h;split at h
   ·rename_i c ho;split at h
    ·rename_i f hf;split at h
     ·rename_i g caps xs h1 h2;obtain⟨hg,sc,kvs,hv,a1,hk⟩:=h;exact⟨_,⟨c,f,g,caps,xs,sc,kvs,ho,hf,h1,h2,hg,hv,a1,rfl⟩,hk⟩
     ·exact h.elim
    ·exact h.elim
   ·exact h.elim
  obtain⟨av,h1,h2⟩:=key;obtain⟨res,h3,h4⟩:=jmh l _ h2;refine⟨fun i=>match i with | 0=>av | i+1=>res i,fun i o' hi=> ?_,?_⟩
  ·cases i with
   | zero=>simp at hi;subst hi;exact⟨hg,a6,h1⟩
   | succ i=>
    have:=h3 i o' (by simpa using hi);unfold jk7;rw[zl (by simp)]
    simpa [stUp]using this
  ·simpa [stUp]using h4
 | o::l,st,k+1,h=>by
  have key:∃av,qStep G ops st o av/\jhh G ops K d k l (st.put o.dst av):=by
   unfold jhh at h;unfold qStep;cases hg:o.guard with
   | none=>
    rw[hg]at h;obtain⟨av,h1,h2⟩:=jfv h;exact⟨av,h1,h2⟩
   | some p=>
    obtain⟨j,want⟩:=p;rw[hg]at h;dsimp only at h⊢;cases hy:jcx st ops j with
    | none=>rw[hy]at h;exact h.elim
    | some x=>
     rw[hy]at h;cases x with
     | none=>exact⟨jcc,rfl,h⟩
     | some b=>
      dsimp only at h⊢;by_cases hb:b=want
      ·obtain⟨av,h1,h2⟩:=jfv (h.1 hb);exact⟨av,by rw[zh hb];exact h1,h2⟩
      ·exact⟨jcc,by rw[zl hb],h.2 hb⟩
  obtain⟨av,h1,h2⟩:=key;obtain⟨res,h3,h4⟩:=jnn l _ k h2;refine⟨fun i=>match i with | 0=>av | i+1=>res i,fun i o' hi=> ?_,?_⟩
  ·cases i with
   | zero=>
    simp at hi;subst hi;unfold jk7;rw[zl (by simp)];exact h1
   | succ i=>
    have:=h3 i o' (by simpa using hi)
    simpa [stUp]using this
  ·simpa [stUp]using h4
theorem qValO_sound(hG:G.Good)(h:Sim N w0 M0 β st a w){d:Nat}{o:Oper}{av:AV}(hβ:β d=none)(hq:qValO G st d o av){K':Act->World->Prop}{Q':Exit->Act->World->Prop}
  (hK:∀β2 v w',Sim N w0 M0 β2 st a w'->RepA w' (Mo M0 β2 st) β2 st.toks av v->K' (a.put o.dst v) w'):o.wp G.P a w K' Q':=by
 obtain⟨c,f,g,caps,xs,sc,kvs,ho,hc,hf,b4,hg,b2,a8,rfl⟩:=hq;have a1:=jh9 h b4;have b1:=jb6 h f;rw[hf]at b1;obtain⟨vs,b5,a7⟩:=Rep.clo_inv b1;have b3:RepL w (Mo M0 β st) (xs++caps) ((c.args.map a.eval)++vs).toList:=by
  refine⟨?_,fun k x v hx hv=> ?_⟩
  ·have h1:=a1.1;have h2:=a7.1;simp at h1 h2;simp[h1,h2]
  ·rw[yV,vm]at hv;have h1:=a1.1;by_cases hk:k<xs.length
   ·rw[zK hk]at hx;rw[zK (by omega)]at hv;exact a1.2 k x v hx hv
   ·rw[zP (by omega)]at hx;rw[zP (by omega),<-h1]at hv;exact a7.2 _ x v hx hv
 have b9:look st.rows d=none:=by
  cases hr:look st.rows d with
  | none=>rfl
  | some x=>have:=h.excl d (by simp[hr]);rw[a8]at this;cases this
 have a6:=b2 w (Mo M0 β st) _ (fun b o hm=>h.mlt hm) b3;have b0:(execOp a.eval o).run G.P w= .ok (.enter g (c.args.map a.eval++vs)) w:=by
  unfold execOp;rw[ho];simp only[resolve,hc,b5,Deferred.ofValue,Sem.run_bind,Sem.run_pure,Result.andThen_ok,vx,invoke,jfo (hG.fn g hg)]
 unfold Oper.wp;rw[b0,Oper.upon_enter];rw[Array.toArray_toList]at a6;refine a6.mono fun en w' ⟨b,es,cl,he,hb,b8,hh,b6,b7⟩=> ?_;subst he;exact hK (upd β d (some b)) _ w' (h.tokAt hb a8 hβ b8 (zm.1 hh).1) ⟨b,jau _ _ _,rfl,fun _=>⟨es,cl,hh,b6,b7⟩⟩
theorem draw_soundO(hG:G.Good)(id n i1 d1 s1 n1:Nat)(hB:drawB ops.toArray n=true)(l6:d1<100000)(hd:∀o∈ops,∀d,o.dst=some d->d<N){K:St->Prop}{Q':Exit->Act->World->Prop}
  (hK:∀st' β' a' w',K st'->Sim N w0 M0 β' st' a' w'->Q' .normal a' w') (h:Sim N w0 M0 β st a w)
  (hA:jhh G ops (fun s=>alist G ops K (ops.drop n) s) d1 i1 (ops.take n) (tokSt st d1 d1 s1 n1)) (l8:look (tokSt st d1 d1 s1 n1).toks d1=some (s1,n1)):(Code.region id ops.toArray true).wp G.P Q' a w:=by
 simp only[drawB,zn,zO,qt,yB]at hB;obtain⟨⟨⟨⟨hn,c8⟩,e5⟩,e3⟩,h9⟩:=hB;obtain⟨res,k0,k4⟩:=jnn _ _ _ hA;have h0:Sim N w0 M0 (upd β d1 none) (tokSt st d1 d1 s1 n1) a w:=h.newTok (w':=w) (src:=d1) (dst:=d1) (s:=s1) (n:=n1) (X:=none) (Kept.less w fun b o hm=>Mo_tok0 hm) h.below (Shp.refl _) (zu _) (fun _ _ _ _=>rfl) (by simp) (.inl rfl) l6;generalize tokSt st d1 d1 s1 n1=st at*;have h8:ops.toArray.size=ops.length:=by simp
 have b7:∀i,i<n->(ops.take n)[i]? =ops[i]? :=fun i hi=>by rw[qy,zh hi]
 have c6:∀i o,(ops.take n)[i]? =some o->i<n/\ops[i]? =some o:=fun i o hi=>by
  rw[qy]at hi;split at hi
  ·exact⟨‹_›,hi⟩
  ·cases hi
 have arr:∀(i:Nat) (o:Oper),ops[i]? =some o->ops.toArray[i]? =some o:=fun i o h=>by simpa using h
 have b0:∀i j oi oj,i<j->j<n->ops[i]? =some oi->ops[j]? =some oj->Region.waitsFor .any ops.toArray j i=true\/oi.apart ops.toArray oj=true:=by
  intro i j oi oj l5 hj h1 h2;have:=List.all_eq_true.1 (List.all_eq_true.1 e5 j (qx.2 hj)) i (qx.2 l5);rw[arr i oi h1,arr j oj h2]at this
  simpa using this
 have c3:∀(j:Nat) oj,ops[j]? =some oj->∀e∈oj.after,Region.binds .any e=true->e.on<j:=by
  intro j oj hj e he hb;have l3:j<ops.toArray.size:=by rw[h8];exact(zr.1 hj).1
  have:=List.all_eq_true.1 c8 j (qx.2 l3);rw[arr j oj hj]at this;have:=jQ.1 this e he
  simpa [hb]using this
 have main:∀c (a1:Array Bool) (a:Act) (w:World),cntB a1 n=c->HeadInv .any ops.toArray n a1->
   (∃β,(a1.getD i1 false=false->β d1=none)/\Sim N w0 M0 β (stUp res (fun i=>a1.getD i false) (ops.take n) st) a w)->wpAny G.P .any ops.toArray Q' (c+(ops.toArray.size-n)) a1 a w:=by
  intro c
  induction c with
  | zero=>
   rintro a1 a w hc inv ⟨β,_,hs⟩;rw[qi];have b4:=jfh hc;have k7:a1=jen n ops.toArray.size:=by
    apply Array.ext
    ·rw[inv.size];simp[jen]
    ·intro i h1 h2;have e9:i<ops.length:=by rw[inv.size]at h1;simpa using h1
     by_cases a7:i<n
     ·have:=b4 i a7;have e1:a1[i]=true:=by simpa [h1]using this
      rw[e1];simp[jen,a7]
     ·have:=inv.tail i (by omega) (by rw[inv.size]at h1;exact h1);have e1:a1[i]=false:=by simpa [h1]using this
      rw[e1];simp[jen,a7]
   have l1:Sim N w0 M0 β (stUp res (fun _=>true) (ops.take n) st) a w:=by
    refine hs.congr (fun t=>jbz _ _ _ _ _ _ rfl fun i o hi _=>b4 i (c6 i o hi).1) ?_ ?_
    ·rw[(jaa _ _ _ _).1,(jaa _ _ _ _).1]
    ·rw[(jaa _ _ _ _).2,(jaa _ _ _ _).2]
   have e7:=jfi hG hK (ops.drop n) _ β a w (fun o ho=>hd o (yq ho)) k4 l1;have k5:(ops.drop n).length=ops.toArray.size-n:=by simp
   have:=wpAny_of_seq (P:=G.P) (md:= .any) (Q':=Q') (ops.drop n) n a1 a w (fun j=>by simp[qQ]) (by rw[k7,k5];exact h9) e7
   rwa [k5]at this
  | succ c ih=>
   rintro a1 a w hc inv ⟨β,h7,hs⟩;obtain⟨i0,h3,c9,k2⟩:=jhz (by omega:cntB a1 n≠0);have hL:∀i,i<n->(a1.getD i true=false↔a1.getD i false=false):=fun i hi=>by
    have:i<a1.size:=by rw[inv.size];omega
    simp[this]
   have b2:i0∈Region.ready .any ops.toArray a1:=by
    have e9:i0<ops.length:=by rw[<-h8];omega
    refine mem_ready.2 ⟨(hL i0 h3).2 c9,ops[i0],arr i0 _ (zw e9),fun e he hb=>k2 _ (c3 i0 _ (zw e9) e he hb)⟩
   have h4:(Region.ready .any ops.toArray a1=[]->Q' .normal a w)/\∀i∈Region.ready .any ops.toArray a1,wpOp G.P ops.toArray Q' i (wpAny G.P .any ops.toArray Q' (c+(ops.toArray.size-n)) (a1.setIfInBounds i true)) a w:=by
    refine⟨fun hr=>(by rw[hr]at b2;cases b2),fun i hi=> ?_⟩;obtain⟨k9,oi,c5,b4⟩:=mem_ready.1 hi;have a6:ops[i]? =some oi:=by simpa using c5
    have k3:i<ops.toArray.size:=(zm.1 c5).1;have a7:i<n:=by
     rcases zT i n with h' | h'
     ·exact h'
     ·rcases e3 with e | ⟨hsink,hchain⟩
      ·omega
      ·exact absurd hi (tail_waits hsink hchain (by omega) inv _ i0 rfl h3 ((hL i0 h3).2 c9) i h')
    have b3:a1.getD i false=false:=(hL i a7).1 k9;have e2:∀k,Region.waitsFor .any ops.toArray i k=true->a1.getD k false=true:=fun k hk=>by
     obtain⟨oj,k1,e,he,hb,e6⟩:=Region.waitsFor_spec hk;rw[c5]at k1;cases k1;rw[<-e6];exact b4 e he hb
    have b8:∀k,Region.waitsFor .any ops.toArray k i=true->a1.getD k false=false:=fun k hk=>by
     obtain⟨ok,b1,e,he,hb,e6⟩:=Region.waitsFor_spec hk;cases hl:a1.getD k false with
     | false=>rfl
     | true=>
      have:=inv.closed k ok b1 hl e he hb;rw[e6,b3]at this;cases this
    have c7:∀t∈oi.looksAt ops.toArray,(stUp res (fun _=>true) ((ops.take n).take i) st).get t=(stUp res (fun k=>a1.getD k false) (ops.take n) st).get t:=by
     intro t ht;rw[jin];refine jbz _ _ _ _ _ _ rfl fun k ok hk b6=> ?_;obtain⟨e8,b1⟩:=c6 k ok hk;rcases qS k i with hki | hki | hki
     ·rcases b0 k i ok oi hki a7 b1 a6 with hw | hap
      ·rw[e2 k hw];simp[hki]
      ·exact absurd ht ((Oper.apart_spec hap).1 t b6)
     ·subst hki;rw[b3];simp
     ·rcases b0 i k oi ok hki e8 a6 b1 with hw | hap
      ·rw[b8 k hw];simp;omega
      ·exact absurd ht ((Oper.apart_spec hap).2.2 t b6)
    have hq:jk7 G ops (stUp res (fun k=>a1.getD k false) (ops.take n) st) d1 (decide (i=i1)) oi (res i):=
     qStepO_congr c7 (by rw[(jaa _ _ _ _).1,(jaa _ _ _ _).1]) (by rw[(jaa _ _ _ _).2,(jaa _ _ _ _).2]) (k0 i oi (by rw[b7 i a7];exact a6))
    have b9:i<a1.size:=by rw[inv.size];exact k3
    have k6:cntB (a1.setIfInBounds i true) n=c:=by
     have:=jhy b9 b3 n;rw[zh a7]at this;omega
    have next:∀(β2:Nat->Option Nat) v w2,((a1.setIfInBounds i true).getD i1 false=false->β2 d1=none)->Sim N w0 M0 β2 (stUp res (fun k=>a1.getD k false) (ops.take n) st) a w2->RepA w2 (Mo M0 β2 (stUp res (fun k=>a1.getD k false) (ops.take n) st)) β2 (stUp res (fun k=>a1.getD k false) (ops.take n) st).toks (res i) v->
      wpAny G.P .any ops.toArray Q' (c+(ops.toArray.size-n)) (a1.setIfInBounds i true) (a.put oi.dst v) w2:=by
     intro β2 v w2 k8 l0 hv;have e4:=l0.put (dst:=oi.dst) (hd oi (zk a6)) hv;refine ih _ _ _ k6 (inv.set hi a7) ⟨β2,k8,e4.congr (fun t=> ?_) ?_ ?_⟩
     ·have e0:∀k,k≠i->(a1.setIfInBounds i true).getD k false=a1.getD k false:=fun k hk=>getD_set_ne false (zH hk);by_cases c0:oi.dst=some t
      ·rw[c0,jby];refine(jej (ops.take n) res _ st i oi (by rw[b7 i a7];exact a6) c0 (by simp[b9]) fun k ok l4 hk h5 b6=> ?_).symm;obtain⟨e8,b1⟩:=c6 k ok hk;rw[e0 k (by omega)]at h5;rcases b0 i k oi ok l4 e8 a6 b1 with hw | hap
       ·rw[b8 k hw]at h5;cases h5
       ·exact(Oper.apart_spec hap).2.1 t c0 b6
      ·rw[jdl c0];refine jbz _ _ _ _ _ _ rfl fun k ok hk b6=> ?_;have:k≠i:=fun e=>by
        subst e;obtain⟨_,b1⟩:=c6 k ok hk;rw[a6]at b1;cases b1;exact c0 b6
       exact(e0 k this).symm
     ·rw[show((stUp res (fun k=>a1.getD k false) (ops.take n) st).put oi.dst (res i)).rows=(stUp res (fun k=>a1.getD k false) (ops.take n) st).rows by unfold St.put;split<;>rfl,(jaa _ _ _ _).1,(jaa _ _ _ _).1]
     ·rw[show((stUp res (fun k=>a1.getD k false) (ops.take n) st).put oi.dst (res i)).toks=(stUp res (fun k=>a1.getD k false) (ops.take n) st).toks by unfold St.put;split<;>rfl,(jaa _ _ _ _).2,(jaa _ _ _ _).2]
    have a8:∀v w2,Below w.heap.size w w2->(i≠i1)->RepA w2 (Mo M0 β (stUp res (fun k=>a1.getD k false) (ops.take n) st)) β (stUp res (fun k=>a1.getD k false) (ops.take n) st).toks (res i) v->
      wpAny G.P .any ops.toArray Q' (c+(ops.toArray.size-n)) (a1.setIfInBounds i true) (a.put oi.dst v) w2:=fun v w2 hb l2 hv=>
     next β v w2 (fun hl=>h7 (by rwa [getD_set_ne false l2]at hl)) (hs.ext hb) hv
    unfold wpOp;rw[c5];dsimp only;unfold jk7 at hq;by_cases b5:i=i1
    ·subst b5;rw[zh (zp rfl)]at hq;obtain⟨hg,l9,hq⟩:=hq;rw[zh (by simp[Region.wanted,hg])];refine .inl (qValO_sound hG hs (h7 b3) hq fun β2 v w2 e4 hv=> ?_);exact next β2 v w2 (fun hl=>by simp[b9]at hl) e4 hv
    ·rw[zl (by simpa using b5)]at hq;unfold qStep at hq;cases hg:oi.guard with
     | none=>
      rw[hg]at hq;rw[zh (by simp[Region.wanted,hg])];exact .inl (jcs hG hs hq fun v w2 hb hv=>a8 v w2 hb b5 hv)
     | some p=>
      obtain⟨j,want⟩:=p;rw[hg]at hq;dsimp only at hq;split at hq
      ·rename_i b hy;have c4:=jdu hs hy;by_cases hb:b=want
       ·rw[zh hb]at hq;rw[zh (by simp[Region.wanted,hg,c4,hb])];exact .inl (jcs hG hs hq fun v w2 hb hv=>a8 v w2 hb b5 hv)
       ·rw[zl hb]at hq;rw[zl (by simp[Region.wanted,hg,c4,hb])];exact a8 _ w (Below.refl _ _) b5 (by rw[hq];exact Rep.sc _ rfl)
      ·rename_i hy;have c4:=jea hs hy;rw[zl (by simp[Region.wanted,hg,c4])];exact a8 _ w (Below.refl _ _) b5 (by rw[hq];exact Rep.sc _ rfl)
      ·exact hq.elim
   have:c+1+(ops.toArray.size-n)=(c+(ops.toArray.size-n))+1:=by omega
   rw[this];exact h4
 refine wp_region_any hG.mixed ?_;have h6:HeadInv .any ops.toArray n (Array.replicate ops.toArray.size false):=
  ⟨by simp,fun j oj _ hl=>(by rw[getD_replicate_false]at hl;cases hl),fun t _ ht=>getD_in (by simpa using ht) (getD_replicate_false _ _)⟩
 have l7:∀k,cntB (Array.replicate ops.toArray.size false) k=k:=fun k=>by
  induction k with
  | zero=>rfl
  | succ k ihk=>simp only[cntB,ihk,getD_replicate_false];simp
 have:=main n (Array.replicate ops.toArray.size false) a _ (l7 n) h6 ⟨_,fun _=>jau _ _ _,h0.drew.congr (fun t=>by
  have hf:∀(l:List Oper) (res:Nat->AV) (L:Nat->Bool) (st:St),(∀i,L i=false)->stUp res L l st=st:=by
   intro l
   induction l with
   | nil=>intros;rfl
   | cons o l ih=>
    intro res L st hL;simp only[stUp,hL 0];exact ih _ _ _ fun i=>hL (i+1)
  rw[hf _ _ _ _ fun i=>getD_replicate_false _ _]) (jaa _ _ _ _).1.symm (jaa _ _ _ _).2.symm⟩
 rwa [show n+(ops.toArray.size-n)=ops.toArray.size by omega]at this
end
section
variable{G:Ctx}
def jjx(G:Ctx)(ops:List Oper)(K:St->Prop)(d i1 n:Nat)(l:List Oper)(st:St):Prop:=jhh G ops (fun s=>alist G ops K (l.drop n) s) d i1 (l.take n) st
theorem DrawO_of{ops:List Oper}{Q:Exit->St->Prop}{st:St}(n i1 d:Nat)(h:(drawB ops.toArray n&&Nat.blt d 100000)=true)
  (hA:jjx G ops (Q .normal) d i1 n ops (tokSt st d d 0 0)): @DrawP G ⟨ops⟩ ⟨Q⟩ st:=by
 rw[zn,Nat.blt_eq]at h;exact fun _ _ _ _ _ _ id _ hG hd hK hs=>draw_soundO hG id n i1 d 0 0 h.1 h.2 hd hK hs hA (by simp[tokSt,look])
theorem aheadON_free(ops:List Oper)(K:St->Prop)(d i n:Nat)(dst:Option Tmp)(op:Op)(ty:TypeId)(pos:String)(af:Array Edge)(r:List Oper)(st:St):
  jjx G ops K d (i+1) (n+1) (⟨dst,op,ty,pos,af,none⟩::r) st=aq G st ⟨dst,op,ty,pos,af,none⟩ (fun av=>jjx G ops K d i n r (st.put dst av)):=by
 simp only[jjx,List.take_succ_cons,je]
 conv=>lhs;unfold jhh
theorem aheadON_here(ops:List Oper)(K:St->Prop)(d n:Nat)(op:Op)(ty:TypeId)(pos:String)(af:Array Edge)(r:List Oper)(st:St)(d':Nat):
  jjx G ops K d 0 (n+1) (⟨some d',op,ty,pos,af,none⟩::r) st=(d'=d/\aqO G st d ⟨some d',op,ty,pos,af,none⟩ (fun av=>jex G ops K n r (st.put (some d') av))):=by
 simp only[jjx,jex,List.take_succ_cons,je]
 conv=>lhs;unfold jhh
 simp
def CallO(G:Ctx)(g:Nat)(xs:List IV)(tok:Option (Nat×Nat))(d:Nat)[K:Hold (AV->Prop)]:Prop:=
 (3<=g/\g<G.fns)/\∃sc kvs,CtrO G.P g xs sc kvs/\tok=some (0,0)/\K.val (.mpo d sc kvs)
theorem CallO_eq{g:Nat}{xs:List IV}{tok:Option (Nat×Nat)}{d:Nat}{K:AV->Prop}{sc:Nat×Bool}{kvs:List (List Int×List Int)}(h:CtrO G.P g xs sc kvs)(hg:3<=g/\g<G.fns)(ht:tok=some (0,0))(hK:K (.mpo d sc kvs)): @CallO G g xs tok d ⟨K⟩:=⟨hg,sc,kvs,h,ht,hK⟩
theorem aqO_call(dst:Option Tmp)(ty:TypeId)(pos:String)(af:Array Edge)(gd:Option (Nat×Bool))(f:Operand)(a1:Array Operand)(ts:Array TypeId)(d:Nat)(K:AV->Prop)(st:St):aqO G st d ⟨dst,.call ⟨.value f,a1,ts⟩,ty,pos,af,gd⟩ K=
  match evO st f,ivsOf (a1.toList.map (evO st))with
  | .im (.clo g caps),some xs=>CallO G g (xs++caps) (look st.toks d) d (K:=⟨K⟩)
  | _,_=>False:=propext ⟨fun h=>h,fun h=>h⟩
end
attribute [go_sem ↓] aheadON_free aheadON_here aqO_call
attribute [go_sem] aRetO
