/- A part of the proof. No further condition. -/
import Derived.Test.YthahgoopboilkaaKM7
set_option linter.all false
set_option maxRecDepth 10000000
set_option maxHeartbeats 16000000
namespace Go.Abs
section
open Go.RowKit (Below)
def aqV(G:Ctx)(st:St)(d:Nat)(o:Oper)(K:AV->Prop):Prop:=
 match o.op with
 | .call c=>match c.callee with
  | .value f=>match evO st f,ivsOf (c.args.toList.map (evO st))with
   | .im (.clo g caps),some xs=>(3<=g/\g<G.fns)/\∃e s es,CtrV G.P g (xs++caps) e s es/\(∀c∈es,c.length=s)/\look st.toks d=some (s,es.length)/\K (.vec d e s es)
   | _,_=>False
  | _=>False
 | _=>False
def jdu(G:Ctx)(ops:List Oper)(K:St->Prop)(d:Nat):Nat->List Oper->St->Prop
 | _,[],_=>False
 | 0,o::r,st=>o.guard=none/\o.dst=some d/\aqV G st d o fun av=>ahead G ops K r (st.put o.dst av)
 | k+1,o::r,st=>match o.guard with
  | none=>aq G st o fun av=>jdu G ops K d k r (st.put o.dst av)
  | some (j,want)=>match jb3 st ops j with
   | some (some b)=>(b=want->aq G st o fun av=>jdu G ops K d k r (st.put o.dst av))/\(b≠want->jdu G ops K d k r (st.put o.dst jas))
   | some none=>jdu G ops K d k r (st.put o.dst jas)
   | none=>False
section
variable{G:Ctx}{N:Nat}{w0:Base}{w w':World}{M0:Nat->Nat->Prop}{β:Nat->Option Nat}{st st':St}{a:Act}{ops:List Oper}
def qValV(G:Ctx)(st:St)(d:Nat)(o:Oper)(av:AV):Prop:=
 ∃c f g caps xs e s es,o.op= .call c/\c.callee= .value f/\evO st f= .im (.clo g caps)/\ivsOf (c.args.toList.map (evO st))=some xs/\(3<=g/\g<G.fns)/\CtrV G.P g (xs++caps) e s es/\(∀c∈es,c.length=s)/\look st.toks d=some (s,es.length)/\av= .vec d e s es
def jfg(G:Ctx)(ops:List Oper)(st:St)(d:Nat)(b:Bool)(o:Oper)(av:AV):Prop:=
 if b=true then o.guard=none/\o.dst=some d/\qValV G st d o av else qStep G ops st o av
theorem qStepV_congr{d:Nat}{b:Bool}{o:Oper}{av:AV}(h:∀t∈o.looksAt ops.toArray,st.get t=st'.get t)(hr:st.rows=st'.rows)(ht:st.toks=st'.toks)(hq:jfg G ops st d b o av):jfg G ops st' d b o av:=by
 unfold jfg at hq⊢;split at hq
 ·rename_i hb;rw[if_pos hb];obtain⟨h1,h2,c,f,g,caps,xs,e,s,es,ho,hc,hf,hxs,hg,hv,hes,htok,rfl⟩:=hq;have hx:∀x∈o.op.operands,evO st x=evO st' x:=fun x hx=>jbc fun t ht=>h t (jac hx ht);refine⟨h1,h2,c,f,g,caps,xs,e,s,es,ho,hc,?_,?_,hg,hv,hes,by rw[<-ht];exact htok,rfl⟩
  ·rw[<-hx f (by rw[ho];simp[Op.operands,Call.operands,hc])];exact hf
  ·rw[<-hxs];congr 1;exact(List.map_congr_left fun x hx'=>(hx x (by rw[ho];simp[Op.operands,Call.operands,Array.mem_toList_iff.1 hx'])).symm)
 ·rename_i hb;rw[if_neg hb];exact jbz h hr ht hq
theorem jhg{K:St->Prop}{d:Nat}:∀(l:List Oper) (st:St) (k:Nat),jdu G ops K d k l st->
  ∃res:Nat->AV,(∀i o,l[i]? =some o->jfg G ops (stUp res (fun _=>true) (l.take i) st) d (decide (i=k)) o (res i))/\K (stUp res (fun _=>true) l st)
 | [],st,k,h=>by cases k<;>exact h.elim
 | o::l,st,0,h=>by
  obtain⟨hg,hdst,h⟩:=h;have key:∃av,qValV G st d o av/\ahead G ops K l (st.put o.dst av):=by
   unfold aqV at h;split at h
   ·rename_i c ho;split at h
    ·rename_i f hf;split at h
     ·rename_i g caps xs h1 h2;obtain⟨hg,e,s,es,hv,hes,htok,hk⟩:=h;exact⟨_,⟨c,f,g,caps,xs,e,s,es,ho,hf,h1,h2,hg,hv,hes,htok,rfl⟩,hk⟩
     ·exact h.elim
    ·exact h.elim
   ·exact h.elim
  obtain⟨av,h1,h2⟩:=key;obtain⟨res,h3,h4⟩:=jet l _ h2;refine⟨fun i=>match i with | 0=>av | i+1=>res i,fun i o' hi=> ?_,?_⟩
  ·cases i with
   | zero=>simp at hi;subst hi;exact⟨hg,hdst,h1⟩
   | succ i=>
    have:=h3 i o' (by simpa using hi);unfold jfg;rw[if_neg (by simp)]
    simpa [stUp]using this
  ·simpa [stUp]using h4
 | o::l,st,k+1,h=>by
  have key:∃av,qStep G ops st o av/\jdu G ops K d k l (st.put o.dst av):=by
   unfold jdu at h;unfold qStep;cases hg:o.guard with
   | none=>
    rw[hg]at h;obtain⟨av,h1,h2⟩:=jce h;exact⟨av,h1,h2⟩
   | some p=>
    obtain⟨j,want⟩:=p;rw[hg]at h;dsimp only at h⊢;cases hy:jb3 st ops j with
    | none=>rw[hy]at h;exact h.elim
    | some x=>
     rw[hy]at h;cases x with
     | none=>exact⟨jas,rfl,h⟩
     | some b=>
      dsimp only at h⊢;by_cases hb:b=want
      ·obtain⟨av,h1,h2⟩:=jce (h.1 hb);exact⟨av,by rw[if_pos hb];exact h1,h2⟩
      ·exact⟨jas,by rw[if_neg hb],h.2 hb⟩
  obtain⟨av,h1,h2⟩:=key;obtain⟨res,h3,h4⟩:=jhg l _ k h2;refine⟨fun i=>match i with | 0=>av | i+1=>res i,fun i o' hi=> ?_,?_⟩
  ·cases i with
   | zero=>
    simp at hi;subst hi;unfold jfg;rw[if_neg (by simp)];exact h1
   | succ i=>
    have:=h3 i o' (by simpa using hi)
    simpa [stUp]using this
  ·simpa [stUp]using h4
theorem Mo_tok0{d s n b o:Nat}(h:Mo M0 (upd β d none) (tokSt st d d s n) b o):Mo M0 β st b o:=by
 rcases h with h | ⟨k,s',es',hk,hkb⟩ | ⟨k,s',n',hk,hkb,ho⟩
 ·exact .inl h
 ·have hne:k≠d:=fun e=>by subst e;simp[tokSt,ja2]at hk
  rw[ja6 _ _ hne]at hkb;simp only[tokSt,ja3 _ hne]at hk;exact .inr (.inl ⟨k,s',es',hk,hkb⟩)
 ·by_cases hne:k=d
  ·subst hne;rw[ja4]at hkb;cases hkb
  ·rw[ja6 _ _ hne]at hkb;exact .inr (.inr ⟨k,s',n',(jaw hne hk).2,hkb,ho⟩)
theorem jko{d b s n b' o:Nat}(ht:look st.toks d=some (s,n))(hm:Mo M0 (upd β d (some b)) st b' o)(hr:look st.rows d=none):Mo M0 β st b' o\/(b'=b/\n*s<=o):=by
 rcases hm with hm | ⟨k,s',es',hk,hkb⟩ | ⟨k,s',n',hk,hkb,ho⟩
 ·exact .inl (.inl hm)
 ·have hne:k≠d:=fun e=>by subst e;rw[hr]at hk;cases hk
  rw[ja6 _ _ hne]at hkb;exact .inl (.inr (.inl ⟨k,s',es',hk,hkb⟩))
 ·by_cases hne:k=d
  ·subst hne;rw[ja4]at hkb;rw[ht]at hk;cases hkb;cases hk;exact .inr ⟨rfl,ho⟩
  ·rw[ja6 _ _ hne]at hkb;exact .inl (.inr (.inr ⟨k,s',n',hk,hkb,ho⟩))
theorem Sim.tokAt(h:Sim N w0 M0 β st a w)(hb:Below w.heap.size w w'){d s n b:Nat}(ht:look st.toks d=some (s,n))(hd:β d=none)(hb1:w.heap.size<=b)(hb2:b<w'.heap.size):
  Sim N w0 M0 (upd β d (some b)) st a w':=by
 have hrow:look st.rows d=none:=by
  cases hr:look st.rows d with
  | none=>rfl
  | some x=>have:=h.excl d (by simp[hr]);rw[ht]at this;cases this
 have hmo:∀b' o,b'<w.heap.size->¬Mo M0 β st b' o->¬Mo M0 (upd β d (some b)) st b' o:=fun b' o hl hn hm=>by
  rcases jko ht hm hrow with hm | ⟨e,_⟩
  ·exact hn hm
  ·omega
 have hk:Kept w (Mo M0 β st) w' (Mo M0 (upd β d (some b)) st):=
  ⟨fun b' o u hc hn=>have hl:=World.block_lt_of_cell? (a:=⟨b',o,none⟩) w hc;⟨by rw[<-hc];exact hb.cell hl,hmo b' o hl hn⟩,
   fun b' es c hc hn=>have hl:=(Array.getElem?_eq_some_iff.1 hc).1;⟨by rw[hb.block b' hl];exact hc,hmo b' 0 hl hn⟩,Shp.of hb⟩
 have hmon:∀k b',β k=some b'->upd β d (some b) k=some b':=fun k b' hkb=>by
  have hne:k≠d:=fun e=>by subst e;rw[hd]at hkb;cases hkb
  rw[ja6 _ _ hne];exact hkb
 have hlt:∀k b',((look st.rows k).isSome\/(look st.toks k).isSome)->β k=some b'->b'<w.heap.size:=fun k b' hk hkb=>by
  rcases hk with hk | hk
  ·obtain⟨⟨s',es'⟩,hl⟩:=Option.isSome_iff_exists.1 hk;obtain⟨b2,hb2,_,cur,T',h1,_⟩:=h.rows k s' es' hl;rw[hkb]at hb2;cases hb2;exact(Array.getElem?_eq_some_iff.1 h1).1
  ·obtain⟨⟨s',n'⟩,hl⟩:=Option.isSome_iff_exists.1 hk;exact(h.toks k s' n' hl b' hkb).2
 refine⟨h.size,h.defers,h.below.step hb,h.m0,fun t=> ?_,fun k s' es' hk'=> ?_,fun k s' n' hk' b' hb'=> ?_,fun k k' b' h1 h2 e1 e2=> ?_,h.excl,fun k hN hN' hk'=> ?_,h.np,fun b'=>hmon _ _ (h.perm b')⟩
 ·exact(h.fr t).moveB hk hmon (fun k b' hl hkb=>hb.block b' (hlt k b' (.inr hl) hkb)) (Shp.of hb)
 ·obtain⟨b',h1,h2,h3⟩:=h.rows k s' es' hk';exact⟨b',hmon k b' h1,h2,h3.move hk (hb.block b' (hlt k b' (.inl (by simp[hk'])) h1))⟩
 ·by_cases e:k=d
  ·subst e;rw[ja4]at hb';cases hb';exact⟨fun hp=>absurd (Nat.lt_of_lt_of_le (w0.lt _ hp) h.below.size) (by omega),hb2⟩
  ·rw[ja6 _ _ e]at hb';obtain⟨h1,h2⟩:=h.toks k s' n' hk' b' hb';exact⟨h1,Nat.lt_of_lt_of_le h2 hb.size⟩
 ·by_cases e:k=d<;>by_cases e':k'=d
  ·omega
  ·subst e;rw[ja4]at e1;rw[ja6 _ _ e']at e2;cases e1;exact absurd (hlt k' _ h2 e2) (by omega)
  ·subst e';rw[ja4]at e2;rw[ja6 _ _ e]at e1;cases e2;exact absurd (hlt k _ h1 e1) (by omega)
  ·rw[ja6 _ _ e]at e1;rw[ja6 _ _ e']at e2;exact h.inj k k' b' h1 h2 e1 e2
 ·have e:k≠d:=fun e=>by subst e;rw[hrow]at hk';cases hk'
  rw[ja6 _ _ e];exact h.nam k hN hN' hk'
theorem qValV_sound(hG:G.Good)(h:Sim N w0 M0 β st a w){d:Nat}{o:Oper}{av:AV}(hβ:β d=none)(hq:qValV G st d o av){K':Act->World->Prop}{Q':Exit->Act->World->Prop}
  (hK:∀β2 v w',Sim N w0 M0 β2 st a w'->RepA w' (Mo M0 β2 st) β2 st.toks av v->K' (a.put o.dst v) w'):o.wp G.P a w K' Q':=by
 obtain⟨c,f,g,caps,xs,e,s,es,ho,hc,hf,hxs,hg,hctr,hes,htok,rfl⟩:=hq;have hargs:=jd5 h hxs;have hfv:=ja9 h f;rw[hf]at hfv;obtain⟨vs,hfe,hcaps⟩:=Rep.clo_inv hfv;have hall:RepL w (Mo M0 β st) (xs++caps) ((c.args.map a.eval)++vs).toList:=by
  refine⟨?_,fun k x v hx hv=> ?_⟩
  ·have h1:=hargs.1;have h2:=hcaps.1;simp at h1 h2;simp[h1,h2]
  ·rw[Array.toList_append,Array.toList_map]at hv;have h1:=hargs.1;by_cases hk:k<xs.length
   ·rw[List.getElem?_append_left hk]at hx;rw[List.getElem?_append_left (by omega)]at hv;exact hargs.2 k x v hx hv
   ·rw[List.getElem?_append_right (by omega)]at hx;rw[List.getElem?_append_right (by omega),<-h1]at hv;exact hcaps.2 _ x v hx hv
 have hrow:look st.rows d=none:=by
  cases hr:look st.rows d with
  | none=>rfl
  | some x=>have:=h.excl d (by simp[hr]);rw[htok]at this;cases this
 have hcalls:=hctr w (Mo M0 β st) _ (fun b o hm=>h.mlt hm) hall;have hrun:(execOp a.eval o).run G.P w= .ok (.enter g (c.args.map a.eval++vs)) w:=by
  unfold execOp;rw[ho];simp only[resolve,hc,hfe,Deferred.ofValue,Sem.run_bind,Sem.run_pure,Result.andThen_ok,Array.empty_append,invoke,jca (hG.fn g hg)]
 unfold Oper.wp;rw[hrun,Oper.upon_enter];rw[Array.toArray_toList]at hcalls;refine hcalls.mono fun en w' ⟨v,he,hb,hv⟩=> ?_;subst he;rcases hv with ⟨hr,hcap⟩ | ⟨b,cap,cur,h1,h2,h3,h4,h5,h6,h7,h8⟩
 ·exact hK β v w' (h.ext hb) ⟨hr,hes,fun _=> .inl hcap⟩
 ·refine hK (upd β d (some b)) v w' (h.tokAt hb htok hβ h1 h2) ⟨h3.less fun b' o' hm=>jko htok hm hrow,hes,fun _=> .inr ⟨b,cap,cur,ja4 _ _ _,h4,h5,h6,h7,h8⟩⟩
theorem draw_soundV(hG:G.Good)(id n i1 d1 s1 n1:Nat)(hB:drawB ops.toArray n=true)(hd1:d1<100000)(hd:∀o∈ops,∀d,o.dst=some d->d<N){K:St->Prop}{Q':Exit->Act->World->Prop}
  (hK:∀st' β' a' w',K st'->Sim N w0 M0 β' st' a' w'->Q' .normal a' w') (h:Sim N w0 M0 β st a w)
  (hA:jdu G ops (fun s=>alist G ops K (ops.drop n) s) d1 i1 (ops.take n) (tokSt st d1 d1 s1 n1)) (hst0:look (tokSt st d1 d1 s1 n1).toks d1=some (s1,n1)):(Code.region id ops.toArray true).wp G.P Q' a w:=by
 simp only[drawB,Bool.and_eq_true,decide_eq_true_eq,Bool.or_eq_true,beq_iff_eq]at hB;obtain⟨⟨⟨⟨hn,hafter⟩,hpair⟩,htail⟩,hseq⟩:=hB;obtain⟨res,hres,hfin⟩:=jhg _ _ _ hA;have h0:Sim N w0 M0 (upd β d1 none) (tokSt st d1 d1 s1 n1) a w:=h.newTok (w':=w) (src:=d1) (dst:=d1) (s:=s1) (n:=n1) (X:=none) (Kept.less w fun b o hm=>Mo_tok0 hm) h.below (Shp.refl _) (Nat.le_refl _) (fun _ _ _ _=>rfl) (by simp) (.inl rfl) hd1;generalize tokSt st d1 d1 s1 n1=st at*;have hsz:ops.toArray.size=ops.length:=by simp
 have htake:∀i,i<n->(ops.take n)[i]? =ops[i]? :=fun i hi=>by rw[List.getElem?_take,if_pos hi]
 have hlt:∀i o,(ops.take n)[i]? =some o->i<n/\ops[i]? =some o:=fun i o hi=>by
  rw[List.getElem?_take]at hi;split at hi
  ·exact⟨‹_›,hi⟩
  ·cases hi
 have arr:∀(i:Nat) (o:Oper),ops[i]? =some o->ops.toArray[i]? =some o:=fun i o h=>by simpa using h
 have hpair':∀i j oi oj,i<j->j<n->ops[i]? =some oi->ops[j]? =some oj->Region.waitsFor .any ops.toArray j i=true\/oi.apart ops.toArray oj=true:=by
  intro i j oi oj hij hj h1 h2;have:=List.all_eq_true.1 (List.all_eq_true.1 hpair j (List.mem_range.2 hj)) i (List.mem_range.2 hij);rw[arr i oi h1,arr j oj h2]at this
  simpa using this
 have hafter':∀(j:Nat) oj,ops[j]? =some oj->∀e∈oj.after,Region.binds .any e=true->e.on<j:=by
  intro j oj hj e he hb;have hjl:j<ops.toArray.size:=by rw[hsz];exact(List.getElem?_eq_some_iff.1 hj).1
  have:=List.all_eq_true.1 hafter j (List.mem_range.2 hjl);rw[arr j oj hj]at this;have:=Array.all_eq_true'.1 this e he
  simpa [hb]using this
 have main:∀c (listed:Array Bool) (a:Act) (w:World),cntB listed n=c->HeadInv .any ops.toArray n listed->
   (∃β,(listed.getD i1 false=false->β d1=none)/\Sim N w0 M0 β (stUp res (fun i=>listed.getD i false) (ops.take n) st) a w)->wpAny G.P .any ops.toArray Q' (c+(ops.toArray.size-n)) listed a w:=by
  intro c
  induction c with
  | zero=>
   rintro listed a w hc inv ⟨β,_,hs⟩;rw[Nat.zero_add];have hall:=jc9 hc;have hcan:listed=jbj n ops.toArray.size:=by
    apply Array.ext
    ·rw[inv.size];simp[jbj]
    ·intro i h1 h2;have hil:i<ops.length:=by rw[inv.size]at h1;simpa using h1
     by_cases hin:i<n
     ·have:=hall i hin;have e1:listed[i]=true:=by simpa [h1]using this
      rw[e1];simp[jbj,hin]
     ·have:=inv.tail i (by omega) (by rw[inv.size]at h1;exact h1);have e1:listed[i]=false:=by simpa [h1]using this
      rw[e1];simp[jbj,hin]
   have hs':Sim N w0 M0 β (stUp res (fun _=>true) (ops.take n) st) a w:=by
    refine hs.congr (fun t=>jag _ _ _ _ _ _ rfl fun i o hi _=>hall i (hlt i o hi).1) ?_ ?_
    ·rw[(ja1 _ _ _ _).1,(ja1 _ _ _ _).1]
    ·rw[(ja1 _ _ _ _).2,(ja1 _ _ _ _).2]
   have hlist:=jc2 hG hK (ops.drop n) _ β a w (fun o ho=>hd o (List.mem_of_mem_drop ho)) hfin hs';have hdl:(ops.drop n).length=ops.toArray.size-n:=by simp
   have:=wpAny_of_seq (P:=G.P) (md:= .any) (Q':=Q') (ops.drop n) n listed a w (fun j=>by simp[List.getElem?_drop]) (by rw[hcan,hdl];exact hseq) hlist
   rwa [hdl]at this
  | succ c ih=>
   rintro listed a w hc inv ⟨β,hβ1,hs⟩;obtain⟨i0,hi0,hun0,hmin⟩:=jde (by omega:cntB listed n≠0);have hL:∀i,i<n->(listed.getD i true=false↔listed.getD i false=false):=fun i hi=>by
    have:i<listed.size:=by rw[inv.size];omega
    simp[this]
   have hready0:i0∈Region.ready .any ops.toArray listed:=by
    have hil:i0<ops.length:=by rw[<-hsz];omega
    refine mem_ready.2 ⟨(hL i0 hi0).2 hun0,ops[i0],arr i0 _ (List.getElem?_eq_getElem hil),fun e he hb=>hmin _ (hafter' i0 _ (List.getElem?_eq_getElem hil) e he hb)⟩
   have hgoal:(Region.ready .any ops.toArray listed=[]->Q' .normal a w)/\∀i∈Region.ready .any ops.toArray listed,wpOp G.P ops.toArray Q' i (wpAny G.P .any ops.toArray Q' (c+(ops.toArray.size-n)) (listed.setIfInBounds i true)) a w:=by
    refine⟨fun hr=>(by rw[hr]at hready0;cases hready0),fun i hi=> ?_⟩;obtain⟨hun,oi,hoi,hall⟩:=mem_ready.1 hi;have hoi':ops[i]? =some oi:=by simpa using hoi
    have hisz:i<ops.toArray.size:=(Array.getElem?_eq_some_iff.1 hoi).1;have hin:i<n:=by
     rcases Nat.lt_or_ge i n with h' | h'
     ·exact h'
     ·rcases htail with e | ⟨hsink,hchain⟩
      ·omega
      ·exact absurd hi (tail_waits hsink hchain (by omega) inv _ i0 rfl hi0 ((hL i0 hi0).2 hun0) i h')
    have hunf:listed.getD i false=false:=(hL i hin).1 hun;have hwait:∀k,Region.waitsFor .any ops.toArray i k=true->listed.getD k false=true:=fun k hk=>by
     obtain⟨oj,hoj,e,he,hb,hon⟩:=Region.waitsFor_spec hk;rw[hoi]at hoj;cases hoj;rw[<-hon];exact hall e he hb
    have hlate:∀k,Region.waitsFor .any ops.toArray k i=true->listed.getD k false=false:=fun k hk=>by
     obtain⟨ok,hok,e,he,hb,hon⟩:=Region.waitsFor_spec hk;cases hl:listed.getD k false with
     | false=>rfl
     | true=>
      have:=inv.closed k ok hok hl e he hb;rw[hon,hunf]at this;cases this
    have hagree:∀t∈oi.looksAt ops.toArray,(stUp res (fun _=>true) ((ops.take n).take i) st).get t=(stUp res (fun k=>listed.getD k false) (ops.take n) st).get t:=by
     intro t ht;rw[jdh];refine jag _ _ _ _ _ _ rfl fun k ok hk hdk=> ?_;obtain⟨hkn,hok⟩:=hlt k ok hk;rcases Nat.lt_trichotomy k i with hki | hki | hki
     ·rcases hpair' k i ok oi hki hin hok hoi' with hw | hap
      ·rw[hwait k hw];simp[hki]
      ·exact absurd ht ((Oper.apart_spec hap).1 t hdk)
     ·subst hki;rw[hunf];simp
     ·rcases hpair' i k oi ok hki hkn hoi' hok with hw | hap
      ·rw[hlate k hw];simp;omega
      ·exact absurd ht ((Oper.apart_spec hap).2.2 t hdk)
    have hq:jfg G ops (stUp res (fun k=>listed.getD k false) (ops.take n) st) d1 (decide (i=i1)) oi (res i):=
     qStepV_congr hagree (by rw[(ja1 _ _ _ _).1,(ja1 _ _ _ _).1]) (by rw[(ja1 _ _ _ _).2,(ja1 _ _ _ _).2]) (hres i oi (by rw[htake i hin];exact hoi'))
    have hisL:i<listed.size:=by rw[inv.size];exact hisz
    have hcnt:cntB (listed.setIfInBounds i true) n=c:=by
     have:=jdd hisL hunf n;rw[if_pos hin]at this;omega
    have next:∀(β2:Nat->Option Nat) v w2,((listed.setIfInBounds i true).getD i1 false=false->β2 d1=none)->Sim N w0 M0 β2 (stUp res (fun k=>listed.getD k false) (ops.take n) st) a w2->RepA w2 (Mo M0 β2 (stUp res (fun k=>listed.getD k false) (ops.take n) st)) β2 (stUp res (fun k=>listed.getD k false) (ops.take n) st).toks (res i) v->
      wpAny G.P .any ops.toArray Q' (c+(ops.toArray.size-n)) (listed.setIfInBounds i true) (a.put oi.dst v) w2:=by
     intro β2 v w2 hβ2 hsx hv;have hs2:=hsx.put (dst:=oi.dst) (hd oi (List.mem_of_getElem? hoi')) hv;refine ih _ _ _ hcnt (inv.set hi hin) ⟨β2,hβ2,hs2.congr (fun t=> ?_) ?_ ?_⟩
     ·have hset:∀k,k≠i->(listed.setIfInBounds i true).getD k false=listed.getD k false:=fun k hk=>getD_set_ne false (Ne.symm hk);by_cases hdt:oi.dst=some t
      ·rw[hdt,jaj];refine(jbp (ops.take n) res _ st i oi (by rw[htake i hin];exact hoi') hdt (by simp[hisL]) fun k ok hik hk hLk hdk=> ?_).symm;obtain⟨hkn,hok⟩:=hlt k ok hk;rw[hset k (by omega)]at hLk;rcases hpair' i k oi ok hik hkn hoi' hok with hw | hap
       ·rw[hlate k hw]at hLk;cases hLk
       ·exact(Oper.apart_spec hap).2.1 t hdt hdk
      ·rw[jb9 hdt];refine jag _ _ _ _ _ _ rfl fun k ok hk hdk=> ?_;have:k≠i:=fun e=>by
        subst e;obtain⟨_,hok⟩:=hlt k ok hk;rw[hoi']at hok;cases hok;exact hdt hdk
       exact(hset k this).symm
     ·rw[show((stUp res (fun k=>listed.getD k false) (ops.take n) st).put oi.dst (res i)).rows=(stUp res (fun k=>listed.getD k false) (ops.take n) st).rows by unfold St.put;split<;>rfl,(ja1 _ _ _ _).1,(ja1 _ _ _ _).1]
     ·rw[show((stUp res (fun k=>listed.getD k false) (ops.take n) st).put oi.dst (res i)).toks=(stUp res (fun k=>listed.getD k false) (ops.take n) st).toks by unfold St.put;split<;>rfl,(ja1 _ _ _ _).2,(ja1 _ _ _ _).2]
    have next0:∀v w2,Below w.heap.size w w2->(i≠i1)->RepA w2 (Mo M0 β (stUp res (fun k=>listed.getD k false) (ops.take n) st)) β (stUp res (fun k=>listed.getD k false) (ops.take n) st).toks (res i) v->
      wpAny G.P .any ops.toArray Q' (c+(ops.toArray.size-n)) (listed.setIfInBounds i true) (a.put oi.dst v) w2:=fun v w2 hb hne hv=>
     next β v w2 (fun hl=>hβ1 (by rwa [getD_set_ne false hne]at hl)) (hs.ext hb) hv
    unfold wpOp;rw[hoi];dsimp only;unfold jfg at hq;by_cases hii:i=i1
    ·subst hii;rw[if_pos (decide_eq_true rfl)]at hq;obtain⟨hg,hdst,hq⟩:=hq;rw[if_pos (by simp[Region.wanted,hg])];refine .inl (qValV_sound hG hs (hβ1 hunf) hq fun β2 v w2 hs2 hv=> ?_);exact next β2 v w2 (fun hl=>by simp[hisL]at hl) hs2 hv
    ·rw[if_neg (by simpa using hii)]at hq;unfold qStep at hq;cases hg:oi.guard with
     | none=>
      rw[hg]at hq;rw[if_pos (by simp[Region.wanted,hg])];exact .inl (jau hG hs hq fun v w2 hb hv=>next0 v w2 hb hii hv)
     | some p=>
      obtain⟨j,want⟩:=p;rw[hg]at hq;dsimp only at hq;split at hq
      ·rename_i b hy;have hyc:=jbk hs hy;by_cases hb:b=want
       ·rw[if_pos hb]at hq;rw[if_pos (by simp[Region.wanted,hg,hyc,hb])];exact .inl (jau hG hs hq fun v w2 hb hv=>next0 v w2 hb hii hv)
       ·rw[if_neg hb]at hq;rw[if_neg (by simp[Region.wanted,hg,hyc,hb])];exact next0 _ w (Below.refl _ _) hii (by rw[hq];exact Rep.sc _ rfl)
      ·rename_i hy;have hyc:=jbx hs hy;rw[if_neg (by simp[Region.wanted,hg,hyc])];exact next0 _ w (Below.refl _ _) hii (by rw[hq];exact Rep.sc _ rfl)
      ·exact hq.elim
   have:c+1+(ops.toArray.size-n)=(c+(ops.toArray.size-n))+1:=by omega
   rw[this];exact hgoal
 refine wp_region_any hG.mixed ?_;have inv0:HeadInv .any ops.toArray n (Array.replicate ops.toArray.size false):=
  ⟨by simp,fun j oj _ hl=>(by rw[getD_replicate_false]at hl;cases hl),fun t _ ht=>getD_in (by simpa using ht) (getD_replicate_false _ _)⟩
 have hc0:∀k,cntB (Array.replicate ops.toArray.size false) k=k:=fun k=>by
  induction k with
  | zero=>rfl
  | succ k ihk=>simp only[cntB,ihk,getD_replicate_false];simp
 have:=main n (Array.replicate ops.toArray.size false) a _ (hc0 n) inv0 ⟨_,fun _=>ja4 _ _ _,h0.drew.congr (fun t=>by
  have hf:∀(l:List Oper) (res:Nat->AV) (L:Nat->Bool) (st:St),(∀i,L i=false)->stUp res L l st=st:=by
   intro l
   induction l with
   | nil=>intros;rfl
   | cons o l ih=>
    intro res L st hL;simp only[stUp,hL 0];exact ih _ _ _ fun i=>hL (i+1)
  rw[hf _ _ _ _ fun i=>getD_replicate_false _ _]) (ja1 _ _ _ _).1.symm (ja1 _ _ _ _).2.symm⟩
 rwa [show n+(ops.toArray.size-n)=ops.toArray.size by omega]at this
end
end
section
open Go.RowKit (Below)
def spCall(G:Ctx)(fv:AV)(args:List AV)(R:Rows)(T:AV->Rows->Prop):Prop:=
 ∃g caps,fv= .im (.clo g caps)/\(3<=g/\g<G.fns)/\∃L φ,(∀k x,look L k=some x->∃b,k=hp b)/\(∀k x,look L k=some x->look R k=some x)/\CtrH G.P g ((args++caps.map AV.im).map AV.toH) L φ/\
  ∀r L',φ r L'->(∀k,(look L' k).isSome->(look L k).isSome\/look R k=none)->∃R',(∀k x,look R' k=some x->look L' k=some x\/(look L k=none/\look R k=some x))/\T r R'
def spApp(G:Ctx)(d:Nat)(t e:TypeId)(sv:AV)(xo:Option (List (List IV)))(R:Rows)(T:AV->Rows->Prop):Prop:=
 ∃xs,xo=some xs/\(G.ti t).size≠0/\(G.ti e).size≠0/\(G.ti e).bytes≠0/\(∀c∈xs,c.length=(G.ti e).size)/\
  ((∃b n es,sv= .im (.ref b e (G.ti e).size n)/\look R (hp b)=some ((G.ti e).size,es)/\n<=es.length/\(n+xs.length)*(G.ti e).bytes<=140737488355328/\
    ∀X,look (del R (hp b)) (hp X)=none->T (.im (.ref X e (G.ti e).size (n+xs.length))) ((hp X,(G.ti e).size,es.take n++xs)::del R (hp b)))\/
   (isEmp sv=true/\G.perm.contains d=true/\xs≠[]/\xs.length*(G.ti e).bytes<=140737488355328/\
    ∀b,look R (hp b)=none->T (.im (.ref b e (G.ti e).size xs.length)) ((hp b,(G.ti e).size,xs)::R))\/
   (isEmp sv=true/\xs=[]/\T sv R))
def sp(G:Ctx)(st:St)(o:Oper)(T:AV->Rows->Prop):Prop:=
 match o.op with
 | .call c=>match c.callee with
  | .value f=>spCall G (evO st f) (c.args.toList.map (evO st)) st.rows T
  | .builtin b=>match b with
   | .append=>match o.dst,c.argTypes.toList,c.args.toList with
    | some d,[t,t'],[s,x]=>match(G.ti t).kind with
     | .sl e=>t=t'/\spApp G d t e (evO st s) (jb2 (evO st x)) st.rows T
     | _=>False
    | _,_,_=>False
   | _=>False
  | _=>False
 | _=>False
def jcv(G:Ctx)(ops:List Oper)(F:St->Prop):List Bool->List Oper->St->Prop
 | [],_,st=>F st
 | _::_,[],_=>False
 | true::m,_::r,st=>jcv G ops F m r st
 | false::m,o::r,st=>match o.guard with
  | none=>aq G st o fun av=>jcv G ops F m r (st.put o.dst av)
  | some (j,want)=>match jb3 st ops j with
   | some (some b)=>(b=want->aq G st o fun av=>jcv G ops F m r (st.put o.dst av))/\(b≠want->jcv G ops F m r (st.put o.dst jas))
   | some none=>jcv G ops F m r (st.put o.dst jas)
   | none=>False
def hd(m:List Bool)(i:Nat):Bool:= !(m.getD i false)
section
variable{G:Ctx}{N:Nat}{w0:Base}{w w':World}{M0:Nat->Nat->Prop}{β:Nat->Option Nat}{st st':St}{a:Act}{ops:List Oper}
theorem sp_congr{o:Oper}{T:AV->Rows->Prop}(h:∀t∈o.looksAt ops.toArray,st.get t=st'.get t)(hr:st.rows=st'.rows)(hs:sp G st o T):sp G st' o T:=by
 have hx:∀x∈o.op.operands,evO st x=evO st' x:=fun x hx=>jbc fun t ht=>h t (jac hx ht);unfold sp at hs⊢;cases ho:o.op with
 | call c=>
  rw[ho]at hs hx;dsimp only at hs⊢;have hm:c.args.toList.map (evO st)=c.args.toList.map (evO st'):=List.map_congr_left fun x hx'=>hx x (by simp[Op.operands,Call.operands,Array.mem_toList_iff.1 hx']);cases hc:c.callee with
  | value f=>
   rw[hc]at hs;dsimp only at hs⊢;rw[<-hm,<-hr,<-hx f (by simp[Op.operands,Call.operands,hc])];exact hs
  | builtin b=>
   rw[hc]at hs;dsimp only at hs⊢;cases b with
   | append=>
    dsimp only at hs⊢;split at hs
    ·rename_i d t t' s x h1 h2 h3;have hxs:∀y,y=s\/y=x->evO st y=evO st' y:=fun y hy=>hx y (by
      have:y∈c.args.toList:=by rw[h3];rcases hy with rfl | rfl<;>simp
      simp[Op.operands,Call.operands,Array.mem_toList_iff.1 this])
     rw[<-hxs s (.inl rfl),<-hxs x (.inr rfl),<-hr];exact hs
    ·exact hs.elim
   | _=>exact hs.elim
  | _=>rw[hc]at hs;exact hs.elim
 | _=>rw[ho]at hs;exact hs.elim
theorem sp_sound(hG:G.Good)(h:Sim N w0 M0 β st a w){o:Oper}{T:AV->Rows->Prop}(hd:∀d,o.dst=some d->d<N)(hA:sp G st o T){K':Act->World->Prop}{Q':Exit->Act->World->Prop}
  (hK:∀av R' β' a' w',T av R'->Sim N w0 M0 β' ((⟨st.fr,R',st.toks⟩:St).put o.dst av) a' w'->K' a' w'):o.wp G.P a w K' Q':=by
 unfold sp at hA;cases ho:o.op with
 | call c=>
  rw[ho]at hA;dsimp only at hA;cases hc:c.callee with
  | value f=>
   rw[hc]at hA;dsimp only at hA;obtain⟨g,caps,hf,hg,L,φ,h1,h2,h3,h4⟩:=hA;refine jdw (K:=fun st'=>∃av R',st'=(⟨st.fr,R',st.toks⟩:St).put o.dst av/\T av R') hG h ho hc hd hf hg ⟨L,φ,⟨h1,h2⟩,h3,fun r L' hφ hfr=> ?_⟩ ?_
   ·obtain⟨R',h5,h6⟩:=h4 r L' hφ hfr;exact⟨R',h5,r,R',rfl,h6⟩
   ·rintro st' β' a' w' ⟨av,R',rfl,hT⟩ hs;exact hK av R' β' a' w' hT hs
  | builtin b=>
   rw[hc]at hA;dsimp only at hA;cases b with
   | append=>
    dsimp only at hA;split at hA
    ·rename_i d t t' s x h1 h2 h3;split at hA
     ·rename_i e hk;obtain⟨rfl,xs,hxs,z1,z2,z3,z4,hor⟩:=hA;by_cases h3':isEmp (evO st s)=true/\xs=[]/\T (evO st s) st.rows
      ·obtain⟨he,rfl,hT⟩:=h3';have hsr:=ja9 h s;have hv:∃a',a.eval s= .slice a' 0 0:=by
        generalize evO st s=v at he hsr;generalize a.eval s=u at hsr;unfold isEmp at he;split at he
        ·exact hsr.2
        ·cases hsr with | emp a'=>exact⟨a',rfl⟩
        ·cases he
       obtain⟨a',hv⟩:=hv;have hxr:=jaz (ja9 h x) hxs;have hx':∃xa xc,a.eval x= .slice xa 0 xc:=by
        rcases hxr.sl_inv with ⟨_,xa,xc,e⟩ | ⟨_,_,_,_,_,hne,_⟩
        ·exact⟨xa,xc,e⟩
        ·exact absurd rfl hne
       obtain⟨xa,xc,hx'⟩:=hx';have hu:=hG.ok.sl z1 hk;obtain⟨i,z,hi,hsz,hbt,hz,_,hzs⟩:=hG.ok.info z2;have hat:c.argTypes= #[t,t]:=by apply Array.ext';simpa using h2
       have haa:c.args= #[s,x]:=by apply Array.ext';simpa using h3
       have hrun:(Builtin.append_ #[t,t] o.type #[.slice a' 0 0,.slice xa 0 xc]).run G.P w= .ok (.slice a' 0 0) w:=by
        cases a'<;>cases xa<;>simp[Builtin.append_,run_underlying hu,sizeOf,typeInfo,hi,Builtin.lenOf,Builtin.firstCells,loadCells,loadCellsFrom,storeCells]
       unfold Oper.wp execOp;rw[ho];simp only[resolve,hc,hat,haa,invoke,builtin,Sem.run_bind,Sem.run_pure,Result.andThen_ok,List.map_toArray,List.map_cons,List.map_nil,hv,hx',hrun,Oper.upon_value];refine hK (evO st s) st.rows β _ w hT ?_;rw[hv]at hsr;exact h.put (dst:=o.dst) hd hsr
      have hor:=Or.imp id (fun hh=>Or.resolve_right hh h3') hor;have haop:aop G o (fun st'=>∃av R',st'=(⟨st.fr,R',st.toks⟩:St).put o.dst av/\T av R') st:=by
       unfold aop;rw[ho];dsimp only;rw[hc];dsimp only;unfold jgt;rw[h1,h2,h3];dsimp only;rw[hk];dsimp only;rcases hor with ⟨b,n,es,hsv,hl,z5,z6,hT⟩ | ⟨hsv,hp,hne,z6,hT⟩
       ·have hg:jec st e (G.ti e).size (evO st s)=some (b,n,es):=by
         unfold jec;rw[hsv];dsimp only;rw[hl];simp
        rw[hg];dsimp only;rw[hxs];exact⟨rfl,z1,z2,z3,z4,z5,z6,fun X hX=>⟨_,_,rfl,hT X hX⟩⟩
       ·have hor2:evO st s= .sx []\/evO st s= .im .emp:=by
         generalize evO st s=v at hsv;unfold isEmp at hsv;split at hsv
         ·exact .inl rfl
         ·exact .inr rfl
         ·cases hsv
        have hg:jec st e (G.ti e).size (evO st s)=none:=by rcases hor2 with h | h<;>rw[h]<;>rfl
        have hg2:jiy st e (G.ti e).size (evO st s)=none:=by rcases hor2 with h | h<;>rw[h]<;>rfl
        have he:isEmp (evO st s)=true:=hsv;rw[hg];dsimp only;rw[hg2];dsimp only;rw[if_pos ⟨.inr hp,he⟩,elemsOf_of hxs];dsimp only;rw[if_pos hp];exact⟨rfl,z1,z2,z3,z4,z6,hne,fun X hX=>⟨_,_,rfl,hT X hX⟩⟩
      refine jd7 hG h hd haop ?_;rintro st' β' a' w' ⟨av,R',rfl,hT⟩ hs;exact hK av R' β' a' w' hT hs
     ·exact hA.elim
    ·exact hA.elim
   | _=>exact hA.elim
  | _=>rw[hc]at hA;exact hA.elim
 | _=>rw[ho]at hA;exact hA.elim
theorem jf6{F:St->Prop}:∀(m:List Bool) (l:List Oper) (st:St),m.length<=l.length->jcv G ops F m l st->
  ∃res:Nat->AV,(∀i o,i<m.length->m.getD i false=false->l[i]? =some o->qStep G ops (stUp res (fun k=>hd m k&&decide (k<i)) l st) o (res i))/\F (stUp res (hd m) (l.take m.length) st)
 | [],l,st,_,h=>⟨fun _=> .und,fun i o hi=>absurd hi (by simp),h⟩
 | b::m,[],st,hl,_=>absurd hl (by simp)
 | true::m,o::l,st,hl,h=>by
  obtain⟨res,h3,h4⟩:=jf6 m l st (by simpa using hl) h;refine⟨fun i=>match i with | 0=> .und | i+1=>res i,fun i o' hi hm ho=> ?_,h4⟩;cases i with
  | zero=>simp at hm
  | succ i=>
   have:=h3 i o' (by simpa using hi) (by simpa using hm) (by simpa using ho);rw[show(fun k=>hd m k&&decide (k<i))=fun k=>hd (true::m) (k+1)&&decide (k+1<i+1)by funext k;simp[hd]]at this;exact this
 | false::m,o::l,st,hl,h=>by
  have key:∃av,qStep G ops st o av/\jcv G ops F m l (st.put o.dst av):=by
   unfold jcv at h;unfold qStep;cases hg:o.guard with
   | none=>
    rw[hg]at h;obtain⟨av,h1,h2⟩:=jce h;exact⟨av,h1,h2⟩
   | some p=>
    obtain⟨j,want⟩:=p;rw[hg]at h;dsimp only at h⊢;cases hy:jb3 st ops j with
    | none=>rw[hy]at h;exact h.elim
    | some x=>
     rw[hy]at h;cases x with
     | none=>exact⟨jas,rfl,h⟩
     | some b=>
      dsimp only at h⊢;by_cases hb:b=want
      ·obtain⟨av,h1,h2⟩:=jce (h.1 hb);exact⟨av,by rw[if_pos hb];exact h1,h2⟩
      ·exact⟨jas,by rw[if_neg hb],h.2 hb⟩
  obtain⟨av,h1,h2⟩:=key;obtain⟨res,h3,h4⟩:=jf6 m l _ (by simpa using hl) h2;refine⟨fun i=>match i with | 0=>av | i+1=>res i,fun i o' hi hm ho=> ?_,h4⟩
  ·cases i with
   | zero=>
    simp at ho;subst ho;have hf:∀(l:List Oper) (res:Nat->AV) (L:Nat->Bool) (st:St),(∀i,L i=false)->stUp res L l st=st:=by
     intro l
     induction l with
     | nil=>intros;rfl
     | cons o l ih=>
      intro res L st hL;simp only[stUp,hL 0];exact ih _ _ _ fun i=>hL (i+1)
    rw[hf _ _ _ _ (fun i=>by simp)];exact h1
   | succ i=>
    have:=h3 i o' (by simpa using hi) (by simpa using hm) (by simpa using ho);rw[show(fun k=>hd m k&&decide (k<i))=fun k=>hd (false::m) (k+1)&&decide (k+1<i+1)by funext k;simp[hd]]at this;exact this
theorem jeh{t:Nat}:∀(l:List Oper) (res res':Nat->AV) (L L':Nat->Bool) (st st':St),st.get t=st'.get t->(∀i o,l[i]? =some o->o.dst=some t->L i=L' i/\(L i=true->res i=res' i))->
  (stUp res L l st).get t=(stUp res' L' l st').get t
 | [],_,_,_,_,_,_,h,_=>h
 | o::l,res,res',L,L',st,st',h,hL=>by
  simp only[stUp];refine jeh l _ _ _ _ _ _ ?_ (fun i o' hi ho=>hL (i+1) o' (by simpa using hi) ho);by_cases hd:o.dst=some t
  ·obtain⟨h1,h2⟩:=hL 0 o rfl hd;rw[<-h1];split
   ·rename_i h3;rw[hd,jaj,jaj];exact h2 h3
   ·exact h
  ·have:∀(s:St) (b:Bool) (x:AV),(if b=true then s.put o.dst x else s).get t=s.get t:=fun s b x=>by
    split
    ·exact jb9 hd
    ·rfl
   rw[this,this];exact h
