/- A part of the proof. No further condition. -/
import Derived.Test.YtgnflpkmpoghbaaKU15
set_option linter.all false
set_option maxRecDepth 10000000
set_option maxHeartbeats 16000000
namespace Go.Abs
section
open Go.RowKit (Below)
inductive PM where
 | fr:PM
 | mk:PM
 | pr:AV->PM
def mk(m:List PM)(i:Nat):Bool:=match m[i]? with
 | some .mk=>true
 | some (.pr _)=>true
 | _=>false
def kn(m:List PM)(i:Nat):Bool:=match m[i]? with
 | some .mk=>false
 | _=>true
def pv(m:List PM)(i:Nat):Option AV:=match m[i]? with
 | some (.pr p)=>some p
 | _=>none
def chk:Option AV->AV->Prop
 | none,_=>True
 | some p,av=>av=p
theorem mk_kn{m:List PM}{i:Nat}(h:kn m i=false):mk m i=true:=by
 unfold kn at h;unfold mk;split at h
 ·rename_i e;rw[e]
 ·cases h
theorem kn_mk{m:List PM}{i:Nat}(h:mk m i=false):kn m i=true:=by
 unfold mk at h;unfold kn;split at h
 ·cases h
 ·cases h
 ·split
  ·rename_i h1 _ _ e;exact absurd e h1
  ·rfl
theorem kn_pv{m:List PM}{i:Nat}(h:mk m i=true)(hk:kn m i=true):∃p,pv m i=some p:=by
 unfold mk at h;unfold kn at hk;unfold pv;split at h
 ·rename_i e;rw[e]at hk;cases hk
 ·rename_i p e;rw[e];exact⟨p,rfl⟩
 ·cases h
theorem chk_pv{m:List PM}{i:Nat}{p av:AV}(h:pv m i=some p)(hc:chk (pv m i) av):av=p:=by rw[h]at hc;exact hc
def halfB(ops:Array Oper)(oi oj:Oper):Bool:=match oj.dst with
 | none=>true
 | some t=> !decide (t∈oi.looksAt ops)&&oi.dst !=some t
def selfB(ops:Array Oper)(o:Oper):Bool:=match o.dst with
 | none=>true
 | some t=> !decide (t∈o.looksAt ops)
theorem half_spec{ops:Array Oper}{oi oj:Oper}(h:halfB ops oi oj=true)(t:Tmp)(ht:oj.dst=some t):t∉oi.looksAt ops/\oi.dst≠some t:=by
 unfold halfB at h;rw[ht]at h
 simpa using h
theorem self_spec{ops:Array Oper}{o:Oper}(h:selfB ops o=true)(t:Tmp)(ht:o.dst=some t):t∉o.looksAt ops:=by
 unfold selfB at h;rw[ht]at h
 simpa using h
def drawPp(ops:Array Oper)(m:List PM):Bool:=
 drawB ops m.length&&(List.range m.length).all (fun j=>(List.range (j+1)).all fun i=>
  (!(mk m i&&kn m j) || (match ops[i]?,ops[j]? with
   | some oi,some oj=>if i=j then selfB ops oi else(oi.apart ops oj || (Region.waitsFor .any ops j i&&(halfB ops oi oj&&(kn m i || mk m j))))
   | _,_=>false)))
def jd2(G:Ctx)(ops:List Oper)(F:St->Prop):List PM->List Oper->St->Prop
 | [],_,st=>F st
 | _::_,[],_=>False
 | .mk::m,_::r,st=>jd2 G ops F m r st
 | .pr p::m,o::r,st=>jd2 G ops F m r (st.put o.dst p)
 | .fr::m,o::r,st=>match o.guard with
  | none=>aq G st o fun av=>jd2 G ops F m r (st.put o.dst av)
  | some (j,want)=>match jbj st ops j with
   | some (some b)=>(b=want->aq G st o fun av=>jd2 G ops F m r (st.put o.dst av))/\(b≠want->jd2 G ops F m r (st.put o.dst jb6))
   | some none=>jd2 G ops F m r (st.put o.dst jb6)
   | none=>False
def spQ(G:Ctx)(ops:List Oper)(pr:Nat->Option AV)(K:St->Prop):OT->Rows->St->Prop
 | .fin,_,st=>K st
 | .none,_,_=>True
 | .alt i s r,Rs,st=>(match ops[i]? with
  | some o=>gOk ops st o/\spN G st o fun av R'=>chk (pr i) av/\(∀k x,look Rs k=some x->look R' k=some x)/\spQ G ops pr K s Rs ((⟨st.fr,R',st.toks⟩:St).put o.dst av)
  | none=>False)/\spQ G ops pr K r Rs st
theorem jiq{G:Ctx}{ops:List Oper}{pr:Nat->Option AV}{K:St->Prop}{Rs:Rows}{st:St}{rem:List Nat}{i:Nat}:∀{t:OT},t.ok ops.toArray rem=true->i∈t.heads->spQ G ops pr K t Rs st->
  ∃t2:OT,okT ops.toArray t2 (rem.filter (· !=i))=true/\match ops[i]? with
  | some o=>gOk ops st o/\spN G st o fun av R'=>chk (pr i) av/\(∀k x,look Rs k=some x->look R' k=some x)/\spQ G ops pr K t2 Rs ((⟨st.fr,R',st.toks⟩:St).put o.dst av)
  | none=>False
 | .fin,_,hi,_=>by cases hi
 | .none,_,hi,_=>by cases hi
 | .alt j s r,h,hi,hs=>by
  rw[OT.ok,Bool.and_eq_true,Bool.and_eq_true]at h;rcases List.mem_cons.1 hi with e | hi
  ·subst e;exact⟨s,by unfold okT;rw[h.1.1,h.1.2];rfl,hs.1⟩
  ·exact jiq h.2 hi hs.2
theorem spQ_head{G:Ctx}{ops:List Oper}{pr:Nat->Option AV}{K:St->Prop}{Rs:Rows}{st:St}{rem:List Nat}{i:Nat}{t:OT}(h:okT ops.toArray t rem=true)(hi:i∈t.heads)(hs:spQ G ops pr K t Rs st):
  ∃t2:OT,okT ops.toArray t2 (rem.filter (· !=i))=true/\match ops[i]? with
  | some o=>gOk ops st o/\spN G st o fun av R'=>chk (pr i) av/\(∀k x,look Rs k=some x->look R' k=some x)/\spQ G ops pr K t2 Rs ((⟨st.fr,R',st.toks⟩:St).put o.dst av)
  | none=>False:=jiq (by unfold okT at h;rw[Bool.and_eq_true]at h;exact h.2) hi hs
section
variable{G:Ctx}{N:Nat}{w0:Base}{w w':World}{M0:Nat->Nat->Prop}{β:Nat->Option Nat}{st st':St}{a:Act}{ops:List Oper}
theorem stUp_none(l:List Oper)(res:Nat->AV)(L:Nat->Bool)(st:St)(hL:∀i,L i=false):stUp res L l st=st:=by
 induction l generalizing res L st with
 | nil=>rfl
 | cons o l ih=>
  simp only[stUp,hL 0];exact ih _ _ _ fun i=>hL (i+1)
theorem jed{F:St->Prop}:∀(m:List PM) (l:List Oper) (st:St),m.length<=l.length->jd2 G ops F m l st->
  ∃res:Nat->AV,(∀i o,i<m.length->mk m i=false->l[i]? =some o->qStep G ops (stUp res (fun k=>kn m k&&decide (k<i)) l st) o (res i))/\(∀i p,i<m.length->pv m i=some p->res i=p)/\F (stUp res (kn m) (l.take m.length) st)
 | [],l,st,_,h=>⟨fun _=> .und,fun i o hi=>absurd hi (by simp),fun i p hi=>absurd hi (by simp),h⟩
 | b::m,[],st,hl,_=>absurd hl (by simp)
 | .mk::m,o::l,st,hl,h=>by
  obtain⟨res,h3,h5,h4⟩:=jed m l st (by simpa using hl) h;refine⟨fun i=>match i with | 0=> .und | i+1=>res i,fun i o' hi hm ho=> ?_,fun i p hi hp=> ?_,h4⟩
  ·cases i with
   | zero=>cases hm
   | succ i=>
    have:=h3 i o' (by simpa using hi) hm (by simpa using ho);rw[show(fun k=>kn m k&&decide (k<i))=fun k=>kn (.mk::m) (k+1)&&decide (k+1<i+1)by funext k;simp[kn]]at this
    simpa [stUp,kn]using this
  ·cases i with
   | zero=>cases hp
   | succ i=>exact h5 i p (by simpa using hi) hp
 | .pr q::m,o::l,st,hl,h=>by
  obtain⟨res,h3,h5,h4⟩:=jed m l _ (by simpa using hl) h;refine⟨fun i=>match i with | 0=>q | i+1=>res i,fun i o' hi hm ho=> ?_,fun i p hi hp=> ?_,h4⟩
  ·cases i with
   | zero=>cases hm
   | succ i=>
    have:=h3 i o' (by simpa using hi) hm (by simpa using ho);rw[show(fun k=>kn m k&&decide (k<i))=fun k=>kn (.pr q::m) (k+1)&&decide (k+1<i+1)by funext k;simp[kn]]at this
    simpa [stUp,kn]using this
  ·cases i with
   | zero=>exact Option.some.inj hp
   | succ i=>exact h5 i p (by simpa using hi) hp
 | .fr::m,o::l,st,hl,h=>by
  have key:∃av,qStep G ops st o av/\jd2 G ops F m l (st.put o.dst av):=by
   unfold jd2 at h;unfold qStep;cases hg:o.guard with
   | none=>
    rw[hg]at h;obtain⟨av,h1,h2⟩:=jda h;exact⟨av,h1,h2⟩
   | some p=>
    obtain⟨j,want⟩:=p;rw[hg]at h;dsimp only at h⊢;cases hy:jbj st ops j with
    | none=>rw[hy]at h;exact h.elim
    | some x=>
     rw[hy]at h;cases x with
     | none=>exact⟨jb6,rfl,h⟩
     | some b=>
      dsimp only at h⊢;by_cases hb:b=want
      ·obtain⟨av,h1,h2⟩:=jda (h.1 hb);exact⟨av,by rw[if_pos hb];exact h1,h2⟩
      ·exact⟨jb6,by rw[if_neg hb],h.2 hb⟩
  obtain⟨av,h1,h2⟩:=key;obtain⟨res,h3,h5,h4⟩:=jed m l _ (by simpa using hl) h2;refine⟨fun i=>match i with | 0=>av | i+1=>res i,fun i o' hi hm ho=> ?_,fun i p hi hp=> ?_,h4⟩
  ·cases i with
   | zero=>
    simp at ho;subst ho;rw[stUp_none _ _ _ _ (fun i=>by simp)];exact h1
   | succ i=>
    have:=h3 i o' (by simpa using hi) hm (by simpa using ho);rw[show(fun k=>kn m k&&decide (k<i))=fun k=>kn (.fr::m) (k+1)&&decide (k+1<i+1)by funext k;simp[kn]]at this
    simpa [stUp,kn]using this
  ·cases i with
   | zero=>cases hp
   | succ i=>exact h5 i p (by simpa using hi) hp
theorem draw_soundP(hG:G.Good)(id:Nat)(m:List PM)(t0:OT)(Rs:Rows)(hX:drawPp ops.toArray m=true)(hT0:okT ops.toArray t0 ((List.range m.length).filter fun i=>mk m i)=true)(hd0:∀o∈ops,∀d,o.dst=some d->d<N){K:St->Prop}{Q':Exit->Act->World->Prop}
  (hK:∀st' β' a' w',K st'->Sim N w0 M0 β' st' a' w'->Q' .normal a' w') (h:Sim N w0 M0 β st a w) (hRs:∀k x,look Rs k=some x->look st.rows k=some x)
  (hA:jd2 G ops (fun s=>spQ G ops (pv m) (fun s'=>alist G ops K (ops.drop m.length) s') t0 Rs ⟨s.fr,st.rows,s.toks⟩) m ops ⟨st.fr,Rs,st.toks⟩):(Code.region id ops.toArray true).wp G.P Q' a w:=by
 rw[drawPp,Bool.and_eq_true]at hX;obtain⟨hB,hS⟩:=hX;simp only[drawB,Bool.and_eq_true,decide_eq_true_eq,Bool.or_eq_true,beq_iff_eq]at hB;obtain⟨⟨⟨⟨hn,hafter⟩,hpair⟩,htail⟩,hseq⟩:=hB;have hsz:ops.toArray.size=ops.length:=by simp
 have hnl:m.length<=ops.length:=by rw[<-hsz];exact hn
 obtain⟨res0,hres,hpr0,hfin⟩:=jed m ops _ hnl hA;generalize hmn:m.length=n at*;have htake:∀i,i<n->(ops.take n)[i]? =ops[i]? :=fun i hi=>by rw[List.getElem?_take,if_pos hi]
 have hlt:∀i o,(ops.take n)[i]? =some o->i<n/\ops[i]? =some o:=fun i o hi=>by
  rw[List.getElem?_take]at hi;split at hi
  ·exact⟨‹_›,hi⟩
  ·cases hi
 have arr:∀(i:Nat) (o:Oper),ops[i]? =some o->ops.toArray[i]? =some o:=fun i o h=>by simpa using h
 have hpair':∀i j oi oj,i<j->j<n->ops[i]? =some oi->ops[j]? =some oj->Region.waitsFor .any ops.toArray j i=true\/oi.apart ops.toArray oj=true:=by
  intro i j oi oj hij hj h1 h2;have:=List.all_eq_true.1 (List.all_eq_true.1 hpair j (List.mem_range.2 hj)) i (List.mem_range.2 hij);rw[arr i oi h1,arr j oj h2]at this
  simpa using this
 have hfree:∀i j oi oj,i<j->j<n->mk m i=true->kn m j=true->ops[i]? =some oi->ops[j]? =some oj->oi.apart ops.toArray oj=true\/(Region.waitsFor .any ops.toArray j i=true/\halfB ops.toArray oi oj=true/\(kn m i=true\/mk m j=true)):=by
  intro i j oi oj hij hj h1 h2 h3 h4;have:=List.all_eq_true.1 (List.all_eq_true.1 hS j (List.mem_range.2 hj)) i (List.mem_range.2 (by omega));rw[h1,h2,arr i oi h3,arr j oj h4]at this;have:((oi.apart ops.toArray oj=true)\/(Region.waitsFor .any ops.toArray j i=true/\halfB ops.toArray oi oj=true/\(kn m i=true\/mk m j=true))):=by
   have h5:i≠j:=by omega
   simpa [h5,Bool.or_eq_true,Bool.and_eq_true,and_assoc]using this
  exact this
 have hself:∀i oi,i<n->mk m i=true->kn m i=true->ops[i]? =some oi->selfB ops.toArray oi=true:=by
  intro i oi hi h1 h2 h3;have:=List.all_eq_true.1 (List.all_eq_true.1 hS i (List.mem_range.2 hi)) i (List.mem_range.2 (by omega));rw[h1,h2,arr i oi h3]at this
  simpa using this
 have hhalf:∀i j oi oj,i<j->j<n->mk m i=true->kn m j=true->ops[i]? =some oi->ops[j]? =some oj->∀t,oj.dst=some t->t∉oi.looksAt ops.toArray/\oi.dst≠some t:=by
  intro i j oi oj hij hj h1 h2 h3 h4 t ht;rcases hfree i j oi oj hij hj h1 h2 h3 h4 with hap | ⟨_,hh,_⟩
  ·exact⟨(Oper.apart_spec hap).2.2 t ht,fun e=>(Oper.apart_spec hap).2.1 t e ht⟩
  ·exact half_spec hh t ht
 have hafter':∀(j:Nat) oj,ops[j]? =some oj->∀e∈oj.after,Region.binds .any e=true->e.on<j:=by
  intro j oj hj e he hb;have hjl:j<ops.toArray.size:=by rw[hsz];exact(List.getElem?_eq_some_iff.1 hj).1
  have:=List.all_eq_true.1 hafter j (List.mem_range.2 hjl);rw[arr j oj hj]at this;have:=Array.all_eq_true'.1 this e he
  simpa [hb]using this
 have main:∀c (listed:Array Bool) (a:Act) (w:World),cntB listed n=c->HeadInv .any ops.toArray n listed->
   (∃(res:Nat->AV) (β:Nat->Option Nat) (R:Rows) (s:St),(∀i,i<n->kn m i=true->res i=res0 i)/\Sim N w0 M0 β (stUp res (fun i=>listed.getD i false) (ops.take n) ⟨st.fr,R,st.toks⟩) a w/\
    (∀k x,look Rs k=some x->look R k=some x)/\(∃t1:OT,okT ops.toArray t1 ((List.range n).filter (fun i=>mk m i&& !(listed.getD i false)))=true/\spQ G ops (pv m) (fun s'=>alist G ops K (ops.drop n) s') t1 Rs s)/\s.rows=R/\s.toks=st.toks/\
    ∀t,s.get t=(stUp res (fun i=>kn m i || listed.getD i false) (ops.take n) ⟨st.fr,R,st.toks⟩).get t)->wpAny G.P .any ops.toArray Q' (c+(ops.toArray.size-n)) listed a w:=by
  intro c
  induction c with
  | zero=>
   rintro listed a w hc inv ⟨res,β,R,s,hr0,hs,hsub,hsp,hsr,hst,hsg⟩;rw[Nat.zero_add];have hall:=jd0 hc;have hcan:listed=jch n ops.toArray.size:=by
    apply Array.ext
    ·rw[inv.size];simp[jch]
    ·intro i h1 h2;have hil:i<ops.length:=by rw[inv.size]at h1;simpa using h1
     by_cases hin:i<n
     ·have:=hall i hin;have e1:listed[i]=true:=by simpa [h1]using this
      rw[e1];simp[jch,hin]
     ·have:=inv.tail i (by omega) (by rw[inv.size]at h1;exact h1);have e1:listed[i]=false:=by simpa [h1]using this
      rw[e1];simp[jch,hin]
   have hrem:(List.range n).filter (fun i=>mk m i&& !(listed.getD i false))=[]:=List.filter_eq_nil_iff.2 fun k hk=>by
    rw[hall k (List.mem_range.1 hk)];simp
   obtain⟨t1,ht1,hsp⟩:=hsp;rw[hrem]at ht1;have:=okT_nil ht1;subst this;have hs':Sim N w0 M0 β s a w:=by
    refine hs.congr (fun t=> ?_) ?_ ?_
    ·rw[hsg];exact jap _ _ _ _ _ _ rfl fun i o hi _=>by rw[hall i (hlt i o hi).1];simp
    ·rw[(ja4 _ _ _ _).1,hsr]
    ·rw[(ja4 _ _ _ _).2,hst]
   have hlist:=jd1 hG hK (ops.drop n) _ β a w (fun o ho=>hd0 o (List.mem_of_mem_drop ho)) hsp hs';have hdl:(ops.drop n).length=ops.toArray.size-n:=by simp
   have:=wpAny_of_seq (P:=G.P) (md:= .any) (Q':=Q') (ops.drop n) n listed a w (fun j=>by simp[List.getElem?_drop]) (by rw[hcan,hdl];exact hseq) hlist
   rwa [hdl]at this
  | succ c ih=>
   rintro listed a w hc inv ⟨res,β,R,s,hr0,hs,hsub,hsp,hsr,hst,hsg⟩;obtain⟨i0,hi0,hun0,hmin⟩:=jec (by omega:cntB listed n≠0);have hL:∀i,i<n->(listed.getD i true=false↔listed.getD i false=false):=fun i hi=>by
    have:i<listed.size:=by rw[inv.size];omega
    simp[this]
   have hready0:i0∈Region.ready .any ops.toArray listed:=by
    have hil:i0<ops.length:=by rw[<-hsz];omega
    refine mem_ready.2 ⟨(hL i0 hi0).2 hun0,ops[i0],arr i0 _ (List.getElem?_eq_getElem hil),fun e he hb=>hmin _ (hafter' i0 _ (List.getElem?_eq_getElem hil) e he hb)⟩
   have hgoal:(Region.ready .any ops.toArray listed=[]->Q' .normal a w)/\∀i∈Region.ready .any ops.toArray listed,wpOp G.P ops.toArray Q' i (wpAny G.P .any ops.toArray Q' (c+(ops.toArray.size-n)) (listed.setIfInBounds i true)) a w:=by
    refine⟨fun hr=>(by rw[hr]at hready0;cases hready0),fun i hi=> ?_⟩;obtain⟨hun,oi,hoi,hall⟩:=mem_ready.1 hi;have hoi':ops[i]? =some oi:=by simpa using hoi
    have hisz:i<ops.toArray.size:=(Array.getElem?_eq_some_iff.1 hoi).1;have hin:i<n:=by
     rcases Nat.lt_or_ge i n with h' | h'
     ·exact h'
     ·rcases htail with e | ⟨hsink,hchain⟩
      ·omega
      ·exact absurd hi (tail_waits hsink hchain (by omega) inv _ i0 rfl hi0 ((hL i0 hi0).2 hun0) i h')
    have hunf:listed.getD i false=false:=(hL i hin).1 hun;have hwait:∀k,Region.waitsFor .any ops.toArray i k=true->listed.getD k false=true:=fun k hk=>by
     obtain⟨oj,hoj,e,he,hb,hon⟩:=Region.waitsFor_spec hk;rw[hoi]at hoj;cases hoj;rw[<-hon];exact hall e he hb
    have hwaitT:∀k,jft ops.toArray 3 i k=true->listed.getD k false=true:=fun k hk=>by
     rw[jft,Bool.or_eq_true]at hk;rcases hk with h | h
     ·exact hwait k h
     ·obtain⟨l,_,h2⟩:=List.any_eq_true.1 h;rw[Bool.and_eq_true]at h2;refine waitsT_listed inv (fun j i hw hl=> ?_) 2 l k h2.2 (hwait l h2.1);obtain⟨oj,hoj,e,he,hb,hon⟩:=Region.waitsFor_spec hw;rw[<-hon];exact inv.closed j oj hoj hl e he hb
    have hlate:∀k,Region.waitsFor .any ops.toArray k i=true->listed.getD k false=false:=fun k hk=>by
     obtain⟨ok,hok,e,he,hb,hon⟩:=Region.waitsFor_spec hk;cases hl:listed.getD k false with
     | false=>rfl
     | true=>
      have:=inv.closed k ok hok hl e he hb;rw[hon,hunf]at this;cases this
    have hisL:i<listed.size:=by rw[inv.size];exact hisz
    have hcnt:cntB (listed.setIfInBounds i true) n=c:=by
     have:=jeb hisL hunf n;rw[if_pos hin]at this;omega
    have hset:∀k,k≠i->(listed.setIfInBounds i true).getD k false=listed.getD k false:=fun k hk=>getD_set_ne false (Ne.symm hk);have hseti:(listed.setIfInBounds i true).getD i false=true:=by simp[hisL]
    have hlast:∀(t:Nat),oi.dst=some t->∀k ok,i<k->(ops.take n)[k]? =some ok->listed.getD k false=true->ok.dst≠some t:=by
     intro t hdt k ok hik hk hLk hdk;obtain⟨hkn,hok⟩:=hlt k ok hk;rcases hpair' i k oi ok hik hkn hoi' hok with hw | hap
     ·rw[hlate k hw]at hLk;cases hLk
     ·exact(Oper.apart_spec hap).2.1 t hdt hdk
    cases hmi:mk m i with
    | false=>
     have hhd:kn m i=true:=kn_mk hmi;have hagree:∀t∈oi.looksAt ops.toArray,(stUp res0 (fun k=>kn m k&&decide (k<i)) ops ⟨st.fr,R,st.toks⟩).get t=(stUp res (fun k=>listed.getD k false) (ops.take n) ⟨st.fr,R,st.toks⟩).get t:=by
      intro t ht;have e1:(stUp res0 (fun k=>kn m k&&decide (k<i)) ops ⟨st.fr,R,st.toks⟩).get t=(stUp res0 (fun k=>kn m k&&decide (k<i)) (ops.take n) ⟨st.fr,R,st.toks⟩).get t:=by
       have:∀(l:List Oper) (r:Nat->AV) (L:Nat->Bool) (n:Nat) (s:St),(∀k,n<=k->L k=false)->(stUp r L l s).get t=(stUp r L (l.take n) s).get t:=by
        intro l
        induction l with
        | nil=>intros;simp
        | cons o l ih=>
         intro r L n s hk;cases n with
         | zero=>
          have hf:∀(l:List Oper) (res:Nat->AV) (L:Nat->Bool) (st:St),(∀i,L i=false)->stUp res L l st=st:=by
           intro l
           induction l with
           | nil=>intros;rfl
           | cons o l ih=>
            intro res L st hL;simp only[stUp,hL 0];exact ih _ _ _ fun i=>hL (i+1)
          rw[hf _ _ _ _ fun i=>hk i (Nat.zero_le _)];rfl
         | succ n=>exact ih _ _ n _ fun k hk'=>hk (k+1) (by omega)
       exact this _ _ _ _ _ fun k hk=>by simp;omega
      rw[e1];refine jew _ _ _ _ _ _ _ rfl fun k ok hk hdk=> ?_;obtain⟨hkn,hok⟩:=hlt k ok hk;have hlow:k<i->ok.apart ops.toArray oi=true\/listed.getD k false=true:=fun hki=>by
       rcases hpair' k i ok oi hki hin hok hoi' with hw | hap
       ·exact .inr (hwait k hw)
       ·exact .inl hap
      have hhigh:i<k->oi.apart ops.toArray ok=true\/listed.getD k false=false:=fun hki=>by
       rcases hpair' i k oi ok hki hkn hoi' hok with hw | hap
       ·exact .inr (hlate k hw)
       ·exact .inl hap
      cases hkk:kn m k with
      | false=>
       have hmk:mk m k=true:=mk_kn hkk;have hap:ok.apart ops.toArray oi=true\/oi.apart ops.toArray ok=true\/listed.getD k false=false:=by
        rcases Nat.lt_trichotomy k i with hki | hki | hki
        ·rcases hfree k i ok oi hki hin hmk (kn_mk hmi) hok hoi' with hap | ⟨_,_,h3⟩
         ·exact .inl hap
         ·rcases h3 with h3 | h3
          ·rw[hkk]at h3;cases h3
          ·rw[hmi]at h3;cases h3
        ·subst hki;rw[hmi]at hmk;cases hmk
        ·exact .inr (hhigh hki)
       rcases hap with hap | hap | hap
       ·exact absurd ht ((Oper.apart_spec hap).1 t hdk)
       ·exact absurd ht ((Oper.apart_spec hap).2.2 t hdk)
       ·rw[hap];simp
      | true=>
       refine⟨?_,fun _=>(hr0 k hkn hkk).symm⟩;rcases Nat.lt_trichotomy k i with hki | hki | hki
       ·rcases hlow hki with hap | hl
        ·exact absurd ht ((Oper.apart_spec hap).1 t hdk)
        ·rw[hl];simp[hki]
       ·subst hki;rw[hunf];simp
       ·rcases hhigh hki with hap | hl
        ·exact absurd ht ((Oper.apart_spec hap).2.2 t hdk)
        ·rw[hl];simp;omega
     have hq0:=hres i oi (by omega) hmi hoi';have hq1:qStep G ops (stUp res0 (fun k=>kn m k&&decide (k<i)) ops ⟨st.fr,R,st.toks⟩) oi (res0 i):=by
      have:=jhf (r:=R) (.inr fun d x hx=>hsub d x (by rwa [(ja4 _ _ _ _).1]at hx)) hq0;refine jcw (fun t _=> ?_) ?_ ?_ this
      ·show(stUp res0 (fun k=>kn m k&&decide (k<i)) ops ⟨st.fr,Rs,st.toks⟩).get t=_;exact jap _ _ _ _ _ _ rfl fun _ _ _ _=>rfl
      ·show R=_;rw[(ja4 _ _ _ _).1]
      ·show(stUp res0 (fun k=>kn m k&&decide (k<i)) ops ⟨st.fr,Rs,st.toks⟩).toks=_;rw[(ja4 _ _ _ _).2,(ja4 _ _ _ _).2]
     have hq:qStep G ops (stUp res (fun k=>listed.getD k false) (ops.take n) ⟨st.fr,R,st.toks⟩) oi (res i):=by
      rw[hr0 i hin hhd];exact jcw hagree (by rw[(ja4 _ _ _ _).1,(ja4 _ _ _ _).1]) (by rw[(ja4 _ _ _ _).2,(ja4 _ _ _ _).2]) hq1
     have next:∀v w2,Below w.heap.size w w2->RepA w2 (Mo M0 β (stUp res (fun k=>listed.getD k false) (ops.take n) ⟨st.fr,R,st.toks⟩)) β (stUp res (fun k=>listed.getD k false) (ops.take n) ⟨st.fr,R,st.toks⟩).toks (res i) v->
       wpAny G.P .any ops.toArray Q' (c+(ops.toArray.size-n)) (listed.setIfInBounds i true) (a.put oi.dst v) w2:=by
      intro v w2 hb hv;have hs2:=(hs.ext hb).put (dst:=oi.dst) (hd0 oi (List.mem_of_getElem? hoi')) hv;refine ih _ _ _ hcnt (inv.set hi hin) ⟨res,β,R,s,hr0,hs2.congr (fun t=> ?_) ?_ ?_,hsub,?_,hsr,hst,fun t=> ?_⟩
      ·by_cases hdt:oi.dst=some t
       ·rw[hdt,jan];refine(jcf (ops.take n) res _ _ i oi (by rw[htake i hin];exact hoi') hdt hseti fun k ok hik hk hLk=> ?_).symm;rw[hset k (by omega)]at hLk;exact hlast t hdt k ok hik hk hLk
       ·rw[jbm hdt];refine jap _ _ _ _ _ _ rfl fun k ok hk hdk=> ?_;have:k≠i:=fun e=>by
         subst e;obtain⟨_,hok⟩:=hlt k ok hk;rw[hoi']at hok;cases hok;exact hdt hdk
        exact(hset k this).symm
      ·rw[show((stUp res (fun k=>listed.getD k false) (ops.take n) ⟨st.fr,R,st.toks⟩).put oi.dst (res i)).rows=(stUp res (fun k=>listed.getD k false) (ops.take n) ⟨st.fr,R,st.toks⟩).rows by unfold St.put;split<;>rfl,(ja4 _ _ _ _).1,(ja4 _ _ _ _).1]
      ·rw[show((stUp res (fun k=>listed.getD k false) (ops.take n) ⟨st.fr,R,st.toks⟩).put oi.dst (res i)).toks=(stUp res (fun k=>listed.getD k false) (ops.take n) ⟨st.fr,R,st.toks⟩).toks by unfold St.put;split<;>rfl,(ja4 _ _ _ _).2,(ja4 _ _ _ _).2]
      ·have e:(fun k=>mk m k&& !((listed.setIfInBounds i true).getD k false))=fun k=>mk m k&& !(listed.getD k false):=by
        funext k;by_cases hk:k=i
        ·subst hk;rw[hmi];rfl
        ·rw[hset k hk]
       rw[e];exact hsp
      ·rw[hsg];refine jap _ _ _ _ _ _ rfl fun k ok hk hdk=> ?_;by_cases hk:k=i
       ·subst hk;rw[hhd];rfl
       ·rw[hset k hk]
     unfold wpOp;rw[hoi];dsimp only;unfold qStep at hq;cases hg:oi.guard with
     | none=>
      rw[hg]at hq;rw[if_pos (by simp[Region.wanted,hg])];exact .inl (jb8 hG hs hq next)
     | some p=>
      obtain⟨j,want⟩:=p;rw[hg]at hq;dsimp only at hq;split at hq
      ·rename_i b hy;have hyc:=jc6 hs hy;by_cases hb:b=want
       ·rw[if_pos hb]at hq;rw[if_pos (by simp[Region.wanted,hg,hyc,hb])];exact .inl (jb8 hG hs hq next)
       ·rw[if_neg hb]at hq;rw[if_neg (by simp[Region.wanted,hg,hyc,hb])];exact next _ w (Below.refl _ _) (by rw[hq];exact Rep.sc _ rfl)
      ·rename_i hy;have hyc:=jcr hs hy;rw[if_neg (by simp[Region.wanted,hg,hyc])];exact next _ w (Below.refl _ _) (by rw[hq];exact Rep.sc _ rfl)
      ·exact hq.elim
    | true=>
     obtain⟨t1,ht1,hsp⟩:=hsp;have hmem:i∈(List.range n).filter (fun k=>mk m k&& !(listed.getD k false)):=List.mem_filter.2 ⟨List.mem_range.2 hin,by rw[hmi,hunf];rfl⟩;obtain⟨t2,ht2,hsp⟩:=spQ_head ht1 (okT_head ht1 hmem fun j hj=>by
      have:=(List.mem_filter.1 hj).2;cases hw:jft ops.toArray 3 i j with
      | false=>rfl
      | true=>rw[hwaitT j hw]at this;simp at this) hsp
     rw[hoi']at hsp;obtain⟨hg,hsp⟩:=hsp;have ht2':okT ops.toArray t2 ((List.range n).filter (fun k=>mk m k&& !((listed.setIfInBounds i true).getD k false)))=true:=by
      refine Eq.trans ?_ ht2;rw[List.filter_filter];congr 1;refine List.filter_congr fun k _=> ?_;by_cases hk:k=i
      ·subst hk;rw[hseti];simp
      ·rw[hset k hk];simp[hk]
     have hagree:∀t∈oi.looksAt ops.toArray,s.get t=(stUp res (fun k=>listed.getD k false) (ops.take n) ⟨st.fr,R,st.toks⟩).get t:=by
      intro t ht;rw[hsg];refine jap _ _ _ _ _ _ rfl fun k ok hk hdk=> ?_;obtain⟨hkn,hok⟩:=hlt k ok hk;cases hkk:kn m k with
      | false=>rfl
      | true=>
       rcases Nat.lt_trichotomy k i with hki | hki | hki
       ·rcases hpair' k i ok oi hki hin hok hoi' with hw | hap
        ·rw[hwait k hw];rfl
        ·exact absurd ht ((Oper.apart_spec hap).1 t hdk)
       ·subst hki;rw[hoi']at hok;cases hok;exact absurd ht (self_spec (hself k oi hin hmi hkk hoi') t hdk)
       ·exact absurd ht (hhalf i k oi ok hki hkn hmi hkk hoi' hok t hdk).1
     have hsp':=spN_congr hagree (by rw[hsr,(ja4 _ _ _ _).1]) (by rw[hst,(ja4 _ _ _ _).2]) (spN_1 hsp);have hgw:=gOk_wanted hs (gOk_congr hagree hg);unfold wpOp;rw[hoi];dsimp only;rw[if_pos hgw];refine .inl (spN_sound hG hs (hd0 oi (List.mem_of_getElem? hoi')) hsp' fun av R' β' a' w' ⟨hchk,hT1,hT2⟩ hs2=> ?_);refine ih _ _ _ hcnt (inv.set hi hin) ⟨fun k=>if k=i then av else res k,β',R',_,fun k hk hkk=> ?_,hs2.congr (fun t=> ?_) ?_ ?_,hT1,⟨t2,ht2',hT2⟩,?_,?_,fun t=> ?_⟩
     ·show(if k=i then av else res k)=res0 k;by_cases e:k=i
      ·subst e;rw[if_pos rfl];obtain⟨p,hp⟩:=kn_pv hmi hkk;rw[hpr0 k p hk hp,chk_pv hp hchk]
      ·rw[if_neg e];exact hr0 k hk hkk
     ·by_cases hdt:oi.dst=some t
      ·rw[hdt,jan];have:=jcf (ops.take n) (fun k=>if k=i then av else res k) (fun k=>(listed.setIfInBounds i true).getD k false) ⟨st.fr,R',st.toks⟩ i oi (by rw[htake i hin];exact hoi') hdt hseti fun k ok hik hk hLk=>by
        rw[hset k (by omega)]at hLk;exact hlast t hdt k ok hik hk hLk
       rw[this,if_pos rfl]
      ·rw[jbm hdt];have e1:(⟨(stUp res (fun k=>listed.getD k false) (ops.take n) ⟨st.fr,R,st.toks⟩).fr,R',(stUp res (fun k=>listed.getD k false) (ops.take n) ⟨st.fr,R,st.toks⟩).toks⟩:St).get t=(stUp res (fun k=>listed.getD k false) (ops.take n) ⟨st.fr,R,st.toks⟩).get t:=rfl;rw[e1];refine jew _ _ _ _ _ _ _ rfl fun k ok hk hdk=> ?_;have hki:k≠i:=fun e=>by
        subst e;obtain⟨_,hok⟩:=hlt k ok hk;rw[hoi']at hok;cases hok;exact hdt hdk
       exact⟨(hset k hki).symm,fun _=>(if_neg hki).symm⟩
     ·rw[show ∀(x:St),(x.put oi.dst av).rows=x.rows from fun x=>by unfold St.put;split<;>rfl,(ja4 _ _ _ _).1]
     ·rw[show ∀(x:St),(x.put oi.dst av).toks=x.toks from fun x=>by unfold St.put;split<;>rfl];show(stUp _ _ _ _).toks=(stUp _ _ _ _).toks;rw[(ja4 _ _ _ _).2,(ja4 _ _ _ _).2]
     ·unfold St.put;split<;>rfl
     ·rw[show ∀(x:St),(x.put oi.dst av).toks=x.toks from fun x=>by unfold St.put;split<;>rfl];exact hst
     ·by_cases hdt:oi.dst=some t
      ·rw[hdt,jan];have:=jcf (ops.take n) (fun k=>if k=i then av else res k) (fun k=>kn m k || (listed.setIfInBounds i true).getD k false) ⟨st.fr,R',st.toks⟩ i oi (by rw[htake i hin];exact hoi') hdt (by rw[hseti];simp) fun k ok hik hk hLk hdk=>by
        obtain⟨hkn,hok⟩:=hlt k ok hk;cases hkk:kn m k with
        | false=>
         rw[hkk,Bool.false_or,hset k (by omega)]at hLk;exact hlast t hdt k ok hik hk hLk hdk
        | true=>exact(hhalf i k oi ok hik hkn hmi hkk hoi' hok t hdk).2 hdt
       rw[this,if_pos rfl]
      ·rw[jbm hdt];have e1:(⟨s.fr,R',s.toks⟩:St).get t=s.get t:=rfl;rw[e1,hsg];refine jew _ _ _ _ _ _ _ rfl fun k ok hk hdk=> ?_;have hki:k≠i:=fun e=>by
        subst e;obtain⟨_,hok⟩:=hlt k ok hk;rw[hoi']at hok;cases hok;exact hdt hdk
       exact⟨by rw[hset k hki],fun _=>(if_neg hki).symm⟩
   have:c+1+(ops.toArray.size-n)=(c+(ops.toArray.size-n))+1:=by omega
   rw[this];exact hgoal
 refine wp_region_any hG.mixed ?_;have inv0:HeadInv .any ops.toArray n (Array.replicate ops.toArray.size false):=
  ⟨by simp,fun j oj _ hl=>(by rw[getD_replicate_false]at hl;cases hl),fun t _ ht=>getD_in (by simpa using ht) (getD_replicate_false _ _)⟩
 have hc0:∀k,cntB (Array.replicate ops.toArray.size false) k=k:=fun k=>by
  induction k with
  | zero=>rfl
  | succ k ihk=>simp only[cntB,ihk,getD_replicate_false];simp
 have hf:∀(l:List Oper) (res:Nat->AV) (L:Nat->Bool) (st:St),(∀i,L i=false)->stUp res L l st=st:=by
  intro l
  induction l with
  | nil=>intros;rfl
  | cons o l ih=>
   intro res L st hL;simp only[stUp,hL 0];exact ih _ _ _ fun i=>hL (i+1)
 have:=main n (Array.replicate ops.toArray.size false) a _ (hc0 n) inv0 ⟨res0,β,st.rows,⟨(stUp res0 (kn m) (ops.take n) ⟨st.fr,Rs,st.toks⟩).fr,st.rows,(stUp res0 (kn m) (ops.take n) ⟨st.fr,Rs,st.toks⟩).toks⟩,fun _ _ _=>rfl,h.drew.congr (fun t=>by
  rw[hf _ _ _ _ fun i=>getD_replicate_false _ _]) (ja4 _ _ _ _).1.symm (ja4 _ _ _ _).2.symm,hRs,(by
   refine⟨t0,?_,hfin⟩;have e:(fun i=>mk m i&& !((Array.replicate ops.toArray.size false).getD i false))=fun i=>mk m i:=by
    funext i;rw[getD_replicate_false];simp
   rw[e];exact hT0),rfl,(ja4 _ _ _ _).2,fun t=>by
   show(stUp res0 (kn m) (ops.take n) ⟨st.fr,Rs,st.toks⟩).get t=_;exact jap _ _ _ _ _ _ rfl fun k _ _ _=>by rw[getD_replicate_false];simp⟩
 rwa [show n+(ops.toArray.size-n)=ops.toArray.size by omega]at this
end
section
variable{G:Ctx}
def spQL(G:Ctx)(ops:List Oper)(m:List PM)(K:St->Prop)(l:List Oper)(t:OT)(Rs:Rows)(st:St):Prop:=spQ G ops (pv m) (fun s=>alist G ops K l s) t Rs st
def jcl(G:Ctx)(ops:List Oper)(m0:List PM)(K:St->Prop)(R0 Rs:Rows)(t:OT)(m:List PM)(l:List Oper)(st:St):Prop:=
 jd2 G ops (fun s=>spQL G ops m0 K (l.drop m.length) t Rs ⟨s.fr,R0,s.toks⟩) m l st
theorem je0{ops:List Oper}{Q:Exit->St->Prop}{st:St}(m:List PM)(t:OT)(Rs:Rows)(h:(drawPp ops.toArray m&&okT ops.toArray t ((List.range m.length).filter fun i=>mk m i))=true)(hs:SubR Rs st.rows)
  (hA:jcl G ops m (Q .normal) st.rows Rs t m ops ⟨st.fr,Rs,st.toks⟩): @DrawP G ⟨ops⟩ ⟨Q⟩ st:=by
 rw[Bool.and_eq_true]at h;exact DrawSem_of fun N w0 M0 β a w id Q' hG hd hK hsim=>draw_soundP hG id m t Rs h.1 h.2 hd hK hsim hs hA
theorem aheadTP_nil(ops:List Oper)(m0:List PM)(K:St->Prop)(R0 Rs:Rows)(t:OT)(l:List Oper)(st:St):jcl G ops m0 K R0 Rs t [] l st=spQL G ops m0 K l t Rs ⟨st.fr,R0,st.toks⟩:=by
 unfold jcl jd2;simp
theorem aheadTP_mk(ops:List Oper)(m0:List PM)(K:St->Prop)(R0 Rs:Rows)(t:OT)(m:List PM)(o:Oper)(l:List Oper)(st:St):jcl G ops m0 K R0 Rs t (.mk::m) (o::l) st=jcl G ops m0 K R0 Rs t m l st:=by
 simp only[jcl,List.length_cons,List.drop_succ_cons]
 conv=>lhs;unfold jd2
theorem aheadTP_pr(ops:List Oper)(m0:List PM)(K:St->Prop)(R0 Rs:Rows)(t:OT)(p:AV)(m:List PM)(o:Oper)(l:List Oper)(st:St):jcl G ops m0 K R0 Rs t (.pr p::m) (o::l) st=jcl G ops m0 K R0 Rs t m l (st.put o.dst p):=by
 simp only[jcl,List.length_cons,List.drop_succ_cons]
 conv=>lhs;unfold jd2
theorem aheadTP_fr(ops:List Oper)(m0:List PM)(K:St->Prop)(R0 Rs:Rows)(t:OT)(m:List PM)(dst:Option Tmp)(op:Op)(ty:TypeId)(pos:String)(af:Array Edge)(r:List Oper)(st:St):
  jcl G ops m0 K R0 Rs t (.fr::m) (⟨dst,op,ty,pos,af,.none⟩::r) st=aq G st ⟨dst,op,ty,pos,af,.none⟩ (fun av=>jcl G ops m0 K R0 Rs t m r (st.put dst av)):=by
 simp only[jcl,List.length_cons,List.drop_succ_cons]
 conv=>lhs;unfold jd2
def SqOne(G:Ctx)(ops:List Oper)(m:List PM)(K:St->Prop)(l:List Oper)(o:Option Oper)(p:Option AV)(s:OT)(Rs:Rows)(st:St):Prop:=match o with
 | some o=>gOk ops st o/\spN G st o fun av R'=>chk p av/\(∀k x,look Rs k=some x->look R' k=some x)/\spQL G ops m K l s Rs ((⟨st.fr,R',st.toks⟩:St).put o.dst av)
 | .none=>False
theorem spQL_fin(ops:List Oper)(m:List PM)(K:St->Prop)(l:List Oper)(Rs:Rows)(st:St):spQL G ops m K l .fin Rs st=alist G ops K l st:=propext ⟨fun h=>h,fun h=>h⟩
theorem spQL_one(ops:List Oper)(m:List PM)(K:St->Prop)(l:List Oper)(i:Nat)(s:OT)(Rs:Rows)(st:St):spQL G ops m K l (.alt i s .none) Rs st=SqOne G ops m K l ops[i]? (pv m i) s Rs st:=propext ⟨fun h=>h.1,fun h=>⟨h,trivial⟩⟩
theorem spQL_alt(ops:List Oper)(m:List PM)(K:St->Prop)(l:List Oper)(i j:Nat)(s r r':OT)(Rs:Rows)(st:St):spQL G ops m K l (.alt i s (.alt j r r')) Rs st=(SqOne G ops m K l ops[i]? (pv m i) s Rs st/\spQL G ops m K l (.alt j r r') Rs st):=propext ⟨fun h=>h,fun h=>h⟩
theorem SqOne_alloc(ops:List Oper)(m:List PM)(K:St->Prop)(l:List Oper)(d:Tmp)(t:TypeId)(ty:TypeId)(pos:String)(af:Array Edge)(s:OT)(Rs:Rows)(st:St):
  SqOne G ops m K l (some ⟨some d,.alloc t,ty,pos,af,.none⟩) none s Rs st=Opt (jbi G t) (K:=⟨fun z=>G.perm.contains d=true/\NewT st.rows (T:=⟨fun b=>SubR Rs ((hp b,z.length,[z])::st.rows)/\spQL G ops m K l s Rs ((⟨st.fr,(hp b,z.length,[z])::st.rows,st.toks⟩:St).put (some d) (.loc (hp b) z.length 0 0))⟩)⟩):=by
 unfold SqOne spN Opt;dsimp only;cases jbi G t with
 | none=>exact propext ⟨fun h=>h.2,fun h=>h.elim⟩
 | some z=>exact propext ⟨fun h=>⟨h.2.1,fun b hb=>(h.2.2 b hb).2⟩,fun h=>⟨trivial,h.1,fun b hb=>⟨trivial,h.2 b hb⟩⟩⟩
theorem SqOne_call(ops:List Oper)(m:List PM)(K:St->Prop)(l:List Oper)(dst:Option Tmp)(f:Operand)(azz:Array Operand)(ts:Array TypeId)(ty:TypeId)(pos:String)(af:Array Edge)(p:Option AV)(s:OT)(Rs:Rows)(st:St):
  SqOne G ops m K l (some ⟨dst,.call ⟨.value f,azz,ts⟩,ty,pos,af,.none⟩) p s Rs st=SpCall G (evO st f) (azz.toList.map (evO st)) st.rows (T:=⟨fun av R'=>chk p av/\SubR Rs R'/\spQL G ops m K l s Rs ((⟨st.fr,R',st.toks⟩:St).put dst av)⟩):=
 propext ⟨fun h=>h.2,fun h=>⟨trivial,h⟩⟩
theorem SqOne_store(ops:List Oper)(m:List PM)(K:St->Prop)(l:List Oper)(t:TypeId)(p x:Operand)(ty:TypeId)(pos:String)(af:Array Edge)(s:OT)(Rs:Rows)(st:St):
  SqOne G ops m K l (some ⟨none,.store t p x,ty,pos,af,.none⟩) none s Rs st=jjv G t (evO st p) (evO st x) st.rows (T:=⟨fun R'=>SubR Rs R'/\spQL G ops m K l s Rs ⟨st.fr,R',st.toks⟩⟩):=by
 apply propext;constructor
 ·intro h;have h2:=h.2;unfold spN spZ at h2;dsimp only at h2;exact jfu h2 fun _ _ h=>h.2
 ·intro h;refine⟨trivial,?_⟩;unfold spN spZ;dsimp only;exact jfu h fun _ _ h=>⟨trivial,h⟩
theorem SqOne_append(ops:List Oper)(m:List PM)(K:St->Prop)(l:List Oper)(d:Tmp)(azz:Array Operand)(ts:Array TypeId)(ty:TypeId)(pos:String)(af:Array Edge)(s2:OT)(Rs:Rows)(st:St):
  SqOne G ops m K l (some ⟨some d,.call ⟨.builtin .append,azz,ts⟩,ty,pos,af,.none⟩) none s2 Rs st=match ts.toList,azz.toList with
   | [t,t'],[s,x]=>match(G.ti t).kind with
    | .sl e=>t=t'/\SpApp G d t e (evO st s) (jb5 (evO st x)) st.rows (T:=⟨fun av R'=>SubR Rs R'/\spQL G ops m K l s2 Rs ((⟨st.fr,R',st.toks⟩:St).put (some d) av)⟩)
    | _=>False
   | _,_=>False:=by
 have key:∀{sv:AV} {xo:Option (List (List IV))} {t e:TypeId} {R:Rows} {T:AV->Rows->Prop},spApp G d t e sv xo R (fun av R'=>chk none av/\T av R')=spApp G d t e sv xo R T:=fun{sv xo t e R T}=>by
  have:(fun av R'=>chk none av/\T av R')=T:=by funext av R';exact propext ⟨fun h=>h.2,fun h=>⟨trivial,h⟩⟩
  rw[this]
 apply propext;constructor
 ·intro h;have h:=h.2;unfold spN spZ at h;dsimp only at h;rw[if_pos (by rfl)]at h;unfold sp at h;dsimp only at h;split at h
  ·rename_i h1 h2 h3;cases h1;rw[h2,h3];dsimp only;split at h
   ·rename_i e hk;rw[hk];exact⟨h.1,by have:=h.2;rw[key]at this;exact this⟩
   ·exact h.elim
  ·exact h.elim
 ·intro h;refine⟨trivial,?_⟩;unfold spN spZ;dsimp only;rw[if_pos (by rfl)];unfold sp;dsimp only;split at h
  ·rename_i h2 h3;rw[h2,h3];dsimp only;split at h
   ·rename_i e hk;rw[hk];exact⟨h.1,by rw[key];exact h.2⟩
   ·exact h.elim
  ·exact h.elim
theorem chk_some(p av:AV):chk (some p) av=(av=p):=propext ⟨fun h=>h,fun h=>h⟩
theorem chk_none(av:AV):chk none av=True:=rfl
end
attribute [go_sem] pv chk_some chk_none
attribute [go_sem ↓] aheadTP_nil aheadTP_mk aheadTP_pr aheadTP_fr spQL_fin spQL_one spQL_alt SqOne_alloc SqOne_call SqOne_store SqOne_append
end
end Go.Abs
namespace Go.Proofs.Ytgnflpkmpoghbaa
section
open Go.Abs Go.LQ
attribute [local go_sem] ints ic qC rtC kC xC
theorem jbk{R:Abs.Rows}{b:Nat}{v:Nat×List (List IV)}:Behind R [(hp b,v)] [] (del R (hp b)):=fun k x hk=>by
 by_cases e:k=hp b
 ·subst e;rw[ja2]at hk;cases hk
 ·rw[ja6 _ e]at hk;exact .inr ⟨by rw[ja3 _ _ e];rfl,hk⟩
def ST2(lx:IV)(p:Int)(k:Nat)(rc ac:List IV)(e:Int)(B:Nat)(bc:List IV)(f:Int):St:=⟨[(1,.im lx),(3,.im (.int p)),(4,.loc 4 4 0 0),(9,.im (.bool true)),(10,.im (.int k)),(11,.loc 11 4 0 0),(12,.im (.int e)),(14,.loc (hp B) 4 0 0),(15,.im (.int f))],[(hp B,4,[bc]),(11,4,[ac]),(4,4,[rc])],[]⟩
theorem jay{a:Int}{C H U es:List (List IV)}{y:IV}{Y n:Nat}(ks:Ctr G.P 7 [.agg [.int a,.sl C,.sl H,.sl U],.sl es] (· =y))(hn:es.length=n):
  CtrH G.P 7 [.im (.agg [.int a,.sl C,.sl H,.sl U]),.im (.ref Y 35 5 n)] [(hp Y,5,es)] (fun x L'=>x= .im y/\L'=[]):=by
 subst hn;refine(ctrH_frz ks [.agg [.int a,.sl C,.sl H,.sl U],.ref Y 35 5 es.length] [Y] [(hp Y,5,es)] ?_).mono fun r L' ⟨z,h1,h2,h3⟩=>⟨by rw[h1,h2],h3⟩;have ht:List.take es.length es=es:=List.take_length;simp only[List.map_cons,List.map_nil,jja (ja8 _ _ _),frzL_nil,frz3,frz2,frz1,emp2,emp1,Nat.le_refl,and_self,if_true,ht]
theorem qu_C{r:Rts}{l:List Trn}{p e:Int}{k:Nat}{n:Int}{C:List Int}{H U:List (List IV)}{ac:List IV}{R1:Rts×Int×Int}(hk:k<l.length)(hl:l.length<=20)
  (kt:Ctr G.P 7 [.agg [.int n,ints C,.sl H,.sl U],.sl ((l.drop k).map xC++(l.take k).map xC)] (· =tR R1)) {Q:Exit->St->Prop} (hQ:∀B s,St.Le s (ST2 (.sl (l.map xC)) p k [.int n,ints C,.sl H,.sl U] ac e B (rtC R1.1) R1.2.1)->Q .normal s):
  awp (GH [14,75,79] []) (putN 1 (tailN 5 (jas Try.f3)) .skip) Q (ST1 (.sl (l.map xC)) p k [.int n,ints C,.sl H,.sl U] ac e):=by
 unfold ST1;unfold ST2 at hQ;have hkl:((k:Int)<=l.length)=True:=eq_true (by omega);have hkl2:((0:Int)<=k)=True:=eq_true (by omega);have h5a:((l.map xC).all fun c=>c.length==5)=true:=by
  rw[List.all_eq_true];intro c hc;obtain⟨z,_,rfl⟩:=List.mem_map.1 hc;rfl
 have hle1:((l.length:Int)<=l.length)=True:=eq_true (Int.le_refl _);have hdt:List.take (l.length-k) (List.drop k (l.map xC))=(l.drop k).map xC:=by
  rw[List.take_of_length_le (by rw[List.length_drop,List.length_map];exact Nat.le_refl _),List.map_drop]
 have hdt2:List.take (k-0) (l.map xC)=(l.take k).map xC:=by rw[List.map_take];rfl
 have h5t:∀c∈(l.take k).map xC,c.length=5:=fun c hc=>by obtain⟨z,_,rfl⟩:=List.mem_map.1 hc;rfl
 have hlt:((l.take k).map xC).length<=20:=by rw[List.length_map,List.length_take];omega
 rcases hxs:(l.drop k).map xC with _ | ⟨y0,yr⟩
 ·have:=congrArg List.length hxs;rw[List.length_map,List.length_drop,List.length_nil]at this;omega
 have h5x:∀c∈y0::yr,c.length=5:=fun c hc=>by rw[<-hxs]at hc;obtain⟨z,_,rfl⟩:=List.mem_map.1 hc;rfl
 have hlx:yr.length+1<=20:=by
  have:=congrArg List.length hxs;rw[List.length_map,List.length_drop,List.length_cons]at this;omega
 rw[hxs]at kt hdt;generalize (l.take k).map xC=zs at*;have htk:List.take yr.length yr=yr:=List.take_length;refine jcm rfl ?_;simp only[go_sem];refine je0 [.fr,.fr,.fr,.fr,.fr,.mk,.fr,.fr,.fr,.mk,.pr (.im (tR R1)),.fr,.fr,.fr,.fr,.mk,.mk,.fr] (.alt 5 (.alt 9 (.alt 10 (.alt 15 (.alt 16 .fin .none) .none) (.alt 15 (.alt 10 (.alt 16 .fin .none) .none) .none)) (.alt 15 (.alt 9 (.alt 10 (.alt 16 .fin .none) .none) .none) .none)) (.alt 15 (.alt 5 (.alt 9 (.alt 10 (.alt 16 .fin .none) .none) .none) .none) .none)) [(4,4,[[.int n,ints C,.sl H,.sl U]])] (by kernel_rfl) (ja0 (by simp only[go_sem]) ja1) ?_;unfold tR rtC at*;unfold ints at*;simp only[List.length_map,hkl,hkl2,h5a,hle1,hdt,hdt2,go_sem];refine And.intro ?_ ?_
 ·refine And.intro h5x (And.intro (by omega) (jcb (fun X hX=> ?_)));have hX4:∀q:Nat,q<100000->(q !=hp X)=true:=fun q hq=>by simp only[bne_iff_ne,ne_eq];exact hp_ne hq
  refine And.intro (ja0 (by simp only[*,go_sem]) ja1) ?_;simp only[*,go_sem];refine And.intro ?_ ?_
  ·refine And.intro h5t (And.intro (Nat.le_refl _) (And.intro (by omega) (jat (fun Y hY=> ?_))));have hY4:∀q:Nat,q<100000->(q !=hp Y)=true:=fun q hq=>by simp only[bne_iff_ne,ne_eq];exact hp_ne hq
   refine And.intro (ja0 (by simp only[*,go_sem]) ja1) ?_;simp only[*,go_sem];refine And.intro ?_ ?_
   ·refine jad (jay (Y:=Y) kt (n:=yr.length+1+zs.length) (by rw[List.length_append,List.length_cons])) (by decide) rfl (jac jai) (ja0 (by simp only[*,go_sem]) ja1) ?_;rintro _ _ ⟨rfl,rfl⟩ _;refine⟨_,jbk,?_⟩;simp only[*,go_sem];refine And.intro (ja0 (by simp only[*,go_sem]) ja1) ?_;refine jaz (fun B hB=> ?_);have hB4:∀q:Nat,q<100000->(q !=hp B)=true:=fun q hq=>by simp only[bne_iff_ne,ne_eq];exact hp_ne hq
    refine And.intro (ja0 (by simp only[*,go_sem]) ja1) ?_;simp only[*,go_sem];refine And.intro (ja0 (by simp only[*,go_sem]) ja1) ?_;refine hQ B _ (jb3 [1,3,4,9,10,11,12,14,15] ?_ ?_ rfl)
    ·simp only[*,go_sem]
    ·exact SubR.refl _
   ·refine jaz (fun B hB=> ?_);have hB4:∀q:Nat,q<100000->(q !=hp B)=true:=fun q hq=>by simp only[bne_iff_ne,ne_eq];exact hp_ne hq
    have n4:¬B=Y:=jaw hB (by simp);have n3:¬Y=B:=fun e=>n4 e.symm;have n6:(B !=Y)=true:=by simp only[bne_iff_ne,ne_eq];exact n4
    refine And.intro (ja0 (by simp only[*,go_sem]) ja1) ?_;simp only[*,go_sem];refine jad (jay (Y:=Y) kt (n:=yr.length+1+zs.length) (by rw[List.length_append,List.length_cons])) (by decide) rfl (jac jai) (ja0 (by simp only[*,go_sem]) ja1) ?_;rintro _ _ ⟨rfl,rfl⟩ _;refine⟨_,jbk,?_⟩;simp only[*,go_sem];refine And.intro (ja0 (by simp only[*,go_sem]) ja1) ?_;refine And.intro (ja0 (by simp only[*,go_sem]) ja1) ?_;refine hQ B _ (jb3 [1,3,4,9,10,11,12,14,15] ?_ ?_ rfl)
    ·simp only[*,go_sem]
    ·exact SubR.refl _
  ·refine jaz (fun B hB=> ?_);have hB4:∀q:Nat,q<100000->(q !=hp B)=true:=fun q hq=>by simp only[bne_iff_ne,ne_eq];exact hp_ne hq
   have n2:¬B=X:=jaw hB (by simp);have n1:¬X=B:=fun e=>n2 e.symm;have n5:(B !=X)=true:=by simp only[bne_iff_ne,ne_eq];exact n2
   refine And.intro (ja0 (by simp only[*,go_sem]) ja1) ?_;simp only[*,go_sem];refine And.intro h5t (And.intro (Nat.le_refl _) (And.intro (by omega) (jat (fun Y hY=> ?_))));have hY4:∀q:Nat,q<100000->(q !=hp Y)=true:=fun q hq=>by simp only[bne_iff_ne,ne_eq];exact hp_ne hq
   have n4:¬B=Y:=fun e=>jaw hY (X:=B) (by simp[del,hp_inj,n2]) e.symm;have n3:¬Y=B:=fun e=>n4 e.symm;have n6:(B !=Y)=true:=by simp only[bne_iff_ne,ne_eq];exact n4
   refine And.intro (ja0 (by simp only[*,go_sem]) ja1) ?_;simp only[*,go_sem];refine jad (jay (Y:=Y) kt (n:=yr.length+1+zs.length) (by rw[List.length_append,List.length_cons])) (by decide) rfl (jac jai) (ja0 (by simp only[*,go_sem]) ja1) ?_;rintro _ _ ⟨rfl,rfl⟩ _;refine⟨_,jbk,?_⟩;simp only[*,go_sem];refine And.intro (ja0 (by simp only[*,go_sem]) ja1) ?_;refine And.intro (ja0 (by simp only[*,go_sem]) ja1) ?_;refine hQ B _ (jb3 [1,3,4,9,10,11,12,14,15] ?_ ?_ rfl)
   ·simp only[*,go_sem]
   ·exact SubR.refl _
 ·refine jaz (fun B hB=> ?_);have hB4:∀q:Nat,q<100000->(q !=hp B)=true:=fun q hq=>by simp only[bne_iff_ne,ne_eq];exact hp_ne hq
  refine And.intro (ja0 (by simp only[*,go_sem]) ja1) ?_;simp only[*,go_sem];refine And.intro h5x (And.intro (by omega) (jcb (fun X hX=> ?_)));have hX4:∀q:Nat,q<100000->(q !=hp X)=true:=fun q hq=>by simp only[bne_iff_ne,ne_eq];exact hp_ne hq
  have n2:¬B=X:=fun e=>jaw hX (X:=B) (by simp) e.symm;have n1:¬X=B:=fun e=>n2 e.symm;have n5:(B !=X)=true:=by simp only[bne_iff_ne,ne_eq];exact n2
  refine And.intro (ja0 (by simp only[*,go_sem]) ja1) ?_;simp only[*,go_sem];refine And.intro h5t (And.intro (Nat.le_refl _) (And.intro (by omega) (jat (fun Y hY=> ?_))));have hY4:∀q:Nat,q<100000->(q !=hp Y)=true:=fun q hq=>by simp only[bne_iff_ne,ne_eq];exact hp_ne hq
  have n4:¬B=Y:=fun e=>jaw hY (X:=B) (by simp[del,hp_inj,n2]) e.symm;have n3:¬Y=B:=fun e=>n4 e.symm;have n6:(B !=Y)=true:=by simp only[bne_iff_ne,ne_eq];exact n4
  refine And.intro (ja0 (by simp only[*,go_sem]) ja1) ?_;simp only[*,go_sem];refine jad (jay (Y:=Y) kt (n:=yr.length+1+zs.length) (by rw[List.length_append,List.length_cons])) (by decide) rfl (jac jai) (ja0 (by simp only[*,go_sem]) ja1) ?_;rintro _ _ ⟨rfl,rfl⟩ _;refine⟨_,jbk,?_⟩;simp only[*,go_sem];refine And.intro (ja0 (by simp only[*,go_sem]) ja1) ?_;refine And.intro (ja0 (by simp only[*,go_sem]) ja1) ?_;refine hQ B _ (jb3 [1,3,4,9,10,11,12,14,15] ?_ ?_ rfl)
  ·simp only[*,go_sem]
  ·exact SubR.refl _
end
section
open Go.Abs Go.LQ
attribute [local go_sem] ints ic qC rtC kC xC
section
variable{r:Rts}{l:List Trn}{p e f:Int}{k B:Nat}{n:Int}{C:List Int}{H U H2:List (List IV)}{bc:List IV}
def RC(n:Int)(C:List Int)(H U:List (List IV)):List IV:=[.int n,ints C,.sl H,.sl U]
theorem qu_D{ra:Rts}(hs:e=0\/e=7->f=e/\bc=rtC ra/\Ctr G.P 8 [.agg (rtC ra),.agg (rtC ra)] (· = .bool true)){Q:Exit->St->Prop}(hQ:∀s,St.Le s (ST1 (.sl (l.map xC)) p k [.int n,ints C,.sl H,.sl U] (rtC ra) e)->Q .normal s):
  awp (GH [] []) (putN 1 (tailN 6 (jas Try.f3)) .skip) Q (ST2 (.sl (l.map xC)) p k [.int n,ints C,.sl H,.sl U] (rtC ra) e B bc f):=by
 unfold ST2;unfold ST1 at hQ;refine jcm rfl ?_;by_cases h:e=0\/e=7
 ·obtain⟨rfl,hb,kS⟩:=hs h;subst hb;unfold rtC ints at*;have hne:decide (f=f)=true:=decide_eq_true rfl;rcases h with rfl | rfl
  ·simp only[go_sem];refine ja5 kS (by decide) ?_;simp only[go_sem];refine hQ _ (jb3 [1,3,4,9,10,11,12] ?_ ?_ rfl)
   ·simp only[go_sem]
   ·simp only[go_sem];exact ja0 (by rw[ja3 _ _ (hp_ne (by decide))];rfl) (ja0 (by rw[ja3 _ _ (hp_ne (by decide))];rfl) ja1)
  ·simp only[go_sem];refine ja5 kS (by decide) ?_;simp only[go_sem];refine hQ _ (jb3 [1,3,4,9,10,11,12] ?_ ?_ rfl)
   ·simp only[go_sem]
   ·simp only[go_sem];exact ja0 (by rw[ja3 _ _ (hp_ne (by decide))];rfl) (ja0 (by rw[ja3 _ _ (hp_ne (by decide))];rfl) ja1)
 ·have h1:decide (e=0)=false:=decide_eq_false (fun h'=>h (.inl h'));have h2:decide (e=7)=false:=decide_eq_false (fun h'=>h (.inr h'));simp only[h1,h2,go_sem];refine hQ _ (jb3 [1,3,4,9,10,11,12] ?_ ?_ rfl)
  ·simp only[go_sem]
  ·simp only[go_sem];exact ja0 (by rw[ja3 _ _ (hp_ne (by decide))];rfl) (ja0 (by rw[ja3 _ _ (hp_ne (by decide))];rfl) ja1)
def ST3(lx:IV)(p:Int)(k:Nat)(rc ac:List IV)(e:Int)(xc:List IV):St:=⟨[(1,.im lx),(3,.im (.int p)),(4,.loc 4 4 0 0),(9,.im (.bool true)),(10,.im (.int k)),(11,.loc 11 4 0 0),(12,.im (.int e)),(17,.loc 17 5 0 0)],[(17,5,[xc]),(11,4,[ac]),(4,4,[rc])],[]⟩
theorem qu_E{x:Trn}{rc ac:List IV}(hx:l[k]? =some x){Q:Exit->St->Prop}(hQ:∀s,St.Le s (ST3 (.sl (l.map xC)) p k rc ac e (xC x))->Q .normal s):
  awp G (putN 1 (tailN 7 (jas Try.f3)) .skip) Q (ST1 (.sl (l.map xC)) p k rc ac e):=by
 unfold ST1;unfold ST3 at hQ;have hk:=(List.getElem?_eq_some_iff.1 hx).1;have hkl:(k:Int)<l.length:=by omega
 have hk0:(0:Int)<=k:=by omega
 refine jcm rfl ?_;simp only[List.length_map,List.getElem?_map,hx,hkl,hk0,Int.toNat_natCast,go_sem];refine hQ _ (le_of [1,3,4,9,10,11,12,17] [17,11,4] ?_);simp only[go_sem]
