/- A part of the proof. No further condition. -/
import Derived.Test.YtkcekimolppapaaGreatKC20
set_option linter.all false
set_option maxRecDepth 10000000
set_option maxHeartbeats 16000000
namespace Go.Abs
section
open Go.RowKit (Below)
inductive OT where
 | fin:OT
 | none:OT
 | alt:Nat->OT->OT->OT
def OT.heads:OT->List Nat
 | .alt i _ r=>i::r.heads
 | _=>[]
def OT.emp:OT->Bool
 | .fin=>true
 | _=>false
def OT.cov(ops:Array Oper)(t:OT)(rem:List Nat):Bool:=(t.emp==rem.isEmpty)&&rem.all fun i=>t.heads.contains i || rem.any fun j=>jj2 ops 3 i j
def OT.ok(ops:Array Oper):OT->List Nat->Bool
 | .alt i s r,rem=>s.cov ops (rem.filter (· !=i))&&s.ok ops (rem.filter (· !=i))&&r.ok ops rem
 | _,_=>true
def okT(ops:Array Oper)(t:OT)(rem:List Nat):Bool:=t.cov ops rem&&t.ok ops rem
def drawN(ops:Array Oper)(m:List Bool):Bool:=
 drawB ops m.length&&(List.range m.length).all (fun j=>(List.range j).all fun i=>
  (!(m.getD i false&& !(m.getD j false)) || (match ops[i]?,ops[j]? with
   | some oi,some oj=>oi.apart ops oj
   | _,_=>false)))
def spMk(G:Ctx)(d:Nat)(t:TypeId)(l c:AV)(R:Rows)(T:AV->Rows->Prop):Prop:=
 match l,c with
 | .im (.sc (.int _ n)),.im (.sc (.int _ m))=>match(G.ti t).kind with
  | .sl e=>match jcq G e with
   | some z=>G.perm.contains d=true/\(G.ti t).size≠0/\n=m/\0<=n/\n*(G.ti e).bytes<=140737488355328/\(G.ti e).bytes≠0/\
     ∀b,look R (hp b)=none->T (.im (.ref b e (G.ti e).size (List.replicate n.toNat z).length)) ((hp b,(G.ti e).size,List.replicate n.toNat z)::R)
   | none=>False
  | _=>False
 | _,_=>False
def spN(G:Ctx)(st:St)(o:Oper)(T:AV->Rows->Prop):Prop:=
 match o.op with
 | .alloc t=>match o.dst,jcq G t with
  | some d,some z=>G.perm.contains d=true/\∀b,look st.rows (hp b)=none->T (.loc (hp b) z.length 0 0) ((hp b,z.length,[z])::st.rows)
  | _,_=>False
 | .makeSlice t l c=>match o.dst with
  | some d=>spMk G d t (evO st l) (evO st c) st.rows T
  | none=>False
 | _=>spZ G st o T
def spN1(G:Ctx)(st:St)(o:Oper)(T:AV->Rows->Prop):Prop:=
 match o.op with
 | .alloc t=>match o.dst,jcq G t with
  | some d,some z=>G.perm.contains d=true/\∀b,look st.rows (hp b)=none->T (.loc (hp b) z.length 0 0) ((hp b,z.length,[z])::st.rows)
  | _,_=>False
 | .makeSlice t l c=>match o.dst with
  | some d=>spMk G d t (evO st l) (evO st c) st.rows T
  | none=>False
 | _=>spZ1 G st o T
def gOk(ops:List Oper)(st:St)(o:Oper):Prop:=match o.guard with
 | none=>True
 | some (j,want)=>jcw st ops j=some (some want)
theorem gOk_congr{ops:List Oper}{st st':St}{o:Oper}(h:∀t∈o.looksAt ops.toArray,st.get t=st'.get t)(hg:gOk ops st o):gOk ops st' o:=by
 unfold gOk at hg⊢;cases hgd:o.guard with
 | none=>trivial
 | some p=>
  obtain⟨j,want⟩:=p;rw[hgd]at hg;dsimp only at hg⊢;rw[<-hg];unfold jcw;cases ho:ops[j]? with
  | none=>rfl
  | some oj=>
   cases hd:oj.dst with
   | none=>simp only[hd]
   | some t=>
    have:t∈o.looksAt ops.toArray:=by
     have ho':ops.toArray[j]? =some oj:=by simpa using ho
     simp[Oper.looksAt,hgd,ho',ho,hd]
    simp only[hd,h t this]
theorem gOk_wanted{N:Nat}{w0:Base}{M0:Nat->Nat->Prop}{β:Nat->Option Nat}{st:St}{a:Act}{w:World}{ops:List Oper}{o:Oper}(h:Sim N w0 M0 β st a w)(hg:gOk ops st o):Region.wanted o (yielded ops.toArray a.tmps)=true:=by
 unfold gOk at hg;cases hgd:o.guard with
 | none=>simp[Region.wanted,hgd]
 | some p=>
  obtain⟨j,want⟩:=p;rw[hgd]at hg;simp[Region.wanted,hgd,jdq h hg]
def spO(G:Ctx)(kp:Bool)(ops:List Oper)(K:St->Prop):OT->Rows->St->Prop
 | .fin,_,st=>K st
 | .none,_,_=>True
 | .alt i s r,Rs,st=>(match ops[i]? with
  | some o=>gOk ops st o/\spN G st o fun av R'=>(∀k x,look (if(isStZ o&& !kp)=true then []else Rs) k=some x->look R' k=some x)/\spO G kp ops K s (if(isStZ o&& !kp)=true then []else Rs) ((⟨st.fr,R',st.toks⟩:St).put o.dst av)
  | none=>False)/\spO G kp ops K r Rs st
theorem okT_nil{ops:Array Oper}{t:OT}(h:okT ops t []=true):t= .fin:=by
 cases t with
 | fin=>rfl
 | none=>cases h
 | alt i s r=>cases h
theorem okT_head{ops:Array Oper}{t:OT}{rem:List Nat}{i:Nat}(h:okT ops t rem=true)(hi:i∈rem)(hw:∀j∈rem,jj2 ops 3 i j=false):i∈t.heads:=by
 unfold okT OT.cov at h;rw[zC,zC]at h;have:=List.all_eq_true.1 h.1.2 i hi;rw[qJ]at this;rcases this with h | h
 ·simpa using h
 ·obtain⟨j,hj,e⟩:=jb.1 h;rw[hw j hj]at e;cases e
theorem jnv{G:Ctx}{kp:Bool}{ops:List Oper}{K:St->Prop}{Rs:Rows}{st:St}{rem:List Nat}{i:Nat}:∀{t:OT},t.ok ops.toArray rem=true->i∈t.heads->spO G kp ops K t Rs st->
  ∃t2:OT,okT ops.toArray t2 (rem.filter (· !=i))=true/\match ops[i]? with
  | some o=>gOk ops st o/\spN G st o fun av R'=>(∀k x,look (if(isStZ o&& !kp)=true then []else Rs) k=some x->look R' k=some x)/\spO G kp ops K t2 (if(isStZ o&& !kp)=true then []else Rs) ((⟨st.fr,R',st.toks⟩:St).put o.dst av)
  | none=>False
 | .fin,_,hi,_=>by cases hi
 | .none,_,hi,_=>by cases hi
 | .alt j s r,h,hi,hs=>by
  rw[OT.ok,zC,zC]at h;rcases zU.1 hi with e | hi
  ·subst e;exact⟨s,by unfold okT;rw[h.1.1,h.1.2];rfl,hs.1⟩
  ·exact jnv h.2 hi hs.2
theorem spO_head{G:Ctx}{kp:Bool}{ops:List Oper}{K:St->Prop}{Rs:Rows}{st:St}{rem:List Nat}{i:Nat}{t:OT}(h:okT ops.toArray t rem=true)(hi:i∈t.heads)(hs:spO G kp ops K t Rs st):
  ∃t2:OT,okT ops.toArray t2 (rem.filter (· !=i))=true/\match ops[i]? with
  | some o=>gOk ops st o/\spN G st o fun av R'=>(∀k x,look (if(isStZ o&& !kp)=true then []else Rs) k=some x->look R' k=some x)/\spO G kp ops K t2 (if(isStZ o&& !kp)=true then []else Rs) ((⟨st.fr,R',st.toks⟩:St).put o.dst av)
  | none=>False:=jnv (by unfold okT at h;rw[zC]at h;exact h.2) hi hs
theorem spN_1{G:Ctx}{st:St}{o:Oper}{T:AV->Rows->Prop}(h:spN G st o T):spN1 G st o T:=by
 unfold spN at h;unfold spN1;split at h
 ·exact h
 ·exact h
 ·exact spZ_1 h
section
variable{G:Ctx}{kp:Bool}{N:Nat}{w0:Base}{w w':World}{M0:Nat->Nat->Prop}{β:Nat->Option Nat}{st st':St}{a:Act}{ops:List Oper}
theorem spN_congr{o:Oper}{T:AV->Rows->Prop}(h:∀t∈o.looksAt ops.toArray,st.get t=st'.get t)(hr:st.rows=st'.rows)(ht:st.toks=st'.toks)(hs:spN1 G st o T):spN1 G st' o T:=by
 have hx:∀x∈o.op.operands,evO st x=evO st' x:=fun x hx=>jgg fun t ht=>h t (jd9 hx ht);unfold spN1 at hs⊢;split at hs
 ·rw[<-hr];exact hs
 ·rename_i t l c ho;rw[ho]at hx;rw[<-hx l (by simp[Op.operands]),<-hx c (by simp[Op.operands]),<-hr];exact hs
 ·exact spZ_congr h hr ht hs
theorem spN_sound(hG:G.Good)(h:Sim N w0 M0 β st a w){o:Oper}{T:AV->Rows->Prop}(hd:∀d,o.dst=some d->d<N)(hA:spN1 G st o T){K':Act->World->Prop}{Q':Exit->Act->World->Prop}
  (hK:∀av R' β' a' w',T av R'->Sim N w0 M0 β' ((⟨st.fr,R',st.toks⟩:St).put o.dst av) a' w'->K' a' w'):o.wp G.P a w K' Q':=by
 unfold spN1 at hA;split at hA
 ·rename_i t ho;have haop:aop G o (fun st'=>∃av R',st'=(⟨st.fr,R',st.toks⟩:St).put o.dst av/\T av R') st:=by
   unfold aop;rw[ho];dsimp only;split at hA
   ·rename_i d z h1 h2;rw[h1,h2];dsimp only;rw[zm hA.1];exact fun b hb=>⟨_,_,rfl,hA.2 b hb⟩
   ·exact hA.elim
  refine je8 hG h hd haop ?_;rintro st' β' a' w' ⟨av,R',rfl,hT⟩ hs;exact hK av R' β' a' w' hT hs
 ·rename_i t l c ho;have haop:aop G o (fun st'=>∃av R',st'=(⟨st.fr,R',st.toks⟩:St).put o.dst av/\T av R') st:=by
   unfold aop;rw[ho];dsimp only;split at hA
   ·rename_i d h1;rw[h1];unfold spMk at hA;unfold aMake;split at hA
    ·rename_i k n k' m h2 h3;rw[h2,h3];dsimp only;split at hA
     ·rename_i e h4;rw[h4];dsimp only;split at hA
      ·rename_i z h5;rw[h5];obtain⟨a1,a2,a3,a4,a5,a6,a7⟩:=hA;refine⟨a2,a3,a4,a5,a6,?_⟩;rw[zm a1];exact fun b hb=>⟨_,_,rfl,a7 b hb⟩
      ·exact hA.elim
     ·exact hA.elim
    ·exact hA.elim
   ·exact hA.elim
  refine je8 hG h hd haop ?_;rintro st' β' a' w' ⟨av,R',rfl,hT⟩ hs;exact hK av R' β' a' w' hT hs
 ·exact spZ_sound hG h hd hA hK
theorem draw_soundN(hG:G.Good)(id:Nat)(m:List Bool)(t0:OT)(Rs:Rows)(hX:drawN ops.toArray m=true)(hZ:(kp || stZ ops.toArray m)=true)(hT0:okT ops.toArray t0 ((List.range m.length).filter fun i=>m.getD i false)=true)(hd0:∀o∈ops,∀d,o.dst=some d->d<N){K:St->Prop}{Q':Exit->Act->World->Prop}
  (hK:∀st' β' a' w',K st'->Sim N w0 M0 β' st' a' w'->Q' .normal a' w') (h:Sim N w0 M0 β st a w) (hRs:∀k x,look Rs k=some x->look st.rows k=some x)
  (hA:jfi G ops (fun s=>spO G kp ops (fun s'=>alist G ops K (ops.drop m.length) s') t0 Rs ⟨s.fr,st.rows,s.toks⟩) m ops ⟨st.fr,Rs,st.toks⟩):(Code.region id ops.toArray true).wp G.P Q' a w:=by
 rw[drawN,zC]at hX;obtain⟨hB,hS⟩:=hX;simp only[drawB,zC,zT,qJ,yQ]at hB;obtain⟨⟨⟨⟨hn,hafter⟩,hpair⟩,htail⟩,hseq⟩:=hB;have hsz:ops.toArray.size=ops.length:=by simp
 have hnl:m.length<=ops.length:=by rw[<-hsz];exact hn
 obtain⟨res0,hres,hfin⟩:=jit m ops _ hnl hA;generalize hmn:m.length=n at*;have htake:∀i,i<n->(ops.take n)[i]? =ops[i]? :=fun i hi=>by rw[qe,zm hi]
 have hlt:∀i o,(ops.take n)[i]? =some o->i<n/\ops[i]? =some o:=fun i o hi=>by
  rw[qe]at hi;split at hi
  ·exact⟨‹_›,hi⟩
  ·cases hi
 have arr:∀(i:Nat) (o:Oper),ops[i]? =some o->ops.toArray[i]? =some o:=fun i o h=>by simpa using h
 have hpair':∀i j oi oj,i<j->j<n->ops[i]? =some oi->ops[j]? =some oj->Region.waitsFor .any ops.toArray j i=true\/oi.apart ops.toArray oj=true:=by
  intro i j oi oj hij hj h1 h2;have:=List.all_eq_true.1 (List.all_eq_true.1 hpair j (qg.2 hj)) i (qg.2 hij);rw[arr i oi h1,arr j oj h2]at this
  simpa using this
 have hfree:∀i j oi oj,i<j->j<n->m.getD i false=true->m.getD j false=false->ops[i]? =some oi->ops[j]? =some oj->oi.apart ops.toArray oj=true:=by
  intro i j oi oj hij hj h1 h2 h3 h4;have:=List.all_eq_true.1 (List.all_eq_true.1 hS j (qg.2 hj)) i (qg.2 hij);rw[h1,h2,arr i oi h3,arr j oj h4]at this
  simpa using this
 have hstZ:∀(i j:Nat) oi oj,i<n->j<n->m.getD i false=true->m.getD j false=false->ops[i]? =some oi->ops[j]? =some oj->kp=false->isStZ oi=true->jff oj=true->Region.waitsFor .any ops.toArray i j=true:=by
  intro i j oi oj hi hj h1 h2 h3 h4 hkp h5 h6;rw[hkp,yO]at hZ;unfold stZ at hZ;rw[hmn]at hZ;have:=List.all_eq_true.1 (List.all_eq_true.1 hZ i (qg.2 hi)) j (qg.2 hj);rw[h1,h2,arr i oi h3,arr j oj h4]at this
  simpa [h5,h6]using this
 have hafter':∀(j:Nat) oj,ops[j]? =some oj->∀e∈oj.after,Region.binds .any e=true->e.on<j:=by
  intro j oj hj e he hb;have hjl:j<ops.toArray.size:=by rw[hsz];exact(zt.1 hj).1
  have:=List.all_eq_true.1 hafter j (qg.2 hjl);rw[arr j oj hj]at this;have:=va.1 this e he
  simpa [hb]using this
 have main:∀c (listed:Array Bool) (a:Act) (w:World),cntB listed n=c->HeadInv .any ops.toArray n listed->
   (∃(res:Nat->AV) (β:Nat->Option Nat) (R Rs1:Rows) (s:St),(∀i,i<n->m.getD i false=false->res i=res0 i)/\Sim N w0 M0 β (stUp res (fun i=>listed.getD i false) (ops.take n) ⟨st.fr,R,st.toks⟩) a w/\
    ((∀k x,look Rs1 k=some x->look R k=some x)/\(Rs1=Rs\/∀(j:Nat) oj,j<n->m.getD j false=false->listed.getD j false=false->ops[j]? =some oj->jff oj=false))/\(∃t1:OT,okT ops.toArray t1 ((List.range n).filter (fun i=>m.getD i false&& !(listed.getD i false)))=true/\spO G kp ops (fun s'=>alist G ops K (ops.drop n) s') t1 Rs1 s)/\s.rows=R/\s.toks=st.toks/\
    ∀t,s.get t=(stUp res (fun i=>hd m i || listed.getD i false) (ops.take n) ⟨st.fr,R,st.toks⟩).get t)->wpAny G.P .any ops.toArray Q' (c+(ops.toArray.size-n)) listed a w:=by
  intro c
  induction c with
  | zero=>
   rintro listed a w hc inv ⟨res,β,R,Rs1,s,hr0,hs,⟨hsub,hnl⟩,hsp,hsr,hst,hsg⟩;rw[qE];have hall:=jgm hc;have hcan:listed=ji3 n ops.toArray.size:=by
    apply Array.ext
    ·rw[inv.size];simp[ji3]
    ·intro i h1 h2;have hil:i<ops.length:=by rw[inv.size]at h1;simpa using h1
     by_cases hin:i<n
     ·have:=hall i hin;have e1:listed[i]=true:=by simpa [h1]using this
      rw[e1];simp[ji3,hin]
     ·have:=inv.tail i (by omega) (by rw[inv.size]at h1;exact h1);have e1:listed[i]=false:=by simpa [h1]using this
      rw[e1];simp[ji3,hin]
   have hrem:(List.range n).filter (fun i=>m.getD i false&& !(listed.getD i false))=[]:=List.filter_eq_nil_iff.2 fun k hk=>by
    rw[hall k (qg.1 hk)];simp
   obtain⟨t1,ht1,hsp⟩:=hsp;rw[hrem]at ht1;have:=okT_nil ht1;subst this;have hs':Sim N w0 M0 β s a w:=by
    refine hs.congr (fun t=> ?_) ?_ ?_
    ·rw[hsg];exact jcj _ _ _ _ _ _ rfl fun i o hi _=>by rw[hall i (hlt i o hi).1];simp
    ·rw[(jae _ _ _ _).1,hsr]
    ·rw[(jae _ _ _ _).2,hst]
   have hlist:=jfz hG hK (ops.drop n) _ β a w (fun o ho=>hd0 o (yq ho)) hsp hs';have hdl:(ops.drop n).length=ops.toArray.size-n:=by simp
   have:=wpAny_of_seq (P:=G.P) (md:= .any) (Q':=Q') (ops.drop n) n listed a w (fun j=>by simp[qN]) (by rw[hcan,hdl];exact hseq) hlist
   rwa [hdl]at this
  | succ c ih=>
   rintro listed a w hc inv ⟨res,β,R,Rs1,s,hr0,hs,⟨hsub,hnl⟩,hsp,hsr,hst,hsg⟩;obtain⟨i0,hi0,hun0,hmin⟩:=jjk (by omega:cntB listed n≠0);have hL:∀i,i<n->(listed.getD i true=false↔listed.getD i false=false):=fun i hi=>by
    have:i<listed.size:=by rw[inv.size];omega
    simp[this]
   have hready0:i0∈Region.ready .any ops.toArray listed:=by
    have hil:i0<ops.length:=by rw[<-hsz];omega
    refine mem_ready.2 ⟨(hL i0 hi0).2 hun0,ops[i0],arr i0 _ (ze hil),fun e he hb=>hmin _ (hafter' i0 _ (ze hil) e he hb)⟩
   have hgoal:(Region.ready .any ops.toArray listed=[]->Q' .normal a w)/\∀i∈Region.ready .any ops.toArray listed,wpOp G.P ops.toArray Q' i (wpAny G.P .any ops.toArray Q' (c+(ops.toArray.size-n)) (listed.setIfInBounds i true)) a w:=by
    refine⟨fun hr=>(by rw[hr]at hready0;cases hready0),fun i hi=> ?_⟩;obtain⟨hun,oi,hoi,hall⟩:=mem_ready.1 hi;have hoi':ops[i]? =some oi:=by simpa using hoi
    have hisz:i<ops.toArray.size:=(zE.1 hoi).1;have hin:i<n:=by
     rcases zW i n with h' | h'
     ·exact h'
     ·rcases htail with e | ⟨hsink,hchain⟩
      ·omega
      ·exact absurd hi (tail_waits hsink hchain (by omega) inv _ i0 rfl hi0 ((hL i0 hi0).2 hun0) i h')
    have hunf:listed.getD i false=false:=(hL i hin).1 hun;have hwait:∀k,Region.waitsFor .any ops.toArray i k=true->listed.getD k false=true:=fun k hk=>by
     obtain⟨oj,hoj,e,he,hb,hon⟩:=Region.waitsFor_spec hk;rw[hoi]at hoj;cases hoj;rw[<-hon];exact hall e he hb
    have hwaitT:∀k,jj2 ops.toArray 3 i k=true->listed.getD k false=true:=fun k hk=>by
     rw[jj2,qJ]at hk;rcases hk with h | h
     ·exact hwait k h
     ·obtain⟨l,_,h2⟩:=jb.1 h;rw[zC]at h2;refine waitsT_listed inv (fun j i hw hl=> ?_) 2 l k h2.2 (hwait l h2.1);obtain⟨oj,hoj,e,he,hb,hon⟩:=Region.waitsFor_spec hw;rw[<-hon];exact inv.closed j oj hoj hl e he hb
    have hlate:∀k,Region.waitsFor .any ops.toArray k i=true->listed.getD k false=false:=fun k hk=>by
     obtain⟨ok,hok,e,he,hb,hon⟩:=Region.waitsFor_spec hk;cases hl:listed.getD k false with
     | false=>rfl
     | true=>
      have:=inv.closed k ok hok hl e he hb;rw[hon,hunf]at this;cases this
    have hisL:i<listed.size:=by rw[inv.size];exact hisz
    have hcnt:cntB (listed.setIfInBounds i true) n=c:=by
     have:=jjj hisL hunf n;rw[zm hin]at this;omega
    have hset:∀k,k≠i->(listed.setIfInBounds i true).getD k false=listed.getD k false:=fun k hk=>getD_set_ne false (zF hk);have hseti:(listed.setIfInBounds i true).getD i false=true:=by simp[hisL]
    have hlast:∀(t:Nat),oi.dst=some t->∀k ok,i<k->(ops.take n)[k]? =some ok->listed.getD k false=true->ok.dst≠some t:=by
     intro t hdt k ok hik hk hLk hdk;obtain⟨hkn,hok⟩:=hlt k ok hk;rcases hpair' i k oi ok hik hkn hoi' hok with hw | hap
     ·rw[hlate k hw]at hLk;cases hLk
     ·exact(Oper.apart_spec hap).2.1 t hdt hdk
    cases hmi:m.getD i false with
    | false=>
     have hhd:hd m i=true:=by unfold hd;rw[hmi];rfl
     have hagree:∀t∈oi.looksAt ops.toArray,(stUp res0 (fun k=>hd m k&&decide (k<i)) ops ⟨st.fr,R,st.toks⟩).get t=(stUp res (fun k=>listed.getD k false) (ops.take n) ⟨st.fr,R,st.toks⟩).get t:=by
      intro t ht;have e1:(stUp res0 (fun k=>hd m k&&decide (k<i)) ops ⟨st.fr,R,st.toks⟩).get t=(stUp res0 (fun k=>hd m k&&decide (k<i)) (ops.take n) ⟨st.fr,R,st.toks⟩).get t:=by
       have:∀(l:List Oper) (r:Nat->AV) (L:Nat->Bool) (n:Nat) (s:St),(∀k,n<=k->L k=false)->(stUp r L l s).get t=(stUp r L (l.take n) s).get t:=by
        intro l
        induction l with
        | nil=>intros;simp
        | cons o l ih=>
         intro r L n s hk;cases n with
         | zero=>
          have hf:∀(l:List Oper) (res:Nat->AV) (L:Nat->Bool) (st:St),(∀i,L i=false)->stUp res L l st=st:=by
           intro l
           induction l with
           | nil=>intros;rfl
           | cons o l ih=>
            intro res L st hL;simp only[stUp,hL 0];exact ih _ _ _ fun i=>hL (i+1)
          rw[hf _ _ _ _ fun i=>hk i (zH _)];rfl
         | succ n=>exact ih _ _ n _ fun k hk'=>hk (k+1) (by omega)
       exact this _ _ _ _ _ fun k hk=>by simp;omega
      rw[e1];refine jhn _ _ _ _ _ _ _ rfl fun k ok hk hdk=> ?_;obtain⟨hkn,hok⟩:=hlt k ok hk;cases hmk:m.getD k false with
      | true=>
       have hap:ok.apart ops.toArray oi=true\/oi.apart ops.toArray ok=true\/listed.getD k false=false:=by
        rcases q7 k i with hki | hki | hki
        ·exact .inl (hfree k i ok oi hki hin hmk hmi hok hoi')
        ·subst hki;rw[hmi]at hmk;cases hmk
        ·rcases hpair' i k oi ok hki hkn hoi' hok with hw | hap
         ·exact .inr (.inr (hlate k hw))
         ·exact .inr (.inl hap)
       have hh:hd m k=false:=by unfold hd;rw[hmk];rfl
       rcases hap with hap | hap | hap
       ·exact absurd ht ((Oper.apart_spec hap).1 t hdk)
       ·exact absurd ht ((Oper.apart_spec hap).2.2 t hdk)
       ·rw[hh,hap];simp
      | false=>
       have hh:hd m k=true:=by unfold hd;rw[hmk];rfl
       refine⟨?_,fun _=>(hr0 k hkn hmk).symm⟩;rw[hh];rcases q7 k i with hki | hki | hki
       ·rcases hpair' k i ok oi hki hin hok hoi' with hw | hap
        ·rw[hwait k hw];simp[hki]
        ·exact absurd ht ((Oper.apart_spec hap).1 t hdk)
       ·subst hki;rw[hunf];simp
       ·rcases hpair' i k oi ok hki hkn hoi' hok with hw | hap
        ·rw[hlate k hw];simp;omega
        ·exact absurd ht ((Oper.apart_spec hap).2.2 t hdk)
     have hq0:=hres i oi (by omega) hmi hoi';have hq1:qStep G ops (stUp res0 (fun k=>hd m k&&decide (k<i)) ops ⟨st.fr,R,st.toks⟩) oi (res0 i):=by
      have:=jls (r:=R) (hnl.elim (fun e=> .inr fun d x hx=>hsub d x (by rw[e];rwa [(jae _ _ _ _).1]at hx)) (fun hh=> .inl (hh i oi hin hmi hunf hoi'))) hq0;refine jfs (fun t _=> ?_) ?_ ?_ this
      ·show(stUp res0 (fun k=>hd m k&&decide (k<i)) ops ⟨st.fr,Rs,st.toks⟩).get t=_;exact jcj _ _ _ _ _ _ rfl fun _ _ _ _=>rfl
      ·show R=_;rw[(jae _ _ _ _).1]
      ·show(stUp res0 (fun k=>hd m k&&decide (k<i)) ops ⟨st.fr,Rs,st.toks⟩).toks=_;rw[(jae _ _ _ _).2,(jae _ _ _ _).2]
     have hq:qStep G ops (stUp res (fun k=>listed.getD k false) (ops.take n) ⟨st.fr,R,st.toks⟩) oi (res i):=by
      rw[hr0 i hin hmi];exact jfs hagree (by rw[(jae _ _ _ _).1,(jae _ _ _ _).1]) (by rw[(jae _ _ _ _).2,(jae _ _ _ _).2]) hq1
     have next:∀v w2,Below w.heap.size w w2->RepA w2 (Mo M0 β (stUp res (fun k=>listed.getD k false) (ops.take n) ⟨st.fr,R,st.toks⟩)) β (stUp res (fun k=>listed.getD k false) (ops.take n) ⟨st.fr,R,st.toks⟩).toks (res i) v->
       wpAny G.P .any ops.toArray Q' (c+(ops.toArray.size-n)) (listed.setIfInBounds i true) (a.put oi.dst v) w2:=by
      intro v w2 hb hv;have hs2:=(hs.ext hb).put (dst:=oi.dst) (hd0 oi (zr hoi')) hv;refine ih _ _ _ hcnt (inv.set hi hin) ⟨res,β,R,Rs1,s,hr0,hs2.congr (fun t=> ?_) ?_ ?_,⟨hsub,hnl.imp (fun e=>e) fun hh j oj hj hmj hlj hoj=>hh j oj hj hmj (by
       by_cases e:j=i
       ·subst e;exact hunf
       ·rw[hset j e]at hlj;exact hlj) hoj⟩,?_,hsr,hst,fun t=> ?_⟩
      ·by_cases hdt:oi.dst=some t
       ·rw[hdt,jc3];refine(jfc (ops.take n) res _ _ i oi (by rw[htake i hin];exact hoi') hdt hseti fun k ok hik hk hLk=> ?_).symm;rw[hset k (by omega)]at hLk;exact hlast t hdt k ok hik hk hLk
       ·rw[jdt hdt];refine jcj _ _ _ _ _ _ rfl fun k ok hk hdk=> ?_;have:k≠i:=fun e=>by
         subst e;obtain⟨_,hok⟩:=hlt k ok hk;rw[hoi']at hok;cases hok;exact hdt hdk
        exact(hset k this).symm
      ·rw[show((stUp res (fun k=>listed.getD k false) (ops.take n) ⟨st.fr,R,st.toks⟩).put oi.dst (res i)).rows=(stUp res (fun k=>listed.getD k false) (ops.take n) ⟨st.fr,R,st.toks⟩).rows by unfold St.put;split<;>rfl,(jae _ _ _ _).1,(jae _ _ _ _).1]
      ·rw[show((stUp res (fun k=>listed.getD k false) (ops.take n) ⟨st.fr,R,st.toks⟩).put oi.dst (res i)).toks=(stUp res (fun k=>listed.getD k false) (ops.take n) ⟨st.fr,R,st.toks⟩).toks by unfold St.put;split<;>rfl,(jae _ _ _ _).2,(jae _ _ _ _).2]
      ·have e:(fun k=>m.getD k false&& !((listed.setIfInBounds i true).getD k false))=fun k=>m.getD k false&& !(listed.getD k false):=by
        funext k;by_cases hk:k=i
        ·subst hk;rw[hmi];rfl
        ·rw[hset k hk]
       rw[e];exact hsp
      ·rw[hsg];refine jcj _ _ _ _ _ _ rfl fun k ok hk hdk=> ?_;by_cases hk:k=i
       ·subst hk;rw[hhd];rfl
       ·rw[hset k hk]
     unfold wpOp;rw[hoi];dsimp only;unfold qStep at hq;cases hg:oi.guard with
     | none=>
      rw[hg]at hq;rw[zm (by simp[Region.wanted,hg])];exact .inl (jds hG hs hq next)
     | some p=>
      obtain⟨j,want⟩:=p;rw[hg]at hq;dsimp only at hq;split at hq
      ·rename_i b hy;have hyc:=jdq hs hy;by_cases hb:b=want
       ·rw[zm hb]at hq;rw[zm (by simp[Region.wanted,hg,hyc,hb])];exact .inl (jds hG hs hq next)
       ·rw[zn hb]at hq;rw[zn (by simp[Region.wanted,hg,hyc,hb])];exact next _ w (Below.refl _ _) (by rw[hq];exact Rep.sc _ rfl)
      ·rename_i hy;have hyc:=jem hs hy;rw[zn (by simp[Region.wanted,hg,hyc])];exact next _ w (Below.refl _ _) (by rw[hq];exact Rep.sc _ rfl)
      ·exact hq.elim
    | true=>
     obtain⟨t1,ht1,hsp⟩:=hsp;have hmem:i∈(List.range n).filter (fun k=>m.getD k false&& !(listed.getD k false)):=List.mem_filter.2 ⟨qg.2 hin,by rw[hmi,hunf];rfl⟩;obtain⟨t2,ht2,hsp⟩:=spO_head ht1 (okT_head ht1 hmem fun j hj=>by
      have:=(List.mem_filter.1 hj).2;cases hw:jj2 ops.toArray 3 i j with
      | false=>rfl
      | true=>rw[hwaitT j hw]at this;simp at this) hsp
     rw[hoi']at hsp;obtain⟨hg,hsp⟩:=hsp;have ht2':okT ops.toArray t2 ((List.range n).filter (fun k=>m.getD k false&& !((listed.setIfInBounds i true).getD k false)))=true:=by
      refine Eq.trans ?_ ht2;rw[List.filter_filter];congr 1;refine List.filter_congr fun k _=> ?_;by_cases hk:k=i
      ·subst hk;rw[hseti];simp
      ·rw[hset k hk];simp[hk]
     have hagree:∀t∈oi.looksAt ops.toArray,s.get t=(stUp res (fun k=>listed.getD k false) (ops.take n) ⟨st.fr,R,st.toks⟩).get t:=by
      intro t ht;rw[hsg];refine jcj _ _ _ _ _ _ rfl fun k ok hk hdk=> ?_;obtain⟨hkn,hok⟩:=hlt k ok hk;cases hmk:m.getD k false with
      | true=>
       have hh:hd m k=false:=by unfold hd;rw[hmk];rfl
       rw[hh];rfl
      | false=>
       rcases q7 k i with hki | hki | hki
       ·rcases hpair' k i ok oi hki hin hok hoi' with hw | hap
        ·rw[hwait k hw];simp
        ·exact absurd ht ((Oper.apart_spec hap).1 t hdk)
       ·subst hki;rw[hmi]at hmk;cases hmk
       ·exact absurd ht ((Oper.apart_spec (hfree i k oi ok hki hkn hmi hmk hoi' hok)).2.2 t hdk)
     have hsp':=spN_congr hagree (by rw[hsr,(jae _ _ _ _).1]) (by rw[hst,(jae _ _ _ _).2]) (spN_1 hsp);have hgw:=gOk_wanted hs (gOk_congr hagree hg);unfold wpOp;rw[hoi];dsimp only;rw[zm hgw];refine .inl (spN_sound hG hs (hd0 oi (zr hoi')) hsp' fun av R' β' a' w' ⟨hT1,hT2⟩ hs2=> ?_);refine ih _ _ _ hcnt (inv.set hi hin) ⟨fun k=>if k=i then av else res k,β',R',_,_,fun k hk hmk=> ?_,hs2.congr (fun t=> ?_) ?_ ?_,⟨hT1,?_⟩,⟨t2,ht2',hT2⟩,?_,?_,fun t=> ?_⟩
     ·show(if k=i then av else res k)=res0 k;rw[zn (fun e=>by subst e;rw[hmi]at hmk;cases hmk)];exact hr0 k hk hmk
     ·by_cases hdt:oi.dst=some t
      ·rw[hdt,jc3];have:=jfc (ops.take n) (fun k=>if k=i then av else res k) (fun k=>(listed.setIfInBounds i true).getD k false) ⟨st.fr,R',st.toks⟩ i oi (by rw[htake i hin];exact hoi') hdt hseti fun k ok hik hk hLk=>by
        rw[hset k (by omega)]at hLk;exact hlast t hdt k ok hik hk hLk
       rw[this,zm rfl]
      ·rw[jdt hdt];have e1:(⟨(stUp res (fun k=>listed.getD k false) (ops.take n) ⟨st.fr,R,st.toks⟩).fr,R',(stUp res (fun k=>listed.getD k false) (ops.take n) ⟨st.fr,R,st.toks⟩).toks⟩:St).get t=(stUp res (fun k=>listed.getD k false) (ops.take n) ⟨st.fr,R,st.toks⟩).get t:=rfl;rw[e1];refine jhn _ _ _ _ _ _ _ rfl fun k ok hk hdk=> ?_;have hki:k≠i:=fun e=>by
        subst e;obtain⟨_,hok⟩:=hlt k ok hk;rw[hoi']at hok;cases hok;exact hdt hdk
       exact⟨(hset k hki).symm,fun _=>(zn hki).symm⟩
     ·rw[show ∀(x:St),(x.put oi.dst av).rows=x.rows from fun x=>by unfold St.put;split<;>rfl,(jae _ _ _ _).1]
     ·rw[show ∀(x:St),(x.put oi.dst av).toks=x.toks from fun x=>by unfold St.put;split<;>rfl];show(stUp _ _ _ _).toks=(stUp _ _ _ _).toks;rw[(jae _ _ _ _).2,(jae _ _ _ _).2]
     ·cases hio:(isStZ oi&& !kp)with
      | false=>
       rw[zn (by decide)];exact hnl.imp (fun e=>e) fun hh j oj hj hmj hlj hoj=>hh j oj hj hmj (by
        by_cases e:j=i
        ·subst e;exact hunf
        ·rw[hset j e]at hlj;exact hlj) hoj
      | true=>
       rw[zC,yK]at hio;refine .inr fun j oj hj hmj hlj hoj=> ?_;cases hld:jff oj with
       | false=>rfl
       | true=>
        have hji:j≠i:=fun e=>by subst e;rw[hmi]at hmj;cases hmj
        have:=hwait j (hstZ i j oi oj hin hj hmi hmj hoi' hoj hio.2 hio.1 hld);rw[hset j hji,this]at hlj;cases hlj
     ·unfold St.put;split<;>rfl
     ·rw[show ∀(x:St),(x.put oi.dst av).toks=x.toks from fun x=>by unfold St.put;split<;>rfl];exact hst
     ·by_cases hdt:oi.dst=some t
      ·rw[hdt,jc3];have:=jfc (ops.take n) (fun k=>if k=i then av else res k) (fun k=>hd m k || (listed.setIfInBounds i true).getD k false) ⟨st.fr,R',st.toks⟩ i oi (by rw[htake i hin];exact hoi') hdt (by rw[hseti];simp) fun k ok hik hk hLk hdk=>by
        obtain⟨hkn,hok⟩:=hlt k ok hk;cases hmk:m.getD k false with
        | true=>
         have hh:hd m k=false:=by unfold hd;rw[hmk];rfl
         rw[hh,yO,hset k (by omega)]at hLk;exact hlast t hdt k ok hik hk hLk hdk
        | false=>exact(Oper.apart_spec (hfree i k oi ok hik hkn hmi hmk hoi' hok)).2.1 t hdt hdk
       rw[this,zm rfl]
      ·rw[jdt hdt];have e1:(⟨s.fr,R',s.toks⟩:St).get t=s.get t:=rfl;rw[e1,hsg];refine jhn _ _ _ _ _ _ _ rfl fun k ok hk hdk=> ?_;have hki:k≠i:=fun e=>by
        subst e;obtain⟨_,hok⟩:=hlt k ok hk;rw[hoi']at hok;cases hok;exact hdt hdk
       exact⟨by rw[hset k hki],fun _=>(zn hki).symm⟩
   have:c+1+(ops.toArray.size-n)=(c+(ops.toArray.size-n))+1:=by omega
   rw[this];exact hgoal
 refine wp_region_any hG.mixed ?_;have inv0:HeadInv .any ops.toArray n (Array.replicate ops.toArray.size false):=
  ⟨by simp,fun j oj _ hl=>(by rw[getD_replicate_false]at hl;cases hl),fun t _ ht=>getD_in (by simpa using ht) (getD_replicate_false _ _)⟩
 have hc0:∀k,cntB (Array.replicate ops.toArray.size false) k=k:=fun k=>by
  induction k with
  | zero=>rfl
  | succ k ihk=>simp only[cntB,ihk,getD_replicate_false];simp
 have hf:∀(l:List Oper) (res:Nat->AV) (L:Nat->Bool) (st:St),(∀i,L i=false)->stUp res L l st=st:=by
  intro l
  induction l with
  | nil=>intros;rfl
  | cons o l ih=>
   intro res L st hL;simp only[stUp,hL 0];exact ih _ _ _ fun i=>hL (i+1)
 have:=main n (Array.replicate ops.toArray.size false) a _ (hc0 n) inv0 ⟨res0,β,st.rows,Rs,⟨(stUp res0 (hd m) (ops.take n) ⟨st.fr,Rs,st.toks⟩).fr,st.rows,(stUp res0 (hd m) (ops.take n) ⟨st.fr,Rs,st.toks⟩).toks⟩,fun _ _ _=>rfl,h.drew.congr (fun t=>by
  rw[hf _ _ _ _ fun i=>getD_replicate_false _ _]) (jae _ _ _ _).1.symm (jae _ _ _ _).2.symm,⟨hRs,.inl rfl⟩,(by
   refine⟨t0,?_,hfin⟩;have e:(fun i=>m.getD i false&& !((Array.replicate ops.toArray.size false).getD i false))=fun i=>m.getD i false:=by
    funext i;rw[getD_replicate_false];simp
   rw[e];exact hT0),rfl,(jae _ _ _ _).2,fun t=>by
   show(stUp res0 (hd m) (ops.take n) ⟨st.fr,Rs,st.toks⟩).get t=_;exact jcj _ _ _ _ _ _ rfl fun k _ _ _=>by rw[getD_replicate_false];simp⟩
 rwa [show n+(ops.toArray.size-n)=ops.toArray.size by omega]at this
end
section
variable{G:Ctx}{kp:Bool}
def spOL(G:Ctx)(kp:Bool)(ops:List Oper)(K:St->Prop)(l:List Oper)(t:OT)(Rs:Rows)(st:St):Prop:=spO G kp ops (fun s=>alist G ops K l s) t Rs st
def jev(G:Ctx)(kp:Bool)(ops:List Oper)(K:St->Prop)(R0 Rs:Rows)(t:OT)(m:List Bool)(l:List Oper)(st:St):Prop:=
 jfi G ops (fun s=>spOL G kp ops K (l.drop m.length) t Rs ⟨s.fr,R0,s.toks⟩) m l st
theorem jr9{ops:List Oper}{Q:Exit->St->Prop}{st:St}(m:List Bool)(t:OT)(Rs:Rows)(h:(drawN ops.toArray m&&stZ ops.toArray m&&okT ops.toArray t ((List.range m.length).filter fun i=>m.getD i false))=true)(hs:SubR Rs st.rows)
  (hA:jev G false ops (Q .normal) st.rows Rs t m ops ⟨st.fr,Rs,st.toks⟩): @DrawP G ⟨ops⟩ ⟨Q⟩ st:=by
 rw[zC,zC]at h;exact DrawSem_of fun N w0 M0 β a w id Q' hG hd hK hsim=>draw_soundN (kp:=false) hG id m t Rs h.1.1 h.1.2 h.2 hd hK hsim hs hA
theorem aheadTN_nil(ops:List Oper)(K:St->Prop)(R0 Rs:Rows)(t:OT)(l:List Oper)(st:St):jev G kp ops K R0 Rs t [] l st=spOL G kp ops K l t Rs ⟨st.fr,R0,st.toks⟩:=by
 unfold jev jfi;simp
theorem aheadTN_true(ops:List Oper)(K:St->Prop)(R0 Rs:Rows)(t:OT)(m:List Bool)(o:Oper)(l:List Oper)(st:St):
  jev G kp ops K R0 Rs t (true::m) (o::l) st=jev G kp ops K R0 Rs t m l st:=by
 simp only[jev,List.length_cons,zJ]
 conv=>lhs;unfold jfi
theorem aheadTN_free(ops:List Oper)(K:St->Prop)(R0 Rs:Rows)(t:OT)(m:List Bool)(dst:Option Tmp)(op:Op)(ty:TypeId)(pos:String)(af:Array Edge)(r:List Oper)(st:St):
  jev G kp ops K R0 Rs t (false::m) (⟨dst,op,ty,pos,af,.none⟩::r) st=aq G st ⟨dst,op,ty,pos,af,.none⟩ (fun av=>jev G kp ops K R0 Rs t m r (st.put dst av)):=by
 simp only[jev,List.length_cons,zJ]
 conv=>lhs;unfold jfi
def SpOne(G:Ctx)(kp:Bool)(ops:List Oper)(K:St->Prop)(l:List Oper)(o:Option Oper)(s:OT)(Rs:Rows)(st:St):Prop:=match o with
 | some o=>gOk ops st o/\spN G st o fun av R'=>(∀k x,look (if(isStZ o&& !kp)=true then []else Rs) k=some x->look R' k=some x)/\spOL G kp ops K l s (if(isStZ o&& !kp)=true then []else Rs) ((⟨st.fr,R',st.toks⟩:St).put o.dst av)
 | .none=>False
theorem spOL_fin(ops:List Oper)(K:St->Prop)(l:List Oper)(Rs:Rows)(st:St):spOL G kp ops K l .fin Rs st=alist G ops K l st:=propext ⟨fun h=>h,fun h=>h⟩
theorem spOL_one(ops:List Oper)(K:St->Prop)(l:List Oper)(i:Nat)(s:OT)(Rs:Rows)(st:St):spOL G kp ops K l (.alt i s .none) Rs st=SpOne G kp ops K l ops[i]? s Rs st:=propext ⟨fun h=>h.1,fun h=>⟨h,trivial⟩⟩
theorem spOL_alt(ops:List Oper)(K:St->Prop)(l:List Oper)(i j:Nat)(s r r':OT)(Rs:Rows)(st:St):spOL G kp ops K l (.alt i s (.alt j r r')) Rs st=(SpOne G kp ops K l ops[i]? s Rs st/\spOL G kp ops K l (.alt j r r') Rs st):=propext ⟨fun h=>h,fun h=>h⟩
def NewT(R:Rows)[T:Hold (Nat->Prop)]:Prop:=∀b,look R (hp b)=none->T.val b
theorem jpe{R:Rows}{T:Nat->Prop}(h:∀b,look R (hp b)=none->T b): @NewT R ⟨T⟩:=h
theorem SpOne_alloc(ops:List Oper)(K:St->Prop)(l:List Oper)(d:Tmp)(t:TypeId)(ty:TypeId)(pos:String)(af:Array Edge)(s:OT)(Rs:Rows)(st:St):
  SpOne G kp ops K l (some ⟨some d,.alloc t,ty,pos,af,.none⟩) s Rs st=Opt (jcq G t) (K:=⟨fun z=>G.perm.contains d=true/\NewT st.rows (T:=⟨fun b=>SubR Rs ((hp b,z.length,[z])::st.rows)/\spOL G kp ops K l s Rs ((⟨st.fr,(hp b,z.length,[z])::st.rows,st.toks⟩:St).put (some d) (.loc (hp b) z.length 0 0))⟩)⟩):=by
 unfold SpOne spN Opt;dsimp only;cases jcq G t with
 | none=>exact propext ⟨fun h=>h.2,fun h=>h.elim⟩
 | some z=>exact propext ⟨fun h=>h.2,fun h=>⟨trivial,h⟩⟩
theorem SpOne_call(ops:List Oper)(K:St->Prop)(l:List Oper)(dst:Option Tmp)(f:Operand)(azz:Array Operand)(ts:Array TypeId)(ty:TypeId)(pos:String)(af:Array Edge)(s:OT)(Rs:Rows)(st:St):
  SpOne G kp ops K l (some ⟨dst,.call ⟨.value f,azz,ts⟩,ty,pos,af,.none⟩) s Rs st=SpCall G (evO st f) (azz.toList.map (evO st)) st.rows (T:=⟨fun av R'=>SubR Rs R'/\spOL G kp ops K l s Rs ((⟨st.fr,R',st.toks⟩:St).put dst av)⟩):=
 propext ⟨fun h=>h.2,fun h=>⟨trivial,h⟩⟩
theorem SpOne_build(ops:List Oper)(K:St->Prop)(l:List Oper)(dst:Option Tmp)(t:TypeId)(fs:Array (Nat×Operand))(ty:TypeId)(pos:String)(af:Array Edge)(s:OT)(Rs:Rows)(st:St):
  SpOne G kp ops K l (some ⟨dst,.build t fs,ty,pos,af,.none⟩) s Rs st=aq G st ⟨dst,.build t fs,ty,pos,af,.none⟩ (fun av=>SubR Rs st.rows/\spOL G kp ops K l s Rs ((⟨st.fr,st.rows,st.toks⟩:St).put dst av)):=
 propext ⟨fun h=>h.2,fun h=>⟨trivial,h⟩⟩
end
attribute [go_sem ↓] aheadTN_nil aheadTN_true aheadTN_free spOL_fin spOL_one spOL_alt SpOne_alloc SpOne_call SpOne_build
end
section
section
variable{G:Ctx}{kp:Bool}
theorem SpOne_load(ops:List Oper)(K:St->Prop)(l:List Oper)(dst:Option Tmp)(t:TypeId)(p:Operand)(ty:TypeId)(pos:String)(af:Array Edge)(s:OT)(Rs:Rows)(st:St):
  SpOne G kp ops K l (some ⟨dst,.load t p,ty,pos,af,.none⟩) s Rs st=aq G st ⟨dst,.load t p,ty,pos,af,.none⟩ (fun av=>SubR Rs st.rows/\spOL G kp ops K l s Rs ((⟨st.fr,st.rows,st.toks⟩:St).put dst av)):=
 propext ⟨fun h=>h.2,fun h=>⟨trivial,h⟩⟩
theorem SpOne_fieldAddr(ops:List Oper)(K:St->Prop)(l:List Oper)(dst:Option Tmp)(t:TypeId)(p:Operand)(k:Nat)(ty:TypeId)(pos:String)(af:Array Edge)(s:OT)(Rs:Rows)(st:St):
  SpOne G kp ops K l (some ⟨dst,.fieldAddr t p k,ty,pos,af,.none⟩) s Rs st=aq G st ⟨dst,.fieldAddr t p k,ty,pos,af,.none⟩ (fun av=>SubR Rs st.rows/\spOL G kp ops K l s Rs ((⟨st.fr,st.rows,st.toks⟩:St).put dst av)):=
 propext ⟨fun h=>h.2,fun h=>⟨trivial,h⟩⟩
theorem SpOne_nilCheck(ops:List Oper)(K:St->Prop)(l:List Oper)(dst:Option Tmp)(p:Operand)(ty:TypeId)(pos:String)(af:Array Edge)(s:OT)(Rs:Rows)(st:St):
  SpOne G kp ops K l (some ⟨dst,.nilCheck p,ty,pos,af,.none⟩) s Rs st=aq G st ⟨dst,.nilCheck p,ty,pos,af,.none⟩ (fun av=>SubR Rs st.rows/\spOL G kp ops K l s Rs ((⟨st.fr,st.rows,st.toks⟩:St).put dst av)):=
 propext ⟨fun h=>h.2,fun h=>⟨trivial,h⟩⟩
theorem SpOne_store(ops:List Oper)(K:St->Prop)(l:List Oper)(t:TypeId)(p x:Operand)(ty:TypeId)(pos:String)(af:Array Edge)(s:OT)(Rs:Rows)(st:St):
  SpOne G false ops K l (some ⟨none,.store t p x,ty,pos,af,.none⟩) s Rs st=jp9 G t (evO st p) (evO st x) st.rows (T:=⟨fun R'=>spOL G false ops K l s [] ⟨st.fr,R',st.toks⟩⟩):=by
 apply propext;constructor
 ·intro h;have h2:=h.2;unfold spN spZ at h2;dsimp only at h2;exact jj3 h2 fun _ _ h=>h.2
 ·intro h;refine⟨trivial,?_⟩;unfold spN spZ;dsimp only;exact jj3 h fun _ _ h=>⟨(fun k x hk=>by cases hk),h⟩
end
attribute [go_sem ↓] SpOne_load SpOne_fieldAddr SpOne_nilCheck SpOne_store
end
section
def mIx:Nat->List Bool->List Nat
 | _,[]=>[]
 | k,true::m=>k::mIx (k+1) m
 | k,false::m=>mIx (k+1) m
def pathT:List Nat->OT
 | []=> .fin
 | i::r=> .alt i (pathT r) .none
def drawZ(ops:Array Oper)(m:List Bool):Bool:=drawN ops m&&okT ops (pathT (mIx 0 m)) ((List.range m.length).filter fun i=>m.getD i false)
section
variable{G:Ctx}{kp:Bool}
theorem jjo{ops:List Oper}{Q:Exit->St->Prop}{st:St}(m:List Bool)(Rs:Rows)(h:drawZ ops.toArray m=true)(hz:stZ ops.toArray m=true)(hs:SubR Rs st.rows)
  (hA:jev G false ops (Q .normal) st.rows Rs (pathT (mIx 0 m)) m ops ⟨st.fr,Rs,st.toks⟩): @DrawP G ⟨ops⟩ ⟨Q⟩ st:=by
 unfold drawZ at h;rw[zC]at h;exact jr9 m _ Rs (by rw[h.1,h.2,hz];rfl) hs hA
theorem jc7{ops:List Oper}{Q:Exit->St->Prop}{st:St}(m:List Bool)(Rs:Rows)(h:(drawZ ops.toArray m&&stZ ops.toArray m)=true)(hs:SubR Rs st.rows)
  (hA:jev G false ops (Q .normal) st.rows Rs (pathT (mIx 0 m)) m ops ⟨st.fr,Rs,st.toks⟩): @DrawP G ⟨ops⟩ ⟨Q⟩ st:=by
 rw[zC]at h;exact jjo m Rs h.1 h.2 hs hA
theorem mIx_nil(k:Nat):mIx k []=[]:=rfl
theorem mIx_true(k:Nat)(m:List Bool):mIx k (true::m)=k::mIx (k+1) m:=rfl
theorem mIx_false(k:Nat)(m:List Bool):mIx k (false::m)=mIx (k+1) m:=rfl
theorem pathT_nil:pathT []= .fin:=rfl
theorem pathT_cons(i:Nat)(r:List Nat):pathT (i::r)= .alt i (pathT r) .none:=rfl
variable(dst:Option Tmp)(ty:TypeId)(pos:String)(af:Array Edge)(gd:Option (Nat×Bool))(st:St)(ops:List Oper)(r:List Oper)
theorem SpOne_append(K:St->Prop)(l:List Oper)(d:Tmp)(azz:Array Operand)(ts:Array TypeId)(s2:OT)(Rs:Rows):
  SpOne G kp ops K l (some ⟨some d,.call ⟨.builtin .append,azz,ts⟩,ty,pos,af,.none⟩) s2 Rs st=match ts.toList,azz.toList with
   | [t,t'],[s,x]=>match(G.ti t).kind with
    | .sl e=>t=t'/\SpApp G d t e (evO st s) (jcd (evO st x)) st.rows (T:=⟨fun av R'=>SubR Rs R'/\spOL G kp ops K l s2 Rs ((⟨st.fr,R',st.toks⟩:St).put (some d) av)⟩)
    | _=>False
   | _,_=>False:=by
 apply propext;constructor
 ·intro h;have h:=h.2;unfold spN spZ at h;dsimp only at h;rw[zm (by rfl)]at h;unfold sp at h;dsimp only at h;split at h
  ·rename_i h1 h2 h3;cases h1;rw[h2,h3];exact h
  ·exact h.elim
 ·intro h;refine⟨trivial,?_⟩;unfold spN spZ;dsimp only;rw[zm (by rfl)];unfold sp;dsimp only;split at h
  ·rename_i h2 h3;rw[h2,h3];exact h
  ·exact h.elim
end
attribute [go_sem ↓] mIx_nil mIx_true mIx_false pathT_nil pathT_cons SpOne_append
end
end Go.Abs
namespace Go.LP
section
def cfU(ts:List (Nat×Rat)):Nat->Nat->Rat
 | 0,_=>0
 | i+1,k=>match ts[i]? with
  | some t=>if k=t.1 then t.2 else cfU ts i k
  | none=>cfU ts i k
def ngU(ts:List (Nat×Rat))(f:Nat->Rat):Nat->Nat->Rat
 | 0,k=>f k
 | i+1,k=>match ts[i]? with
  | some t=>if k=t.1 then-t.2 else ngU ts f i k
  | none=>ngU ts f i k
theorem cfU_succ{ts:List (Nat×Rat)}{i k:Nat}{t:Nat×Rat}(h:ts[i]? =some t):cfU ts (i+1) k=if k=t.1 then t.2 else cfU ts i k:=by rw[cfU,h]
theorem ngU_succ{ts:List (Nat×Rat)}{f:Nat->Rat}{i k:Nat}{t:Nat×Rat}(h:ts[i]? =some t):ngU ts f (i+1) k=if k=t.1 then-t.2 else ngU ts f i k:=by rw[ngU,h]
theorem cf_snoc{t:Nat×Rat}{k:Nat}:∀{ts:List (Nat×Rat)},(∀u∈ts,u.1≠t.1)->cf (ts++[t]) k=if k=t.1 then t.2 else cf ts k
 | [],_=>by simp only[List.nil_append,cf]
 | u::ts,h=>by
  rw[List.cons_append,cf,cf,cf_snoc fun v hv=>h v (qz _ hv)];have:=h u (zP ..);by_cases e:k=u.1
  ·subst e;rw[zm rfl,zn this,zm rfl]
  ·rw[zn e,zn e]
theorem RT.fresh:∀{ts:List (Nat×Rat)} {lo N i:Nat} {t:Nat×Rat},RT ts lo N->ts[i]? =some t->∀u∈ts.take i,u.1≠t.1
 | [],_,_,_,_,_,h,_,_=>by simp at h
 | v::ts,lo,N,0,t,h,ht,u,hu=>by rw[List.take_zero]at hu;cases hu
 | v::ts,lo,N,i+1,t,h,ht,u,hu=>by
  rw[List.getElem?_cons_succ]at ht;rw[List.take_succ_cons]at hu;rcases zU.1 hu with rfl | hu
  ·have:=RT.mem h.2.2.2 t (zr ht);omega
  ·exact RT.fresh h.2.2.2 ht u hu
theorem jqv{ts:List (Nat×Rat)}{lo N k:Nat}(h:RT ts lo N):∀i,i<=ts.length->cfU ts i k=cf (ts.take i) k
 | 0,_=>by rw[List.take_zero];rfl
 | i+1,hi=>by
  have hg:ts[i]? =some ts[i]:=ze (by omega);rw[cfU_succ hg,yW,hg,show(some ts[i]).toList=[ts[i]]from rfl,cf_snoc (h.fresh hg),jqv h i (by omega)]
theorem cfU_all{ts:List (Nat×Rat)}{lo N k:Nat}(h:RT ts lo N):cfU ts ts.length k=cf ts k:=by rw[jqv h _ (zB _),qY]
theorem cf_get:∀{ts:List (Nat×Rat)} {lo N i:Nat} {t:Nat×Rat},RT ts lo N->ts[i]? =some t->cf ts t.1=t.2
 | [],_,_,_,_,_,h=>by simp at h
 | v::ts,lo,N,0,t,h,ht=>by
  rw[List.getElem?_cons_zero]at ht;cases ht;rw[cf,zm rfl]
 | v::ts,lo,N,i+1,t,h,ht=>by
  rw[List.getElem?_cons_succ]at ht;have:=RT.mem h.2.2.2 t (zr ht);rw[cf,zn (by omega)];exact cf_get h.2.2.2 ht
theorem ngU_eq{ts:List (Nat×Rat)}{lo N k:Nat}(h:RT ts lo N){f:Nat->Rat}(hf:∀(i:Nat) (t:Nat×Rat),ts[i]? =some t->f t.1=t.2):∀i,i<=ts.length->ngU ts f i k=f k-2*cfU ts i k
 | 0,_=>by simp only[ngU,cfU];grind
 | i+1,hi=>by
  have hg:ts[i]? =some ts[i]:=ze (by omega);rw[ngU_succ hg,cfU_succ hg,ngU_eq h hf i (by omega)];by_cases e:k=ts[i].1
  ·rw[zm e,zm e,e,hf i _ hg];grind
  ·rw[zn e,zn e]
theorem ngU_zero{ts:List (Nat×Rat)}{lo N k:Nat}(h:RT ts lo N):∀i,i<=ts.length->ngU ts (fun _=>0) i k= -cfU ts i k
 | 0,_=>by simp only[ngU,cfU];grind
 | i+1,hi=>by
  have hg:ts[i]? =some ts[i]:=ze (by omega);rw[ngU_succ hg,cfU_succ hg,ngU_zero h i (by omega)];by_cases e:k=ts[i].1
  ·rw[zm e,zm e]
  ·rw[zn e,zn e]
end
end Go.LP
namespace Go.Proofs.YtkcekimolppapaaGreat
section
open Go.Abs
open Go.LP (Dic Rw RT cf cfU ngU jdf)
attribute [local go_sem] ints ic big frac fc rwC tmC lineC
structure OAp(nm:DN)(m:Nat):Prop where
 dr:nm.d≠nm.r
 d_o:nm.d≠nm.o
 ds:nm.d≠nm.s
 rg:nm.r≠nm.g
 ro:nm.r≠nm.o
 rs:nm.r≠nm.s
 go:nm.g≠nm.o
 gs:nm.g≠nm.s
 os:nm.o≠nm.s
 da:∀i,i<m->nm.d≠nm.a i
 ra:∀i,i<m->nm.r≠nm.a i
 ga:∀i,i<m->nm.g≠nm.a i
 oa:∀i,i<m->nm.o≠nm.a i
 sa:∀i,i<m->nm.s≠nm.a i
 aa:∀i j,i<m->j<m->nm.a i=nm.a j->i=j
structure HasO(L:Abs.Rows)(nm:DN)(D:Dic)(src:Nat->Int×Bool):Prop where
 blk:blks L
 dg:nm.d≠nm.g
 ap:D.m≠0->OAp nm D.m
 hd:Abs.look L (hp nm.d)=some (6,[[.int D.n,sl0 nm.r 219 5 D.m,.ref nm.g 35 4 D.n,sl0 nm.o 3 1 D.m,.emp,sl0 nm.s 248 2 D.m]])
 hg:Abs.look L (hp nm.g)=some (4,tab D.n fun j=>qc (D.g j))
 hr:D.m≠0->Abs.look L (hp nm.r)=some (5,tab D.m fun i=>lineC (D.v i) (nm.a i) D.n)
 ho:D.m≠0->Abs.look L (hp nm.o)=some (1,tab D.m fun i=>oc (D.own i))
 hs:D.m≠0->Abs.look L (hp nm.s)=some (2,tab D.m fun i=>srcC (src i))
 ha:∀i,i<D.m->Abs.look L (hp (nm.a i))=some (4,tab D.n fun j=>qc (D.a i j))
structure Kept(L L':Abs.Rows)(nm:DN)(m X1 X2 X3 A:Nat):Prop where
 keep:∀k x,Abs.look L (hp k)=some x->k≠nm.d->(m≠0->k≠nm.o/\k≠nm.r/\k≠nm.s)->Abs.look L' (hp k)=some x/\k≠X1/\k≠X2/\k≠X3/\k≠A
theorem HasO.step{L L':Abs.Rows}{nm:DN}{D:Dic}{src:Nat->Int×Bool}(h:HasO L nm D src){w:Rw}{row:Nat}{turned:Bool}{X1 X2 X3 A:Nat}{f:Nat->Rat}{v:Rat}(bL:blks L')
  (h1:Abs.look L' (hp nm.d)=some (6,[[.int D.n,.ref X2 219 5 (D.m+1),.ref nm.g 35 4 D.n,.ref X1 3 1 (D.m+1),.emp,.ref X3 248 2 (D.m+1)]]))
  (h2:Abs.look L' (hp X1)=some (1,(tab D.m fun i=>oc (D.own i))++[oc (D.n+D.m)]))
  (h3:Abs.look L' (hp X2)=some (5,(tab D.m fun i=>lineC (D.v i) (nm.a i) D.n)++[lineC v A D.n]))
  (h4:Abs.look L' (hp X3)=some (2,(tab D.m fun i=>srcC (src i))++[srcC (row,turned)]))
  (h5:Abs.look L' (hp A)=some (4,tab D.n fun j=>qc (f j))) (hk:Kept L L' nm D.m X1 X2 X3 A)
  (d1:nm.d≠X1) (d2:nm.d≠X2) (d3:nm.d≠X3) (d4:nm.d≠A) (x12:X1≠X2) (x13:X1≠X3) (x14:X1≠A) (x23:X2≠X3) (x24:X2≠A) (x34:X3≠A)
  (hv:v=if turned=true then-w.val else w.val) (hf:∀k,f k=if turned=true then-cf w.ts k else cf w.ts k):
  ∃nm':DN,nm'.d=nm.d/\HasO L' nm' (D.put w turned) (jdf D src row turned):=by
 have kg:=hk.keep nm.g _ h.hg (zF h.dg) fun hm=>⟨(h.ap hm).go,zF (h.ap hm).rg,(h.ap hm).gs⟩;have ka:=fun i (hi:i<D.m)=>hk.keep (nm.a i) _ (h.ha i hi) (zF ((h.ap (by omega)).da i hi)) fun hm=>⟨zF ((h.ap hm).oa i hi),zF ((h.ap hm).ra i hi),zF ((h.ap hm).sa i hi)⟩;have hm1:(D.put w turned).m≠0:=qX _;have ai:∀i,i<D.m+1->i≠D.m->i<D.m:=fun i h1 h2=>by omega
 refine⟨⟨nm.d,X2,nm.g,X1,nm.f,X3,fun i=>if i=D.m then A else nm.a i⟩,rfl,bL,h.dg,fun _=> ?_,?_,?_,fun _=> ?_,fun _=> ?_,fun _=> ?_,fun i hi=> ?_⟩
 ·refine⟨d2,d1,d3,zF kg.2.2.1,zF x12,x23,kg.2.1,kg.2.2.2.1,x13,?_,?_,?_,?_,?_,?_⟩
  ·intro i hi;dsimp only;split
   ·exact d4
   ·rename_i e;exact(h.ap (by have:=ai i hi e;omega)).da i (ai i hi e)
  ·intro i hi;dsimp only;split
   ·exact x24
   ·rename_i e;exact zF (ka i (ai i hi e)).2.2.1
  ·intro i hi;dsimp only;split
   ·exact kg.2.2.2.2
   ·rename_i e;exact(h.ap (by have:=ai i hi e;omega)).ga i (ai i hi e)
  ·intro i hi;dsimp only;split
   ·exact x14
   ·rename_i e;exact zF (ka i (ai i hi e)).2.1
  ·intro i hi;dsimp only;split
   ·exact x34
   ·rename_i e;exact zF (ka i (ai i hi e)).2.2.2.1
  ·intro i j hi hj e;dsimp only at e;by_cases e1:i=D.m
   ·rw[zm e1]at e;by_cases e2:j=D.m
    ·omega
    ·rw[zn e2]at e;exact absurd e.symm (ka j (ai j hj e2)).2.2.2.2
   ·rw[zn e1]at e;by_cases e2:j=D.m
    ·rw[zm e2]at e;exact absurd e (ka i (ai i hi e1)).2.2.2.2
    ·rw[zn e2]at e;exact(h.ap (by have:=ai i hi e1;omega)).aa i j (ai i hi e1) (ai j hj e2) e
 ·rw[h1,jaj hm1,jaj hm1,jaj hm1];rfl
 ·exact kg.1
 ·rw[h3];show some (5,_)=some (5,tab (D.m+1) _);rw[jhl];congr 3
  ·refine jam fun i hi=> ?_;rw[show(D.put w turned).v i=D.v i from zn (by omega)];show _=lineC (D.v i) (if i=D.m then A else nm.a i) D.n;rw[zn (by omega)]
  ·rw[show(D.put w turned).v D.m=_ from zm rfl,hv];show _=[lineC _ (if D.m=D.m then A else nm.a D.m) D.n];rw[zm rfl]
 ·rw[h2];show some (1,_)=some (1,tab (D.m+1) _);rw[jhl];congr 3
  ·refine jam fun i hi=> ?_;rw[show(D.put w turned).own i=D.own i from zn (by omega)]
  ·rw[show(D.put w turned).own D.m=_ from zm rfl]
 ·rw[h4];show some (2,_)=some (2,tab (D.m+1) _);rw[jhl];congr 3
  ·refine jam fun i hi=> ?_;rw[show jdf D src row turned i=src i from zn (by omega)]
  ·rw[show jdf D src row turned D.m=_ from zm rfl]
 ·dsimp only;by_cases e:i=D.m
  ·rw[zm e,h5,show(D.put w turned).a i=_ from zm e];show some (4,tab D.n _)=some (4,tab D.n _);congr 2;refine jam fun j _=>qa qc ?_;rw[hf]
  ·rw[zn e,(ka i (ai i hi e)).1,show(D.put w turned).a i=D.a i from zn e];rfl
theorem jat{L:Abs.Rows}{k:Nat}{v:Nat×List (List IV)}(h:Abs.look L k=some v):SubR [(k,v)] L:=fun j x hj=>by
 by_cases e:j=k
 ·subst e;rw[ja2]at hj;cases hj;exact h
 ·rw[ja0 _ _ e]at hj;cases hj
theorem jb1{L R:Abs.Rows}{d:Nat}{v:Nat×List (List IV)}(h:Abs.look R d=some v)(hs:SubR L R):SubR ((d,v)::L) R:=fun k x hk=>by
 by_cases e:k=d
 ·subst e;rw[ja2]at hk;cases hk;exact h
 ·rw[ja0 _ _ e]at hk;exact hs k x hk
theorem jmg{L:Abs.Rows}{k d:Nat}{v v':Nat×List (List IV)}(hd:d<100000)(hs:SubR [(hp k,v)] L):SubR [(hp k,v)] ((d,v')::L):=
 jao (by dsimp only;rw[ja0 _ _ (hp_ne hd)];rfl) hs
theorem jah{L:Abs.Rows}{k d:Nat}{v:Nat×List (List IV)}(h:d≠k):Abs.del ((d,v)::L) k=(d,v)::Abs.del L k:=by
 unfold Abs.del;rw[jA,zm (by simpa using h)]
theorem jmv{α:Type}{p:Prop}(x:α)(h:∀y,x=y->p):p:=h x rfl
