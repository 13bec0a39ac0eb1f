/- A part of the proof. No further condition. -/
import Derived.Test.YthahgoopboilkaaKM14
import Derived.Maps.OwnIn
set_option linter.all false
set_option maxRecDepth 10000000
set_option maxHeartbeats 16000000
namespace Go.Abs
section
open Go.RowKit (Below)
inductive OT where
 | fin:OT
 | none:OT
 | alt:Nat->OT->OT->OT
def OT.heads:OT->List Nat
 | .alt i _ r=>i::r.heads
 | _=>[]
def OT.emp:OT->Bool
 | .fin=>true
 | _=>false
def OT.cov(ops:Array Oper)(t:OT)(rem:List Nat):Bool:=(t.emp==rem.isEmpty)&&rem.all fun i=>t.heads.contains i || rem.any fun j=>jfb ops 3 i j
def OT.ok(ops:Array Oper):OT->List Nat->Bool
 | .alt i s r,rem=>s.cov ops (rem.filter (· !=i))&&s.ok ops (rem.filter (· !=i))&&r.ok ops rem
 | _,_=>true
def okT(ops:Array Oper)(t:OT)(rem:List Nat):Bool:=t.cov ops rem&&t.ok ops rem
def drawN(ops:Array Oper)(m:List Bool):Bool:=
 drawB ops m.length&&(List.range m.length).all (fun j=>(List.range j).all fun i=>
  (!(m.getD i false&& !(m.getD j false)) || (match ops[i]?,ops[j]? with
   | some oi,some oj=>oi.apart ops oj
   | _,_=>false)))
def spMk(G:Ctx)(d:Nat)(t:TypeId)(l c:AV)(R:Rows)(T:AV->Rows->Prop):Prop:=
 match l,c with
 | .im (.sc (.int _ n)),.im (.sc (.int _ m))=>match(G.ti t).kind with
  | .sl e=>match jbh G e with
   | some z=>G.perm.contains d=true/\(G.ti t).size≠0/\n=m/\0<=n/\n*(G.ti e).bytes<=140737488355328/\(G.ti e).bytes≠0/\
     ∀b,look R (hp b)=none->T (.im (.ref b e (G.ti e).size (List.replicate n.toNat z).length)) ((hp b,(G.ti e).size,List.replicate n.toNat z)::R)
   | none=>False
  | _=>False
 | _,_=>False
def spN(G:Ctx)(st:St)(o:Oper)(T:AV->Rows->Prop):Prop:=
 match o.op with
 | .alloc t=>match o.dst,jbh G t with
  | some d,some z=>G.perm.contains d=true/\∀b,look st.rows (hp b)=none->T (.loc (hp b) z.length 0 0) ((hp b,z.length,[z])::st.rows)
  | _,_=>False
 | .makeSlice t l c=>match o.dst with
  | some d=>spMk G d t (evO st l) (evO st c) st.rows T
  | none=>False
 | _=>spZ G st o T
def spN1(G:Ctx)(st:St)(o:Oper)(T:AV->Rows->Prop):Prop:=
 match o.op with
 | .alloc t=>match o.dst,jbh G t with
  | some d,some z=>G.perm.contains d=true/\∀b,look st.rows (hp b)=none->T (.loc (hp b) z.length 0 0) ((hp b,z.length,[z])::st.rows)
  | _,_=>False
 | .makeSlice t l c=>match o.dst with
  | some d=>spMk G d t (evO st l) (evO st c) st.rows T
  | none=>False
 | _=>spZ1 G st o T
def gOk(ops:List Oper)(st:St)(o:Oper):Prop:=match o.guard with
 | none=>True
 | some (j,want)=>jb3 st ops j=some (some want)
theorem gOk_congr{ops:List Oper}{st st':St}{o:Oper}(h:∀t∈o.looksAt ops.toArray,st.get t=st'.get t)(hg:gOk ops st o):gOk ops st' o:=by
 unfold gOk at hg⊢;cases hgd:o.guard with
 | none=>trivial
 | some p=>
  obtain⟨j,want⟩:=p;rw[hgd]at hg;dsimp only at hg⊢;rw[<-hg];unfold jb3;cases ho:ops[j]? with
  | none=>rfl
  | some oj=>
   cases hd:oj.dst with
   | none=>simp only[hd]
   | some t=>
    have:t∈o.looksAt ops.toArray:=by
     have ho':ops.toArray[j]? =some oj:=by simpa using ho
     simp[Oper.looksAt,hgd,ho',ho,hd]
    simp only[hd,h t this]
theorem gOk_wanted{N:Nat}{w0:Base}{M0:Nat->Nat->Prop}{β:Nat->Option Nat}{st:St}{a:Act}{w:World}{ops:List Oper}{o:Oper}(h:Sim N w0 M0 β st a w)(hg:gOk ops st o):Region.wanted o (yielded ops.toArray a.tmps)=true:=by
 unfold gOk at hg;cases hgd:o.guard with
 | none=>simp[Region.wanted,hgd]
 | some p=>
  obtain⟨j,want⟩:=p;rw[hgd]at hg;simp[Region.wanted,hgd,jbk h hg]
def spO(G:Ctx)(kp:Bool)(ops:List Oper)(K:St->Prop):OT->Rows->St->Prop
 | .fin,_,st=>K st
 | .none,_,_=>True
 | .alt i s r,Rs,st=>(match ops[i]? with
  | some o=>gOk ops st o/\spN G st o fun av R'=>(∀k x,look (if(isStZ o&& !kp)=true then []else Rs) k=some x->look R' k=some x)/\spO G kp ops K s (if(isStZ o&& !kp)=true then []else Rs) ((⟨st.fr,R',st.toks⟩:St).put o.dst av)
  | none=>False)/\spO G kp ops K r Rs st
theorem okT_nil{ops:Array Oper}{t:OT}(h:okT ops t []=true):t= .fin:=by
 cases t with
 | fin=>rfl
 | none=>cases h
 | alt i s r=>cases h
theorem okT_head{ops:Array Oper}{t:OT}{rem:List Nat}{i:Nat}(h:okT ops t rem=true)(hi:i∈rem)(hw:∀j∈rem,jfb ops 3 i j=false):i∈t.heads:=by
 unfold okT OT.cov at h;rw[Bool.and_eq_true,Bool.and_eq_true]at h;have:=List.all_eq_true.1 h.1.2 i hi;rw[Bool.or_eq_true]at this;rcases this with h | h
 ·simpa using h
 ·obtain⟨j,hj,e⟩:=List.any_eq_true.1 h;rw[hw j hj]at e;cases e
theorem jig{G:Ctx}{kp:Bool}{ops:List Oper}{K:St->Prop}{Rs:Rows}{st:St}{rem:List Nat}{i:Nat}:∀{t:OT},t.ok ops.toArray rem=true->i∈t.heads->spO G kp ops K t Rs st->
  ∃t2:OT,okT ops.toArray t2 (rem.filter (· !=i))=true/\match ops[i]? with
  | some o=>gOk ops st o/\spN G st o fun av R'=>(∀k x,look (if(isStZ o&& !kp)=true then []else Rs) k=some x->look R' k=some x)/\spO G kp ops K t2 (if(isStZ o&& !kp)=true then []else Rs) ((⟨st.fr,R',st.toks⟩:St).put o.dst av)
  | none=>False
 | .fin,_,hi,_=>by cases hi
 | .none,_,hi,_=>by cases hi
 | .alt j s r,h,hi,hs=>by
  rw[OT.ok,Bool.and_eq_true,Bool.and_eq_true]at h;rcases List.mem_cons.1 hi with e | hi
  ·subst e;exact⟨s,by unfold okT;rw[h.1.1,h.1.2];rfl,hs.1⟩
  ·exact jig h.2 hi hs.2
theorem spO_head{G:Ctx}{kp:Bool}{ops:List Oper}{K:St->Prop}{Rs:Rows}{st:St}{rem:List Nat}{i:Nat}{t:OT}(h:okT ops.toArray t rem=true)(hi:i∈t.heads)(hs:spO G kp ops K t Rs st):
  ∃t2:OT,okT ops.toArray t2 (rem.filter (· !=i))=true/\match ops[i]? with
  | some o=>gOk ops st o/\spN G st o fun av R'=>(∀k x,look (if(isStZ o&& !kp)=true then []else Rs) k=some x->look R' k=some x)/\spO G kp ops K t2 (if(isStZ o&& !kp)=true then []else Rs) ((⟨st.fr,R',st.toks⟩:St).put o.dst av)
  | none=>False:=jig (by unfold okT at h;rw[Bool.and_eq_true]at h;exact h.2) hi hs
theorem spN_1{G:Ctx}{st:St}{o:Oper}{T:AV->Rows->Prop}(h:spN G st o T):spN1 G st o T:=by
 unfold spN at h;unfold spN1;split at h
 ·exact h
 ·exact h
 ·exact spZ_1 h
section
variable{G:Ctx}{kp:Bool}{N:Nat}{w0:Base}{w w':World}{M0:Nat->Nat->Prop}{β:Nat->Option Nat}{st st':St}{a:Act}{ops:List Oper}
theorem spN_congr{o:Oper}{T:AV->Rows->Prop}(h:∀t∈o.looksAt ops.toArray,st.get t=st'.get t)(hr:st.rows=st'.rows)(ht:st.toks=st'.toks)(hs:spN1 G st o T):spN1 G st' o T:=by
 have hx:∀x∈o.op.operands,evO st x=evO st' x:=fun x hx=>jbc fun t ht=>h t (jac hx ht);unfold spN1 at hs⊢;split at hs
 ·rw[<-hr];exact hs
 ·rename_i t l c ho;rw[ho]at hx;rw[<-hx l (by simp[Op.operands]),<-hx c (by simp[Op.operands]),<-hr];exact hs
 ·exact spZ_congr h hr ht hs
theorem spN_sound(hG:G.Good)(h:Sim N w0 M0 β st a w){o:Oper}{T:AV->Rows->Prop}(hd:∀d,o.dst=some d->d<N)(hA:spN1 G st o T){K':Act->World->Prop}{Q':Exit->Act->World->Prop}
  (hK:∀av R' β' a' w',T av R'->Sim N w0 M0 β' ((⟨st.fr,R',st.toks⟩:St).put o.dst av) a' w'->K' a' w'):o.wp G.P a w K' Q':=by
 unfold spN1 at hA;split at hA
 ·rename_i t ho;have haop:aop G o (fun st'=>∃av R',st'=(⟨st.fr,R',st.toks⟩:St).put o.dst av/\T av R') st:=by
   unfold aop;rw[ho];dsimp only;split at hA
   ·rename_i d z h1 h2;rw[h1,h2];dsimp only;rw[if_pos hA.1];exact fun b hb=>⟨_,_,rfl,hA.2 b hb⟩
   ·exact hA.elim
  refine jd7 hG h hd haop ?_;rintro st' β' a' w' ⟨av,R',rfl,hT⟩ hs;exact hK av R' β' a' w' hT hs
 ·rename_i t l c ho;have haop:aop G o (fun st'=>∃av R',st'=(⟨st.fr,R',st.toks⟩:St).put o.dst av/\T av R') st:=by
   unfold aop;rw[ho];dsimp only;split at hA
   ·rename_i d h1;rw[h1];unfold spMk at hA;unfold aMake;split at hA
    ·rename_i k n k' m h2 h3;rw[h2,h3];dsimp only;split at hA
     ·rename_i e h4;rw[h4];dsimp only;split at hA
      ·rename_i z h5;rw[h5];obtain⟨a1,a2,a3,a4,a5,a6,a7⟩:=hA;refine⟨a2,a3,a4,a5,a6,?_⟩;rw[if_pos a1];exact fun b hb=>⟨_,_,rfl,a7 b hb⟩
      ·exact hA.elim
     ·exact hA.elim
    ·exact hA.elim
   ·exact hA.elim
  refine jd7 hG h hd haop ?_;rintro st' β' a' w' ⟨av,R',rfl,hT⟩ hs;exact hK av R' β' a' w' hT hs
 ·exact spZ_sound hG h hd hA hK
theorem draw_soundN(hG:G.Good)(id:Nat)(m:List Bool)(t0:OT)(Rs:Rows)(hX:drawN ops.toArray m=true)(hZ:(kp || stZ ops.toArray m)=true)(hT0:okT ops.toArray t0 ((List.range m.length).filter fun i=>m.getD i false)=true)(hd0:∀o∈ops,∀d,o.dst=some d->d<N){K:St->Prop}{Q':Exit->Act->World->Prop}
  (hK:∀st' β' a' w',K st'->Sim N w0 M0 β' st' a' w'->Q' .normal a' w') (h:Sim N w0 M0 β st a w) (hRs:∀k x,look Rs k=some x->look st.rows k=some x)
  (hA:jcv G ops (fun s=>spO G kp ops (fun s'=>alist G ops K (ops.drop m.length) s') t0 Rs ⟨s.fr,st.rows,s.toks⟩) m ops ⟨st.fr,Rs,st.toks⟩):(Code.region id ops.toArray true).wp G.P Q' a w:=by
 rw[drawN,Bool.and_eq_true]at hX;obtain⟨hB,hS⟩:=hX;simp only[drawB,Bool.and_eq_true,decide_eq_true_eq,Bool.or_eq_true,beq_iff_eq]at hB;obtain⟨⟨⟨⟨hn,hafter⟩,hpair⟩,htail⟩,hseq⟩:=hB;have hsz:ops.toArray.size=ops.length:=by simp
 have hnl:m.length<=ops.length:=by rw[<-hsz];exact hn
 obtain⟨res0,hres,hfin⟩:=jf6 m ops _ hnl hA;generalize hmn:m.length=n at*;have htake:∀i,i<n->(ops.take n)[i]? =ops[i]? :=fun i hi=>by rw[List.getElem?_take,if_pos hi]
 have hlt:∀i o,(ops.take n)[i]? =some o->i<n/\ops[i]? =some o:=fun i o hi=>by
  rw[List.getElem?_take]at hi;split at hi
  ·exact⟨‹_›,hi⟩
  ·cases hi
 have arr:∀(i:Nat) (o:Oper),ops[i]? =some o->ops.toArray[i]? =some o:=fun i o h=>by simpa using h
 have hpair':∀i j oi oj,i<j->j<n->ops[i]? =some oi->ops[j]? =some oj->Region.waitsFor .any ops.toArray j i=true\/oi.apart ops.toArray oj=true:=by
  intro i j oi oj hij hj h1 h2;have:=List.all_eq_true.1 (List.all_eq_true.1 hpair j (List.mem_range.2 hj)) i (List.mem_range.2 hij);rw[arr i oi h1,arr j oj h2]at this
  simpa using this
 have hfree:∀i j oi oj,i<j->j<n->m.getD i false=true->m.getD j false=false->ops[i]? =some oi->ops[j]? =some oj->oi.apart ops.toArray oj=true:=by
  intro i j oi oj hij hj h1 h2 h3 h4;have:=List.all_eq_true.1 (List.all_eq_true.1 hS j (List.mem_range.2 hj)) i (List.mem_range.2 hij);rw[h1,h2,arr i oi h3,arr j oj h4]at this
  simpa using this
 have hstZ:∀(i j:Nat) oi oj,i<n->j<n->m.getD i false=true->m.getD j false=false->ops[i]? =some oi->ops[j]? =some oj->kp=false->isStZ oi=true->jd6 oj=true->Region.waitsFor .any ops.toArray i j=true:=by
  intro i j oi oj hi hj h1 h2 h3 h4 hkp h5 h6;rw[hkp,Bool.false_or]at hZ;unfold stZ at hZ;rw[hmn]at hZ;have:=List.all_eq_true.1 (List.all_eq_true.1 hZ i (List.mem_range.2 hi)) j (List.mem_range.2 hj);rw[h1,h2,arr i oi h3,arr j oj h4]at this
  simpa [h5,h6]using this
 have hafter':∀(j:Nat) oj,ops[j]? =some oj->∀e∈oj.after,Region.binds .any e=true->e.on<j:=by
  intro j oj hj e he hb;have hjl:j<ops.toArray.size:=by rw[hsz];exact(List.getElem?_eq_some_iff.1 hj).1
  have:=List.all_eq_true.1 hafter j (List.mem_range.2 hjl);rw[arr j oj hj]at this;have:=Array.all_eq_true'.1 this e he
  simpa [hb]using this
 have main:∀c (listed:Array Bool) (a:Act) (w:World),cntB listed n=c->HeadInv .any ops.toArray n listed->
   (∃(res:Nat->AV) (β:Nat->Option Nat) (R Rs1:Rows) (s:St),(∀i,i<n->m.getD i false=false->res i=res0 i)/\Sim N w0 M0 β (stUp res (fun i=>listed.getD i false) (ops.take n) ⟨st.fr,R,st.toks⟩) a w/\
    ((∀k x,look Rs1 k=some x->look R k=some x)/\(Rs1=Rs\/∀(j:Nat) oj,j<n->m.getD j false=false->listed.getD j false=false->ops[j]? =some oj->jd6 oj=false))/\(∃t1:OT,okT ops.toArray t1 ((List.range n).filter (fun i=>m.getD i false&& !(listed.getD i false)))=true/\spO G kp ops (fun s'=>alist G ops K (ops.drop n) s') t1 Rs1 s)/\s.rows=R/\s.toks=st.toks/\
    ∀t,s.get t=(stUp res (fun i=>hd m i || listed.getD i false) (ops.take n) ⟨st.fr,R,st.toks⟩).get t)->wpAny G.P .any ops.toArray Q' (c+(ops.toArray.size-n)) listed a w:=by
  intro c
  induction c with
  | zero=>
   rintro listed a w hc inv ⟨res,β,R,Rs1,s,hr0,hs,⟨hsub,hnl⟩,hsp,hsr,hst,hsg⟩;rw[Nat.zero_add];have hall:=jc9 hc;have hcan:listed=jbj n ops.toArray.size:=by
    apply Array.ext
    ·rw[inv.size];simp[jbj]
    ·intro i h1 h2;have hil:i<ops.length:=by rw[inv.size]at h1;simpa using h1
     by_cases hin:i<n
     ·have:=hall i hin;have e1:listed[i]=true:=by simpa [h1]using this
      rw[e1];simp[jbj,hin]
     ·have:=inv.tail i (by omega) (by rw[inv.size]at h1;exact h1);have e1:listed[i]=false:=by simpa [h1]using this
      rw[e1];simp[jbj,hin]
   have hrem:(List.range n).filter (fun i=>m.getD i false&& !(listed.getD i false))=[]:=List.filter_eq_nil_iff.2 fun k hk=>by
    rw[hall k (List.mem_range.1 hk)];simp
   obtain⟨t1,ht1,hsp⟩:=hsp;rw[hrem]at ht1;have:=okT_nil ht1;subst this;have hs':Sim N w0 M0 β s a w:=by
    refine hs.congr (fun t=> ?_) ?_ ?_
    ·rw[hsg];exact jag _ _ _ _ _ _ rfl fun i o hi _=>by rw[hall i (hlt i o hi).1];simp
    ·rw[(ja1 _ _ _ _).1,hsr]
    ·rw[(ja1 _ _ _ _).2,hst]
   have hlist:=jc2 hG hK (ops.drop n) _ β a w (fun o ho=>hd0 o (List.mem_of_mem_drop ho)) hsp hs';have hdl:(ops.drop n).length=ops.toArray.size-n:=by simp
   have:=wpAny_of_seq (P:=G.P) (md:= .any) (Q':=Q') (ops.drop n) n listed a w (fun j=>by simp[List.getElem?_drop]) (by rw[hcan,hdl];exact hseq) hlist
   rwa [hdl]at this
  | succ c ih=>
   rintro listed a w hc inv ⟨res,β,R,Rs1,s,hr0,hs,⟨hsub,hnl⟩,hsp,hsr,hst,hsg⟩;obtain⟨i0,hi0,hun0,hmin⟩:=jde (by omega:cntB listed n≠0);have hL:∀i,i<n->(listed.getD i true=false↔listed.getD i false=false):=fun i hi=>by
    have:i<listed.size:=by rw[inv.size];omega
    simp[this]
   have hready0:i0∈Region.ready .any ops.toArray listed:=by
    have hil:i0<ops.length:=by rw[<-hsz];omega
    refine mem_ready.2 ⟨(hL i0 hi0).2 hun0,ops[i0],arr i0 _ (List.getElem?_eq_getElem hil),fun e he hb=>hmin _ (hafter' i0 _ (List.getElem?_eq_getElem hil) e he hb)⟩
   have hgoal:(Region.ready .any ops.toArray listed=[]->Q' .normal a w)/\∀i∈Region.ready .any ops.toArray listed,wpOp G.P ops.toArray Q' i (wpAny G.P .any ops.toArray Q' (c+(ops.toArray.size-n)) (listed.setIfInBounds i true)) a w:=by
    refine⟨fun hr=>(by rw[hr]at hready0;cases hready0),fun i hi=> ?_⟩;obtain⟨hun,oi,hoi,hall⟩:=mem_ready.1 hi;have hoi':ops[i]? =some oi:=by simpa using hoi
    have hisz:i<ops.toArray.size:=(Array.getElem?_eq_some_iff.1 hoi).1;have hin:i<n:=by
     rcases Nat.lt_or_ge i n with h' | h'
     ·exact h'
     ·rcases htail with e | ⟨hsink,hchain⟩
      ·omega
      ·exact absurd hi (tail_waits hsink hchain (by omega) inv _ i0 rfl hi0 ((hL i0 hi0).2 hun0) i h')
    have hunf:listed.getD i false=false:=(hL i hin).1 hun;have hwait:∀k,Region.waitsFor .any ops.toArray i k=true->listed.getD k false=true:=fun k hk=>by
     obtain⟨oj,hoj,e,he,hb,hon⟩:=Region.waitsFor_spec hk;rw[hoi]at hoj;cases hoj;rw[<-hon];exact hall e he hb
    have hwaitT:∀k,jfb ops.toArray 3 i k=true->listed.getD k false=true:=fun k hk=>by
     rw[jfb,Bool.or_eq_true]at hk;rcases hk with h | h
     ·exact hwait k h
     ·obtain⟨l,_,h2⟩:=List.any_eq_true.1 h;rw[Bool.and_eq_true]at h2;refine waitsT_listed inv (fun j i hw hl=> ?_) 2 l k h2.2 (hwait l h2.1);obtain⟨oj,hoj,e,he,hb,hon⟩:=Region.waitsFor_spec hw;rw[<-hon];exact inv.closed j oj hoj hl e he hb
    have hlate:∀k,Region.waitsFor .any ops.toArray k i=true->listed.getD k false=false:=fun k hk=>by
     obtain⟨ok,hok,e,he,hb,hon⟩:=Region.waitsFor_spec hk;cases hl:listed.getD k false with
     | false=>rfl
     | true=>
      have:=inv.closed k ok hok hl e he hb;rw[hon,hunf]at this;cases this
    have hisL:i<listed.size:=by rw[inv.size];exact hisz
    have hcnt:cntB (listed.setIfInBounds i true) n=c:=by
     have:=jdd hisL hunf n;rw[if_pos hin]at this;omega
    have hset:∀k,k≠i->(listed.setIfInBounds i true).getD k false=listed.getD k false:=fun k hk=>getD_set_ne false (Ne.symm hk);have hseti:(listed.setIfInBounds i true).getD i false=true:=by simp[hisL]
    have hlast:∀(t:Nat),oi.dst=some t->∀k ok,i<k->(ops.take n)[k]? =some ok->listed.getD k false=true->ok.dst≠some t:=by
     intro t hdt k ok hik hk hLk hdk;obtain⟨hkn,hok⟩:=hlt k ok hk;rcases hpair' i k oi ok hik hkn hoi' hok with hw | hap
     ·rw[hlate k hw]at hLk;cases hLk
     ·exact(Oper.apart_spec hap).2.1 t hdt hdk
    cases hmi:m.getD i false with
    | false=>
     have hhd:hd m i=true:=by unfold hd;rw[hmi];rfl
     have hagree:∀t∈oi.looksAt ops.toArray,(stUp res0 (fun k=>hd m k&&decide (k<i)) ops ⟨st.fr,R,st.toks⟩).get t=(stUp res (fun k=>listed.getD k false) (ops.take n) ⟨st.fr,R,st.toks⟩).get t:=by
      intro t ht;have e1:(stUp res0 (fun k=>hd m k&&decide (k<i)) ops ⟨st.fr,R,st.toks⟩).get t=(stUp res0 (fun k=>hd m k&&decide (k<i)) (ops.take n) ⟨st.fr,R,st.toks⟩).get t:=by
       have:∀(l:List Oper) (r:Nat->AV) (L:Nat->Bool) (n:Nat) (s:St),(∀k,n<=k->L k=false)->(stUp r L l s).get t=(stUp r L (l.take n) s).get t:=by
        intro l
        induction l with
        | nil=>intros;simp
        | cons o l ih=>
         intro r L n s hk;cases n with
         | zero=>
          have hf:∀(l:List Oper) (res:Nat->AV) (L:Nat->Bool) (st:St),(∀i,L i=false)->stUp res L l st=st:=by
           intro l
           induction l with
           | nil=>intros;rfl
           | cons o l ih=>
            intro res L st hL;simp only[stUp,hL 0];exact ih _ _ _ fun i=>hL (i+1)
          rw[hf _ _ _ _ fun i=>hk i (Nat.zero_le _)];rfl
         | succ n=>exact ih _ _ n _ fun k hk'=>hk (k+1) (by omega)
       exact this _ _ _ _ _ fun k hk=>by simp;omega
      rw[e1];refine jeh _ _ _ _ _ _ _ rfl fun k ok hk hdk=> ?_;obtain⟨hkn,hok⟩:=hlt k ok hk;cases hmk:m.getD k false with
      | true=>
       have hap:ok.apart ops.toArray oi=true\/oi.apart ops.toArray ok=true\/listed.getD k false=false:=by
        rcases Nat.lt_trichotomy k i with hki | hki | hki
        ·exact .inl (hfree k i ok oi hki hin hmk hmi hok hoi')
        ·subst hki;rw[hmi]at hmk;cases hmk
        ·rcases hpair' i k oi ok hki hkn hoi' hok with hw | hap
         ·exact .inr (.inr (hlate k hw))
         ·exact .inr (.inl hap)
       have hh:hd m k=false:=by unfold hd;rw[hmk];rfl
       rcases hap with hap | hap | hap
       ·exact absurd ht ((Oper.apart_spec hap).1 t hdk)
       ·exact absurd ht ((Oper.apart_spec hap).2.2 t hdk)
       ·rw[hh,hap];simp
      | false=>
       have hh:hd m k=true:=by unfold hd;rw[hmk];rfl
       refine⟨?_,fun _=>(hr0 k hkn hmk).symm⟩;rw[hh];rcases Nat.lt_trichotomy k i with hki | hki | hki
       ·rcases hpair' k i ok oi hki hin hok hoi' with hw | hap
        ·rw[hwait k hw];simp[hki]
        ·exact absurd ht ((Oper.apart_spec hap).1 t hdk)
       ·subst hki;rw[hunf];simp
       ·rcases hpair' i k oi ok hki hkn hoi' hok with hw | hap
        ·rw[hlate k hw];simp;omega
        ·exact absurd ht ((Oper.apart_spec hap).2.2 t hdk)
     have hq0:=hres i oi (by omega) hmi hoi';have hq1:qStep G ops (stUp res0 (fun k=>hd m k&&decide (k<i)) ops ⟨st.fr,R,st.toks⟩) oi (res0 i):=by
      have:=jh0 (r:=R) (hnl.elim (fun e=> .inr fun d x hx=>hsub d x (by rw[e];rwa [(ja1 _ _ _ _).1]at hx)) (fun hh=> .inl (hh i oi hin hmi hunf hoi'))) hq0;refine jbz (fun t _=> ?_) ?_ ?_ this
      ·show(stUp res0 (fun k=>hd m k&&decide (k<i)) ops ⟨st.fr,Rs,st.toks⟩).get t=_;exact jag _ _ _ _ _ _ rfl fun _ _ _ _=>rfl
      ·show R=_;rw[(ja1 _ _ _ _).1]
      ·show(stUp res0 (fun k=>hd m k&&decide (k<i)) ops ⟨st.fr,Rs,st.toks⟩).toks=_;rw[(ja1 _ _ _ _).2,(ja1 _ _ _ _).2]
     have hq:qStep G ops (stUp res (fun k=>listed.getD k false) (ops.take n) ⟨st.fr,R,st.toks⟩) oi (res i):=by
      rw[hr0 i hin hmi];exact jbz hagree (by rw[(ja1 _ _ _ _).1,(ja1 _ _ _ _).1]) (by rw[(ja1 _ _ _ _).2,(ja1 _ _ _ _).2]) hq1
     have next:∀v w2,Below w.heap.size w w2->RepA w2 (Mo M0 β (stUp res (fun k=>listed.getD k false) (ops.take n) ⟨st.fr,R,st.toks⟩)) β (stUp res (fun k=>listed.getD k false) (ops.take n) ⟨st.fr,R,st.toks⟩).toks (res i) v->
       wpAny G.P .any ops.toArray Q' (c+(ops.toArray.size-n)) (listed.setIfInBounds i true) (a.put oi.dst v) w2:=by
      intro v w2 hb hv;have hs2:=(hs.ext hb).put (dst:=oi.dst) (hd0 oi (List.mem_of_getElem? hoi')) hv;refine ih _ _ _ hcnt (inv.set hi hin) ⟨res,β,R,Rs1,s,hr0,hs2.congr (fun t=> ?_) ?_ ?_,⟨hsub,hnl.imp (fun e=>e) fun hh j oj hj hmj hlj hoj=>hh j oj hj hmj (by
       by_cases e:j=i
       ·subst e;exact hunf
       ·rw[hset j e]at hlj;exact hlj) hoj⟩,?_,hsr,hst,fun t=> ?_⟩
      ·by_cases hdt:oi.dst=some t
       ·rw[hdt,jaj];refine(jbp (ops.take n) res _ _ i oi (by rw[htake i hin];exact hoi') hdt hseti fun k ok hik hk hLk=> ?_).symm;rw[hset k (by omega)]at hLk;exact hlast t hdt k ok hik hk hLk
       ·rw[jb9 hdt];refine jag _ _ _ _ _ _ rfl fun k ok hk hdk=> ?_;have:k≠i:=fun e=>by
         subst e;obtain⟨_,hok⟩:=hlt k ok hk;rw[hoi']at hok;cases hok;exact hdt hdk
        exact(hset k this).symm
      ·rw[show((stUp res (fun k=>listed.getD k false) (ops.take n) ⟨st.fr,R,st.toks⟩).put oi.dst (res i)).rows=(stUp res (fun k=>listed.getD k false) (ops.take n) ⟨st.fr,R,st.toks⟩).rows by unfold St.put;split<;>rfl,(ja1 _ _ _ _).1,(ja1 _ _ _ _).1]
      ·rw[show((stUp res (fun k=>listed.getD k false) (ops.take n) ⟨st.fr,R,st.toks⟩).put oi.dst (res i)).toks=(stUp res (fun k=>listed.getD k false) (ops.take n) ⟨st.fr,R,st.toks⟩).toks by unfold St.put;split<;>rfl,(ja1 _ _ _ _).2,(ja1 _ _ _ _).2]
      ·have e:(fun k=>m.getD k false&& !((listed.setIfInBounds i true).getD k false))=fun k=>m.getD k false&& !(listed.getD k false):=by
        funext k;by_cases hk:k=i
        ·subst hk;rw[hmi];rfl
        ·rw[hset k hk]
       rw[e];exact hsp
      ·rw[hsg];refine jag _ _ _ _ _ _ rfl fun k ok hk hdk=> ?_;by_cases hk:k=i
       ·subst hk;rw[hhd];rfl
       ·rw[hset k hk]
     unfold wpOp;rw[hoi];dsimp only;unfold qStep at hq;cases hg:oi.guard with
     | none=>
      rw[hg]at hq;rw[if_pos (by simp[Region.wanted,hg])];exact .inl (jau hG hs hq next)
     | some p=>
      obtain⟨j,want⟩:=p;rw[hg]at hq;dsimp only at hq;split at hq
      ·rename_i b hy;have hyc:=jbk hs hy;by_cases hb:b=want
       ·rw[if_pos hb]at hq;rw[if_pos (by simp[Region.wanted,hg,hyc,hb])];exact .inl (jau hG hs hq next)
       ·rw[if_neg hb]at hq;rw[if_neg (by simp[Region.wanted,hg,hyc,hb])];exact next _ w (Below.refl _ _) (by rw[hq];exact Rep.sc _ rfl)
      ·rename_i hy;have hyc:=jbx hs hy;rw[if_neg (by simp[Region.wanted,hg,hyc])];exact next _ w (Below.refl _ _) (by rw[hq];exact Rep.sc _ rfl)
      ·exact hq.elim
    | true=>
     obtain⟨t1,ht1,hsp⟩:=hsp;have hmem:i∈(List.range n).filter (fun k=>m.getD k false&& !(listed.getD k false)):=List.mem_filter.2 ⟨List.mem_range.2 hin,by rw[hmi,hunf];rfl⟩;obtain⟨t2,ht2,hsp⟩:=spO_head ht1 (okT_head ht1 hmem fun j hj=>by
      have:=(List.mem_filter.1 hj).2;cases hw:jfb ops.toArray 3 i j with
      | false=>rfl
      | true=>rw[hwaitT j hw]at this;simp at this) hsp
     rw[hoi']at hsp;obtain⟨hg,hsp⟩:=hsp;have ht2':okT ops.toArray t2 ((List.range n).filter (fun k=>m.getD k false&& !((listed.setIfInBounds i true).getD k false)))=true:=by
      refine Eq.trans ?_ ht2;rw[List.filter_filter];congr 1;refine List.filter_congr fun k _=> ?_;by_cases hk:k=i
      ·subst hk;rw[hseti];simp
      ·rw[hset k hk];simp[hk]
     have hagree:∀t∈oi.looksAt ops.toArray,s.get t=(stUp res (fun k=>listed.getD k false) (ops.take n) ⟨st.fr,R,st.toks⟩).get t:=by
      intro t ht;rw[hsg];refine jag _ _ _ _ _ _ rfl fun k ok hk hdk=> ?_;obtain⟨hkn,hok⟩:=hlt k ok hk;cases hmk:m.getD k false with
      | true=>
       have hh:hd m k=false:=by unfold hd;rw[hmk];rfl
       rw[hh];rfl
      | false=>
       rcases Nat.lt_trichotomy k i with hki | hki | hki
       ·rcases hpair' k i ok oi hki hin hok hoi' with hw | hap
        ·rw[hwait k hw];simp
        ·exact absurd ht ((Oper.apart_spec hap).1 t hdk)
       ·subst hki;rw[hmi]at hmk;cases hmk
       ·exact absurd ht ((Oper.apart_spec (hfree i k oi ok hki hkn hmi hmk hoi' hok)).2.2 t hdk)
     have hsp':=spN_congr hagree (by rw[hsr,(ja1 _ _ _ _).1]) (by rw[hst,(ja1 _ _ _ _).2]) (spN_1 hsp);have hgw:=gOk_wanted hs (gOk_congr hagree hg);unfold wpOp;rw[hoi];dsimp only;rw[if_pos hgw];refine .inl (spN_sound hG hs (hd0 oi (List.mem_of_getElem? hoi')) hsp' fun av R' β' a' w' ⟨hT1,hT2⟩ hs2=> ?_);refine ih _ _ _ hcnt (inv.set hi hin) ⟨fun k=>if k=i then av else res k,β',R',_,_,fun k hk hmk=> ?_,hs2.congr (fun t=> ?_) ?_ ?_,⟨hT1,?_⟩,⟨t2,ht2',hT2⟩,?_,?_,fun t=> ?_⟩
     ·show(if k=i then av else res k)=res0 k;rw[if_neg (fun e=>by subst e;rw[hmi]at hmk;cases hmk)];exact hr0 k hk hmk
     ·by_cases hdt:oi.dst=some t
      ·rw[hdt,jaj];have:=jbp (ops.take n) (fun k=>if k=i then av else res k) (fun k=>(listed.setIfInBounds i true).getD k false) ⟨st.fr,R',st.toks⟩ i oi (by rw[htake i hin];exact hoi') hdt hseti fun k ok hik hk hLk=>by
        rw[hset k (by omega)]at hLk;exact hlast t hdt k ok hik hk hLk
       rw[this,if_pos rfl]
      ·rw[jb9 hdt];have e1:(⟨(stUp res (fun k=>listed.getD k false) (ops.take n) ⟨st.fr,R,st.toks⟩).fr,R',(stUp res (fun k=>listed.getD k false) (ops.take n) ⟨st.fr,R,st.toks⟩).toks⟩:St).get t=(stUp res (fun k=>listed.getD k false) (ops.take n) ⟨st.fr,R,st.toks⟩).get t:=rfl;rw[e1];refine jeh _ _ _ _ _ _ _ rfl fun k ok hk hdk=> ?_;have hki:k≠i:=fun e=>by
        subst e;obtain⟨_,hok⟩:=hlt k ok hk;rw[hoi']at hok;cases hok;exact hdt hdk
       exact⟨(hset k hki).symm,fun _=>(if_neg hki).symm⟩
     ·rw[show ∀(x:St),(x.put oi.dst av).rows=x.rows from fun x=>by unfold St.put;split<;>rfl,(ja1 _ _ _ _).1]
     ·rw[show ∀(x:St),(x.put oi.dst av).toks=x.toks from fun x=>by unfold St.put;split<;>rfl];show(stUp _ _ _ _).toks=(stUp _ _ _ _).toks;rw[(ja1 _ _ _ _).2,(ja1 _ _ _ _).2]
     ·cases hio:(isStZ oi&& !kp)with
      | false=>
       rw[if_neg (by decide)];exact hnl.imp (fun e=>e) fun hh j oj hj hmj hlj hoj=>hh j oj hj hmj (by
        by_cases e:j=i
        ·subst e;exact hunf
        ·rw[hset j e]at hlj;exact hlj) hoj
      | true=>
       rw[Bool.and_eq_true,Bool.not_eq_true']at hio;refine .inr fun j oj hj hmj hlj hoj=> ?_;cases hld:jd6 oj with
       | false=>rfl
       | true=>
        have hji:j≠i:=fun e=>by subst e;rw[hmi]at hmj;cases hmj
        have:=hwait j (hstZ i j oi oj hin hj hmi hmj hoi' hoj hio.2 hio.1 hld);rw[hset j hji,this]at hlj;cases hlj
     ·unfold St.put;split<;>rfl
     ·rw[show ∀(x:St),(x.put oi.dst av).toks=x.toks from fun x=>by unfold St.put;split<;>rfl];exact hst
     ·by_cases hdt:oi.dst=some t
      ·rw[hdt,jaj];have:=jbp (ops.take n) (fun k=>if k=i then av else res k) (fun k=>hd m k || (listed.setIfInBounds i true).getD k false) ⟨st.fr,R',st.toks⟩ i oi (by rw[htake i hin];exact hoi') hdt (by rw[hseti];simp) fun k ok hik hk hLk hdk=>by
        obtain⟨hkn,hok⟩:=hlt k ok hk;cases hmk:m.getD k false with
        | true=>
         have hh:hd m k=false:=by unfold hd;rw[hmk];rfl
         rw[hh,Bool.false_or,hset k (by omega)]at hLk;exact hlast t hdt k ok hik hk hLk hdk
        | false=>exact(Oper.apart_spec (hfree i k oi ok hik hkn hmi hmk hoi' hok)).2.1 t hdt hdk
       rw[this,if_pos rfl]
      ·rw[jb9 hdt];have e1:(⟨s.fr,R',s.toks⟩:St).get t=s.get t:=rfl;rw[e1,hsg];refine jeh _ _ _ _ _ _ _ rfl fun k ok hk hdk=> ?_;have hki:k≠i:=fun e=>by
        subst e;obtain⟨_,hok⟩:=hlt k ok hk;rw[hoi']at hok;cases hok;exact hdt hdk
       exact⟨by rw[hset k hki],fun _=>(if_neg hki).symm⟩
   have:c+1+(ops.toArray.size-n)=(c+(ops.toArray.size-n))+1:=by omega
   rw[this];exact hgoal
 refine wp_region_any hG.mixed ?_;have inv0:HeadInv .any ops.toArray n (Array.replicate ops.toArray.size false):=
  ⟨by simp,fun j oj _ hl=>(by rw[getD_replicate_false]at hl;cases hl),fun t _ ht=>getD_in (by simpa using ht) (getD_replicate_false _ _)⟩
 have hc0:∀k,cntB (Array.replicate ops.toArray.size false) k=k:=fun k=>by
  induction k with
  | zero=>rfl
  | succ k ihk=>simp only[cntB,ihk,getD_replicate_false];simp
 have hf:∀(l:List Oper) (res:Nat->AV) (L:Nat->Bool) (st:St),(∀i,L i=false)->stUp res L l st=st:=by
  intro l
  induction l with
  | nil=>intros;rfl
  | cons o l ih=>
   intro res L st hL;simp only[stUp,hL 0];exact ih _ _ _ fun i=>hL (i+1)
 have:=main n (Array.replicate ops.toArray.size false) a _ (hc0 n) inv0 ⟨res0,β,st.rows,Rs,⟨(stUp res0 (hd m) (ops.take n) ⟨st.fr,Rs,st.toks⟩).fr,st.rows,(stUp res0 (hd m) (ops.take n) ⟨st.fr,Rs,st.toks⟩).toks⟩,fun _ _ _=>rfl,h.drew.congr (fun t=>by
  rw[hf _ _ _ _ fun i=>getD_replicate_false _ _]) (ja1 _ _ _ _).1.symm (ja1 _ _ _ _).2.symm,⟨hRs,.inl rfl⟩,(by
   refine⟨t0,?_,hfin⟩;have e:(fun i=>m.getD i false&& !((Array.replicate ops.toArray.size false).getD i false))=fun i=>m.getD i false:=by
    funext i;rw[getD_replicate_false];simp
   rw[e];exact hT0),rfl,(ja1 _ _ _ _).2,fun t=>by
   show(stUp res0 (hd m) (ops.take n) ⟨st.fr,Rs,st.toks⟩).get t=_;exact jag _ _ _ _ _ _ rfl fun k _ _ _=>by rw[getD_replicate_false];simp⟩
 rwa [show n+(ops.toArray.size-n)=ops.toArray.size by omega]at this
end
section
variable{G:Ctx}{kp:Bool}
def spOL(G:Ctx)(kp:Bool)(ops:List Oper)(K:St->Prop)(l:List Oper)(t:OT)(Rs:Rows)(st:St):Prop:=spO G kp ops (fun s=>alist G ops K l s) t Rs st
def jbv(G:Ctx)(kp:Bool)(ops:List Oper)(K:St->Prop)(R0 Rs:Rows)(t:OT)(m:List Bool)(l:List Oper)(st:St):Prop:=
 jcv G ops (fun s=>spOL G kp ops K (l.drop m.length) t Rs ⟨s.fr,R0,s.toks⟩) m l st
theorem DrawK_of{ops:List Oper}{Q:Exit->St->Prop}{st:St}(m:List Bool)(t:OT)(Rs:Rows)(h:(drawN ops.toArray m&&okT ops.toArray t ((List.range m.length).filter fun i=>m.getD i false))=true)(hs:SubR Rs st.rows)
  (hA:jbv G true ops (Q .normal) st.rows Rs t m ops ⟨st.fr,Rs,st.toks⟩): @DrawP G ⟨ops⟩ ⟨Q⟩ st:=by
 rw[Bool.and_eq_true]at h;exact DrawSem_of fun N w0 M0 β a w id Q' hG hd hK hsim=>draw_soundN (kp:=true) hG id m t Rs h.1 rfl h.2 hd hK hsim hs hA
theorem aheadTN_nil(ops:List Oper)(K:St->Prop)(R0 Rs:Rows)(t:OT)(l:List Oper)(st:St):jbv G kp ops K R0 Rs t [] l st=spOL G kp ops K l t Rs ⟨st.fr,R0,st.toks⟩:=by
 unfold jbv jcv;simp
theorem aheadTN_true(ops:List Oper)(K:St->Prop)(R0 Rs:Rows)(t:OT)(m:List Bool)(o:Oper)(l:List Oper)(st:St):
  jbv G kp ops K R0 Rs t (true::m) (o::l) st=jbv G kp ops K R0 Rs t m l st:=by
 simp only[jbv,List.length_cons,List.drop_succ_cons]
 conv=>lhs;unfold jcv
theorem aheadTN_free(ops:List Oper)(K:St->Prop)(R0 Rs:Rows)(t:OT)(m:List Bool)(dst:Option Tmp)(op:Op)(ty:TypeId)(pos:String)(af:Array Edge)(r:List Oper)(st:St):
  jbv G kp ops K R0 Rs t (false::m) (⟨dst,op,ty,pos,af,.none⟩::r) st=aq G st ⟨dst,op,ty,pos,af,.none⟩ (fun av=>jbv G kp ops K R0 Rs t m r (st.put dst av)):=by
 simp only[jbv,List.length_cons,List.drop_succ_cons]
 conv=>lhs;unfold jcv
def SpOne(G:Ctx)(kp:Bool)(ops:List Oper)(K:St->Prop)(l:List Oper)(o:Option Oper)(s:OT)(Rs:Rows)(st:St):Prop:=match o with
 | some o=>gOk ops st o/\spN G st o fun av R'=>(∀k x,look (if(isStZ o&& !kp)=true then []else Rs) k=some x->look R' k=some x)/\spOL G kp ops K l s (if(isStZ o&& !kp)=true then []else Rs) ((⟨st.fr,R',st.toks⟩:St).put o.dst av)
 | .none=>False
theorem spOL_fin(ops:List Oper)(K:St->Prop)(l:List Oper)(Rs:Rows)(st:St):spOL G kp ops K l .fin Rs st=alist G ops K l st:=propext ⟨fun h=>h,fun h=>h⟩
theorem spOL_one(ops:List Oper)(K:St->Prop)(l:List Oper)(i:Nat)(s:OT)(Rs:Rows)(st:St):spOL G kp ops K l (.alt i s .none) Rs st=SpOne G kp ops K l ops[i]? s Rs st:=propext ⟨fun h=>h.1,fun h=>⟨h,trivial⟩⟩
end
theorem jaf{L R:Rows}{d:Nat}{v:Nat×List (List IV)}(h:look R d=some v)(hs:SubR L R):SubR ((d,v)::L) R:=fun k x hk=>by
 by_cases e:k=d
 ·subst e;rw[ja7]at hk;cases hk;exact h
 ·rw[ja5 _ _ e]at hk;exact hs k x hk
attribute [go_sem ↓] aheadTN_nil aheadTN_true aheadTN_free spOL_fin spOL_one
end
section
section
variable{G:Ctx}{N:Nat}{w0:Base}{M0:Nat->Nat->Prop}
theorem SemC.seq{x y:Code}{Q:Exit->St->Prop}{st:St}(h:SemC G N x (fun e s=>match e with | .normal=>SemC G N y Q s | e=>Q e s) st):SemC G N (x.seq y) Q st:=fun w0 M0 β a w hs=>by
 refine wp_seq (wp_mono (h w0 M0 β a w hs) fun e a' w' hq=> ?_);obtain⟨β',st',hq,hs'⟩:=hq;cases e with
 | normal=>exact hq w0 M0 β' a' w' hs'
 | _=>exact⟨β',st',hq,hs'⟩
end
end
section
open Go.RowKit (Below)
def frzL:List Nat->IV->Rows->IV
 | [],y,_=>y
 | b::bs,y,L=>match look L (hp b)with
  | some (s,es)=>frzL bs (frz3 b s es y) (del L (hp b))
  | none=>frzL bs y L
theorem frzL_some{b s:Nat}{es:List (List IV)}{bs:List Nat}{y:IV}{L:Rows}(h:look L (hp b)=some (s,es)):frzL (b::bs) y L=frzL bs (frz3 b s es y) (del L (hp b)):=by rw[frzL,h]
theorem jhn{w':World}{M:Nat->Nat->Prop}{v:Value}:∀(bs:List Nat) (y:IV) (L:Rows),(∀k s es,look L k=some (s,es)->∃b,k=hp b/\(∀o,¬M b o)/\RowRep w' (MoH M L) b s es)->Rep w' (MoH M L) y v->Rep w' M (frzL bs y L) v
 | [],y,L,_,hy=>hy.kept (Kept.less w' fun b o h=> .inl h)
 | b::bs,y,L,hL,hy=>by
  cases hl:look L (hp b)with
  | none=>
   rw[show frzL (b::bs) y L=frzL bs y L by rw[frzL,hl]];exact jhn bs y L hL hy
  | some p=>
   obtain⟨s,es⟩:=p;rw[frzL_some hl];have hless:∀b' o,MoH M (del L (hp b)) b' o->MoH M L b' o:=fun b' o h=>by
    rcases h with h | h
    ·exact .inl h
    ·by_cases e:hp b'=hp b
     ·rw[e,ja2]at h;cases h
     ·rw[ja3 _ e]at h;exact .inr h
   have hk:=Kept.less w' hless;obtain⟨b',e,hn,hrow⟩:=hL _ _ _ hl;have hbb:=hp_inj.1 e;subst hbb;have hnm:∀o,¬MoH M (del L (hp b)) b o:=fun o h=>by
    rcases h with h | h
    ·exact hn o h
    ·rw[ja2]at h;cases h
   refine jhn bs _ _ (fun k s' es' hk'=> ?_) (jkd (hrow.move hk rfl) hnm (hy.kept hk));by_cases e:k=hp b
   ·subst e;rw[ja2]at hk';cases hk'
   ·rw[ja3 _ e]at hk';obtain⟨b2,h1,h2,h3⟩:=hL k s' es' hk';exact⟨b2,h1,h2,h3.move hk rfl⟩
theorem jki{P:Program}{f:FuncId}{xs:List IV}{φ:AV->Rows->Prop}{ψ:IV->Prop}(h:CtrH P f (xs.map AV.im) [] φ)(hφ:∀r L',φ r L'->∃y bs,r= .im y/\ψ (frzL bs y L')):Ctr P f xs ψ:=fun w M vs hM hr=>by
 have hr':=hr;refine(h w M vs hM (fun k s es hk=>by cases hk) (by rw[List.length_map];exact hr.1.symm) (fun i av v hi hv=> ?_)).mono ?_
 ·rw[List.getElem?_map]at hi;obtain⟨x,hx,rfl⟩:=Option.map_eq_some_iff.1 hi;exact(hr.2 i x v hx hv).kept (Kept.less w fun b o h=>h.elim id fun h=>by cases h)
 ·rintro en w' ⟨r,v,L',g1,g2,g3,g4,g5,g6⟩;obtain⟨y,bs,rfl,hψ⟩:=hφ r L' g1;refine⟨_,v,hψ,g2,jhn bs y L' (fun k s es hk=> ?_) g6,?_⟩
  ·obtain⟨b,h1,h2,h3⟩:=g5 k s es hk;refine⟨b,h1,fun o hm=> ?_,h3⟩;rcases h2 with h2 | h2
   ·cases h2
   ·have:=hM b o hm;omega
  ·exact⟨g4.os,g4.tape,g4.output,g4.size,fun k hk=>g4.block k ⟨hk,rfl⟩⟩
end
section
section
variable{G:Ctx}{kp:Bool}
theorem SpOne_storeK(ops:List Oper)(K:St->Prop)(l:List Oper)(t:TypeId)(p x:Operand)(ty:TypeId)(pos:String)(af:Array Edge)(s:OT)(Rs:Rows)(st:St):
  SpOne G true ops K l (some ⟨none,.store t p x,ty,pos,af,.none⟩) s Rs st=jjm G t (evO st p) (evO st x) st.rows (T:=⟨fun R'=>SubR Rs R'/\spOL G true ops K l s Rs ⟨st.fr,R',st.toks⟩⟩):=by
 apply propext;constructor
 ·intro h;have h2:=h.2;unfold spN spZ at h2;dsimp only at h2;exact jfc h2 fun _ _ h=>h
 ·intro h;refine⟨trivial,?_⟩;unfold spN spZ;dsimp only;exact jfc h fun _ _ h=>h
end
attribute [go_sem ↓] SpOne_storeK
end
section
def mIx:Nat->List Bool->List Nat
 | _,[]=>[]
 | k,true::m=>k::mIx (k+1) m
 | k,false::m=>mIx (k+1) m
def pathT:List Nat->OT
 | []=> .fin
 | i::r=> .alt i (pathT r) .none
section
variable{G:Ctx}{kp:Bool}
theorem mIx_nil(k:Nat):mIx k []=[]:=rfl
theorem mIx_true(k:Nat)(m:List Bool):mIx k (true::m)=k::mIx (k+1) m:=rfl
theorem mIx_false(k:Nat)(m:List Bool):mIx k (false::m)=mIx (k+1) m:=rfl
theorem pathT_nil:pathT []= .fin:=rfl
theorem pathT_cons(i:Nat)(r:List Nat):pathT (i::r)= .alt i (pathT r) .none:=rfl
variable(dst:Option Tmp)(ty:TypeId)(pos:String)(af:Array Edge)(gd:Option (Nat×Bool))(st:St)(ops:List Oper)(r:List Oper)
theorem aheadTN_guard(K:St->Prop)(R0 Rs:Rows)(t:OT)(m:List Bool)(op:Op)(j:Nat)(want:Bool):
  jbv G kp ops K R0 Rs t (false::m) (⟨dst,op,ty,pos,af,some (j,want)⟩::r) st=Opt (jb3 st ops j) (K:=⟨fun y=>match y with
   | some b=>Two (b==want) (A:=⟨aq G st ⟨dst,op,ty,pos,af,some (j,want)⟩ (fun av=>jbv G kp ops K R0 Rs t m r (st.put dst av))⟩) (B:=⟨jbv G kp ops K R0 Rs t m r (st.put dst jas)⟩)
   | none=>jbv G kp ops K R0 Rs t m r (st.put dst jas)⟩):=by
 simp only[jbv,List.length_cons,List.drop_succ_cons]
 conv=>lhs;unfold jcv
 simp only[Opt,Two_eq];split<;>rename_i h<;>rw[h]<;>rfl
end
attribute [go_sem ↓] mIx_nil mIx_true mIx_false pathT_nil pathT_cons aheadTN_guard
end
section
open Go.RowKit (Below)
section
variable{G:Ctx}
def LeW(s:St)[S:Hold St]:Prop:=St.Le s S.val
theorem DrawW_of{ops:List Oper}{Q:Exit->St->Prop}{st:St}(S:St)(h1: @DrawP G ⟨ops⟩ ⟨fun _ s=> @LeW s ⟨S⟩⟩ st)(h2:Q .normal S): @DrawP G ⟨ops⟩ ⟨Q⟩ st:=
 fun N w0 M0 β a w id Q' hG hd hK hsim=>h1 N w0 M0 β a w id Q' hG hd (fun st' β' a' w' (hle:St.Le st' S) hs=>let⟨β2,h3⟩:=hle N w0 M0 β' a' w' hs;hK S β2 a' w' h2 h3) hsim
end
def emp1:IV->IV
 | .emp=> .sl []
 | x=>x
theorem emp1_one(x:IV):(emp1 x).one=x.one:=by cases x<;>rfl
theorem rep_emp1{w:World}{M:Nat->Nat->Prop}{x:IV}{v:Value}(h:Rep w M x v):Rep w M (emp1 x) v:=by
 cases x with
 | emp=>cases h with | emp a=>exact Rep.nil a 0
 | _=>exact h
section
variable{G:Ctx}{N:Nat}{w0:Base}{w:World}{M0:Nat->Nat->Prop}{β:Nat->Option Nat}{st:St}{a:Act}
theorem Sim.rowsTo(h:Sim N w0 M0 β st a w)(R:Rows)(hk:∀k,(look R k).isSome=(look st.rows k).isSome)
  (hr:∀k s es,look R k=some (s,es)->∀b,β k=some b->RowRep w (Mo M0 β st) b s es):Sim N w0 M0 β ⟨st.fr,R,st.toks⟩ a w:=by
 have key:∀k,(∃s es,look R k=some (s,es))↔∃s es,look st.rows k=some (s,es):=fun k=>by
  have:=hk k;cases h1:look R k with
  | none=>cases h2:look st.rows k with
   | none=>simp
   | some q=>simp[h1,h2]at this
  | some p=>cases h2:look st.rows k with
   | none=>simp[h1,h2]at this
   | some q=>exact⟨fun _=>⟨q.1,q.2,rfl⟩,fun _=>⟨p.1,p.2,rfl⟩⟩
 have hless:∀b o,Mo M0 β ⟨st.fr,R,st.toks⟩ b o->Mo M0 β st b o:=fun b o hm=>by
  rcases hm with hm | ⟨k,s,es,hk',hb⟩ | hm
  ·exact .inl hm
  ·obtain⟨s2,es2,h2⟩:=(key k).1 ⟨s,es,hk'⟩;exact .inr (.inl ⟨k,s2,es2,h2,hb⟩)
  ·exact .inr (.inr hm)
 have hkp:=Kept.less w hless;refine⟨h.size,h.defers,h.below,h.m0,fun t=> ?_,fun k s es hk'=> ?_,h.toks,fun k k' b h1 h2=> ?_,fun k hk'=> ?_,fun k hN hN' hk'=> ?_,h.np,h.perm⟩
 ·exact(h.fr t).move (β':=β) (toks':=st.toks) hkp (fun _ _=>rfl) (fun _ _ _ _ hl=>hl) (fun _ _ _ _ _=>rfl) (Shp.refl _)
 ·obtain⟨s2,es2,h2⟩:=(key k).1 ⟨s,es,hk'⟩;obtain⟨b,g1,g2,_⟩:=h.rows k s2 es2 h2;exact⟨b,g1,g2,(hr k s es hk' b g1).move hkp rfl⟩
 ·exact h.inj k k' b (by simpa [hk]using h1) (by simpa [hk]using h2)
 ·exact h.excl k (by rw[<-hk];exact hk')
 ·exact h.nam k hN hN' (by rw[<-hk];exact hk')
def frzC(b s:Nat)(es:List (List IV))(c:List IV):List IV:=c.map (frz1 b s es)
def St.frzR(st:St)(b:Nat):St:=
 match look st.rows (hp b)with
 | some (s,es)=>⟨(st.frz b).fr,(st.frz b).rows.map fun p=>(p.1,p.2.1,p.2.2.map (frzC b s es)),(st.frz b).toks⟩
 | none=>st
theorem Sim.frzR(h:Sim N w0 M0 β st a w)(b:Nat):Sim N w0 M0 β (st.frzR b) a w:=by
 unfold St.frzR;split
 case h_2=>exact h
 case h_1 s es hd=>
  have h1:=h.frz b;obtain⟨b',hb',hb0,hrow⟩:=h.rows _ s es hd;rw[h.perm]at hb';cases hb';have htok:look st.toks (hp b)=none:=h.excl _ (jap hd);have e0:st.frz b=⟨st.fr.map fun p=>(p.1,p.2.frz b s es),del st.rows (hp b),st.toks⟩:=by unfold St.frz;rw[hd]
  have hless:∀b' o,Mo M0 β (st.frz b) b' o->Mo M0 β st b' o:=fun b' o hm=>by rw[e0]at hm;exact jhl hm
  have hnm:∀o,¬Mo M0 β (st.frz b) b o:=by
   rw[e0];rintro o (hm | ⟨k,s',es',hk',hkb⟩ | ⟨k,s',n,hk',hkb,_⟩)
   ·exact hb0 (h.m0 b o hm)
   ·by_cases e:k=hp b
    ·subst e;simp[ja2]at hk'
    ·exact e (h.inj k (hp b) b (.inl (by simp only[ja3 _ e]at hk';simp[hk'])) (.inl (by simp[hd])) hkb (h.perm b))
   ·have:=h.inj k (hp b) b (.inr (by simp only at hk';simp[hk'])) (.inl (by simp[hd])) hkb (h.perm b);subst this;simp only at hk';rw[htok]at hk';cases hk'
  have hrow':=hrow.move (Kept.less w hless) rfl;have hlk:∀k,look ((st.frz b).rows.map fun p=>(p.1,p.2.1,p.2.2.map (frzC b s es))) k=(look (st.frz b).rows k).map fun q:Nat×List (List IV)=>(q.1,q.2.map (frzC b s es)):=fun k=>jcf _ (fun q:Nat×List (List IV)=>(q.1,q.2.map (frzC b s es))) k;refine h1.rowsTo _ (fun k=>by rw[hlk];cases look (st.frz b).rows k<;>rfl) fun k s2 es2 hk b2 hb2=> ?_;rw[hlk]at hk;obtain⟨⟨s3,es3⟩,g1,g2⟩:=Option.map_eq_some_iff.1 hk;cases g2;obtain⟨b3,q1,_,cur,T,q2,q3,q4⟩:=h1.rows k s3 es3 g1;rw[hb2]at q1;cases q1;refine⟨cur,T,q2,fun c hc=> ?_,fun i c j y hi hj=> ?_⟩
  ·obtain⟨c0,hc0,rfl⟩:=List.mem_map.1 hc;unfold frzC;rw[List.length_map];exact q3 c0 hc0
  ·rw[List.getElem?_map]at hi;obtain⟨c0,hc0,rfl⟩:=Option.map_eq_some_iff.1 hi;unfold frzC at hj;rw[List.getElem?_map]at hj;obtain⟨y0,hy0,rfl⟩:=Option.map_eq_some_iff.1 hj;obtain⟨o1,u,o2,o3⟩:=q4 i c0 j y0 hc0 hy0;exact⟨by rw[jkf];exact o1,u,o2,ji4 hrow' hnm o3⟩
theorem Sim.frzRs(h:Sim N w0 M0 β st a w)(bs:List Nat):Sim N w0 M0 β (bs.foldl St.frzR st) a w:=by
 induction bs generalizing st with
 | nil=>exact h
 | cons b bs ih=>exact ih (h.frzR b)
theorem DoneR_of{s S:St}(bs:List Nat)(L:List Nat)(hf:L.map (fun t=>(t,(bs.foldl St.frzR s).get t))=S.fr)(hr:SubR S.rows (bs.foldl St.frzR s).rows)(ht:S.toks=[]): @LeW s ⟨S⟩:=
 St.Le.trans (fun N w0 M0 β a w h=>⟨β,h.frzRs bs⟩) (St.sub_of L hf hr ht).le
end
section
variable{G:Ctx}
end
def tailN:Nat->Code->Code
 | 0,c=>c
 | n+1,.seq _ y=>tailN n y
 | _+1,c=>c
def putN:Nat->Code->Code->Code
 | 0,_,y=>y
 | n+1,.seq x c,y=> .seq x (putN n c y)
 | _+1,c,_=>c
theorem jc6:∀(j k:Nat) (c:Code),tailN k (tailN j c)=tailN (j+k) c
 | 0,k,c=>by rw[Nat.zero_add];rfl
 | j+1,k,c=>by
  cases c with
  | seq x y=>rw[show j+1+k=(j+k)+1 by omega];exact jc6 j k y
  | _=>cases k<;>first | rfl | (rw[show j+1+(_+1)=(j+_+1)+1 by omega];rfl)
def jbd(fn:Func):Code:=match fn.body with
 | some c=>c
 | none=> .skip
section
variable{G:Ctx}
theorem tail_go{fn:Func}{c:Code}(hb:fn.body=some c){k:Nat}{Q:Exit->St->Prop}{st:St}(h:awp G (tailN k c) Q st):awp G (tailN k (jbd fn)) Q st:=by
 unfold jbd;rw[hb];exact h
theorem jcs{fn:Func}{c:Code}(hb:fn.body=some c){k j:Nat}{y:Code}{Q:Exit->St->Prop}{st:St}(h:awp G (putN k (tailN j c) y) Q st):awp G (putN k (tailN j (jbd fn)) y) Q st:=by
 unfold jbd;rw[hb];exact h
end
attribute [go_sem] St.frzR frzC tailN putN
end
section
section
variable{G:Ctx}{N:Nat}
theorem SemC.le{c:Code}{Q:Exit->St->Prop}{st S:St}(hl:St.Le st S)(h:SemC G N c Q S):SemC G N c Q st:=fun w0 M0 β a w hs=>
 let⟨β2,h2⟩:=hl N w0 M0 β a w hs;h w0 M0 β2 a w h2
def LeC(s S:St):Prop:=St.Le s S
theorem LeC_of{s S:St}(L:List Nat)(hf:L.map (fun t=>(t,s.get t))=S.fr)(hr:SubR S.rows s.rows)(ht:S.toks=[]):LeC s S:=(St.sub_of L hf hr ht).le
def isSeq:Nat->Code->Bool
 | 0,_=>true
 | k+1,.seq _ y=>isSeq k y
 | _+1,_=>false
theorem SemC.cutsF(hG:G.Good){Q:Exit->St->Prop}{ι:Type}(S:ι->St)(P:ι->Prop):∀(k:Nat) {c:Code} {st:St},isSeq k c=true->dstB N c=true->
  Go.Abs.awp G (putN k c .skip) (fun e s=>match e with | .normal=>∃i,P i/\St.Le s (S i) | e=>Q e s) st->(∀i,P i->SemC G N (tailN k c) Q (S i))->SemC G N c Q st
 | 0,c,st,_,_,⟨i,hi,hl⟩,h2=>SemC.le hl (h2 i hi)
 | k+1,.seq x y,st,hs,hd,h1,h2=>by
  simp only[dstB,Bool.and_eq_true]at hd;refine SemC.seq fun w0 M0 β a w hsim=> ?_;refine wp_mono (jdt hG x _ st β a w hd.1 h1 hsim) fun e a' w' hq=> ?_;obtain⟨β',st',hq,hs'⟩:=hq;refine⟨β',st',?_,hs'⟩;cases e with
  | normal=>exact SemC.cutsF hG S P k hs hd.2 hq h2
  | _=>exact hq
theorem ctrX_of(hG:G.Good){f:FuncId}{fn:Func}{c:Code}{xs:List IV}{t:Tmp}{x:IV}(hf:G.P.funcs[f]? =some fn)(hb:fn.body=some c)(hd:dstC fn.ntmps c=true)(hn:xs.length<=fn.ntmps)(hr:fn.results.toList=[.tmp t])
  (h:SemC G fn.ntmps c (fun e s=>match e with | .normal=>s.get t= .im x | .ret=>s.get t= .im x | _=>False) (jbt (xs.map .im) [])):Ctr G.P f xs (· =x):=by
 refine jki (φ:=fun r L'=>r= .im x/\L'=[]) (jee hG hf hb hd (by rw[List.length_map];exact hn) (h.mono fun e s hq=> ?_)) (fun r L' ⟨h1,h2⟩=>⟨x,[],h1,rfl⟩);have key:s.get t= .im x->aRetH G fn.results.toList (fun r L'=>r= .im x/\L'=[]) s:=fun hq=>by
  refine⟨[],fun k y hk=>(by cases hk),?_⟩;rw[hr];show(s.get t).toH= .im x/\([]:Rows)=[];rw[hq];exact⟨rfl,rfl⟩
 cases e with
 | normal=>exact key hq
 | ret=>exact key hq
 | _=>exact hq.elim
end
end
end Go.Abs
namespace Go.Proofs.Ythahgoopboilkaa
section
open Go.RowKit Go.Shelf Go.LQ Go.Maps
open Go.Abs (IV Rep RepL Ctr keyV elemV Ents Born mfind jd4 mget)
attribute [local go_sem] Oper.semAt_some
theorem jez{α:Type}{p:α->Bool}:∀{l m:List α},l.Sublist m->m.Nodup->(∀x∈m,x∈l↔p x=true)->l=m.filter p
 | _,_,.slnil,_,_=>rfl
 | l,a::m,.cons _ h,hn,hp=>by
  have hn':=List.nodup_cons.1 hn;have ha:¬p a=true:=fun e=>hn'.1 (h.subset ((hp a List.mem_cons_self).2 e));rw[List.filter_cons_of_neg ha];exact jez h hn'.2 fun x hx=>hp x (List.mem_cons_of_mem _ hx)
 | a::l,_::m,.cons₂ _ h,hn,hp=>by
  have hn':=List.nodup_cons.1 hn;have ha:p a=true:=(hp a List.mem_cons_self).1 List.mem_cons_self;rw[List.filter_cons_of_pos ha,<-jez h hn'.2 fun x hx=> ?_];have:=hp x (List.mem_cons_of_mem _ hx);rw[List.mem_cons]at this;exact⟨fun h=>this.1 (.inr h),fun h'=>(this.2 h').resolve_left fun e=>hn'.1 (by rw[<-e];exact hx)⟩
structure EInt(l:List MapEntry):Prop where
 kv:∀e∈l,∃(x:KeyV) (n:Int),e.key= .agg x.enc.toArray/\e.val= .int .i64 n
 keys:(l.map (·.key)).Nodup
 born:(l.map (·.born)).Nodup
theorem EInt.sub{l m:List MapEntry}(h:EInt m)(hs:l.Sublist m):EInt l:=⟨fun e he=>h.kv e (hs.subset he),h.keys.sublist (hs.map _),h.born.sublist (hs.map _)⟩
theorem jir{α β:Type}{f:α->β}{l:List α}(h:(l.map f).Nodup):l.Nodup:=(List.pairwise_map.1 h).imp fun h e=>h (congrArg f e)
def decV(v:Value):Int:=match v with | .int _ n=>n | _=>0
def kvE(e:MapEntry):List Int×List Int:=(decK e.key,[decV e.val])
theorem EInt.ents{es:Array MapEntry}(h:EInt es.toList):Ents (3,true) (es.toList.map kvE) es:=by
 refine⟨fun p hp=> ?_,?_⟩
 ·obtain⟨e,he,rfl⟩:=List.mem_map.1 hp;obtain⟨x,n,h1,_⟩:=h.kv e he;show(decK e.key).length=3;rw[h1];rfl
 ·rw[List.map_map];refine List.map_congr_left fun e he=> ?_;obtain⟨x,n,h1,h2⟩:=h.kv e he;show(e.key,e.val)=(keyV (decK e.key),elemV true [decV e.val]);rw[h1,h2];rfl
theorem mget_in:∀{l:List (List Int×List Int)} {k:List Int},k∈l.map (·.1)->mget l k≠none
 | (u,v)::l,k,h=>by
  rw[mget];split
  ·exact fun e=>by cases e
  ·rename_i hne;rw[List.map_cons,List.mem_cons]at h;exact mget_in (h.resolve_left hne)
theorem del_run{w:World}{b c:Nat}{es:Array MapEntry}(h:EInt es.toList)(hb:w.heap[b]? =some (.map es c)){e:MapEntry}(he:e∈es.toList){x:KeyV}(hx:e.key= .agg x.enc.toArray)(ty:TypeId):
  ∃es':Array MapEntry,(Builtin.delete_ #[64,68] ty #[.map (some b),.agg x.enc.toArray]).run Try.prog w= .ok (.tuple #[]) (ChangeMaps.setBlock w b (.map es' c))/\es'.toList.Sublist es.toList/\∀y∈es.toList,y∈es'.toList↔y≠e:=by
 have hG:G.Ok:=good.ok;have hk:Go.Abs.keyN G 68=some 3:=by decide+kernel
 have hf:=Go.Abs.run_findKey_rows (w:=w) hG hk (x:=x.l) rfl (sc:=(3,true)) (kvs:=es.toList.map kvE) (es:=es) (fun _=>rfl) h.ents;have hck:=Go.Abs.run_key_check hG hk (xs:=x.l) rfl es.isEmpty w;have hmem:x.l∈(es.toList.map kvE).map (·.1):=by
  rw[List.map_map];refine List.mem_map.2 ⟨e,he,?_⟩;show decK e.key=x.l;rw[hx];rfl
 have hmg:=jd4 (es.toList.map kvE) x.l 0;cases hfi:mfind (es.toList.map kvE) x.l 0 with
 | none=>
  rw[hfi]at hmg;exact absurd hmg.symm (mget_in hmem)
 | some p=>
  obtain⟨i,v⟩:=p;obtain⟨k,rfl,hat,_⟩:=Go.Abs.mfind_some (u:=[]) hfi;rw[hfi]at hf;rw[Nat.zero_add]at hf;rw[List.getElem?_map,Option.map_eq_some_iff]at hat;obtain⟨e',he',hke⟩:=hat;have hkl:k<es.toList.length:=(List.getElem?_eq_some_iff.1 he').1;have hks:k<es.size:=by simpa using hkl
  have hee:e'=e:=by
   obtain⟨x',n',h1,_⟩:=h.kv e' (List.mem_of_getElem? he');have h2:decK e'.key=x.l:=congrArg Prod.fst hke;have h3:e'.key=e.key:=by
    rw[h1]at h2⊢;have h2:x'.l=x.l:=h2;rw[hx];simp only[KeyV.l,List.cons.injEq,and_true]at h2;obtain⟨q1,q2,q3⟩:=h2;simp only[KeyV.enc,q1,q2,q3]
   obtain⟨j,hj,hej⟩:=List.mem_iff_getElem.1 he;by_cases e1:k=j
   ·subst e1;rw[List.getElem?_eq_getElem hkl]at he';cases he';exact hej
   ·have hn:=List.pairwise_iff_getElem.1 h.keys;have hk1:(es.toList.map (·.key))[k]'(by simpa using hkl)=e'.key:=by
     rw[List.getElem_map];rw[List.getElem?_eq_getElem hkl]at he';cases he';rfl
    have hk2:(es.toList.map (·.key))[j]'(by simpa using hj)=e.key:=by rw[List.getElem_map,hej]
    rcases Nat.lt_or_gt_of_ne e1 with hl | hl
    ·exact absurd (by rw[hk1,hk2,h3]) (hn k j (by simpa using hkl) (by simpa using hj) hl)
    ·exact absurd (by rw[hk1,hk2,h3]) (hn j k (by simpa using hj) (by simpa using hkl) hl)
  subst hee;have hsub:(es.eraseIdxIfInBounds k).toList=es.toList.eraseIdx k:=by
   unfold Array.eraseIdxIfInBounds;rw[dif_pos hks];simp
  have hnd:=jir h.born;refine⟨es.eraseIdxIfInBounds k,?_,by rw[hsub];exact List.eraseIdx_sublist _ _,fun y hy=> ?_⟩
  ·have hu:Try.prog.underlying 64=some (.map 68 3):=Try.underlying64;have hck:(Instr.checkKey es.isEmpty 10000 68 (.agg x.enc.toArray)).run Try.prog w= .ok () w:=hck;have hf:(Instr.findKey 68 (.agg x.enc.toArray) es.toList).run Try.prog w= .ok (some (k,elemV true v)) w:=hf;simp[Builtin.delete_,run_underlying hu,MapKept.run_getObj_map hb,hck,hf,MapKept.run_setObj_map _ hb,Result.andThen,ChangeMaps.setBlock]
  ·rw[hsub];rw[List.getElem?_eq_getElem hkl]at he';have he':es.toList[k]=e':=Option.some.inj he';rw[<-he'];constructor
   ·intro hm;obtain⟨j,hj,hjk,hjy⟩:=List.mem_eraseIdx_iff_getElem.1 hm;intro e1;rw[<-hjy]at e1;have:=(List.getElem_inj hnd).1 e1;exact hjk this
   ·intro hne;obtain⟨j,hj,hjy⟩:=List.mem_iff_getElem.1 hy;exact List.mem_eraseIdx_iff_getElem.2 ⟨j,hj,fun e1=>hne (by subst e1;exact hjy.symm),hjy⟩
theorem wpListIn_delete_at{F:Fence}{nF:Nat}{ops:Array Oper}{Q:Exit->Act->World->Prop}{rest:List Oper}{o:Oper}{a:Act}{w:World}(hg:o.guard=none)(m x:Operand)(t k:TypeId)(hop:o.op=Op.call {callee:=Callee.builtin Builtin.delete,args:= #[m,x],argTypes:= #[t,k]})
  {b:Nat} {key:Value} {w':World} (hm:a.eval m= .map (some b)) (hx:a.eval x=key) (hrun:∀ty,(Builtin.delete_ #[t,k] ty #[.map (some b),key]).run Try.prog w= .ok (.tuple #[]) w')
  (hK:wpListIn F nF Try.prog ops Q rest (a.put o.dst (.tuple #[])) w'):
  wpListIn F nF Try.prog ops Q (o::rest) a w:=by
 refine wpListIn_plain hg fun K' hK'=> ?_;unfold Oper.wpIn;refine⟨by simp[Oper.about,hop,resolve,Target.leads,Sem.run_pure],?_⟩;rw[Oper.semAt_plain F _ _ (by rw[hop];intro c hc';cases hc')];simp[execOp,hop,resolve,invoke,builtin,hm,hx,hrun,Result.andThen];exact hK' _ _ hK
end
end Go.Proofs.Ythahgoopboilkaa
namespace Go.Abs
section
section
variable{G:Ctx}{N:Nat}
end
def inL:Code->Code
 | .seq x _=>x
 | c=>c
def inR:Code->Code
 | .seq _ y=>y
 | c=>c
def inB:Code->Code
 | .block _ c=>c
 | .loop c=>c
 | c=>c
theorem inL_seq(x y:Code):inL (.seq x y)=x:=rfl
theorem inR_seq(x y:Code):inR (.seq x y)=y:=rfl
theorem inB_block(k:Nat)(c:Code):inB (.block k c)=c:=rfl
theorem inB_loop(c:Code):inB (.loop c)=c:=rfl
attribute [go_sem] inL_seq inR_seq inB_block inB_loop
