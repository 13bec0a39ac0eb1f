/- A part of the proof. No further condition. -/
import Derived.Test.YtgncgpfjldefpaaGreatKR11
set_option linter.all false
set_option maxRecDepth 10000000
set_option maxHeartbeats 16000000
namespace Go.Abs
section
open Go.RowKit (Below)
inductive OT where
 | fin:OT
 | none:OT
 | alt:Nat->OT->OT->OT
def OT.heads:OT->List Nat
 | .alt i _ r=>i::r.heads
 | _=>[]
def OT.emp:OT->Bool
 | .fin=>true
 | _=>false
def OT.cov(ops:Array Oper)(t:OT)(rem:List Nat):Bool:=(t.emp==rem.isEmpty)&&rem.all fun i=>t.heads.contains i || rem.any fun j=>jjj ops 3 i j
def OT.ok(ops:Array Oper):OT->List Nat->Bool
 | .alt i s r,rem=>s.cov ops (rem.filter (· !=i))&&s.ok ops (rem.filter (· !=i))&&r.ok ops rem
 | _,_=>true
def okT(ops:Array Oper)(t:OT)(rem:List Nat):Bool:=t.cov ops rem&&t.ok ops rem
def drawN(ops:Array Oper)(m:List Bool):Bool:=
 drawB ops m.length&&(List.range m.length).all (fun j=>(List.range j).all fun i=>
  (!(m.getD i false&& !(m.getD j false)) || (match ops[i]?,ops[j]? with
   | some oi,some oj=>oi.apart ops oj
   | _,_=>false)))
def spMk(G:Ctx)(d:Nat)(t:TypeId)(l c:AV)(R:Rows)(T:AV->Rows->Prop):Prop:=
 match l,c with
 | .im (.sc (.int _ n)),.im (.sc (.int _ m))=>match(G.ti t).kind with
  | .sl e=>match jcz G e with
   | some z=>G.perm.contains d=true/\(G.ti t).size≠0/\n=m/\0<=n/\n*(G.ti e).bytes<=140737488355328/\(G.ti e).bytes≠0/\
     ∀b,look R (hp b)=none->T (.im (.ref b e (G.ti e).size (List.replicate n.toNat z).length)) ((hp b,(G.ti e).size,List.replicate n.toNat z)::R)
   | none=>False
  | _=>False
 | _,_=>False
def spN(G:Ctx)(st:St)(o:Oper)(T:AV->Rows->Prop):Prop:=
 match o.op with
 | .alloc t=>match o.dst,jcz G t with
  | some d,some z=>G.perm.contains d=true/\∀b,look st.rows (hp b)=none->T (.loc (hp b) z.length 0 0) ((hp b,z.length,[z])::st.rows)
  | _,_=>False
 | .makeSlice t l c=>match o.dst with
  | some d=>spMk G d t (evO st l) (evO st c) st.rows T
  | none=>False
 | _=>spZ G st o T
def spN1(G:Ctx)(st:St)(o:Oper)(T:AV->Rows->Prop):Prop:=
 match o.op with
 | .alloc t=>match o.dst,jcz G t with
  | some d,some z=>G.perm.contains d=true/\∀b,look st.rows (hp b)=none->T (.loc (hp b) z.length 0 0) ((hp b,z.length,[z])::st.rows)
  | _,_=>False
 | .makeSlice t l c=>match o.dst with
  | some d=>spMk G d t (evO st l) (evO st c) st.rows T
  | none=>False
 | _=>spZ1 G st o T
def spO(G:Ctx)(kp:Bool)(ops:List Oper)(K:St->Prop):OT->Rows->St->Prop
 | .fin,_,st=>K st
 | .none,_,_=>True
 | .alt i s r,Rs,st=>(match ops[i]? with
  | some o=>o.guard=none/\spN G st o fun av R'=>(∀k x,look (if(isStZ o&& !kp)=true then []else Rs) k=some x->look R' k=some x)/\spO G kp ops K s (if(isStZ o&& !kp)=true then []else Rs) ((⟨st.fr,R',st.toks⟩:St).put o.dst av)
  | none=>False)/\spO G kp ops K r Rs st
theorem okT_nil{ops:Array Oper}{t:OT}(h:okT ops t []=true):t= .fin:=by
 cases t with
 | fin=>rfl
 | none=>cases h
 | alt i s r=>cases h
theorem okT_head{ops:Array Oper}{t:OT}{rem:List Nat}{i:Nat}(h:okT ops t rem=true)(hi:i∈rem)(hw:∀j∈rem,jjj ops 3 i j=false):i∈t.heads:=by
 unfold okT OT.cov at h;rw[zB,zB]at h;have:=List.all_eq_true.1 h.1.2 i hi;rw[qG]at this;rcases this with h | h
 ·simpa using h
 ·obtain⟨j,hj,e⟩:=jy.1 h;rw[hw j hj]at e;cases e
theorem jol{G:Ctx}{kp:Bool}{ops:List Oper}{K:St->Prop}{Rs:Rows}{st:St}{rem:List Nat}{i:Nat}:∀{t:OT},t.ok ops.toArray rem=true->i∈t.heads->spO G kp ops K t Rs st->
  ∃t2:OT,okT ops.toArray t2 (rem.filter (· !=i))=true/\match ops[i]? with
  | some o=>o.guard=none/\spN G st o fun av R'=>(∀k x,look (if(isStZ o&& !kp)=true then []else Rs) k=some x->look R' k=some x)/\spO G kp ops K t2 (if(isStZ o&& !kp)=true then []else Rs) ((⟨st.fr,R',st.toks⟩:St).put o.dst av)
  | none=>False
 | .fin,_,hi,_=>by cases hi
 | .none,_,hi,_=>by cases hi
 | .alt j s r,h,hi,hs=>by
  rw[OT.ok,zB,zB]at h;rcases zT.1 hi with e | hi
  ·subst e;exact⟨s,by unfold okT;rw[h.1.1,h.1.2];rfl,hs.1⟩
  ·exact jol h.2 hi hs.2
theorem spO_head{G:Ctx}{kp:Bool}{ops:List Oper}{K:St->Prop}{Rs:Rows}{st:St}{rem:List Nat}{i:Nat}{t:OT}(h:okT ops.toArray t rem=true)(hi:i∈t.heads)(hs:spO G kp ops K t Rs st):
  ∃t2:OT,okT ops.toArray t2 (rem.filter (· !=i))=true/\match ops[i]? with
  | some o=>o.guard=none/\spN G st o fun av R'=>(∀k x,look (if(isStZ o&& !kp)=true then []else Rs) k=some x->look R' k=some x)/\spO G kp ops K t2 (if(isStZ o&& !kp)=true then []else Rs) ((⟨st.fr,R',st.toks⟩:St).put o.dst av)
  | none=>False:=jol (by unfold okT at h;rw[zB]at h;exact h.2) hi hs
theorem spN_1{G:Ctx}{st:St}{o:Oper}{T:AV->Rows->Prop}(h:spN G st o T):spN1 G st o T:=by
 unfold spN at h;unfold spN1;split at h
 ·exact h
 ·exact h
 ·exact spZ_1 h
section
variable{G:Ctx}{kp:Bool}{N:Nat}{w0:Base}{w w':World}{M0:Nat->Nat->Prop}{β:Nat->Option Nat}{st st':St}{a:Act}{ops:List Oper}
theorem spN_congr{o:Oper}{T:AV->Rows->Prop}(h:∀t∈o.looksAt ops.toArray,st.get t=st'.get t)(hr:st.rows=st'.rows)(ht:st.toks=st'.toks)(hs:spN1 G st o T):spN1 G st' o T:=by
 have hx:∀x∈o.op.operands,evO st x=evO st' x:=fun x hx=>jh3 fun t ht=>h t (jdn hx ht);unfold spN1 at hs⊢;split at hs
 ·rw[<-hr];exact hs
 ·rename_i t l c ho;rw[ho]at hx;rw[<-hx l (by simp[Op.operands]),<-hx c (by simp[Op.operands]),<-hr];exact hs
 ·exact spZ_congr h hr ht hs
theorem jom(hG:G.Good)(h:Sim N w0 M0 β st a w){o:Oper}{T:AV->Rows->Prop}(hd:∀d,o.dst=some d->d<N)(hA:spN1 G st o T){K':Act->World->Prop}{Q':Exit->Act->World->Prop}
  (hK:∀av R' β' a' w',T av R'->Sim N w0 M0 β' ((⟨st.fr,R',st.toks⟩:St).put o.dst av) a' w'->K' a' w'):o.wp G.P a w K' Q':=by
 unfold spN1 at hA;split at hA
 ·rename_i t ho;have haop:aop G o (fun st'=>∃av R',st'=(⟨st.fr,R',st.toks⟩:St).put o.dst av/\T av R') st:=by
   unfold aop;rw[ho];dsimp only;split at hA
   ·rename_i d z h1 h2;rw[h1,h2];dsimp only;rw[zn hA.1];exact fun b hb=>⟨_,_,rfl,hA.2 b hb⟩
   ·exact hA.elim
  refine je2 hG h hd haop ?_;rintro st' β' a' w' ⟨av,R',rfl,hT⟩ hs;exact hK av R' β' a' w' hT hs
 ·rename_i t l c ho;have haop:aop G o (fun st'=>∃av R',st'=(⟨st.fr,R',st.toks⟩:St).put o.dst av/\T av R') st:=by
   unfold aop;rw[ho];dsimp only;split at hA
   ·rename_i d h1;rw[h1];unfold spMk at hA;unfold aMake;split at hA
    ·rename_i k n k' m h2 h3;rw[h2,h3];dsimp only;split at hA
     ·rename_i e h4;rw[h4];dsimp only;split at hA
      ·rename_i z h5;rw[h5];obtain⟨a1,a2,a3,a4,a5,a6,a7⟩:=hA;refine⟨a2,a3,a4,a5,a6,?_⟩;rw[zn a1];exact fun b hb=>⟨_,_,rfl,a7 b hb⟩
      ·exact hA.elim
     ·exact hA.elim
    ·exact hA.elim
   ·exact hA.elim
  refine je2 hG h hd haop ?_;rintro st' β' a' w' ⟨av,R',rfl,hT⟩ hs;exact hK av R' β' a' w' hT hs
 ·exact spZ_sound hG h hd hA hK
theorem jlf(hG:G.Good)(id:Nat)(m:List Bool)(t0:OT)(Rs:Rows)(hX:drawN ops.toArray m=true)(hZ:(kp || stZ ops.toArray m)=true)(hT0:okT ops.toArray t0 ((List.range m.length).filter fun i=>m.getD i false)=true)(hd0:∀o∈ops,∀d,o.dst=some d->d<N){K:St->Prop}{Q':Exit->Act->World->Prop}
  (hK:∀st' β' a' w',K st'->Sim N w0 M0 β' st' a' w'->Q' .normal a' w') (h:Sim N w0 M0 β st a w) (hRs:∀k x,look Rs k=some x->look st.rows k=some x)
  (hA:jg2 G ops (fun s=>spO G kp ops (fun s'=>alist G ops K (ops.drop m.length) s') t0 Rs ⟨s.fr,st.rows,s.toks⟩) m ops ⟨st.fr,Rs,st.toks⟩):(Code.region id ops.toArray true).wp G.P Q' a w:=by
 rw[drawN,zB]at hX;obtain⟨hB,hS⟩:=hX;simp only[drawB,zB,zU,qG,yL]at hB;obtain⟨⟨⟨⟨hn,hafter⟩,hpair⟩,htail⟩,hseq⟩:=hB;have hsz:ops.toArray.size=ops.length:=by simp
 have hnl:m.length<=ops.length:=by rw[<-hsz];exact hn
 obtain⟨res0,hres,hfin⟩:=jjd m ops _ hnl hA;generalize hmn:m.length=n at*;have htake:∀i,i<n->(ops.take n)[i]? =ops[i]? :=fun i hi=>by rw[qf,zn hi]
 have hlt:∀i o,(ops.take n)[i]? =some o->i<n/\ops[i]? =some o:=fun i o hi=>by
  rw[qf]at hi;split at hi
  ·exact⟨‹_›,hi⟩
  ·cases hi
 have arr:∀(i:Nat) (o:Oper),ops[i]? =some o->ops.toArray[i]? =some o:=fun i o h=>by simpa using h
 have hpair':∀i j oi oj,i<j->j<n->ops[i]? =some oi->ops[j]? =some oj->Region.waitsFor .any ops.toArray j i=true\/oi.apart ops.toArray oj=true:=by
  intro i j oi oj hij hj h1 h2;have:=List.all_eq_true.1 (List.all_eq_true.1 hpair j (qh.2 hj)) i (qh.2 hij);rw[arr i oi h1,arr j oj h2]at this
  simpa using this
 have hfree:∀i j oi oj,i<j->j<n->m.getD i false=true->m.getD j false=false->ops[i]? =some oi->ops[j]? =some oj->oi.apart ops.toArray oj=true:=by
  intro i j oi oj hij hj h1 h2 h3 h4;have:=List.all_eq_true.1 (List.all_eq_true.1 hS j (qh.2 hj)) i (qh.2 hij);rw[h1,h2,arr i oi h3,arr j oj h4]at this
  simpa using this
 have hstZ:∀(i j:Nat) oi oj,i<n->j<n->m.getD i false=true->m.getD j false=false->ops[i]? =some oi->ops[j]? =some oj->kp=false->isStZ oi=true->jfx oj=true->Region.waitsFor .any ops.toArray i j=true:=by
  intro i j oi oj hi hj h1 h2 h3 h4 hkp h5 h6;rw[hkp,yq]at hZ;unfold stZ at hZ;rw[hmn]at hZ;have:=List.all_eq_true.1 (List.all_eq_true.1 hZ i (qh.2 hi)) j (qh.2 hj);rw[h1,h2,arr i oi h3,arr j oj h4]at this
  simpa [h5,h6]using this
 have hafter':∀(j:Nat) oj,ops[j]? =some oj->∀e∈oj.after,Region.binds .any e=true->e.on<j:=by
  intro j oj hj e he hb;have hjl:j<ops.toArray.size:=by rw[hsz];exact(zt.1 hj).1
  have:=List.all_eq_true.1 hafter j (qh.2 hjl);rw[arr j oj hj]at this;have:=vi.1 this e he
  simpa [hb]using this
 have main:∀c (listed:Array Bool) (a:Act) (w:World),cntB listed n=c->HeadInv .any ops.toArray n listed->
   (∃(res:Nat->AV) (β:Nat->Option Nat) (R Rs1:Rows) (s:St),(∀i,i<n->m.getD i false=false->res i=res0 i)/\Sim N w0 M0 β (stUp res (fun i=>listed.getD i false) (ops.take n) ⟨st.fr,R,st.toks⟩) a w/\
    ((∀k x,look Rs1 k=some x->look R k=some x)/\(Rs1=Rs\/∀(j:Nat) oj,j<n->m.getD j false=false->listed.getD j false=false->ops[j]? =some oj->jfx oj=false))/\(∃t1:OT,okT ops.toArray t1 ((List.range n).filter (fun i=>m.getD i false&& !(listed.getD i false)))=true/\spO G kp ops (fun s'=>alist G ops K (ops.drop n) s') t1 Rs1 s)/\s.rows=R/\s.toks=st.toks/\
    ∀t,s.get t=(stUp res (fun i=>hd m i || listed.getD i false) (ops.take n) ⟨st.fr,R,st.toks⟩).get t)->wpAny G.P .any ops.toArray Q' (c+(ops.toArray.size-n)) listed a w:=by
  intro c
  induction c with
  | zero=>
   rintro listed a w hc inv ⟨res,β,R,Rs1,s,hr0,hs,⟨hsub,hnl⟩,hsp,hsr,hst,hsg⟩;rw[qD];have hall:=jha hc;have hcan:listed=jin n ops.toArray.size:=by
    apply Array.ext
    ·rw[inv.size];simp[jin]
    ·intro i h1 h2;have hil:i<ops.length:=by rw[inv.size]at h1;simpa using h1
     by_cases hin:i<n
     ·have:=hall i hin;have e1:listed[i]=true:=by simpa [h1]using this
      rw[e1];simp[jin,hin]
     ·have:=inv.tail i (by omega) (by rw[inv.size]at h1;exact h1);have e1:listed[i]=false:=by simpa [h1]using this
      rw[e1];simp[jin,hin]
   have hrem:(List.range n).filter (fun i=>m.getD i false&& !(listed.getD i false))=[]:=List.filter_eq_nil_iff.2 fun k hk=>by
    rw[hall k (qh.1 hk)];simp
   obtain⟨t1,ht1,hsp⟩:=hsp;rw[hrem]at ht1;have:=okT_nil ht1;subst this;have hs':Sim N w0 M0 β s a w:=by
    refine hs.congr (fun t=> ?_) ?_ ?_
    ·rw[hsg];exact jcy _ _ _ _ _ _ rfl fun i o hi _=>by rw[hall i (hlt i o hi).1];simp
    ·rw[(jaj _ _ _ _).1,hsr]
    ·rw[(jaj _ _ _ _).2,hst]
   have hlist:=jgp hG hK (ops.drop n) _ β a w (fun o ho=>hd0 o (yk ho)) hsp hs';have hdl:(ops.drop n).length=ops.toArray.size-n:=by simp
   have:=wpAny_of_seq (P:=G.P) (md:= .any) (Q':=Q') (ops.drop n) n listed a w (fun j=>by simp[qU]) (by rw[hcan,hdl];exact hseq) hlist
   rwa [hdl]at this
  | succ c ih=>
   rintro listed a w hc inv ⟨res,β,R,Rs1,s,hr0,hs,⟨hsub,hnl⟩,hsp,hsr,hst,hsg⟩;obtain⟨i0,hi0,hun0,hmin⟩:=jk4 (by omega:cntB listed n≠0);have hL:∀i,i<n->(listed.getD i true=false↔listed.getD i false=false):=fun i hi=>by
    have:i<listed.size:=by rw[inv.size];omega
    simp[this]
   have hready0:i0∈Region.ready .any ops.toArray listed:=by
    have hil:i0<ops.length:=by rw[<-hsz];omega
    refine mem_ready.2 ⟨(hL i0 hi0).2 hun0,ops[i0],arr i0 _ (ze hil),fun e he hb=>hmin _ (hafter' i0 _ (ze hil) e he hb)⟩
   have hgoal:(Region.ready .any ops.toArray listed=[]->Q' .normal a w)/\∀i∈Region.ready .any ops.toArray listed,wpOp G.P ops.toArray Q' i (wpAny G.P .any ops.toArray Q' (c+(ops.toArray.size-n)) (listed.setIfInBounds i true)) a w:=by
    refine⟨fun hr=>(by rw[hr]at hready0;cases hready0),fun i hi=> ?_⟩;obtain⟨hun,oi,hoi,hall⟩:=mem_ready.1 hi;have hoi':ops[i]? =some oi:=by simpa using hoi
    have hisz:i<ops.toArray.size:=(zH.1 hoi).1;have hin:i<n:=by
     rcases zX i n with h' | h'
     ·exact h'
     ·rcases htail with e | ⟨hsink,hchain⟩
      ·omega
      ·exact absurd hi (tail_waits hsink hchain (by omega) inv _ i0 rfl hi0 ((hL i0 hi0).2 hun0) i h')
    have hunf:listed.getD i false=false:=(hL i hin).1 hun;have hwait:∀k,Region.waitsFor .any ops.toArray i k=true->listed.getD k false=true:=fun k hk=>by
     obtain⟨oj,hoj,e,he,hb,hon⟩:=Region.waitsFor_spec hk;rw[hoi]at hoj;cases hoj;rw[<-hon];exact hall e he hb
    have hwaitT:∀k,jjj ops.toArray 3 i k=true->listed.getD k false=true:=fun k hk=>by
     rw[jjj,qG]at hk;rcases hk with h | h
     ·exact hwait k h
     ·obtain⟨l,_,h2⟩:=jy.1 h;rw[zB]at h2;refine waitsT_listed inv (fun j i hw hl=> ?_) 2 l k h2.2 (hwait l h2.1);obtain⟨oj,hoj,e,he,hb,hon⟩:=Region.waitsFor_spec hw;rw[<-hon];exact inv.closed j oj hoj hl e he hb
    have hlate:∀k,Region.waitsFor .any ops.toArray k i=true->listed.getD k false=false:=fun k hk=>by
     obtain⟨ok,hok,e,he,hb,hon⟩:=Region.waitsFor_spec hk;cases hl:listed.getD k false with
     | false=>rfl
     | true=>
      have:=inv.closed k ok hok hl e he hb;rw[hon,hunf]at this;cases this
    have hisL:i<listed.size:=by rw[inv.size];exact hisz
    have hcnt:cntB (listed.setIfInBounds i true) n=c:=by
     have:=jk3 hisL hunf n;rw[zn hin]at this;omega
    have hset:∀k,k≠i->(listed.setIfInBounds i true).getD k false=listed.getD k false:=fun k hk=>getD_set_ne false (zw hk);have hseti:(listed.setIfInBounds i true).getD i false=true:=by simp[hisL]
    have hlast:∀(t:Nat),oi.dst=some t->∀k ok,i<k->(ops.take n)[k]? =some ok->listed.getD k false=true->ok.dst≠some t:=by
     intro t hdt k ok hik hk hLk hdk;obtain⟨hkn,hok⟩:=hlt k ok hk;rcases hpair' i k oi ok hik hkn hoi' hok with hw | hap
     ·rw[hlate k hw]at hLk;cases hLk
     ·exact(Oper.apart_spec hap).2.1 t hdt hdk
    cases hmi:m.getD i false with
    | false=>
     have hhd:hd m i=true:=by unfold hd;rw[hmi];rfl
     have hagree:∀t∈oi.looksAt ops.toArray,(stUp res0 (fun k=>hd m k&&decide (k<i)) ops ⟨st.fr,R,st.toks⟩).get t=(stUp res (fun k=>listed.getD k false) (ops.take n) ⟨st.fr,R,st.toks⟩).get t:=by
      intro t ht;have e1:(stUp res0 (fun k=>hd m k&&decide (k<i)) ops ⟨st.fr,R,st.toks⟩).get t=(stUp res0 (fun k=>hd m k&&decide (k<i)) (ops.take n) ⟨st.fr,R,st.toks⟩).get t:=by
       have:∀(l:List Oper) (r:Nat->AV) (L:Nat->Bool) (n:Nat) (s:St),(∀k,n<=k->L k=false)->(stUp r L l s).get t=(stUp r L (l.take n) s).get t:=by
        intro l
        induction l with
        | nil=>intros;simp
        | cons o l ih=>
         intro r L n s hk;cases n with
         | zero=>
          have hf:∀(l:List Oper) (res:Nat->AV) (L:Nat->Bool) (st:St),(∀i,L i=false)->stUp res L l st=st:=by
           intro l
           induction l with
           | nil=>intros;rfl
           | cons o l ih=>
            intro res L st hL;simp only[stUp,hL 0];exact ih _ _ _ fun i=>hL (i+1)
          rw[hf _ _ _ _ fun i=>hk i (zG _)];rfl
         | succ n=>exact ih _ _ n _ fun k hk'=>hk (k+1) (by omega)
       exact this _ _ _ _ _ fun k hk=>by simp;omega
      rw[e1];refine jia _ _ _ _ _ _ _ rfl fun k ok hk hdk=> ?_;obtain⟨hkn,hok⟩:=hlt k ok hk;cases hmk:m.getD k false with
      | true=>
       have hap:ok.apart ops.toArray oi=true\/oi.apart ops.toArray ok=true\/listed.getD k false=false:=by
        rcases qX k i with hki | hki | hki
        ·exact .inl (hfree k i ok oi hki hin hmk hmi hok hoi')
        ·subst hki;rw[hmi]at hmk;cases hmk
        ·rcases hpair' i k oi ok hki hkn hoi' hok with hw | hap
         ·exact .inr (.inr (hlate k hw))
         ·exact .inr (.inl hap)
       have hh:hd m k=false:=by unfold hd;rw[hmk];rfl
       rcases hap with hap | hap | hap
       ·exact absurd ht ((Oper.apart_spec hap).1 t hdk)
       ·exact absurd ht ((Oper.apart_spec hap).2.2 t hdk)
       ·rw[hh,hap];simp
      | false=>
       have hh:hd m k=true:=by unfold hd;rw[hmk];rfl
       refine⟨?_,fun _=>(hr0 k hkn hmk).symm⟩;rw[hh];rcases qX k i with hki | hki | hki
       ·rcases hpair' k i ok oi hki hin hok hoi' with hw | hap
        ·rw[hwait k hw];simp[hki]
        ·exact absurd ht ((Oper.apart_spec hap).1 t hdk)
       ·subst hki;rw[hunf];simp
       ·rcases hpair' i k oi ok hki hkn hoi' hok with hw | hap
        ·rw[hlate k hw];simp;omega
        ·exact absurd ht ((Oper.apart_spec hap).2.2 t hdk)
     have hq0:=hres i oi (by omega) hmi hoi';have hq1:qStep G ops (stUp res0 (fun k=>hd m k&&decide (k<i)) ops ⟨st.fr,R,st.toks⟩) oi (res0 i):=by
      have:=jm8 (r:=R) (hnl.elim (fun e=> .inr fun d x hx=>hsub d x (by rw[e];rwa [(jaj _ _ _ _).1]at hx)) (fun hh=> .inl (hh i oi hin hmi hunf hoi'))) hq0;refine jge (fun t _=> ?_) ?_ ?_ this
      ·show(stUp res0 (fun k=>hd m k&&decide (k<i)) ops ⟨st.fr,Rs,st.toks⟩).get t=_;exact jcy _ _ _ _ _ _ rfl fun _ _ _ _=>rfl
      ·show R=_;rw[(jaj _ _ _ _).1]
      ·show(stUp res0 (fun k=>hd m k&&decide (k<i)) ops ⟨st.fr,Rs,st.toks⟩).toks=_;rw[(jaj _ _ _ _).2,(jaj _ _ _ _).2]
     have hq:qStep G ops (stUp res (fun k=>listed.getD k false) (ops.take n) ⟨st.fr,R,st.toks⟩) oi (res i):=by
      rw[hr0 i hin hmi];exact jge hagree (by rw[(jaj _ _ _ _).1,(jaj _ _ _ _).1]) (by rw[(jaj _ _ _ _).2,(jaj _ _ _ _).2]) hq1
     have next:∀v w2,Below w.heap.size w w2->RepA w2 (Mo M0 β (stUp res (fun k=>listed.getD k false) (ops.take n) ⟨st.fr,R,st.toks⟩)) β (stUp res (fun k=>listed.getD k false) (ops.take n) ⟨st.fr,R,st.toks⟩).toks (res i) v->
       wpAny G.P .any ops.toArray Q' (c+(ops.toArray.size-n)) (listed.setIfInBounds i true) (a.put oi.dst v) w2:=by
      intro v w2 hb hv;have hs2:=(hs.ext hb).put (dst:=oi.dst) (hd0 oi (zl hoi')) hv;refine ih _ _ _ hcnt (inv.set hi hin) ⟨res,β,R,Rs1,s,hr0,hs2.congr (fun t=> ?_) ?_ ?_,⟨hsub,hnl.imp (fun e=>e) fun hh j oj hj hmj hlj hoj=>hh j oj hj hmj (by
       by_cases e:j=i
       ·subst e;exact hunf
       ·rw[hset j e]at hlj;exact hlj) hoj⟩,?_,hsr,hst,fun t=> ?_⟩
      ·by_cases hdt:oi.dst=some t
       ·rw[hdt,jcl];refine(jft (ops.take n) res _ _ i oi (by rw[htake i hin];exact hoi') hdt hseti fun k ok hik hk hLk=> ?_).symm;rw[hset k (by omega)]at hLk;exact hlast t hdt k ok hik hk hLk
       ·rw[jea hdt];refine jcy _ _ _ _ _ _ rfl fun k ok hk hdk=> ?_;have:k≠i:=fun e=>by
         subst e;obtain⟨_,hok⟩:=hlt k ok hk;rw[hoi']at hok;cases hok;exact hdt hdk
        exact(hset k this).symm
      ·rw[show((stUp res (fun k=>listed.getD k false) (ops.take n) ⟨st.fr,R,st.toks⟩).put oi.dst (res i)).rows=(stUp res (fun k=>listed.getD k false) (ops.take n) ⟨st.fr,R,st.toks⟩).rows by unfold St.put;split<;>rfl,(jaj _ _ _ _).1,(jaj _ _ _ _).1]
      ·rw[show((stUp res (fun k=>listed.getD k false) (ops.take n) ⟨st.fr,R,st.toks⟩).put oi.dst (res i)).toks=(stUp res (fun k=>listed.getD k false) (ops.take n) ⟨st.fr,R,st.toks⟩).toks by unfold St.put;split<;>rfl,(jaj _ _ _ _).2,(jaj _ _ _ _).2]
      ·have e:(fun k=>m.getD k false&& !((listed.setIfInBounds i true).getD k false))=fun k=>m.getD k false&& !(listed.getD k false):=by
        funext k;by_cases hk:k=i
        ·subst hk;rw[hmi];rfl
        ·rw[hset k hk]
       rw[e];exact hsp
      ·rw[hsg];refine jcy _ _ _ _ _ _ rfl fun k ok hk hdk=> ?_;by_cases hk:k=i
       ·subst hk;rw[hhd];rfl
       ·rw[hset k hk]
     unfold wpOp;rw[hoi];dsimp only;unfold qStep at hq;cases hg:oi.guard with
     | none=>
      rw[hg]at hq;rw[zn (by simp[Region.wanted,hg])];exact .inl (je9 hG hs hq next)
     | some p=>
      obtain⟨j,want⟩:=p;rw[hg]at hq;dsimp only at hq;split at hq
      ·rename_i b hy;have hyc:=jf3 hs hy;by_cases hb:b=want
       ·rw[zn hb]at hq;rw[zn (by simp[Region.wanted,hg,hyc,hb])];exact .inl (je9 hG hs hq next)
       ·rw[zp hb]at hq;rw[zp (by simp[Region.wanted,hg,hyc,hb])];exact next _ w (Below.refl _ _) (by rw[hq];exact Rep.sc _ rfl)
      ·rename_i hy;have hyc:=jf4 hs hy;rw[zp (by simp[Region.wanted,hg,hyc])];exact next _ w (Below.refl _ _) (by rw[hq];exact Rep.sc _ rfl)
      ·exact hq.elim
    | true=>
     obtain⟨t1,ht1,hsp⟩:=hsp;have hmem:i∈(List.range n).filter (fun k=>m.getD k false&& !(listed.getD k false)):=List.mem_filter.2 ⟨qh.2 hin,by rw[hmi,hunf];rfl⟩;obtain⟨t2,ht2,hsp⟩:=spO_head ht1 (okT_head ht1 hmem fun j hj=>by
      have:=(List.mem_filter.1 hj).2;cases hw:jjj ops.toArray 3 i j with
      | false=>rfl
      | true=>rw[hwaitT j hw]at this;simp at this) hsp
     rw[hoi']at hsp;obtain⟨hg,hsp⟩:=hsp;have ht2':okT ops.toArray t2 ((List.range n).filter (fun k=>m.getD k false&& !((listed.setIfInBounds i true).getD k false)))=true:=by
      refine Eq.trans ?_ ht2;rw[List.filter_filter];congr 1;refine List.filter_congr fun k _=> ?_;by_cases hk:k=i
      ·subst hk;rw[hseti];simp
      ·rw[hset k hk];simp[hk]
     have hagree:∀t∈oi.looksAt ops.toArray,s.get t=(stUp res (fun k=>listed.getD k false) (ops.take n) ⟨st.fr,R,st.toks⟩).get t:=by
      intro t ht;rw[hsg];refine jcy _ _ _ _ _ _ rfl fun k ok hk hdk=> ?_;obtain⟨hkn,hok⟩:=hlt k ok hk;cases hmk:m.getD k false with
      | true=>
       have hh:hd m k=false:=by unfold hd;rw[hmk];rfl
       rw[hh];rfl
      | false=>
       rcases qX k i with hki | hki | hki
       ·rcases hpair' k i ok oi hki hin hok hoi' with hw | hap
        ·rw[hwait k hw];simp
        ·exact absurd ht ((Oper.apart_spec hap).1 t hdk)
       ·subst hki;rw[hmi]at hmk;cases hmk
       ·exact absurd ht ((Oper.apart_spec (hfree i k oi ok hki hkn hmi hmk hoi' hok)).2.2 t hdk)
     have hsp':=spN_congr hagree (by rw[hsr,(jaj _ _ _ _).1]) (by rw[hst,(jaj _ _ _ _).2]) (spN_1 hsp);unfold wpOp;rw[hoi];dsimp only;rw[zn (by simp[Region.wanted,hg])];refine .inl (jom hG hs (hd0 oi (zl hoi')) hsp' fun av R' β' a' w' ⟨hT1,hT2⟩ hs2=> ?_);refine ih _ _ _ hcnt (inv.set hi hin) ⟨fun k=>if k=i then av else res k,β',R',_,_,fun k hk hmk=> ?_,hs2.congr (fun t=> ?_) ?_ ?_,⟨hT1,?_⟩,⟨t2,ht2',hT2⟩,?_,?_,fun t=> ?_⟩
     ·show(if k=i then av else res k)=res0 k;rw[zp (fun e=>by subst e;rw[hmi]at hmk;cases hmk)];exact hr0 k hk hmk
     ·by_cases hdt:oi.dst=some t
      ·rw[hdt,jcl];have:=jft (ops.take n) (fun k=>if k=i then av else res k) (fun k=>(listed.setIfInBounds i true).getD k false) ⟨st.fr,R',st.toks⟩ i oi (by rw[htake i hin];exact hoi') hdt hseti fun k ok hik hk hLk=>by
        rw[hset k (by omega)]at hLk;exact hlast t hdt k ok hik hk hLk
       rw[this,zn rfl]
      ·rw[jea hdt];have e1:(⟨(stUp res (fun k=>listed.getD k false) (ops.take n) ⟨st.fr,R,st.toks⟩).fr,R',(stUp res (fun k=>listed.getD k false) (ops.take n) ⟨st.fr,R,st.toks⟩).toks⟩:St).get t=(stUp res (fun k=>listed.getD k false) (ops.take n) ⟨st.fr,R,st.toks⟩).get t:=rfl;rw[e1];refine jia _ _ _ _ _ _ _ rfl fun k ok hk hdk=> ?_;have hki:k≠i:=fun e=>by
        subst e;obtain⟨_,hok⟩:=hlt k ok hk;rw[hoi']at hok;cases hok;exact hdt hdk
       exact⟨(hset k hki).symm,fun _=>(zp hki).symm⟩
     ·rw[show ∀(x:St),(x.put oi.dst av).rows=x.rows from fun x=>by unfold St.put;split<;>rfl,(jaj _ _ _ _).1]
     ·rw[show ∀(x:St),(x.put oi.dst av).toks=x.toks from fun x=>by unfold St.put;split<;>rfl];show(stUp _ _ _ _).toks=(stUp _ _ _ _).toks;rw[(jaj _ _ _ _).2,(jaj _ _ _ _).2]
     ·cases hio:(isStZ oi&& !kp)with
      | false=>
       rw[zp (by decide)];exact hnl.imp (fun e=>e) fun hh j oj hj hmj hlj hoj=>hh j oj hj hmj (by
        by_cases e:j=i
        ·subst e;exact hunf
        ·rw[hset j e]at hlj;exact hlj) hoj
      | true=>
       rw[zB,yx]at hio;refine .inr fun j oj hj hmj hlj hoj=> ?_;cases hld:jfx oj with
       | false=>rfl
       | true=>
        have hji:j≠i:=fun e=>by subst e;rw[hmi]at hmj;cases hmj
        have:=hwait j (hstZ i j oi oj hin hj hmi hmj hoi' hoj hio.2 hio.1 hld);rw[hset j hji,this]at hlj;cases hlj
     ·unfold St.put;split<;>rfl
     ·rw[show ∀(x:St),(x.put oi.dst av).toks=x.toks from fun x=>by unfold St.put;split<;>rfl];exact hst
     ·by_cases hdt:oi.dst=some t
      ·rw[hdt,jcl];have:=jft (ops.take n) (fun k=>if k=i then av else res k) (fun k=>hd m k || (listed.setIfInBounds i true).getD k false) ⟨st.fr,R',st.toks⟩ i oi (by rw[htake i hin];exact hoi') hdt (by rw[hseti];simp) fun k ok hik hk hLk hdk=>by
        obtain⟨hkn,hok⟩:=hlt k ok hk;cases hmk:m.getD k false with
        | true=>
         have hh:hd m k=false:=by unfold hd;rw[hmk];rfl
         rw[hh,yq,hset k (by omega)]at hLk;exact hlast t hdt k ok hik hk hLk hdk
        | false=>exact(Oper.apart_spec (hfree i k oi ok hik hkn hmi hmk hoi' hok)).2.1 t hdt hdk
       rw[this,zn rfl]
      ·rw[jea hdt];have e1:(⟨s.fr,R',s.toks⟩:St).get t=s.get t:=rfl;rw[e1,hsg];refine jia _ _ _ _ _ _ _ rfl fun k ok hk hdk=> ?_;have hki:k≠i:=fun e=>by
        subst e;obtain⟨_,hok⟩:=hlt k ok hk;rw[hoi']at hok;cases hok;exact hdt hdk
       exact⟨by rw[hset k hki],fun _=>(zp hki).symm⟩
   have:c+1+(ops.toArray.size-n)=(c+(ops.toArray.size-n))+1:=by omega
   rw[this];exact hgoal
 refine wp_region_any hG.mixed ?_;have inv0:HeadInv .any ops.toArray n (Array.replicate ops.toArray.size false):=
  ⟨by simp,fun j oj _ hl=>(by rw[getD_replicate_false]at hl;cases hl),fun t _ ht=>getD_in (by simpa using ht) (getD_replicate_false _ _)⟩
 have hc0:∀k,cntB (Array.replicate ops.toArray.size false) k=k:=fun k=>by
  induction k with
  | zero=>rfl
  | succ k ihk=>simp only[cntB,ihk,getD_replicate_false];simp
 have hf:∀(l:List Oper) (res:Nat->AV) (L:Nat->Bool) (st:St),(∀i,L i=false)->stUp res L l st=st:=by
  intro l
  induction l with
  | nil=>intros;rfl
  | cons o l ih=>
   intro res L st hL;simp only[stUp,hL 0];exact ih _ _ _ fun i=>hL (i+1)
 have:=main n (Array.replicate ops.toArray.size false) a _ (hc0 n) inv0 ⟨res0,β,st.rows,Rs,⟨(stUp res0 (hd m) (ops.take n) ⟨st.fr,Rs,st.toks⟩).fr,st.rows,(stUp res0 (hd m) (ops.take n) ⟨st.fr,Rs,st.toks⟩).toks⟩,fun _ _ _=>rfl,h.drew.congr (fun t=>by
  rw[hf _ _ _ _ fun i=>getD_replicate_false _ _]) (jaj _ _ _ _).1.symm (jaj _ _ _ _).2.symm,⟨hRs,.inl rfl⟩,(by
   refine⟨t0,?_,hfin⟩;have e:(fun i=>m.getD i false&& !((Array.replicate ops.toArray.size false).getD i false))=fun i=>m.getD i false:=by
    funext i;rw[getD_replicate_false];simp
   rw[e];exact hT0),rfl,(jaj _ _ _ _).2,fun t=>by
   show(stUp res0 (hd m) (ops.take n) ⟨st.fr,Rs,st.toks⟩).get t=_;exact jcy _ _ _ _ _ _ rfl fun k _ _ _=>by rw[getD_replicate_false];simp⟩
 rwa [show n+(ops.toArray.size-n)=ops.toArray.size by omega]at this
end
section
variable{G:Ctx}{kp:Bool}
def spOL(G:Ctx)(kp:Bool)(ops:List Oper)(K:St->Prop)(l:List Oper)(t:OT)(Rs:Rows)(st:St):Prop:=spO G kp ops (fun s=>alist G ops K l s) t Rs st
def jer(G:Ctx)(kp:Bool)(ops:List Oper)(K:St->Prop)(R0 Rs:Rows)(t:OT)(m:List Bool)(l:List Oper)(st:St):Prop:=
 jg2 G ops (fun s=>spOL G kp ops K (l.drop m.length) t Rs ⟨s.fr,R0,s.toks⟩) m l st
theorem jhq{ops:List Oper}{Q:Exit->St->Prop}{st:St}(m:List Bool)(t:OT)(Rs:Rows)(h:(drawN ops.toArray m&&stZ ops.toArray m&&okT ops.toArray t ((List.range m.length).filter fun i=>m.getD i false))=true)(hs:SubR Rs st.rows)
  (hA:jer G false ops (Q .normal) st.rows Rs t m ops ⟨st.fr,Rs,st.toks⟩): @DrawP G ⟨ops⟩ ⟨Q⟩ st:=by
 rw[zB,zB]at h;exact jmy fun N w0 M0 β a w id Q' hG hd hK hsim=>jlf (kp:=false) hG id m t Rs h.1.1 h.1.2 h.2 hd hK hsim hs hA
theorem jsa{ops:List Oper}{Q:Exit->St->Prop}{st:St}(m:List Bool)(t:OT)(Rs:Rows)(h:(drawN ops.toArray m&&okT ops.toArray t ((List.range m.length).filter fun i=>m.getD i false))=true)(hs:SubR Rs st.rows)
  (hA:jer G true ops (Q .normal) st.rows Rs t m ops ⟨st.fr,Rs,st.toks⟩): @DrawP G ⟨ops⟩ ⟨Q⟩ st:=by
 rw[zB]at h;exact jmy fun N w0 M0 β a w id Q' hG hd hK hsim=>jlf (kp:=true) hG id m t Rs h.1 rfl h.2 hd hK hsim hs hA
theorem aheadTN_nil(ops:List Oper)(K:St->Prop)(R0 Rs:Rows)(t:OT)(l:List Oper)(st:St):jer G kp ops K R0 Rs t [] l st=spOL G kp ops K l t Rs ⟨st.fr,R0,st.toks⟩:=by
 unfold jer jg2;simp
theorem aheadTN_true(ops:List Oper)(K:St->Prop)(R0 Rs:Rows)(t:OT)(m:List Bool)(o:Oper)(l:List Oper)(st:St):
  jer G kp ops K R0 Rs t (true::m) (o::l) st=jer G kp ops K R0 Rs t m l st:=by
 simp only[jer,List.length_cons,jT]
 conv=>lhs;unfold jg2
theorem aheadTN_free(ops:List Oper)(K:St->Prop)(R0 Rs:Rows)(t:OT)(m:List Bool)(dst:Option Tmp)(op:Op)(ty:TypeId)(pos:String)(af:Array Edge)(r:List Oper)(st:St):
  jer G kp ops K R0 Rs t (false::m) (⟨dst,op,ty,pos,af,.none⟩::r) st=aq G st ⟨dst,op,ty,pos,af,.none⟩ (fun av=>jer G kp ops K R0 Rs t m r (st.put dst av)):=by
 simp only[jer,List.length_cons,jT]
 conv=>lhs;unfold jg2
def SpOne(G:Ctx)(kp:Bool)(ops:List Oper)(K:St->Prop)(l:List Oper)(o:Option Oper)(s:OT)(Rs:Rows)(st:St):Prop:=match o with
 | some o=>o.guard= .none/\spN G st o fun av R'=>(∀k x,look (if(isStZ o&& !kp)=true then []else Rs) k=some x->look R' k=some x)/\spOL G kp ops K l s (if(isStZ o&& !kp)=true then []else Rs) ((⟨st.fr,R',st.toks⟩:St).put o.dst av)
 | .none=>False
theorem spOL_fin(ops:List Oper)(K:St->Prop)(l:List Oper)(Rs:Rows)(st:St):spOL G kp ops K l .fin Rs st=alist G ops K l st:=propext ⟨fun h=>h,fun h=>h⟩
theorem spOL_one(ops:List Oper)(K:St->Prop)(l:List Oper)(i:Nat)(s:OT)(Rs:Rows)(st:St):spOL G kp ops K l (.alt i s .none) Rs st=SpOne G kp ops K l ops[i]? s Rs st:=propext ⟨fun h=>h.1,fun h=>⟨h,trivial⟩⟩
theorem spOL_alt(ops:List Oper)(K:St->Prop)(l:List Oper)(i j:Nat)(s r r':OT)(Rs:Rows)(st:St):spOL G kp ops K l (.alt i s (.alt j r r')) Rs st=(SpOne G kp ops K l ops[i]? s Rs st/\spOL G kp ops K l (.alt j r r') Rs st):=propext ⟨fun h=>h,fun h=>h⟩
def NewT(R:Rows)[T:Hold (Nat->Prop)]:Prop:=∀b,look R (hp b)=none->T.val b
theorem jbn{R:Rows}{T:Nat->Prop}(h:∀b,look R (hp b)=none->T b): @NewT R ⟨T⟩:=h
theorem SpOne_alloc(ops:List Oper)(K:St->Prop)(l:List Oper)(d:Tmp)(t:TypeId)(ty:TypeId)(pos:String)(af:Array Edge)(s:OT)(Rs:Rows)(st:St):
  SpOne G kp ops K l (some ⟨some d,.alloc t,ty,pos,af,.none⟩) s Rs st=Opt (jcz G t) (K:=⟨fun z=>G.perm.contains d=true/\NewT st.rows (T:=⟨fun b=>SubR Rs ((hp b,z.length,[z])::st.rows)/\spOL G kp ops K l s Rs ((⟨st.fr,(hp b,z.length,[z])::st.rows,st.toks⟩:St).put (some d) (.loc (hp b) z.length 0 0))⟩)⟩):=by
 unfold SpOne spN Opt;dsimp only;cases jcz G t with
 | none=>exact propext ⟨fun h=>h.2,fun h=>h.elim⟩
 | some z=>exact propext ⟨fun h=>h.2,fun h=>⟨rfl,h⟩⟩
theorem SpOne_make(ops:List Oper)(K:St->Prop)(l:List Oper)(d:Tmp)(t:TypeId)(x y:Operand)(ty:TypeId)(pos:String)(af:Array Edge)(s:OT)(Rs:Rows)(st:St):
  SpOne G kp ops K l (some ⟨some d,.makeSlice t x y,ty,pos,af,.none⟩) s Rs st=(match evO st x,evO st y with
   | .im (.sc (.int _ n)),.im (.sc (.int _ m))=>match(G.ti t).kind with
    | .sl e=>Opt (jcz G e) (K:=⟨fun z=>G.perm.contains d=true/\(G.ti t).size≠0/\n=m/\0<=n/\n*(G.ti e).bytes<=140737488355328/\(G.ti e).bytes≠0/\NewT st.rows (T:=⟨fun b=>SubR Rs ((hp b,(G.ti e).size,List.replicate n.toNat z)::st.rows)/\
      spOL G kp ops K l s Rs ((⟨st.fr,(hp b,(G.ti e).size,List.replicate n.toNat z)::st.rows,st.toks⟩:St).put (some d) (.im (.ref b e (G.ti e).size (List.replicate n.toNat z).length)))⟩)⟩)
    | _=>False
   | _,_=>False):=by
 have e1:SpOne G kp ops K l (some ⟨some d,.makeSlice t x y,ty,pos,af,.none⟩) s Rs st=spMk G d t (evO st x) (evO st y) st.rows fun av R'=>SubR Rs R'/\spOL G kp ops K l s Rs ((⟨st.fr,R',st.toks⟩:St).put (some d) av):=propext ⟨fun h=>h.2,fun h=>⟨rfl,h⟩⟩;rw[e1];unfold spMk;generalize evO st x=u;generalize evO st y=v;split
 ·dsimp only;split
  ·rename_i e _;unfold Opt;cases jcz G e<;>rfl
  ·rfl
 ·rfl
theorem SpOne_call(ops:List Oper)(K:St->Prop)(l:List Oper)(dst:Option Tmp)(f:Operand)(azz:Array Operand)(ts:Array TypeId)(ty:TypeId)(pos:String)(af:Array Edge)(s:OT)(Rs:Rows)(st:St):
  SpOne G kp ops K l (some ⟨dst,.call ⟨.value f,azz,ts⟩,ty,pos,af,.none⟩) s Rs st=SpCall G (evO st f) (azz.toList.map (evO st)) st.rows (T:=⟨fun av R'=>SubR Rs R'/\spOL G kp ops K l s Rs ((⟨st.fr,R',st.toks⟩:St).put dst av)⟩):=
 propext ⟨fun h=>h.2,fun h=>⟨rfl,h⟩⟩
theorem SpOne_build(ops:List Oper)(K:St->Prop)(l:List Oper)(dst:Option Tmp)(t:TypeId)(fs:Array (Nat×Operand))(ty:TypeId)(pos:String)(af:Array Edge)(s:OT)(Rs:Rows)(st:St):
  SpOne G kp ops K l (some ⟨dst,.build t fs,ty,pos,af,.none⟩) s Rs st=aq G st ⟨dst,.build t fs,ty,pos,af,.none⟩ (fun av=>SubR Rs st.rows/\spOL G kp ops K l s Rs ((⟨st.fr,st.rows,st.toks⟩:St).put dst av)):=
 propext ⟨fun h=>h.2,fun h=>⟨rfl,h⟩⟩
def LeF(ι:Type)(s:St)[S:Hold (ι->St)][P:Hold (ι->Prop)]:Prop:=∃i,P.val i/\St.Le s (S.val i)
theorem jhr{ι:Type}{ops:List Oper}{Q:Exit->St->Prop}{st:St}(S:ι->St)(P:ι->Prop)(h1: @DrawP G ⟨ops⟩ ⟨fun _ s=> @LeF ι s ⟨S⟩ ⟨P⟩⟩ st)(h2:∀i,P i->Q .normal (S i)): @DrawP G ⟨ops⟩ ⟨Q⟩ st:=
 fun N w0 M0 β a w id Q' hG hd hK hsim=>h1 N w0 M0 β a w id Q' hG hd (fun st' β' a' w' (hle:∃i,P i/\St.Le st' (S i)) hs=>let⟨i,hP,hl⟩:=hle;let⟨β2,h3⟩:=hl N w0 M0 β' a' w' hs;hK (S i) β2 a' w' (h2 i hP) h3) hsim
theorem jbz{ι:Type}{s:St}{S:ι->St}{P:ι->Prop}(i:ι)(hP:P i)(hf:(S i).fr.map (fun t=>(t.1,s.get t.1))=(S i).fr)(hr:SubR (S i).rows s.rows)(ht:(S i).toks=[]): @LeF ι s ⟨S⟩ ⟨P⟩:=
 ⟨i,hP,(St.sub_of ((S i).fr.map Prod.fst) (by rw[yl];exact hf) hr ht).le⟩
end
theorem ja5{L R:Rows}{d:Nat}{v:Nat×List (List IV)}(h:look R d=some v)(hs:SubR L R):SubR ((d,v)::L) R:=fun k x hk=>by
 by_cases e:k=d
 ·subst e;rw[ja2]at hk;cases hk;exact h
 ·rw[ja0 _ _ e]at hk;exact hs k x hk
theorem jg6{R L0:Rows}{b s:Nat}{es:List (List IV)}(h:look L0 (hp b)=some (s,es)):jev R [] L0 ((hp b,s,es)::R):=fun k x hk=>by
 by_cases e:k=hp b
 ·subst e;rw[ja2]at hk;rw[h,hk];exact .inl rfl
 ·rw[ja0 _ _ e]at hk;exact .inr ⟨rfl,hk⟩
theorem mem_look{R:Rows}{d:Nat}(h:R.any (fun p=>p.1==d)=true):look R d≠none:=by
 induction R with
 | nil=>cases h
 | cons p R ih=>
  obtain⟨k,v⟩:=p;by_cases e:d=k
  ·subst e;rw[ja2];exact fun h=>by cases h
  ·rw[ja0 _ _ e];refine ih ?_;rw[List.any_cons,qG]at h;exact h.resolve_left fun h=>e (yL.1 h).symm
theorem jb4{R:Rows}{b X:Nat}(h:look R (hp b)=none)(hX:R.any (fun p=>p.1==hp X)=true):b≠X:=fun e=>by rw[e]at h;exact mem_look hX h
attribute [go_sem ↓] aheadTN_nil aheadTN_true aheadTN_free spOL_fin spOL_one spOL_alt SpOne_alloc SpOne_make SpOne_call SpOne_build
end
section
section
variable{G:Ctx}{kp:Bool}
theorem SpOne_load(ops:List Oper)(K:St->Prop)(l:List Oper)(dst:Option Tmp)(t:TypeId)(p:Operand)(ty:TypeId)(pos:String)(af:Array Edge)(s:OT)(Rs:Rows)(st:St):
  SpOne G kp ops K l (some ⟨dst,.load t p,ty,pos,af,.none⟩) s Rs st=aq G st ⟨dst,.load t p,ty,pos,af,.none⟩ (fun av=>SubR Rs st.rows/\spOL G kp ops K l s Rs ((⟨st.fr,st.rows,st.toks⟩:St).put dst av)):=
 propext ⟨fun h=>h.2,fun h=>⟨rfl,h⟩⟩
theorem SpOne_fieldAddr(ops:List Oper)(K:St->Prop)(l:List Oper)(dst:Option Tmp)(t:TypeId)(p:Operand)(k:Nat)(ty:TypeId)(pos:String)(af:Array Edge)(s:OT)(Rs:Rows)(st:St):
  SpOne G kp ops K l (some ⟨dst,.fieldAddr t p k,ty,pos,af,.none⟩) s Rs st=aq G st ⟨dst,.fieldAddr t p k,ty,pos,af,.none⟩ (fun av=>SubR Rs st.rows/\spOL G kp ops K l s Rs ((⟨st.fr,st.rows,st.toks⟩:St).put dst av)):=
 propext ⟨fun h=>h.2,fun h=>⟨rfl,h⟩⟩
theorem SpOne_nilCheck(ops:List Oper)(K:St->Prop)(l:List Oper)(dst:Option Tmp)(p:Operand)(ty:TypeId)(pos:String)(af:Array Edge)(s:OT)(Rs:Rows)(st:St):
  SpOne G kp ops K l (some ⟨dst,.nilCheck p,ty,pos,af,.none⟩) s Rs st=aq G st ⟨dst,.nilCheck p,ty,pos,af,.none⟩ (fun av=>SubR Rs st.rows/\spOL G kp ops K l s Rs ((⟨st.fr,st.rows,st.toks⟩:St).put dst av)):=
 propext ⟨fun h=>h.2,fun h=>⟨rfl,h⟩⟩
theorem SpOne_binOp(ops:List Oper)(K:St->Prop)(l:List Oper)(dst:Option Tmp)(b:BinOp)(t:TypeId)(x y:Operand)(u:TypeId)(ty:TypeId)(pos:String)(af:Array Edge)(s:OT)(Rs:Rows)(st:St):
  SpOne G kp ops K l (some ⟨dst,.binOp b t x y u,ty,pos,af,.none⟩) s Rs st=aq G st ⟨dst,.binOp b t x y u,ty,pos,af,.none⟩ (fun av=>SubR Rs st.rows/\spOL G kp ops K l s Rs ((⟨st.fr,st.rows,st.toks⟩:St).put dst av)):=
 propext ⟨fun h=>h.2,fun h=>⟨rfl,h⟩⟩
theorem SpOne_store(ops:List Oper)(K:St->Prop)(l:List Oper)(t:TypeId)(p x:Operand)(ty:TypeId)(pos:String)(af:Array Edge)(s:OT)(Rs:Rows)(st:St):
  SpOne G false ops K l (some ⟨none,.store t p x,ty,pos,af,.none⟩) s Rs st=jnz G t (evO st p) (evO st x) st.rows (T:=⟨fun R'=>spOL G false ops K l s [] ⟨st.fr,R',st.toks⟩⟩):=by
 apply propext;constructor
 ·intro h;have h2:=h.2;unfold spN spZ at h2;dsimp only at h2;exact jfb h2 fun _ _ h=>h.2
 ·intro h;refine⟨rfl,?_⟩;unfold spN spZ;dsimp only;exact jfb h fun _ _ h=>⟨(fun k x hk=>by cases hk),h⟩
theorem SpOne_storeK(ops:List Oper)(K:St->Prop)(l:List Oper)(t:TypeId)(p x:Operand)(ty:TypeId)(pos:String)(af:Array Edge)(s:OT)(Rs:Rows)(st:St):
  SpOne G true ops K l (some ⟨none,.store t p x,ty,pos,af,.none⟩) s Rs st=jnz G t (evO st p) (evO st x) st.rows (T:=⟨fun R'=>SubR Rs R'/\spOL G true ops K l s Rs ⟨st.fr,R',st.toks⟩⟩):=by
 apply propext;constructor
 ·intro h;have h2:=h.2;unfold spN spZ at h2;dsimp only at h2;exact jfb h2 fun _ _ h=>h
 ·intro h;refine⟨rfl,?_⟩;unfold spN spZ;dsimp only;exact jfb h fun _ _ h=>h
end
attribute [go_sem ↓] SpOne_load SpOne_fieldAddr SpOne_nilCheck SpOne_binOp SpOne_store SpOne_storeK
end
section
def mIx:Nat->List Bool->List Nat
 | _,[]=>[]
 | k,true::m=>k::mIx (k+1) m
 | k,false::m=>mIx (k+1) m
def pathT:List Nat->OT
 | []=> .fin
 | i::r=> .alt i (pathT r) .none
def drawZ(ops:Array Oper)(m:List Bool):Bool:=drawN ops m&&okT ops (pathT (mIx 0 m)) ((List.range m.length).filter fun i=>m.getD i false)
section
variable{G:Ctx}{kp:Bool}
theorem jhp{ops:List Oper}{Q:Exit->St->Prop}{st:St}(m:List Bool)(Rs:Rows)(h:drawZ ops.toArray m=true)(hz:stZ ops.toArray m=true)(hs:SubR Rs st.rows)
  (hA:jer G false ops (Q .normal) st.rows Rs (pathT (mIx 0 m)) m ops ⟨st.fr,Rs,st.toks⟩): @DrawP G ⟨ops⟩ ⟨Q⟩ st:=by
 unfold drawZ at h;rw[zB]at h;exact jhq m _ Rs (by rw[h.1,h.2,hz];rfl) hs hA
theorem jbo{ops:List Oper}{Q:Exit->St->Prop}{st:St}(m:List Bool)(Rs:Rows)(h:(drawZ ops.toArray m&&stZ ops.toArray m)=true)(hs:SubR Rs st.rows)
  (hA:jer G false ops (Q .normal) st.rows Rs (pathT (mIx 0 m)) m ops ⟨st.fr,Rs,st.toks⟩): @DrawP G ⟨ops⟩ ⟨Q⟩ st:=by
 rw[zB]at h;exact jhp m Rs h.1 h.2 hs hA
theorem mIx_nil(k:Nat):mIx k []=[]:=rfl
theorem mIx_true(k:Nat)(m:List Bool):mIx k (true::m)=k::mIx (k+1) m:=rfl
theorem mIx_false(k:Nat)(m:List Bool):mIx k (false::m)=mIx (k+1) m:=rfl
theorem pathT_nil:pathT []= .fin:=rfl
theorem pathT_cons(i:Nat)(r:List Nat):pathT (i::r)= .alt i (pathT r) .none:=rfl
variable(dst:Option Tmp)(ty:TypeId)(pos:String)(af:Array Edge)(gd:Option (Nat×Bool))(st:St)(ops:List Oper)(r:List Oper)
theorem SpOne_append(K:St->Prop)(l:List Oper)(d:Tmp)(azz:Array Operand)(ts:Array TypeId)(s2:OT)(Rs:Rows):
  SpOne G kp ops K l (some ⟨some d,.call ⟨.builtin .append,azz,ts⟩,ty,pos,af,.none⟩) s2 Rs st=match ts.toList,azz.toList with
   | [t,t'],[s,x]=>match(G.ti t).kind with
    | .sl e=>t=t'/\SpApp G d t e (evO st s) (jch (evO st x)) st.rows (T:=⟨fun av R'=>SubR Rs R'/\spOL G kp ops K l s2 Rs ((⟨st.fr,R',st.toks⟩:St).put (some d) av)⟩)
    | _=>False
   | _,_=>False:=by
 apply propext;constructor
 ·intro h;have h:=h.2;unfold spN spZ at h;dsimp only at h;rw[zn (by rfl)]at h;unfold sp at h;dsimp only at h;split at h
  ·rename_i h1 h2 h3;cases h1;rw[h2,h3];exact h
  ·exact h.elim
 ·intro h;refine⟨rfl,?_⟩;unfold spN spZ;dsimp only;rw[zn (by rfl)];unfold sp;dsimp only;split at h
  ·rename_i h2 h3;rw[h2,h3];exact h
  ·exact h.elim
end
attribute [go_sem ↓] mIx_nil mIx_true mIx_false pathT_nil pathT_cons SpOne_append
end
end Go.Abs
namespace Go.Proofs.YtgncgpfjldefpaaGreat
section
open Go.Abs
attribute [local go_sem] ints ic Bat.c Pap.c Led.c
theorem pb_cloneB(l:List Bat)(hne:l≠[])(hl:l.length<=100000):
  CtrH G.P 99 [.im (.sl (l.map Bat.c))] [] (fun r L'=>∃X,r= .im (.ref X 52 2 l.length)/\blks L'/\Abs.look L' (hp X)=some (2,l.map Bat.c)/\∀k,k≠hp X->Abs.look L' k=none):=by
 have hne':l.map Bat.c≠[]:=fun h=>hne (jS.1 h);have hlen:∀(c:List IV),c∈l.map Bat.c->c.length=2:=fun c hc=>by
  obtain⟨z,_,rfl⟩:=qd.1 hc;rfl
 refine jan [7] [] [.tmp 2] Tryz.func99 ?_;simp only[go_sem];refine jo2 (fun h=>absurd h hne') ?_;simp only[hne',go_sem];refine And.intro hlen (And.intro (by omega) (jfa (fun X hX=> ?_)));clear hX;simp only[zh,go_sem];obtain⟨M,hM,b1,l1,n1⟩:∃M:Abs.Rows,M=[(hp X,2,l.map Bat.c)]/\blks M/\Abs.look M (hp X)=some (2,l.map Bat.c)/\∀k,k≠hp X->Abs.look M k=none:=
  ⟨_,rfl,jaq jb0,ja2 _ _ _,fun k hk=>by rw[ja0 _ _ hk];rfl⟩
 refine jb8 M b1 (SubR.of_eq hM) ?_;simp only[go_sem];exact⟨X,rfl,b1,l1,n1⟩
end
end Go.Proofs.YtgncgpfjldefpaaGreat
namespace Go.Abs
section
section
variable{G:Ctx}{N:Nat}{w0:Base}{M0:Nat->Nat->Prop}
def blist(G:Ctx)(K:St->Prop):List Oper->St->Prop
 | [],st=>K st
 | o::r,st=>o.guard=none/\(aop G o (fun s=>blist G K r s) st\/spN1 G st o fun av R'=>blist G K r ((⟨st.fr,R',st.toks⟩:St).put o.dst av))
theorem jlm(hG:G.Good){ops:Array Oper}{K:St->Prop}{Q':Exit->Act->World->Prop}(hK:∀st' β' a' w',K st'->Sim N w0 M0 β' st' a' w'->Q' .normal a' w'):
  ∀(l:List Oper) (st:St) (β:Nat->Option Nat) (a:Act) (w:World),(∀o∈l,∀d,o.dst=some d->d<N)->blist G K l st->Sim N w0 M0 β st a w->wpList G.P ops Q' l a w
 | [],st,β,a,w,_,hA,h=>hK st β a w hA h
 | o::l,st,β,a,w,hd,hA,h=>by
  have ih:=jlm hG (ops:=ops) hK l;have hd0:=hd o (by simp);have hd':∀o∈l,∀d,o.dst=some d->d<N:=fun o ho=>hd o (by simp[ho]);obtain⟨hg,hA⟩:=hA;unfold wpList;have hw:Region.wanted o (yielded ops a.tmps)=true:=by simp[Region.wanted,hg]
  rw[zn hw];rcases hA with hA | hA
  ·exact .inl (je2 hG h hd0 hA fun st' β' a' w' hk hs=>ih st' β' a' w' hd' hk hs)
  ·exact .inl (jom hG h hd0 hA fun av R' β' a' w' hk hs=>ih _ β' a' w' hd' hk hs)
def SemC(G:Ctx)(N:Nat)(c:Code)(Q:Exit->St->Prop)(st:St):Prop:=∀(w0:Base) (M0:Nat->Nat->Prop) (β:Nat->Option Nat) (a:Act) (w:World),Sim N w0 M0 β st a w->c.wp G.P (liftQ N w0 M0 Q) a w
theorem SemC.awp{c:Code}{Q:Exit->St->Prop}{st:St}(hG:G.Good)(hd:dstB N c=true)(h:awp G c Q st):SemC G N c Q st:=fun w0 M0 β a w hs=>jhd hG c Q st β a w hd h hs
theorem SemC.seq{x y:Code}{Q:Exit->St->Prop}{st:St}(h:SemC G N x (fun e s=>match e with | .normal=>SemC G N y Q s | e=>Q e s) st):SemC G N (x.seq y) Q st:=fun w0 M0 β a w hs=>by
 refine wp_seq (wp_mono (h w0 M0 β a w hs) fun e a' w' hq=> ?_);obtain⟨β',st',hq,hs'⟩:=hq;cases e with
 | normal=>exact hq w0 M0 β' a' w' hs'
 | _=>exact⟨β',st',hq,hs'⟩
theorem SemC.list{id:Nat}{ops:List Oper}{Q:Exit->St->Prop}{st:St}(hG:G.Good)(hd:dstsB N ops=true)(h:blist G (Q .normal) ops st):SemC G N (.region id ops.toArray false) Q st:=fun w0 M0 β a w hs=>
 wp_region_list (by simpa using jlm (ops:=ops.toArray) hG (fun st' β' a' w' hk hs=>⟨β',st',hk,hs⟩) ops st β a w (dsts_of hd) h hs)
theorem spN1_app0{st:St}{d:Tmp}{t e:TypeId}{s x:Operand}{ty:TypeId}{pos:String}{af:Array Edge}{T:AV->Rows->Prop}(hk:(G.ti t).kind= .sl e)(hs:evO st s= .sx [])(hx:jch (evO st x)=some [])(h1:(G.ti t).size≠0)(h2:(G.ti e).size≠0)(h3:(G.ti e).bytes≠0)
  (hT:T (.sx []) st.rows):spN1 G st ⟨some d,.call ⟨.builtin .append, #[s,x], #[t,t]⟩,ty,pos,af,none⟩ T:=by
 unfold spN1 spZ1;dsimp only;rw[zn (show isSp _=true from rfl)];unfold sp;dsimp only;rw[hk];exact⟨rfl,[],hx,h1,h2,h3,fun c hc=>(by cases hc),.inr (.inr ⟨by rw[hs];rfl,rfl,by rw[hs];exact hT⟩)⟩
theorem ctrE_of(hG:G.Good){f:FuncId}{fn:Func}{c:Code}{xs:List IV}{t:Tmp}(hf:G.P.funcs[f]? =some fn)(hb:fn.body=some c)(hd:dstC fn.ntmps c=true)(hn:xs.length<=fn.ntmps)(hr:fn.results.toList=[.tmp t])
  (h:SemC G fn.ntmps c (fun e s=>match e with | .normal=>s.get t= .sx [] | .ret=>s.get t= .sx [] | _=>False) (jbg (xs.map .im) [])):CtrH G.P f (xs.map .im) [] (fun r L'=>r= .im .emp/\L'=[]):=by
 obtain⟨hN,_⟩:=jle hd;intro w M vs hM hrows hlen hargs;rw[zh]at hlen;refine calls_of_wp hf hb ?_;have hMo:∀b o,Mo M pβ (jbg (xs.map .im) []) b o->MoH M [] b o:=by
  rintro b o (hm | ⟨d,s,es,hd,hb⟩ | ⟨d,s,n,hd,_⟩)
  ·exact .inl hm
  ·simp[jbg,look]at hd
  ·simp[jbg,look]at hd
 have hsim:Sim fn.ntmps (Base.exH w []) M pβ (jbg (xs.map .im) []) {tmps:=vs.toArray++Array.replicate (fn.ntmps-vs.toArray.size) undef,defers:=[]} w:=by
  refine⟨by simp;omega,rfl,Base.Fr.refl _,fun b o hm=>⟨hM b o hm,rfl⟩,fun t=> ?_,fun d s es hd=>by simp[jbg,look]at hd,fun d s n hd=>by simp[jbg,look]at hd,fun d d' b h1 h2 hb hb'=> ?_,fun d _=>rfl,fun k _ hk hr=>by simp[jbg,look]at hr,hN,pβ_hp⟩
  ·have hg:=jgk (xs.map .im) 0 t;rw[zn (zG _),Nat.sub_zero]at hg;have hg2:(jbg (xs.map .im) []).get t=(look (jgi 0 (xs.map .im)) t).getD .und:=rfl;rw[hg2,hg];cases hx:(xs.map AV.im)[t]? with
   | none=>trivial
   | some x=>
    have htl:t<vs.length:=by rw[hlen];have:=(zt.1 hx).1;simpa using this
    have hv:(vs.toArray++Array.replicate (fn.ntmps-vs.toArray.size) undef).getD t undef=vs[t]:=by
     simp[jc,htl]
    show RepA _ _ _ _ _ _;rw[hv];exact(hargs t x _ hx (ze htl)).move (Kept.less w hMo) (fun _ _=>rfl) (fun _ _ _ _ hl=>hl) (fun _ _ _ _ _=>rfl) (Shp.refl _)
  ·rw[pβ_of hb,pβ_of hb']
 refine wp_mono (h _ _ _ _ _ hsim) fun e a' w' hq=> ?_;obtain⟨β,st,hq,hs⟩:=hq
 suffices hsuff:st.get t= .sx []->a'.defers=[]/\∃v,(results fn a'.tmps).run G.P w'= .ok v w'/\∃r v2 L',(r=AV.im IV.emp/\L'=[])/\Ending.returned v= .returned v2/\r.toArg=r/\(Base.exH w []).Fr w'/\
   (∀k s es,look L' k=some (s,es)->∃b,k=hp b/\((look ([]:Rows) k).isSome\/w.heap.size<=b)/\RowRep w' (MoH M L') b s es)/\RepA w' (MoH M L') pβ [] r v2 by
  cases e with
  | normal=>obtain⟨h1,v,h2,h3⟩:=hsuff hq;exact⟨h1,v,h2,h3⟩
  | ret=>obtain⟨h1,v,h2,h3⟩:=hsuff hq;exact⟨h1,v,h2,h3⟩
  | _=>exact hq.elim
 intro hq;have hrun:(results fn a'.tmps).run G.P w'= .ok (a'.tmps.getD t undef) w':=by
  rw[je8,Sem.run_bind,qT,Sem.run_map,hr];rfl
 have hv:=hs.fr t;rw[hq]at hv;obtain⟨_,ad,hv⟩:=hv;refine⟨hs.defers,_,hrun,_,_,[],⟨rfl,rfl⟩,rfl,rfl,hs.below,fun k s es hk=>(by cases hk),?_⟩;rw[hv];exact Rep.emp ad
end
end
end Go.Abs
namespace Go.Proofs.YtgncgpfjldefpaaGreat
section
open Go.Abs
attribute [local go_sem] ints ic Bat.c Pap.c Led.c
theorem jfw:CtrH G.P 99 [.im (.sl [])] [] (fun r L'=>r= .im .emp/\L'=[]):=by
 refine ctrE_of (xs:=[.sl []]) (t:=2) good Tryz.func99 rfl (by decide+kernel) (by decide) rfl ?_;refine SemC.seq ?_;refine SemC.awp good (by decide+kernel) ?_;simp only[go_sem];refine SemC.seq ?_;refine SemC.awp good (by decide+kernel) ?_;simp only[go_sem];refine jo2 (fun h=> ?_) ?_
 ·simp only[go_sem]
 ·simp only[go_sem];refine SemC.seq ?_;refine SemC.list good (by decide+kernel) ?_;refine⟨rfl,.inl ?_⟩;simp only[go_sem];refine⟨rfl,.inl ?_⟩;simp only[go_sem];refine⟨rfl,.inr (spN1_app0 (e:=52) rfl rfl rfl (by decide) (by decide) (by decide) ?_)⟩;refine⟨rfl,.inl ?_⟩;simp only[go_sem];refine SemC.awp good (by decide+kernel) ?_;simp only[go_sem]
