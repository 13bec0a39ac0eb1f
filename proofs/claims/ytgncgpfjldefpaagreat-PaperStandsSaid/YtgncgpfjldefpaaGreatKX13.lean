/- A part of the proof. No further condition. -/
import Derived.Test.YtgncgpfjldefpaaGreatKX12
set_option linter.all false
set_option maxRecDepth 100000
namespace Go.Abs
section
open Go.RowKit (Below)
def jgq(G:Ctx)(t:TypeId)(p x:AV)(R:Rows)(T:AV->Rows->Prop):Prop:=
 match x,p.dp with
 | .im y,.loc d s i j=>match look R d with
  | some (s',es)=>match es[i]? with
   | some c=>s'=s/\(G.ti t).size≠0/\(cellsOf y).length=(G.ti t).size/\(cellsOf y).all IV.one=true/\j+(G.ti t).size<=c.length/\
     T jcg (setRow R d s (es.set i (jbq c j (cellsOf y))))
   | none=>False
  | none=>False
 | _,_=>False
def spZ(G:Ctx)(st:St)(o:Oper)(T:AV->Rows->Prop):Prop:=
 match o.op with
 | .store t p x=>jgq G t (evO st p) (evO st x) st.rows T
 | _=>if isSp o=true then sp G st o T else aq G st o fun av=>T av st.rows
def spZ1(G:Ctx)(st:St)(o:Oper)(T:AV->Rows->Prop):Prop:=
 match o.op with
 | .store t p x=>jgq G t (evO st p) (evO st x) st.rows T
 | _=>if isSp o=true then sp G st o T else ∃av,qVal G st o av/\T av st.rows
def jgl(ops:Array Oper):Nat->Nat->Nat->Bool
 | 0,j,i=>Region.waitsFor .any ops j i
 | f+1,j,i=>Region.waitsFor .any ops j i || (List.range j).any fun l=>Region.waitsFor .any ops j l&&jgl ops f l i
def drawZ(ops:Array Oper)(m:List Bool):Bool:=
 drawB ops m.length&&(List.range m.length).all (fun j=>(List.range j).all fun i=>
  (!(m.getD i false&&m.getD j false) || jgl ops 3 j i)&&
  (!(m.getD i false&& !(m.getD j false)) || (match ops[i]?,ops[j]? with
   | some oi,some oj=>oi.apart ops oj
   | _,_=>false)))
theorem jhy{ops:Array Oper}{n:Nat}{listed:Array Bool}(inv:HeadInv .any ops n listed)(hw:∀j i,Region.waitsFor .any ops j i=true->listed.getD j false=true->listed.getD i false=true):
  ∀(f j i:Nat),jgl ops f j i=true->listed.getD j false=true->listed.getD i false=true:=by
 intro f
 induction f with
 | zero=>exact fun j i h hl=>hw j i h hl
 | succ f ih=>
  intro j i h hl;rw[jgl,Bool.or_eq_true]at h;rcases h with h | h
  ·exact hw j i h hl
  ·obtain⟨l,_,h2⟩:=List.any_eq_true.1 h;rw[Bool.and_eq_true]at h2;exact ih l i h2.2 (hw j l h2.1 hl)
theorem spZ_1{G:Ctx}{st:St}{o:Oper}{T:AV->Rows->Prop}(h:spZ G st o T):spZ1 G st o T:=by
 unfold spZ at h;unfold spZ1;split at h
 ·exact h
 ·by_cases hs:isSp o=true
  ·rw[if_pos hs]at h⊢;exact h
  ·rw[if_neg hs]at h⊢;obtain⟨av,h1,h2⟩:=jh3 h;exact⟨av,h1,h2⟩
def isStZ(o:Oper):Bool:=
 match o.op with
 | .store _ _ _=>true
 | _=>false
def stZ(ops:Array Oper)(m:List Bool):Bool:=(List.range m.length).all fun i=>(List.range m.length).all fun j=> !(m.getD i false) || m.getD j false || (match ops[i]?,ops[j]? with
 | some oi,some oj=> !isStZ oi || !jes oj || Region.waitsFor .any ops i j
 | _,_=>true)
def spLZ(G:Ctx)(K:St->Prop):List Oper->Rows->St->Prop
 | [],_,st=>K st
 | o::r,Rs,st=>o.guard=none/\spZ G st o fun av R'=>(∀k x,look (if isStZ o=true then []else Rs) k=some x->look R' k=some x)/\spLZ G K r (if isStZ o=true then []else Rs) ((⟨st.fr,R',st.toks⟩:St).put o.dst av)
section
variable{G:Ctx}{N:Nat}{w0:Base}{w w':World}{M0:Nat->Nat->Prop}{β:Nat->Option Nat}{st st':St}{a:Act}{ops:List Oper}
theorem jnw{o:Oper}{T:AV->Rows->Prop}(h:∀t∈o.looksAt ops.toArray,st.get t=st'.get t)(hr:st.rows=st'.rows)(ht:st.toks=st'.toks)(hs:spZ1 G st o T):spZ1 G st' o T:=by
 have hx:∀x∈o.op.operands,evO st x=evO st' x:=fun x hx=>jfx fun t ht=>h t (jdk hx ht);unfold spZ1 at hs⊢;split at hs
 ·rename_i t p x ho;rw[ho]at hx;rw[<-hx p (by simp[Op.operands]),<-hx x (by simp[Op.operands]),<-hr];exact hs
 ·by_cases hp:isSp o=true
  ·rw[if_pos hp]at hs⊢;exact jjn h hr hs
  ·rw[if_neg hp]at hs⊢;obtain⟨av,h1,h2⟩:=hs;exact⟨av,jit h hr ht h1,hr▸h2⟩
theorem jnv(hG:G.Good)(h:Sim N w0 M0 β st a w){o:Oper}{T:AV->Rows->Prop}(hd:∀d,o.dst=some d->d<N)(hA:spZ1 G st o T){K':Act->World->Prop}{Q':Exit->Act->World->Prop}
  (hK:∀av R' β' a' w',T av R'->Sim N w0 M0 β' ((⟨st.fr,R',st.toks⟩:St).put o.dst av) a' w'->K' a' w'):o.wp G.P a w K' Q':=by
 unfold spZ1 at hA;split at hA
 ·rename_i t p x ho;have haop:aop G o (fun st'=>∃av R',st'=(⟨st.fr,R',st.toks⟩:St).put o.dst av/\T av R') st:=by
   unfold aop;rw[ho];dsimp only;unfold jgq at hA;split at hA
   ·rename_i y d s i j hx hp;have hl:st.lendO x=st:=by
     unfold St.lendO;rw[hx]
    rw[hl];unfold jm5;rw[hx,hp];dsimp only[ivE,ivOf];split at hA
    ·rename_i s' es hlk;rw[hlk];dsimp only;split at hA
     ·rename_i c hc;rw[hc];obtain⟨h1,h2,h3,h4,h5,h6⟩:=hA;exact⟨h1,h2,h3,h4,h5,_,_,rfl,h6⟩
     ·exact hA.elim
    ·exact hA.elim
   ·exact hA.elim
  refine jdm hG h hd haop ?_;rintro st' β' a' w' ⟨av,R',rfl,hT⟩ hs;exact hK av R' β' a' w' hT hs
 ·by_cases hp:isSp o=true
  ·rw[if_pos hp]at hA;exact jmj hG h hd hA hK
  ·rw[if_neg hp]at hA;obtain⟨av,h1,h2⟩:=hA;refine jcj hG h h1 fun v w2 hb hv=>hK av st.rows β _ w2 h2 ?_;exact(h.ext hb).put (dst:=o.dst) hd hv
theorem draw_soundZ(hG:G.Good)(id:Nat)(m:List Bool)(Rs:Rows)(hX:drawZ ops.toArray m=true)(hZ:stZ ops.toArray m=true)(hd0:∀o∈ops,∀d,o.dst=some d->d<N){K:St->Prop}{Q':Exit->Act->World->Prop}
  (hK:∀st' β' a' w',K st'->Sim N w0 M0 β' st' a' w'->Q' .normal a' w') (h:Sim N w0 M0 β st a w) (hRs:∀k x,look Rs k=some x->look st.rows k=some x)
  (hA:jd0 G ops (fun s=>spLZ G (fun s'=>alist G ops K (ops.drop m.length) s') (je1 m ops) Rs ⟨s.fr,st.rows,s.toks⟩) m ops ⟨st.fr,Rs,st.toks⟩):(Code.region id ops.toArray true).wp G.P Q' a w:=by
 rw[drawZ,Bool.and_eq_true]at hX;obtain⟨hB,hS⟩:=hX;simp only[drawB,Bool.and_eq_true,decide_eq_true_eq,Bool.or_eq_true,beq_iff_eq]at hB;obtain⟨⟨⟨⟨hn,hafter⟩,hpair⟩,htail⟩,hseq⟩:=hB;have hsz:ops.toArray.size=ops.length:=by simp
 have hnl:m.length<=ops.length:=by rw[<-hsz];exact hn
 obtain⟨res0,hres,hfin⟩:=jfz m ops _ hnl hA;rw[ji6 m ops hnl]at hfin;generalize hmn:m.length=n at*;have htake:∀i,i<n->(ops.take n)[i]? =ops[i]? :=fun i hi=>by rw[List.getElem?_take,if_pos hi]
 have hlt:∀i o,(ops.take n)[i]? =some o->i<n/\ops[i]? =some o:=fun i o hi=>by
  rw[List.getElem?_take]at hi;split at hi
  ·exact⟨‹_›,hi⟩
  ·cases hi
 have arr:∀(i:Nat) (o:Oper),ops[i]? =some o->ops.toArray[i]? =some o:=fun i o h=>by simpa using h
 have hpair':∀i j oi oj,i<j->j<n->ops[i]? =some oi->ops[j]? =some oj->Region.waitsFor .any ops.toArray j i=true\/oi.apart ops.toArray oj=true:=by
  intro i j oi oj hij hj h1 h2;have:=List.all_eq_true.1 (List.all_eq_true.1 hpair j (List.mem_range.2 hj)) i (List.mem_range.2 hij);rw[arr i oi h1,arr j oj h2]at this
  simpa using this
 have hspec:∀i j,i<j->j<n->m.getD i false=true->m.getD j false=true->jgl ops.toArray 3 j i=true:=by
  intro i j hij hj h1 h2;have:=List.all_eq_true.1 (List.all_eq_true.1 hS j (List.mem_range.2 hj)) i (List.mem_range.2 hij);rw[Bool.and_eq_true,h1,h2]at this
  simpa using this.1
 have hfree:∀i j oi oj,i<j->j<n->m.getD i false=true->m.getD j false=false->ops[i]? =some oi->ops[j]? =some oj->oi.apart ops.toArray oj=true:=by
  intro i j oi oj hij hj h1 h2 h3 h4;have:=List.all_eq_true.1 (List.all_eq_true.1 hS j (List.mem_range.2 hj)) i (List.mem_range.2 hij);rw[Bool.and_eq_true,h1,h2,arr i oi h3,arr j oj h4]at this
  simpa using this.2
 have hstZ:∀(i j:Nat) oi oj,i<n->j<n->m.getD i false=true->m.getD j false=false->ops[i]? =some oi->ops[j]? =some oj->isStZ oi=true->jes oj=true->Region.waitsFor .any ops.toArray i j=true:=by
  intro i j oi oj hi hj h1 h2 h3 h4 h5 h6;unfold stZ at hZ;rw[hmn]at hZ;have:=List.all_eq_true.1 (List.all_eq_true.1 hZ i (List.mem_range.2 hi)) j (List.mem_range.2 hj);rw[h1,h2,arr i oi h3,arr j oj h4]at this
  simpa [h5,h6]using this
 have hafter':∀(j:Nat) oj,ops[j]? =some oj->∀e∈oj.after,Region.binds .any e=true->e.on<j:=by
  intro j oj hj e he hb;have hjl:j<ops.toArray.size:=by rw[hsz];exact(List.getElem?_eq_some_iff.1 hj).1
  have:=List.all_eq_true.1 hafter j (List.mem_range.2 hjl);rw[arr j oj hj]at this;have:=Array.all_eq_true'.1 this e he
  simpa [hb]using this
 have main:∀c (listed:Array Bool) (a:Act) (w:World),cntB listed n=c->HeadInv .any ops.toArray n listed->
   (∃(res:Nat->AV) (β:Nat->Option Nat) (R Rs1:Rows) (s:St),(∀i,i<n->m.getD i false=false->res i=res0 i)/\Sim N w0 M0 β (stUp res (fun i=>listed.getD i false) (ops.take n) ⟨st.fr,R,st.toks⟩) a w/\
    ((∀k x,look Rs1 k=some x->look R k=some x)/\(Rs1=Rs\/∀(j:Nat) oj,j<n->m.getD j false=false->listed.getD j false=false->ops[j]? =some oj->jes oj=false))/\spLZ G (fun s'=>alist G ops K (ops.drop n) s') (((List.range n).filter (fun i=>m.getD i false&& !(listed.getD i false))).filterMap (fun i=>ops[i]?)) Rs1 s/\s.rows=R/\s.toks=st.toks/\
    ∀t,s.get t=(stUp res (fun i=>hd m i || listed.getD i false) (ops.take n) ⟨st.fr,R,st.toks⟩).get t)->wpAny G.P .any ops.toArray Q' (c+(ops.toArray.size-n)) listed a w:=by
  intro c
  induction c with
  | zero=>
   rintro listed a w hc inv ⟨res,β,R,Rs1,s,hr0,hs,⟨hsub,hnl⟩,hsp,hsr,hst,hsg⟩;rw[Nat.zero_add];have hall:=jfc hc;have hcan:listed=jel n ops.toArray.size:=by
    apply Array.ext
    ·rw[inv.size];simp[jel]
    ·intro i h1 h2;have hil:i<ops.length:=by rw[inv.size]at h1;simpa using h1
     by_cases hin:i<n
     ·have:=hall i hin;have e1:listed[i]=true:=by simpa [h1]using this
      rw[e1];simp[jel,hin]
     ·have:=inv.tail i (by omega) (by rw[inv.size]at h1;exact h1);have e1:listed[i]=false:=by simpa [h1]using this
      rw[e1];simp[jel,hin]
   have hrem:(List.range n).filter (fun i=>m.getD i false&& !(listed.getD i false))=[]:=List.filter_eq_nil_iff.2 fun k hk=>by
    rw[hall k (List.mem_range.1 hk)];simp
   rw[hrem]at hsp;have hs':Sim N w0 M0 β s a w:=by
    refine hs.congr (fun t=> ?_) ?_ ?_
    ·rw[hsg];exact jbj _ _ _ _ _ _ rfl fun i o hi _=>by rw[hall i (hlt i o hi).1];simp
    ·rw[(ja5 _ _ _ _).1,hsr]
    ·rw[(ja5 _ _ _ _).2,hst]
   have hlist:=jea hG hK (ops.drop n) _ β a w (fun o ho=>hd0 o (List.mem_of_mem_drop ho)) hsp hs';have hdl:(ops.drop n).length=ops.toArray.size-n:=by simp
   have:=wpAny_of_seq (P:=G.P) (md:= .any) (Q':=Q') (ops.drop n) n listed a w (fun j=>by simp[List.getElem?_drop]) (by rw[hcan,hdl];exact hseq) hlist
   rwa [hdl]at this
  | succ c ih=>
   rintro listed a w hc inv ⟨res,β,R,Rs1,s,hr0,hs,⟨hsub,hnl⟩,hsp,hsr,hst,hsg⟩;obtain⟨i0,hi0,hun0,hmin⟩:=jhf (by omega:cntB listed n≠0);have hL:∀i,i<n->(listed.getD i true=false↔listed.getD i false=false):=fun i hi=>by
    have:i<listed.size:=by rw[inv.size];omega
    simp[this]
   have hready0:i0∈Region.ready .any ops.toArray listed:=by
    have hil:i0<ops.length:=by rw[<-hsz];omega
    refine mem_ready.2 ⟨(hL i0 hi0).2 hun0,ops[i0],arr i0 _ (List.getElem?_eq_getElem hil),fun e he hb=>hmin _ (hafter' i0 _ (List.getElem?_eq_getElem hil) e he hb)⟩
   have hgoal:(Region.ready .any ops.toArray listed=[]->Q' .normal a w)/\∀i∈Region.ready .any ops.toArray listed,wpOp G.P ops.toArray Q' i (wpAny G.P .any ops.toArray Q' (c+(ops.toArray.size-n)) (listed.setIfInBounds i true)) a w:=by
    refine⟨fun hr=>(by rw[hr]at hready0;cases hready0),fun i hi=> ?_⟩;obtain⟨hun,oi,hoi,hall⟩:=mem_ready.1 hi;have hoi':ops[i]? =some oi:=by simpa using hoi
    have hisz:i<ops.toArray.size:=(Array.getElem?_eq_some_iff.1 hoi).1;have hin:i<n:=by
     rcases Nat.lt_or_ge i n with h' | h'
     ·exact h'
     ·rcases htail with e | ⟨hsink,hchain⟩
      ·omega
      ·exact absurd hi (tail_waits hsink hchain (by omega) inv _ i0 rfl hi0 ((hL i0 hi0).2 hun0) i h')
    have hunf:listed.getD i false=false:=(hL i hin).1 hun;have hwait:∀k,Region.waitsFor .any ops.toArray i k=true->listed.getD k false=true:=fun k hk=>by
     obtain⟨oj,hoj,e,he,hb,hon⟩:=Region.waitsFor_spec hk;rw[hoi]at hoj;cases hoj;rw[<-hon];exact hall e he hb
    have hwaitT:∀k,jgl ops.toArray 3 i k=true->listed.getD k false=true:=fun k hk=>by
     rw[jgl,Bool.or_eq_true]at hk;rcases hk with h | h
     ·exact hwait k h
     ·obtain⟨l,_,h2⟩:=List.any_eq_true.1 h;rw[Bool.and_eq_true]at h2;refine jhy inv (fun j i hw hl=> ?_) 2 l k h2.2 (hwait l h2.1);obtain⟨oj,hoj,e,he,hb,hon⟩:=Region.waitsFor_spec hw;rw[<-hon];exact inv.closed j oj hoj hl e he hb
    have hlate:∀k,Region.waitsFor .any ops.toArray k i=true->listed.getD k false=false:=fun k hk=>by
     obtain⟨ok,hok,e,he,hb,hon⟩:=Region.waitsFor_spec hk;cases hl:listed.getD k false with
     | false=>rfl
     | true=>
      have:=inv.closed k ok hok hl e he hb;rw[hon,hunf]at this;cases this
    have hisL:i<listed.size:=by rw[inv.size];exact hisz
    have hcnt:cntB (listed.setIfInBounds i true) n=c:=by
     have:=jhe hisL hunf n;rw[if_pos hin]at this;omega
    have hset:∀k,k≠i->(listed.setIfInBounds i true).getD k false=listed.getD k false:=fun k hk=>getD_set_ne false (Ne.symm hk);have hseti:(listed.setIfInBounds i true).getD i false=true:=by simp[hisL]
    have hlast:∀(t:Nat),oi.dst=some t->∀k ok,i<k->(ops.take n)[k]? =some ok->listed.getD k false=true->ok.dst≠some t:=by
     intro t hdt k ok hik hk hLk hdk;obtain⟨hkn,hok⟩:=hlt k ok hk;rcases hpair' i k oi ok hik hkn hoi' hok with hw | hap
     ·rw[hlate k hw]at hLk;cases hLk
     ·exact(Oper.apart_spec hap).2.1 t hdt hdk
    cases hmi:m.getD i false with
    | false=>
     have hhd:hd m i=true:=by unfold hd;rw[hmi];rfl
     have hagree:∀t∈oi.looksAt ops.toArray,(stUp res0 (fun k=>hd m k&&decide (k<i)) ops ⟨st.fr,R,st.toks⟩).get t=(stUp res (fun k=>listed.getD k false) (ops.take n) ⟨st.fr,R,st.toks⟩).get t:=by
      intro t ht;have e1:(stUp res0 (fun k=>hd m k&&decide (k<i)) ops ⟨st.fr,R,st.toks⟩).get t=(stUp res0 (fun k=>hd m k&&decide (k<i)) (ops.take n) ⟨st.fr,R,st.toks⟩).get t:=by
       have:∀(l:List Oper) (r:Nat->AV) (L:Nat->Bool) (n:Nat) (s:St),(∀k,n<=k->L k=false)->(stUp r L l s).get t=(stUp r L (l.take n) s).get t:=by
        intro l
        induction l with
        | nil=>intros;simp
        | cons o l ih=>
         intro r L n s hk;cases n with
         | zero=>
          have hf:∀(l:List Oper) (res:Nat->AV) (L:Nat->Bool) (st:St),(∀i,L i=false)->stUp res L l st=st:=by
           intro l
           induction l with
           | nil=>intros;rfl
           | cons o l ih=>
            intro res L st hL;simp only[stUp,hL 0];exact ih _ _ _ fun i=>hL (i+1)
          rw[hf _ _ _ _ fun i=>hk i (Nat.zero_le _)];rfl
         | succ n=>exact ih _ _ n _ fun k hk'=>hk (k+1) (by omega)
       exact this _ _ _ _ _ fun k hk=>by simp;omega
      rw[e1];refine jd4 _ _ _ _ _ _ _ rfl fun k ok hk hdk=> ?_;obtain⟨hkn,hok⟩:=hlt k ok hk;cases hmk:m.getD k false with
      | true=>
       have hap:ok.apart ops.toArray oi=true\/oi.apart ops.toArray ok=true\/listed.getD k false=false:=by
        rcases Nat.lt_trichotomy k i with hki | hki | hki
        ·exact .inl (hfree k i ok oi hki hin hmk hmi hok hoi')
        ·subst hki;rw[hmi]at hmk;cases hmk
        ·rcases hpair' i k oi ok hki hkn hoi' hok with hw | hap
         ·exact .inr (.inr (hlate k hw))
         ·exact .inr (.inl hap)
       have hh:hd m k=false:=by unfold hd;rw[hmk];rfl
       rcases hap with hap | hap | hap
       ·exact absurd ht ((Oper.apart_spec hap).1 t hdk)
       ·exact absurd ht ((Oper.apart_spec hap).2.2 t hdk)
       ·rw[hh,hap];simp
      | false=>
       have hh:hd m k=true:=by unfold hd;rw[hmk];rfl
       refine⟨?_,fun _=>(hr0 k hkn hmk).symm⟩;rw[hh];rcases Nat.lt_trichotomy k i with hki | hki | hki
       ·rcases hpair' k i ok oi hki hin hok hoi' with hw | hap
        ·rw[hwait k hw];simp[hki]
        ·exact absurd ht ((Oper.apart_spec hap).1 t hdk)
       ·subst hki;rw[hunf];simp
       ·rcases hpair' i k oi ok hki hkn hoi' hok with hw | hap
        ·rw[hlate k hw];simp;omega
        ·exact absurd ht ((Oper.apart_spec hap).2.2 t hdk)
     have hq0:=hres i oi (by omega) hmi hoi';have hq1:qStep G ops (stUp res0 (fun k=>hd m k&&decide (k<i)) ops ⟨st.fr,R,st.toks⟩) oi (res0 i):=by
      have:=jfs (r:=R) (hnl.elim (fun e=> .inr fun d x hx=>hsub d x (by rw[e];rwa [(ja5 _ _ _ _).1]at hx)) (fun hh=> .inl (hh i oi hin hmi hunf hoi'))) hq0;refine jcs (fun t _=> ?_) ?_ ?_ this
      ·show(stUp res0 (fun k=>hd m k&&decide (k<i)) ops ⟨st.fr,Rs,st.toks⟩).get t=_;exact jbj _ _ _ _ _ _ rfl fun _ _ _ _=>rfl
      ·show R=_;rw[(ja5 _ _ _ _).1]
      ·show(stUp res0 (fun k=>hd m k&&decide (k<i)) ops ⟨st.fr,Rs,st.toks⟩).toks=_;rw[(ja5 _ _ _ _).2,(ja5 _ _ _ _).2]
     have hq:qStep G ops (stUp res (fun k=>listed.getD k false) (ops.take n) ⟨st.fr,R,st.toks⟩) oi (res i):=by
      rw[hr0 i hin hmi];exact jcs hagree (by rw[(ja5 _ _ _ _).1,(ja5 _ _ _ _).1]) (by rw[(ja5 _ _ _ _).2,(ja5 _ _ _ _).2]) hq1
     have next:∀v w2,Below w.heap.size w w2->RepA w2 (Mo M0 β (stUp res (fun k=>listed.getD k false) (ops.take n) ⟨st.fr,R,st.toks⟩)) β (stUp res (fun k=>listed.getD k false) (ops.take n) ⟨st.fr,R,st.toks⟩).toks (res i) v->
       wpAny G.P .any ops.toArray Q' (c+(ops.toArray.size-n)) (listed.setIfInBounds i true) (a.put oi.dst v) w2:=by
      intro v w2 hb hv;have hs2:=(hs.ext hb).put (dst:=oi.dst) (hd0 oi (List.mem_of_getElem? hoi')) hv;refine ih _ _ _ hcnt (inv.set hi hin) ⟨res,β,R,Rs1,s,hr0,hs2.congr (fun t=> ?_) ?_ ?_,⟨hsub,hnl.imp (fun e=>e) fun hh j oj hj hmj hlj hoj=>hh j oj hj hmj (by
       by_cases e:j=i
       ·subst e;exact hunf
       ·rw[hset j e]at hlj;exact hlj) hoj⟩,?_,hsr,hst,fun t=> ?_⟩
      ·by_cases hdt:oi.dst=some t
       ·rw[hdt,jbi];refine(jcp (ops.take n) res _ _ i oi (by rw[htake i hin];exact hoi') hdt hseti fun k ok hik hk hLk=> ?_).symm;rw[hset k (by omega)]at hLk;exact hlast t hdt k ok hik hk hLk
       ·rw[jce hdt];refine jbj _ _ _ _ _ _ rfl fun k ok hk hdk=> ?_;have:k≠i:=fun e=>by
         subst e;obtain⟨_,hok⟩:=hlt k ok hk;rw[hoi']at hok;cases hok;exact hdt hdk
        exact(hset k this).symm
      ·rw[show((stUp res (fun k=>listed.getD k false) (ops.take n) ⟨st.fr,R,st.toks⟩).put oi.dst (res i)).rows=(stUp res (fun k=>listed.getD k false) (ops.take n) ⟨st.fr,R,st.toks⟩).rows by unfold St.put;split<;>rfl,(ja5 _ _ _ _).1,(ja5 _ _ _ _).1]
      ·rw[show((stUp res (fun k=>listed.getD k false) (ops.take n) ⟨st.fr,R,st.toks⟩).put oi.dst (res i)).toks=(stUp res (fun k=>listed.getD k false) (ops.take n) ⟨st.fr,R,st.toks⟩).toks by unfold St.put;split<;>rfl,(ja5 _ _ _ _).2,(ja5 _ _ _ _).2]
      ·have e:(fun k=>m.getD k false&& !((listed.setIfInBounds i true).getD k false))=fun k=>m.getD k false&& !(listed.getD k false):=by
        funext k;by_cases hk:k=i
        ·subst hk;rw[hmi];rfl
        ·rw[hset k hk]
       rw[e];exact hsp
      ·rw[hsg];refine jbj _ _ _ _ _ _ rfl fun k ok hk hdk=> ?_;by_cases hk:k=i
       ·subst hk;rw[hhd];rfl
       ·rw[hset k hk]
     unfold wpOp;rw[hoi];dsimp only;unfold qStep at hq;cases hg:oi.guard with
     | none=>
      rw[hg]at hq;rw[if_pos (by simp[Region.wanted,hg])];exact .inl (jcj hG hs hq next)
     | some p=>
      obtain⟨j,want⟩:=p;rw[hg]at hq;dsimp only at hq;split at hq
      ·rename_i b hy;have hyc:=jdp hs hy;by_cases hb:b=want
       ·rw[if_pos hb]at hq;rw[if_pos (by simp[Region.wanted,hg,hyc,hb])];exact .inl (jcj hG hs hq next)
       ·rw[if_neg hb]at hq;rw[if_neg (by simp[Region.wanted,hg,hyc,hb])];exact next _ w (Below.refl _ _) (by rw[hq];exact Rep.sc _ rfl)
      ·rename_i hy;have hyc:=jdq hs hy;rw[if_neg (by simp[Region.wanted,hg,hyc])];exact next _ w (Below.refl _ _) (by rw[hq];exact Rep.sc _ rfl)
      ·exact hq.elim
    | true=>
     have hfst:(List.range n).filter (fun k=>m.getD k false&& !(listed.getD k false))=i::(List.range n).filter (fun k=>m.getD k false&& !((listed.setIfInBounds i true).getD k false)):=by
      refine jgv (by rw[hmi,hunf];rfl) (fun k hk=> ?_) (fun k=> ?_) hin
      ·cases hmk:m.getD k false with
       | false=>rfl
       | true=>rw[hwaitT k (hspec k i hk hin hmk hmi)];rfl
      ·by_cases hk:k=i
       ·subst hk;rw[hseti];simp
       ·rw[hset k hk];simp[hk]
     rw[hfst,List.filterMap_cons,hoi']at hsp;dsimp only at hsp;obtain⟨hg,hsp⟩:=hsp;have hagree:∀t∈oi.looksAt ops.toArray,s.get t=(stUp res (fun k=>listed.getD k false) (ops.take n) ⟨st.fr,R,st.toks⟩).get t:=by
      intro t ht;rw[hsg];refine jbj _ _ _ _ _ _ rfl fun k ok hk hdk=> ?_;obtain⟨hkn,hok⟩:=hlt k ok hk;cases hmk:m.getD k false with
      | true=>
       have hh:hd m k=false:=by unfold hd;rw[hmk];rfl
       rw[hh];rfl
      | false=>
       rcases Nat.lt_trichotomy k i with hki | hki | hki
       ·rcases hpair' k i ok oi hki hin hok hoi' with hw | hap
        ·rw[hwait k hw];simp
        ·exact absurd ht ((Oper.apart_spec hap).1 t hdk)
       ·subst hki;rw[hmi]at hmk;cases hmk
       ·exact absurd ht ((Oper.apart_spec (hfree i k oi ok hki hkn hmi hmk hoi' hok)).2.2 t hdk)
     have hsp':=jnw hagree (by rw[hsr,(ja5 _ _ _ _).1]) (by rw[hst,(ja5 _ _ _ _).2]) (spZ_1 hsp);unfold wpOp;rw[hoi];dsimp only;rw[if_pos (by simp[Region.wanted,hg])];refine .inl (jnv hG hs (hd0 oi (List.mem_of_getElem? hoi')) hsp' fun av R' β' a' w' ⟨hT1,hT2⟩ hs2=> ?_);refine ih _ _ _ hcnt (inv.set hi hin) ⟨fun k=>if k=i then av else res k,β',R',_,_,fun k hk hmk=> ?_,hs2.congr (fun t=> ?_) ?_ ?_,⟨hT1,?_⟩,hT2,?_,?_,fun t=> ?_⟩
     ·show(if k=i then av else res k)=res0 k;rw[if_neg (fun e=>by subst e;rw[hmi]at hmk;cases hmk)];exact hr0 k hk hmk
     ·by_cases hdt:oi.dst=some t
      ·rw[hdt,jbi];have:=jcp (ops.take n) (fun k=>if k=i then av else res k) (fun k=>(listed.setIfInBounds i true).getD k false) ⟨st.fr,R',st.toks⟩ i oi (by rw[htake i hin];exact hoi') hdt hseti fun k ok hik hk hLk=>by
        rw[hset k (by omega)]at hLk;exact hlast t hdt k ok hik hk hLk
       rw[this,if_pos rfl]
      ·rw[jce hdt];have e1:(⟨(stUp res (fun k=>listed.getD k false) (ops.take n) ⟨st.fr,R,st.toks⟩).fr,R',(stUp res (fun k=>listed.getD k false) (ops.take n) ⟨st.fr,R,st.toks⟩).toks⟩:St).get t=(stUp res (fun k=>listed.getD k false) (ops.take n) ⟨st.fr,R,st.toks⟩).get t:=rfl;rw[e1];refine jd4 _ _ _ _ _ _ _ rfl fun k ok hk hdk=> ?_;have hki:k≠i:=fun e=>by
        subst e;obtain⟨_,hok⟩:=hlt k ok hk;rw[hoi']at hok;cases hok;exact hdt hdk
       exact⟨(hset k hki).symm,fun _=>(if_neg hki).symm⟩
     ·rw[show ∀(x:St),(x.put oi.dst av).rows=x.rows from fun x=>by unfold St.put;split<;>rfl,(ja5 _ _ _ _).1]
     ·rw[show ∀(x:St),(x.put oi.dst av).toks=x.toks from fun x=>by unfold St.put;split<;>rfl];show(stUp _ _ _ _).toks=(stUp _ _ _ _).toks;rw[(ja5 _ _ _ _).2,(ja5 _ _ _ _).2]
     ·cases hio:isStZ oi with
      | false=>
       rw[if_neg (by decide)];exact hnl.imp (fun e=>e) fun hh j oj hj hmj hlj hoj=>hh j oj hj hmj (by
        by_cases e:j=i
        ·subst e;exact hunf
        ·rw[hset j e]at hlj;exact hlj) hoj
      | true=>
       refine .inr fun j oj hj hmj hlj hoj=> ?_;cases hld:jes oj with
       | false=>rfl
       | true=>
        have hji:j≠i:=fun e=>by subst e;rw[hmi]at hmj;cases hmj
        have:=hwait j (hstZ i j oi oj hin hj hmi hmj hoi' hoj hio hld);rw[hset j hji,this]at hlj;cases hlj
     ·unfold St.put;split<;>rfl
     ·rw[show ∀(x:St),(x.put oi.dst av).toks=x.toks from fun x=>by unfold St.put;split<;>rfl];exact hst
     ·by_cases hdt:oi.dst=some t
      ·rw[hdt,jbi];have:=jcp (ops.take n) (fun k=>if k=i then av else res k) (fun k=>hd m k || (listed.setIfInBounds i true).getD k false) ⟨st.fr,R',st.toks⟩ i oi (by rw[htake i hin];exact hoi') hdt (by rw[hseti];simp) fun k ok hik hk hLk hdk=>by
        obtain⟨hkn,hok⟩:=hlt k ok hk;cases hmk:m.getD k false with
        | true=>
         have hh:hd m k=false:=by unfold hd;rw[hmk];rfl
         rw[hh,Bool.false_or,hset k (by omega)]at hLk;exact hlast t hdt k ok hik hk hLk hdk
        | false=>exact(Oper.apart_spec (hfree i k oi ok hik hkn hmi hmk hoi' hok)).2.1 t hdt hdk
       rw[this,if_pos rfl]
      ·rw[jce hdt];have e1:(⟨s.fr,R',s.toks⟩:St).get t=s.get t:=rfl;rw[e1,hsg];refine jd4 _ _ _ _ _ _ _ rfl fun k ok hk hdk=> ?_;have hki:k≠i:=fun e=>by
        subst e;obtain⟨_,hok⟩:=hlt k ok hk;rw[hoi']at hok;cases hok;exact hdt hdk
       exact⟨by rw[hset k hki],fun _=>(if_neg hki).symm⟩
   have:c+1+(ops.toArray.size-n)=(c+(ops.toArray.size-n))+1:=by omega
   rw[this];exact hgoal
 refine wp_region_any hG.mixed ?_;have inv0:HeadInv .any ops.toArray n (Array.replicate ops.toArray.size false):=
  ⟨by simp,fun j oj _ hl=>(by rw[getD_replicate_false]at hl;cases hl),fun t _ ht=>getD_in (by simpa using ht) (getD_replicate_false _ _)⟩
 have hc0:∀k,cntB (Array.replicate ops.toArray.size false) k=k:=fun k=>by
  induction k with
  | zero=>rfl
  | succ k ihk=>simp only[cntB,ihk,getD_replicate_false];simp
 have hf:∀(l:List Oper) (res:Nat->AV) (L:Nat->Bool) (st:St),(∀i,L i=false)->stUp res L l st=st:=by
  intro l
  induction l with
  | nil=>intros;rfl
  | cons o l ih=>
   intro res L st hL;simp only[stUp,hL 0];exact ih _ _ _ fun i=>hL (i+1)
 have:=main n (Array.replicate ops.toArray.size false) a _ (hc0 n) inv0 ⟨res0,β,st.rows,Rs,⟨(stUp res0 (hd m) (ops.take n) ⟨st.fr,Rs,st.toks⟩).fr,st.rows,(stUp res0 (hd m) (ops.take n) ⟨st.fr,Rs,st.toks⟩).toks⟩,fun _ _ _=>rfl,h.drew.congr (fun t=>by
  rw[hf _ _ _ _ fun i=>getD_replicate_false _ _]) (ja5 _ _ _ _).1.symm (ja5 _ _ _ _).2.symm,⟨hRs,.inl rfl⟩,(by
   have e:(fun i=>m.getD i false&& !((Array.replicate ops.toArray.size false).getD i false))=fun i=>m.getD i false:=by
    funext i;rw[getD_replicate_false];simp
   rw[e];exact hfin),rfl,(ja5 _ _ _ _).2,fun t=>by
   show(stUp res0 (hd m) (ops.take n) ⟨st.fr,Rs,st.toks⟩).get t=_;exact jbj _ _ _ _ _ _ rfl fun k _ _ _=>by rw[getD_replicate_false];simp⟩
 rwa [show n+(ops.toArray.size-n)=ops.toArray.size by omega]at this
end
section
variable{G:Ctx}
def jbt(G:Ctx)(ops:List Oper)(K:St->Prop)(Rs:Rows)(sps l:List Oper)(st:St):Prop:=spLZ G (fun s=>alist G ops K l s) sps Rs st
def jcw(G:Ctx)(ops:List Oper)(K:St->Prop)(R0 Rs:Rows)(sps:List Oper)(m:List Bool)(l:List Oper)(st:St):Prop:=
 jd0 G ops (fun s=>jbt G ops K Rs (sps.reverse++je1 m l) (l.drop m.length) ⟨s.fr,R0,s.toks⟩) m l st
theorem jhi{ops:List Oper}{Q:Exit->St->Prop}{st:St}(m:List Bool)(Rs:Rows)(h:drawZ ops.toArray m=true)(hz:stZ ops.toArray m=true)(hs:SubR Rs st.rows)
  (hA:jcw G ops (Q .normal) st.rows Rs [] m ops ⟨st.fr,Rs,st.toks⟩): @DrawP G ⟨ops⟩ ⟨Q⟩ st:=
 jhj fun N w0 M0 β a w id Q' hG hd hK hsim=>draw_soundZ hG id m Rs h hz hd hK hsim hs (by unfold jcw at hA;simpa [jbt]using hA)
theorem jby{ops:List Oper}{Q:Exit->St->Prop}{st:St}(m:List Bool)(Rs:Rows)(h:(drawZ ops.toArray m&&stZ ops.toArray m)=true)(hs:SubR Rs st.rows)
  (hA:jcw G ops (Q .normal) st.rows Rs [] m ops ⟨st.fr,Rs,st.toks⟩): @DrawP G ⟨ops⟩ ⟨Q⟩ st:=by
 rw[Bool.and_eq_true]at h;exact jhi m Rs h.1 h.2 hs hA
theorem jgg(ops:List Oper)(K:St->Prop)(R0 Rs:Rows)(sps:List Oper)(l:List Oper)(st:St):jcw G ops K R0 Rs sps [] l st=jbt G ops K Rs sps.reverse l ⟨st.fr,R0,st.toks⟩:=by
 unfold jcw jd0;simp[je1]
variable(dst:Option Tmp)(ty:TypeId)(pos:String)(af:Array Edge)(gd:Option (Nat×Bool))(st:St)(ops:List Oper)(r:List Oper)
theorem aheadZN_nil1(K:St->Prop)(R0 Rs:Rows)(a:Oper)(l:List Oper):jcw G ops K R0 Rs [a] [] l st=jbt G ops K Rs [a] l ⟨st.fr,R0,st.toks⟩:=jgg ops K R0 Rs [a] l st
theorem aheadZN_nil2(K:St->Prop)(R0 Rs:Rows)(a b:Oper)(l:List Oper):jcw G ops K R0 Rs [b,a] [] l st=jbt G ops K Rs [a,b] l ⟨st.fr,R0,st.toks⟩:=jgg ops K R0 Rs [b,a] l st
theorem aheadZN_nil3(K:St->Prop)(R0 Rs:Rows)(a b c:Oper)(l:List Oper):jcw G ops K R0 Rs [c,b,a] [] l st=jbt G ops K Rs [a,b,c] l ⟨st.fr,R0,st.toks⟩:=jgg ops K R0 Rs [c,b,a] l st
theorem aheadZN_true(K:St->Prop)(R0 Rs:Rows)(sps:List Oper)(m:List Bool)(o:Oper)(l:List Oper):
  jcw G ops K R0 Rs sps (true::m) (o::l) st=jcw G ops K R0 Rs (o::sps) m l st:=by
 simp only[jcw,List.reverse_cons,List.append_assoc,je1,List.length_cons,List.drop_succ_cons,List.singleton_append]
 conv=>lhs;unfold jd0
theorem aheadZN_free(K:St->Prop)(R0 Rs:Rows)(sps:List Oper)(m:List Bool)(op:Op):
  jcw G ops K R0 Rs sps (false::m) (⟨dst,op,ty,pos,af,none⟩::r) st=aq G st ⟨dst,op,ty,pos,af,none⟩ (fun av=>jcw G ops K R0 Rs sps m r (st.put dst av)):=by
 simp only[jcw,je1,List.length_cons,List.drop_succ_cons]
 conv=>lhs;unfold jd0
theorem aheadZN_guard(K:St->Prop)(R0 Rs:Rows)(sps:List Oper)(m:List Bool)(op:Op)(j:Nat)(want:Bool):
  jcw G ops K R0 Rs sps (false::m) (⟨dst,op,ty,pos,af,some (j,want)⟩::r) st=Opt (jd8 st ops j) (K:=⟨fun y=>match y with
   | some b=>Two (b==want) (A:=⟨aq G st ⟨dst,op,ty,pos,af,some (j,want)⟩ (fun av=>jcw G ops K R0 Rs sps m r (st.put dst av))⟩) (B:=⟨jcw G ops K R0 Rs sps m r (st.put dst jcg)⟩)
   | none=>jcw G ops K R0 Rs sps m r (st.put dst jcg)⟩):=by
 simp only[jcw,je1,List.length_cons,List.drop_succ_cons]
 conv=>lhs;unfold jd0
 simp only[Opt,jr4];split<;>rename_i h<;>rw[h]<;>rfl
theorem spListZN_nil(K:St->Prop)(Rs:Rows)(l:List Oper):jbt G ops K Rs [] l st=alist G ops K l st:=propext ⟨fun h=>h,fun h=>h⟩
theorem spListZN_call(K:St->Prop)(Rs:Rows)(l:List Oper)(f:Operand)(azz:Array Operand)(ts:Array TypeId):
  jbt G ops K Rs (⟨dst,.call ⟨.value f,azz,ts⟩,ty,pos,af,none⟩::r) l st=jr5 G (evO st f) (azz.toList.map (evO st)) st.rows (T:=⟨fun av R'=>SubR Rs R'/\jbt G ops K Rs r l ((⟨st.fr,R',st.toks⟩:St).put dst av)⟩):=
 propext ⟨fun h=>h.2,fun h=>⟨rfl,h⟩⟩
theorem spListZN_append(K:St->Prop)(Rs:Rows)(l:List Oper)(d:Tmp)(azz:Array Operand)(ts:Array TypeId):
  jbt G ops K Rs (⟨some d,.call ⟨.builtin .append,azz,ts⟩,ty,pos,af,none⟩::r) l st=match ts.toList,azz.toList with
   | [t,t'],[s,x]=>match(G.ti t).kind with
    | .sl e=>t=t'/\SpApp G d t e (evO st s) (jc9 (evO st x)) st.rows (T:=⟨fun av R'=>SubR Rs R'/\jbt G ops K Rs r l ((⟨st.fr,R',st.toks⟩:St).put (some d) av)⟩)
    | _=>False
   | _,_=>False:=by
 apply propext;constructor
 ·intro h;have h:=h.2;unfold spZ at h;dsimp only at h;rw[if_pos (by rfl)]at h;unfold sp at h;dsimp only at h;split at h
  ·rename_i h1 h2 h3;cases h1;rw[h2,h3];exact h
  ·exact h.elim
 ·intro h;refine⟨rfl,?_⟩;unfold spZ;dsimp only;rw[if_pos (by rfl)];unfold sp;dsimp only;split at h
  ·rename_i h2 h3;rw[h2,h3];exact h
  ·exact h.elim
theorem spListZN_load(K:St->Prop)(Rs:Rows)(l:List Oper)(t:TypeId)(p:Operand):
  jbt G ops K Rs (⟨dst,.load t p,ty,pos,af,none⟩::r) l st=aq G st ⟨dst,.load t p,ty,pos,af,none⟩ (fun av=>SubR Rs st.rows/\jbt G ops K Rs r l ((⟨st.fr,st.rows,st.toks⟩:St).put dst av)):=
 propext ⟨fun h=>h.2,fun h=>⟨rfl,h⟩⟩
theorem spListZN_fieldAddr(K:St->Prop)(Rs:Rows)(l:List Oper)(t:TypeId)(p:Operand)(k:Nat):
  jbt G ops K Rs (⟨dst,.fieldAddr t p k,ty,pos,af,none⟩::r) l st=aq G st ⟨dst,.fieldAddr t p k,ty,pos,af,none⟩ (fun av=>SubR Rs st.rows/\jbt G ops K Rs r l ((⟨st.fr,st.rows,st.toks⟩:St).put dst av)):=
 propext ⟨fun h=>h.2,fun h=>⟨rfl,h⟩⟩
theorem spListZN_nilCheck(K:St->Prop)(Rs:Rows)(l:List Oper)(p:Operand):
  jbt G ops K Rs (⟨dst,.nilCheck p,ty,pos,af,none⟩::r) l st=aq G st ⟨dst,.nilCheck p,ty,pos,af,none⟩ (fun av=>SubR Rs st.rows/\jbt G ops K Rs r l ((⟨st.fr,st.rows,st.toks⟩:St).put dst av)):=
 propext ⟨fun h=>h.2,fun h=>⟨rfl,h⟩⟩
theorem spListZN_build(K:St->Prop)(Rs:Rows)(l:List Oper)(t:TypeId)(fs:Array (Nat×Operand)):
  jbt G ops K Rs (⟨dst,.build t fs,ty,pos,af,none⟩::r) l st=aq G st ⟨dst,.build t fs,ty,pos,af,none⟩ (fun av=>SubR Rs st.rows/\jbt G ops K Rs r l ((⟨st.fr,st.rows,st.toks⟩:St).put dst av)):=
 propext ⟨fun h=>h.2,fun h=>⟨rfl,h⟩⟩
theorem spListZN_move(K:St->Prop)(Rs:Rows)(l:List Oper)(p:Operand):
  jbt G ops K Rs (⟨dst,.move p,ty,pos,af,none⟩::r) l st=aq G st ⟨dst,.move p,ty,pos,af,none⟩ (fun av=>SubR Rs st.rows/\jbt G ops K Rs r l ((⟨st.fr,st.rows,st.toks⟩:St).put dst av)):=
 propext ⟨fun h=>h.2,fun h=>⟨rfl,h⟩⟩
theorem aheadZN_nil4(K:St->Prop)(R0 Rs:Rows)(a b c d:Oper)(l:List Oper):jcw G ops K R0 Rs [d,c,b,a] [] l st=jbt G ops K Rs [a,b,c,d] l ⟨st.fr,R0,st.toks⟩:=jgg ops K R0 Rs [d,c,b,a] l st
def jl8(G:Ctx)(t:TypeId)(p x:AV)(R:Rows)[T:Hold (Rows->Prop)]:Prop:=jgq G t p x R fun _ R'=>T.val R'
theorem jdv{t:TypeId}{p x:AV}{R:Rows}{T T':AV->Rows->Prop}(h:jgq G t p x R T)(hT:∀av R',T av R'->T' av R'):jgq G t p x R T':=by
 unfold jgq at h⊢;split at h
 ·split at h
  ·split at h
   ·obtain⟨h1,h2,h3,h4,h5,h6⟩:=h;exact⟨h1,h2,h3,h4,h5,hT _ _ h6⟩
   ·exact h.elim
  ·exact h.elim
 ·exact h.elim
theorem spListZN_store(K:St->Prop)(Rs:Rows)(l:List Oper)(t:TypeId)(p x:Operand):
  jbt G ops K Rs (⟨none,.store t p x,ty,pos,af,none⟩::r) l st=jl8 G t (evO st p) (evO st x) st.rows (T:=⟨fun R'=>jbt G ops K [] r l ⟨st.fr,R',st.toks⟩⟩):=
 by
 apply propext;constructor
 ·intro h;have h2:=h.2;unfold spZ at h2;dsimp only at h2;exact jdv h2 fun _ _ h=>h.2
 ·intro h;refine⟨rfl,?_⟩;unfold spZ;dsimp only;exact jdv h fun _ _ h=>⟨(fun k x hk=>by cases hk),h⟩
theorem SpStore_loc(t:TypeId)(d s i j:Nat)(y:IV)(R:Rows)(T:Rows->Prop): @jl8 G t (.loc d s i j) (.im y) R ⟨T⟩=Opt (look R d) (K:=⟨fun p=>Opt p.2[i]? (K:=⟨fun c=>p.1=s/\(G.ti t).size≠0/\(cellsOf y).length=(G.ti t).size/\(cellsOf y).all IV.one=true/\j+(G.ti t).size<=c.length/\
  T (setRow R d s (p.2.set i (jbq c j (cellsOf y))))⟩)⟩):=by
 unfold jl8 jgq Opt AV.dp;dsimp only;cases h:look R d with
 | none=>rfl
 | some p=>
  obtain⟨s',es⟩:=p;dsimp only;cases es[i]? <;>rfl
end
attribute [go_sem ↓] aheadZN_guard aheadZN_nil1 aheadZN_nil2 aheadZN_nil3 aheadZN_true aheadZN_free spListZN_nil spListZN_call spListZN_append spListZN_store SpStore_loc spListZN_load spListZN_fieldAddr spListZN_nilCheck spListZN_build spListZN_move aheadZN_nil4
end
end Go.Abs
