/- A part of the proof. No further condition. -/
import Derived.Test.YtfahloobpegieaaGreatKX21
import Derived.Test.YtfahloobpegieaaGreatKX17
import Derived.Test.YtfahloobpegieaaGreatKX20
import Derived.Test.YtfahloobpegieaaGreatKX18
set_option linter.all false
set_option maxRecDepth 100000
namespace Go.Abs
section
open Go.RowKit (Below)
def jgc(G:Ctx)(t:TypeId)(p x:AV)(R:Rows)(T:AV->Rows->Prop):Prop:=
 match x,p.dp with
 | .im y,.loc d s i j=>match look R d with
  | some (s',es)=>match es[i]? with
   | some c=>s'=s/\(G.ti t).size≠0/\(cellsOf y).length=(G.ti t).size/\(cellsOf y).all IV.one=true/\j+(G.ti t).size<=c.length/\
     T jc8 (setRow R d s (es.set i (jbi c j (cellsOf y))))
   | none=>False
  | none=>False
 | _,_=>False
def spZ(G:Ctx)(st:St)(o:Oper)(T:AV->Rows->Prop):Prop:=
 match o.op with
 | .store t p x=>jgc G t (evO st p) (evO st x) st.rows T
 | _=>if isSp o=true then sp G st o T else aq G st o fun av=>T av st.rows
def spZ1(G:Ctx)(st:St)(o:Oper)(T:AV->Rows->Prop):Prop:=
 match o.op with
 | .store t p x=>jgc G t (evO st p) (evO st x) st.rows T
 | _=>if isSp o=true then sp G st o T else ∃av,qVal G st o av/\T av st.rows
def jjg(ops:Array Oper):Nat->Nat->Nat->Bool
 | 0,j,i=>Region.waitsFor .any ops j i
 | f+1,j,i=>Region.waitsFor .any ops j i || (List.range j).any fun l=>Region.waitsFor .any ops j l&&jjg ops f l i
def drawZ(ops:Array Oper)(m:List Bool):Bool:=
 drawB ops m.length&&(List.range m.length).all (fun j=>(List.range j).all fun i=>
  (!(m.getD i false&&m.getD j false) || jjg ops 3 j i)&&
  (!(m.getD i false&& !(m.getD j false)) || (match ops[i]?,ops[j]? with
   | some oi,some oj=>oi.apart ops oj
   | _,_=>false)))
theorem waitsT_listed{ops:Array Oper}{n:Nat}{listed:Array Bool}(inv:HeadInv .any ops n listed)(hw:∀j i,Region.waitsFor .any ops j i=true->listed.getD j false=true->listed.getD i false=true):
  ∀(f j i:Nat),jjg ops f j i=true->listed.getD j false=true->listed.getD i false=true:=by
 intro f
 induction f with
 | zero=>exact fun j i h hl=>hw j i h hl
 | succ f ih=>
  intro j i h hl;rw[jjg,Bool.or_eq_true]at h;rcases h with h | h
  ·exact hw j i h hl
  ·obtain⟨l,_,h2⟩:=List.any_eq_true.1 h;rw[Bool.and_eq_true]at h2;exact ih l i h2.2 (hw j l h2.1 hl)
theorem spZ_1{G:Ctx}{st:St}{o:Oper}{T:AV->Rows->Prop}(h:spZ G st o T):spZ1 G st o T:=by
 unfold spZ at h;unfold spZ1;split at h
 ·exact h
 ·by_cases hs:isSp o=true
  ·rw[if_pos hs]at h⊢;exact h
  ·rw[if_neg hs]at h⊢;obtain⟨av,h1,h2⟩:=jgr h;exact⟨av,h1,h2⟩
def isStZ(o:Oper):Bool:=
 match o.op with
 | .store _ _ _=>true
 | _=>false
def stZ(ops:Array Oper)(m:List Bool):Bool:=(List.range m.length).all fun i=>(List.range m.length).all fun j=> !(m.getD i false) || m.getD j false || (match ops[i]?,ops[j]? with
 | some oi,some oj=> !isStZ oi || !jfe oj || Region.waitsFor .any ops i j
 | _,_=>true)
def spLZ(G:Ctx)(K:St->Prop):List Oper->Rows->St->Prop
 | [],_,st=>K st
 | o::r,Rs,st=>o.guard=none/\spZ G st o fun av R'=>(∀k x,look (if isStZ o=true then []else Rs) k=some x->look R' k=some x)/\spLZ G K r (if isStZ o=true then []else Rs) ((⟨st.fr,R',st.toks⟩:St).put o.dst av)
section
variable{G:Ctx}{N:Nat}{w0:Base}{w w':World}{M0:Nat->Nat->Prop}{β:Nat->Option Nat}{st st':St}{a:Act}{ops:List Oper}
theorem spZ_congr{o:Oper}{T:AV->Rows->Prop}(h:∀t∈o.looksAt ops.toArray,st.get t=st'.get t)(hr:st.rows=st'.rows)(ht:st.toks=st'.toks)(hs:spZ1 G st o T):spZ1 G st' o T:=by
 have hx:∀x∈o.op.operands,evO st x=evO st' x:=fun x hx=>jgi fun t ht=>h t (je8 hx ht);unfold spZ1 at hs⊢;split at hs
 ·rename_i t p x ho;rw[ho]at hx;rw[<-hx p (by simp[Op.operands]),<-hx x (by simp[Op.operands]),<-hr];exact hs
 ·by_cases hp:isSp o=true
  ·rw[if_pos hp]at hs⊢;exact jj4 h hr hs
  ·rw[if_neg hp]at hs⊢;obtain⟨av,h1,h2⟩:=hs;exact⟨av,jic h hr ht h1,hr▸h2⟩
theorem spZ_sound(hG:G.Good)(h:Sim N w0 M0 β st a w){o:Oper}{T:AV->Rows->Prop}(hd:∀d,o.dst=some d->d<N)(hA:spZ1 G st o T){K':Act->World->Prop}{Q':Exit->Act->World->Prop}
  (hK:∀av R' β' a' w',T av R'->Sim N w0 M0 β' ((⟨st.fr,R',st.toks⟩:St).put o.dst av) a' w'->K' a' w'):o.wp G.P a w K' Q':=by
 unfold spZ1 at hA;split at hA
 ·rename_i t p x ho;have haop:aop G o (fun st'=>∃av R',st'=(⟨st.fr,R',st.toks⟩:St).put o.dst av/\T av R') st:=by
   unfold aop;rw[ho];dsimp only;unfold jgc at hA;split at hA
   ·rename_i y d s i j hx hp;have hl:st.lendO x=st:=by
     unfold St.lendO;rw[hx]
    rw[hl];unfold jlm;rw[hx,hp];dsimp only[ivE,ivOf];split at hA
    ·rename_i s' es hlk;rw[hlk];dsimp only;split at hA
     ·rename_i c hc;rw[hc];obtain⟨h1,h2,h3,h4,h5,h6⟩:=hA;exact⟨h1,h2,h3,h4,h5,_,_,rfl,h6⟩
     ·exact hA.elim
    ·exact hA.elim
   ·exact hA.elim
  refine jew hG h hd haop ?_;rintro st' β' a' w' ⟨av,R',rfl,hT⟩ hs;exact hK av R' β' a' w' hT hs
 ·by_cases hp:isSp o=true
  ·rw[if_pos hp]at hA;exact jm0 hG h hd hA hK
  ·rw[if_neg hp]at hA;obtain⟨av,h1,h2⟩:=hA;refine jcr hG h h1 fun v w2 hb hv=>hK av st.rows β _ w2 h2 ?_;exact(h.ext hb).put (dst:=o.dst) hd hv
theorem draw_soundZ(hG:G.Good)(id:Nat)(m:List Bool)(Rs:Rows)(hX:drawZ ops.toArray m=true)(hZ:stZ ops.toArray m=true)(hd0:∀o∈ops,∀d,o.dst=some d->d<N){K:St->Prop}{Q':Exit->Act->World->Prop}
  (hK:∀st' β' a' w',K st'->Sim N w0 M0 β' st' a' w'->Q' .normal a' w') (h:Sim N w0 M0 β st a w) (hRs:∀k x,look Rs k=some x->look st.rows k=some x)
  (hA:jdc G ops (fun s=>spLZ G (fun s'=>alist G ops K (ops.drop m.length) s') (jdr m ops) Rs ⟨s.fr,st.rows,s.toks⟩) m ops ⟨st.fr,Rs,st.toks⟩):(Code.region id ops.toArray true).wp G.P Q' a w:=by
 rw[drawZ,Bool.and_eq_true]at hX;obtain⟨hB,hS⟩:=hX;simp only[drawB,Bool.and_eq_true,decide_eq_true_eq,Bool.or_eq_true,beq_iff_eq]at hB;obtain⟨⟨⟨⟨hn,hafter⟩,hpair⟩,htail⟩,hseq⟩:=hB;have hsz:ops.toArray.size=ops.length:=by simp
 have hnl:m.length<=ops.length:=by rw[<-hsz];exact hn
 obtain⟨res0,hres,hfin⟩:=jh2 m ops _ hnl hA;rw[jhs m ops hnl]at hfin;generalize hmn:m.length=n at*;have htake:∀i,i<n->(ops.take n)[i]? =ops[i]? :=fun i hi=>by rw[List.getElem?_take,if_pos hi]
 have hlt:∀i o,(ops.take n)[i]? =some o->i<n/\ops[i]? =some o:=fun i o hi=>by
  rw[List.getElem?_take]at hi;split at hi
  ·exact⟨‹_›,hi⟩
  ·cases hi
 have arr:∀(i:Nat) (o:Oper),ops[i]? =some o->ops.toArray[i]? =some o:=fun i o h=>by simpa using h
 have hpair':∀i j oi oj,i<j->j<n->ops[i]? =some oi->ops[j]? =some oj->Region.waitsFor .any ops.toArray j i=true\/oi.apart ops.toArray oj=true:=by
  intro i j oi oj hij hj h1 h2;have:=List.all_eq_true.1 (List.all_eq_true.1 hpair j (List.mem_range.2 hj)) i (List.mem_range.2 hij);rw[arr i oi h1,arr j oj h2]at this
  simpa using this
 have hspec:∀i j,i<j->j<n->m.getD i false=true->m.getD j false=true->jjg ops.toArray 3 j i=true:=by
  intro i j hij hj h1 h2;have:=List.all_eq_true.1 (List.all_eq_true.1 hS j (List.mem_range.2 hj)) i (List.mem_range.2 hij);rw[Bool.and_eq_true,h1,h2]at this
  simpa using this.1
 have hfree:∀i j oi oj,i<j->j<n->m.getD i false=true->m.getD j false=false->ops[i]? =some oi->ops[j]? =some oj->oi.apart ops.toArray oj=true:=by
  intro i j oi oj hij hj h1 h2 h3 h4;have:=List.all_eq_true.1 (List.all_eq_true.1 hS j (List.mem_range.2 hj)) i (List.mem_range.2 hij);rw[Bool.and_eq_true,h1,h2,arr i oi h3,arr j oj h4]at this
  simpa using this.2
 have hstZ:∀(i j:Nat) oi oj,i<n->j<n->m.getD i false=true->m.getD j false=false->ops[i]? =some oi->ops[j]? =some oj->isStZ oi=true->jfe oj=true->Region.waitsFor .any ops.toArray i j=true:=by
  intro i j oi oj hi hj h1 h2 h3 h4 h5 h6;unfold stZ at hZ;rw[hmn]at hZ;have:=List.all_eq_true.1 (List.all_eq_true.1 hZ i (List.mem_range.2 hi)) j (List.mem_range.2 hj);rw[h1,h2,arr i oi h3,arr j oj h4]at this
  simpa [h5,h6]using this
 have hafter':∀(j:Nat) oj,ops[j]? =some oj->∀e∈oj.after,Region.binds .any e=true->e.on<j:=by
  intro j oj hj e he hb;have hjl:j<ops.toArray.size:=by rw[hsz];exact(List.getElem?_eq_some_iff.1 hj).1
  have:=List.all_eq_true.1 hafter j (List.mem_range.2 hjl);rw[arr j oj hj]at this;have:=Array.all_eq_true'.1 this e he
  simpa [hb]using this
 have main:∀c (listed:Array Bool) (a:Act) (w:World),cntB listed n=c->HeadInv .any ops.toArray n listed->
   (∃(res:Nat->AV) (β:Nat->Option Nat) (R Rs1:Rows) (s:St),(∀i,i<n->m.getD i false=false->res i=res0 i)/\Sim N w0 M0 β (stUp res (fun i=>listed.getD i false) (ops.take n) ⟨st.fr,R,st.toks⟩) a w/\
    ((∀k x,look Rs1 k=some x->look R k=some x)/\(Rs1=Rs\/∀(j:Nat) oj,j<n->m.getD j false=false->listed.getD j false=false->ops[j]? =some oj->jfe oj=false))/\spLZ G (fun s'=>alist G ops K (ops.drop n) s') (((List.range n).filter (fun i=>m.getD i false&& !(listed.getD i false))).filterMap (fun i=>ops[i]?)) Rs1 s/\s.rows=R/\s.toks=st.toks/\
    ∀t,s.get t=(stUp res (fun i=>hd m i || listed.getD i false) (ops.take n) ⟨st.fr,R,st.toks⟩).get t)->wpAny G.P .any ops.toArray Q' (c+(ops.toArray.size-n)) listed a w:=by
  intro c
  induction c with
  | zero=>
   rintro listed a w hc inv ⟨res,β,R,Rs1,s,hr0,hs,⟨hsub,hnl⟩,hsp,hsr,hst,hsg⟩;rw[Nat.zero_add];have hall:=jfj hc;have hcan:listed=jfl n ops.toArray.size:=by
    apply Array.ext
    ·rw[inv.size];simp[jfl]
    ·intro i h1 h2;have hil:i<ops.length:=by rw[inv.size]at h1;simpa using h1
     by_cases hin:i<n
     ·have:=hall i hin;have e1:listed[i]=true:=by simpa [h1]using this
      rw[e1];simp[jfl,hin]
     ·have:=inv.tail i (by omega) (by rw[inv.size]at h1;exact h1);have e1:listed[i]=false:=by simpa [h1]using this
      rw[e1];simp[jfl,hin]
   have hrem:(List.range n).filter (fun i=>m.getD i false&& !(listed.getD i false))=[]:=List.filter_eq_nil_iff.2 fun k hk=>by
    rw[hall k (List.mem_range.1 hk)];simp
   rw[hrem]at hsp;have hs':Sim N w0 M0 β s a w:=by
    refine hs.congr (fun t=> ?_) ?_ ?_
    ·rw[hsg];exact jbs _ _ _ _ _ _ rfl fun i o hi _=>by rw[hall i (hlt i o hi).1];simp
    ·rw[(ja9 _ _ _ _).1,hsr]
    ·rw[(ja9 _ _ _ _).2,hst]
   have hlist:=jex hG hK (ops.drop n) _ β a w (fun o ho=>hd0 o (List.mem_of_mem_drop ho)) hsp hs';have hdl:(ops.drop n).length=ops.toArray.size-n:=by simp
   have:=wpAny_of_seq (P:=G.P) (md:= .any) (Q':=Q') (ops.drop n) n listed a w (fun j=>by simp[List.getElem?_drop]) (by rw[hcan,hdl];exact hseq) hlist
   rwa [hdl]at this
  | succ c ih=>
   rintro listed a w hc inv ⟨res,β,R,Rs1,s,hr0,hs,⟨hsub,hnl⟩,hsp,hsr,hst,hsg⟩;obtain⟨i0,hi0,hun0,hmin⟩:=jhy (by omega:cntB listed n≠0);have hL:∀i,i<n->(listed.getD i true=false↔listed.getD i false=false):=fun i hi=>by
    have:i<listed.size:=by rw[inv.size];omega
    simp[this]
   have hready0:i0∈Region.ready .any ops.toArray listed:=by
    have hil:i0<ops.length:=by rw[<-hsz];omega
    refine mem_ready.2 ⟨(hL i0 hi0).2 hun0,ops[i0],arr i0 _ (List.getElem?_eq_getElem hil),fun e he hb=>hmin _ (hafter' i0 _ (List.getElem?_eq_getElem hil) e he hb)⟩
   have hgoal:(Region.ready .any ops.toArray listed=[]->Q' .normal a w)/\∀i∈Region.ready .any ops.toArray listed,wpOp G.P ops.toArray Q' i (wpAny G.P .any ops.toArray Q' (c+(ops.toArray.size-n)) (listed.setIfInBounds i true)) a w:=by
    refine⟨fun hr=>(by rw[hr]at hready0;cases hready0),fun i hi=> ?_⟩;obtain⟨hun,oi,hoi,hall⟩:=mem_ready.1 hi;have hoi':ops[i]? =some oi:=by simpa using hoi
    have hisz:i<ops.toArray.size:=(Array.getElem?_eq_some_iff.1 hoi).1;have hin:i<n:=by
     rcases Nat.lt_or_ge i n with h' | h'
     ·exact h'
     ·rcases htail with e | ⟨hsink,hchain⟩
      ·omega
      ·exact absurd hi (tail_waits hsink hchain (by omega) inv _ i0 rfl hi0 ((hL i0 hi0).2 hun0) i h')
    have hunf:listed.getD i false=false:=(hL i hin).1 hun;have hwait:∀k,Region.waitsFor .any ops.toArray i k=true->listed.getD k false=true:=fun k hk=>by
     obtain⟨oj,hoj,e,he,hb,hon⟩:=Region.waitsFor_spec hk;rw[hoi]at hoj;cases hoj;rw[<-hon];exact hall e he hb
    have hwaitT:∀k,jjg ops.toArray 3 i k=true->listed.getD k false=true:=fun k hk=>by
     rw[jjg,Bool.or_eq_true]at hk;rcases hk with h | h
     ·exact hwait k h
     ·obtain⟨l,_,h2⟩:=List.any_eq_true.1 h;rw[Bool.and_eq_true]at h2;refine waitsT_listed inv (fun j i hw hl=> ?_) 2 l k h2.2 (hwait l h2.1);obtain⟨oj,hoj,e,he,hb,hon⟩:=Region.waitsFor_spec hw;rw[<-hon];exact inv.closed j oj hoj hl e he hb
    have hlate:∀k,Region.waitsFor .any ops.toArray k i=true->listed.getD k false=false:=fun k hk=>by
     obtain⟨ok,hok,e,he,hb,hon⟩:=Region.waitsFor_spec hk;cases hl:listed.getD k false with
     | false=>rfl
     | true=>
      have:=inv.closed k ok hok hl e he hb;rw[hon,hunf]at this;cases this
    have hisL:i<listed.size:=by rw[inv.size];exact hisz
    have hcnt:cntB (listed.setIfInBounds i true) n=c:=by
     have:=jhx hisL hunf n;rw[if_pos hin]at this;omega
    have hset:∀k,k≠i->(listed.setIfInBounds i true).getD k false=listed.getD k false:=fun k hk=>getD_set_ne false (Ne.symm hk);have hseti:(listed.setIfInBounds i true).getD i false=true:=by simp[hisL]
    have hlast:∀(t:Nat),oi.dst=some t->∀k ok,i<k->(ops.take n)[k]? =some ok->listed.getD k false=true->ok.dst≠some t:=by
     intro t hdt k ok hik hk hLk hdk;obtain⟨hkn,hok⟩:=hlt k ok hk;rcases hpair' i k oi ok hik hkn hoi' hok with hw | hap
     ·rw[hlate k hw]at hLk;cases hLk
     ·exact(Oper.apart_spec hap).2.1 t hdt hdk
    cases hmi:m.getD i false with
    | false=>
     have hhd:hd m i=true:=by unfold hd;rw[hmi];rfl
     have hagree:∀t∈oi.looksAt ops.toArray,(stUp res0 (fun k=>hd m k&&decide (k<i)) ops ⟨st.fr,R,st.toks⟩).get t=(stUp res (fun k=>listed.getD k false) (ops.take n) ⟨st.fr,R,st.toks⟩).get t:=by
      intro t ht;have e1:(stUp res0 (fun k=>hd m k&&decide (k<i)) ops ⟨st.fr,R,st.toks⟩).get t=(stUp res0 (fun k=>hd m k&&decide (k<i)) (ops.take n) ⟨st.fr,R,st.toks⟩).get t:=by
       have:∀(l:List Oper) (r:Nat->AV) (L:Nat->Bool) (n:Nat) (s:St),(∀k,n<=k->L k=false)->(stUp r L l s).get t=(stUp r L (l.take n) s).get t:=by
        intro l
        induction l with
        | nil=>intros;simp
        | cons o l ih=>
         intro r L n s hk;cases n with
         | zero=>
          have hf:∀(l:List Oper) (res:Nat->AV) (L:Nat->Bool) (st:St),(∀i,L i=false)->stUp res L l st=st:=by
           intro l
           induction l with
           | nil=>intros;rfl
           | cons o l ih=>
            intro res L st hL;simp only[stUp,hL 0];exact ih _ _ _ fun i=>hL (i+1)
          rw[hf _ _ _ _ fun i=>hk i (Nat.zero_le _)];rfl
         | succ n=>exact ih _ _ n _ fun k hk'=>hk (k+1) (by omega)
       exact this _ _ _ _ _ fun k hk=>by simp;omega
      rw[e1];refine jdm _ _ _ _ _ _ _ rfl fun k ok hk hdk=> ?_;obtain⟨hkn,hok⟩:=hlt k ok hk;cases hmk:m.getD k false with
      | true=>
       have hap:ok.apart ops.toArray oi=true\/oi.apart ops.toArray ok=true\/listed.getD k false=false:=by
        rcases Nat.lt_trichotomy k i with hki | hki | hki
        ·exact .inl (hfree k i ok oi hki hin hmk hmi hok hoi')
        ·subst hki;rw[hmi]at hmk;cases hmk
        ·rcases hpair' i k oi ok hki hkn hoi' hok with hw | hap
         ·exact .inr (.inr (hlate k hw))
         ·exact .inr (.inl hap)
       have hh:hd m k=false:=by unfold hd;rw[hmk];rfl
       rcases hap with hap | hap | hap
       ·exact absurd ht ((Oper.apart_spec hap).1 t hdk)
       ·exact absurd ht ((Oper.apart_spec hap).2.2 t hdk)
       ·rw[hh,hap];simp
      | false=>
       have hh:hd m k=true:=by unfold hd;rw[hmk];rfl
       refine⟨?_,fun _=>(hr0 k hkn hmk).symm⟩;rw[hh];rcases Nat.lt_trichotomy k i with hki | hki | hki
       ·rcases hpair' k i ok oi hki hin hok hoi' with hw | hap
        ·rw[hwait k hw];simp[hki]
        ·exact absurd ht ((Oper.apart_spec hap).1 t hdk)
       ·subst hki;rw[hunf];simp
       ·rcases hpair' i k oi ok hki hkn hoi' hok with hw | hap
        ·rw[hlate k hw];simp;omega
        ·exact absurd ht ((Oper.apart_spec hap).2.2 t hdk)
     have hq0:=hres i oi (by omega) hmi hoi';have hq1:qStep G ops (stUp res0 (fun k=>hd m k&&decide (k<i)) ops ⟨st.fr,R,st.toks⟩) oi (res0 i):=by
      have:=jgy (r:=R) (hnl.elim (fun e=> .inr fun d x hx=>hsub d x (by rw[e];rwa [(ja9 _ _ _ _).1]at hx)) (fun hh=> .inl (hh i oi hin hmi hunf hoi'))) hq0;refine jcz (fun t _=> ?_) ?_ ?_ this
      ·show(stUp res0 (fun k=>hd m k&&decide (k<i)) ops ⟨st.fr,Rs,st.toks⟩).get t=_;exact jbs _ _ _ _ _ _ rfl fun _ _ _ _=>rfl
      ·show R=_;rw[(ja9 _ _ _ _).1]
      ·show(stUp res0 (fun k=>hd m k&&decide (k<i)) ops ⟨st.fr,Rs,st.toks⟩).toks=_;rw[(ja9 _ _ _ _).2,(ja9 _ _ _ _).2]
     have hq:qStep G ops (stUp res (fun k=>listed.getD k false) (ops.take n) ⟨st.fr,R,st.toks⟩) oi (res i):=by
      rw[hr0 i hin hmi];exact jcz hagree (by rw[(ja9 _ _ _ _).1,(ja9 _ _ _ _).1]) (by rw[(ja9 _ _ _ _).2,(ja9 _ _ _ _).2]) hq1
     have next:∀v w2,Below w.heap.size w w2->RepA w2 (Mo M0 β (stUp res (fun k=>listed.getD k false) (ops.take n) ⟨st.fr,R,st.toks⟩)) β (stUp res (fun k=>listed.getD k false) (ops.take n) ⟨st.fr,R,st.toks⟩).toks (res i) v->
       wpAny G.P .any ops.toArray Q' (c+(ops.toArray.size-n)) (listed.setIfInBounds i true) (a.put oi.dst v) w2:=by
      intro v w2 hb hv;have hs2:=(hs.ext hb).put (dst:=oi.dst) (hd0 oi (List.mem_of_getElem? hoi')) hv;refine ih _ _ _ hcnt (inv.set hi hin) ⟨res,β,R,Rs1,s,hr0,hs2.congr (fun t=> ?_) ?_ ?_,⟨hsub,hnl.imp (fun e=>e) fun hh j oj hj hmj hlj hoj=>hh j oj hj hmj (by
       by_cases e:j=i
       ·subst e;exact hunf
       ·rw[hset j e]at hlj;exact hlj) hoj⟩,?_,hsr,hst,fun t=> ?_⟩
      ·by_cases hdt:oi.dst=some t
       ·rw[hdt,jbn];refine(jcy (ops.take n) res _ _ i oi (by rw[htake i hin];exact hoi') hdt hseti fun k ok hik hk hLk=> ?_).symm;rw[hset k (by omega)]at hLk;exact hlast t hdt k ok hik hk hLk
       ·rw[jct hdt];refine jbs _ _ _ _ _ _ rfl fun k ok hk hdk=> ?_;have:k≠i:=fun e=>by
         subst e;obtain⟨_,hok⟩:=hlt k ok hk;rw[hoi']at hok;cases hok;exact hdt hdk
        exact(hset k this).symm
      ·rw[show((stUp res (fun k=>listed.getD k false) (ops.take n) ⟨st.fr,R,st.toks⟩).put oi.dst (res i)).rows=(stUp res (fun k=>listed.getD k false) (ops.take n) ⟨st.fr,R,st.toks⟩).rows by unfold St.put;split<;>rfl,(ja9 _ _ _ _).1,(ja9 _ _ _ _).1]
      ·rw[show((stUp res (fun k=>listed.getD k false) (ops.take n) ⟨st.fr,R,st.toks⟩).put oi.dst (res i)).toks=(stUp res (fun k=>listed.getD k false) (ops.take n) ⟨st.fr,R,st.toks⟩).toks by unfold St.put;split<;>rfl,(ja9 _ _ _ _).2,(ja9 _ _ _ _).2]
      ·have e:(fun k=>m.getD k false&& !((listed.setIfInBounds i true).getD k false))=fun k=>m.getD k false&& !(listed.getD k false):=by
        funext k;by_cases hk:k=i
        ·subst hk;rw[hmi];rfl
        ·rw[hset k hk]
       rw[e];exact hsp
      ·rw[hsg];refine jbs _ _ _ _ _ _ rfl fun k ok hk hdk=> ?_;by_cases hk:k=i
       ·subst hk;rw[hhd];rfl
       ·rw[hset k hk]
     unfold wpOp;rw[hoi];dsimp only;unfold qStep at hq;cases hg:oi.guard with
     | none=>
      rw[hg]at hq;rw[if_pos (by simp[Region.wanted,hg])];exact .inl (jcr hG hs hq next)
     | some p=>
      obtain⟨j,want⟩:=p;rw[hg]at hq;dsimp only at hq;split at hq
      ·rename_i b hy;have hyc:=jdy hs hy;by_cases hb:b=want
       ·rw[if_pos hb]at hq;rw[if_pos (by simp[Region.wanted,hg,hyc,hb])];exact .inl (jcr hG hs hq next)
       ·rw[if_neg hb]at hq;rw[if_neg (by simp[Region.wanted,hg,hyc,hb])];exact next _ w (Below.refl _ _) (by rw[hq];exact Rep.sc _ rfl)
      ·rename_i hy;have hyc:=jdz hs hy;rw[if_neg (by simp[Region.wanted,hg,hyc])];exact next _ w (Below.refl _ _) (by rw[hq];exact Rep.sc _ rfl)
      ·exact hq.elim
    | true=>
     have hfst:(List.range n).filter (fun k=>m.getD k false&& !(listed.getD k false))=i::(List.range n).filter (fun k=>m.getD k false&& !((listed.setIfInBounds i true).getD k false)):=by
      refine jgh (by rw[hmi,hunf];rfl) (fun k hk=> ?_) (fun k=> ?_) hin
      ·cases hmk:m.getD k false with
       | false=>rfl
       | true=>rw[hwaitT k (hspec k i hk hin hmk hmi)];rfl
      ·by_cases hk:k=i
       ·subst hk;rw[hseti];simp
       ·rw[hset k hk];simp[hk]
     rw[hfst,List.filterMap_cons,hoi']at hsp;dsimp only at hsp;obtain⟨hg,hsp⟩:=hsp;have hagree:∀t∈oi.looksAt ops.toArray,s.get t=(stUp res (fun k=>listed.getD k false) (ops.take n) ⟨st.fr,R,st.toks⟩).get t:=by
      intro t ht;rw[hsg];refine jbs _ _ _ _ _ _ rfl fun k ok hk hdk=> ?_;obtain⟨hkn,hok⟩:=hlt k ok hk;cases hmk:m.getD k false with
      | true=>
       have hh:hd m k=false:=by unfold hd;rw[hmk];rfl
       rw[hh];rfl
      | false=>
       rcases Nat.lt_trichotomy k i with hki | hki | hki
       ·rcases hpair' k i ok oi hki hin hok hoi' with hw | hap
        ·rw[hwait k hw];simp
        ·exact absurd ht ((Oper.apart_spec hap).1 t hdk)
       ·subst hki;rw[hmi]at hmk;cases hmk
       ·exact absurd ht ((Oper.apart_spec (hfree i k oi ok hki hkn hmi hmk hoi' hok)).2.2 t hdk)
     have hsp':=spZ_congr hagree (by rw[hsr,(ja9 _ _ _ _).1]) (by rw[hst,(ja9 _ _ _ _).2]) (spZ_1 hsp);unfold wpOp;rw[hoi];dsimp only;rw[if_pos (by simp[Region.wanted,hg])];refine .inl (spZ_sound hG hs (hd0 oi (List.mem_of_getElem? hoi')) hsp' fun av R' β' a' w' ⟨hT1,hT2⟩ hs2=> ?_);refine ih _ _ _ hcnt (inv.set hi hin) ⟨fun k=>if k=i then av else res k,β',R',_,_,fun k hk hmk=> ?_,hs2.congr (fun t=> ?_) ?_ ?_,⟨hT1,?_⟩,hT2,?_,?_,fun t=> ?_⟩
     ·show(if k=i then av else res k)=res0 k;rw[if_neg (fun e=>by subst e;rw[hmi]at hmk;cases hmk)];exact hr0 k hk hmk
     ·by_cases hdt:oi.dst=some t
      ·rw[hdt,jbn];have:=jcy (ops.take n) (fun k=>if k=i then av else res k) (fun k=>(listed.setIfInBounds i true).getD k false) ⟨st.fr,R',st.toks⟩ i oi (by rw[htake i hin];exact hoi') hdt hseti fun k ok hik hk hLk=>by
        rw[hset k (by omega)]at hLk;exact hlast t hdt k ok hik hk hLk
       rw[this,if_pos rfl]
      ·rw[jct hdt];have e1:(⟨(stUp res (fun k=>listed.getD k false) (ops.take n) ⟨st.fr,R,st.toks⟩).fr,R',(stUp res (fun k=>listed.getD k false) (ops.take n) ⟨st.fr,R,st.toks⟩).toks⟩:St).get t=(stUp res (fun k=>listed.getD k false) (ops.take n) ⟨st.fr,R,st.toks⟩).get t:=rfl;rw[e1];refine jdm _ _ _ _ _ _ _ rfl fun k ok hk hdk=> ?_;have hki:k≠i:=fun e=>by
        subst e;obtain⟨_,hok⟩:=hlt k ok hk;rw[hoi']at hok;cases hok;exact hdt hdk
       exact⟨(hset k hki).symm,fun _=>(if_neg hki).symm⟩
     ·rw[show ∀(x:St),(x.put oi.dst av).rows=x.rows from fun x=>by unfold St.put;split<;>rfl,(ja9 _ _ _ _).1]
     ·rw[show ∀(x:St),(x.put oi.dst av).toks=x.toks from fun x=>by unfold St.put;split<;>rfl];show(stUp _ _ _ _).toks=(stUp _ _ _ _).toks;rw[(ja9 _ _ _ _).2,(ja9 _ _ _ _).2]
     ·cases hio:isStZ oi with
      | false=>
       rw[if_neg (by decide)];exact hnl.imp (fun e=>e) fun hh j oj hj hmj hlj hoj=>hh j oj hj hmj (by
        by_cases e:j=i
        ·subst e;exact hunf
        ·rw[hset j e]at hlj;exact hlj) hoj
      | true=>
       refine .inr fun j oj hj hmj hlj hoj=> ?_;cases hld:jfe oj with
       | false=>rfl
       | true=>
        have hji:j≠i:=fun e=>by subst e;rw[hmi]at hmj;cases hmj
        have:=hwait j (hstZ i j oi oj hin hj hmi hmj hoi' hoj hio hld);rw[hset j hji,this]at hlj;cases hlj
     ·unfold St.put;split<;>rfl
     ·rw[show ∀(x:St),(x.put oi.dst av).toks=x.toks from fun x=>by unfold St.put;split<;>rfl];exact hst
     ·by_cases hdt:oi.dst=some t
      ·rw[hdt,jbn];have:=jcy (ops.take n) (fun k=>if k=i then av else res k) (fun k=>hd m k || (listed.setIfInBounds i true).getD k false) ⟨st.fr,R',st.toks⟩ i oi (by rw[htake i hin];exact hoi') hdt (by rw[hseti];simp) fun k ok hik hk hLk hdk=>by
        obtain⟨hkn,hok⟩:=hlt k ok hk;cases hmk:m.getD k false with
        | true=>
         have hh:hd m k=false:=by unfold hd;rw[hmk];rfl
         rw[hh,Bool.false_or,hset k (by omega)]at hLk;exact hlast t hdt k ok hik hk hLk hdk
        | false=>exact(Oper.apart_spec (hfree i k oi ok hik hkn hmi hmk hoi' hok)).2.1 t hdt hdk
       rw[this,if_pos rfl]
      ·rw[jct hdt];have e1:(⟨s.fr,R',s.toks⟩:St).get t=s.get t:=rfl;rw[e1,hsg];refine jdm _ _ _ _ _ _ _ rfl fun k ok hk hdk=> ?_;have hki:k≠i:=fun e=>by
        subst e;obtain⟨_,hok⟩:=hlt k ok hk;rw[hoi']at hok;cases hok;exact hdt hdk
       exact⟨by rw[hset k hki],fun _=>(if_neg hki).symm⟩
   have:c+1+(ops.toArray.size-n)=(c+(ops.toArray.size-n))+1:=by omega
   rw[this];exact hgoal
 refine wp_region_any hG.mixed ?_;have inv0:HeadInv .any ops.toArray n (Array.replicate ops.toArray.size false):=
  ⟨by simp,fun j oj _ hl=>(by rw[getD_replicate_false]at hl;cases hl),fun t _ ht=>getD_in (by simpa using ht) (getD_replicate_false _ _)⟩
 have hc0:∀k,cntB (Array.replicate ops.toArray.size false) k=k:=fun k=>by
  induction k with
  | zero=>rfl
  | succ k ihk=>simp only[cntB,ihk,getD_replicate_false];simp
 have hf:∀(l:List Oper) (res:Nat->AV) (L:Nat->Bool) (st:St),(∀i,L i=false)->stUp res L l st=st:=by
  intro l
  induction l with
  | nil=>intros;rfl
  | cons o l ih=>
   intro res L st hL;simp only[stUp,hL 0];exact ih _ _ _ fun i=>hL (i+1)
 have:=main n (Array.replicate ops.toArray.size false) a _ (hc0 n) inv0 ⟨res0,β,st.rows,Rs,⟨(stUp res0 (hd m) (ops.take n) ⟨st.fr,Rs,st.toks⟩).fr,st.rows,(stUp res0 (hd m) (ops.take n) ⟨st.fr,Rs,st.toks⟩).toks⟩,fun _ _ _=>rfl,h.drew.congr (fun t=>by
  rw[hf _ _ _ _ fun i=>getD_replicate_false _ _]) (ja9 _ _ _ _).1.symm (ja9 _ _ _ _).2.symm,⟨hRs,.inl rfl⟩,(by
   have e:(fun i=>m.getD i false&& !((Array.replicate ops.toArray.size false).getD i false))=fun i=>m.getD i false:=by
    funext i;rw[getD_replicate_false];simp
   rw[e];exact hfin),rfl,(ja9 _ _ _ _).2,fun t=>by
   show(stUp res0 (hd m) (ops.take n) ⟨st.fr,Rs,st.toks⟩).get t=_;exact jbs _ _ _ _ _ _ rfl fun k _ _ _=>by rw[getD_replicate_false];simp⟩
 rwa [show n+(ops.toArray.size-n)=ops.toArray.size by omega]at this
end
section
variable{G:Ctx}
def jbo(G:Ctx)(ops:List Oper)(K:St->Prop)(Rs:Rows)(sps l:List Oper)(st:St):Prop:=spLZ G (fun s=>alist G ops K l s) sps Rs st
def jcm(G:Ctx)(ops:List Oper)(K:St->Prop)(R0 Rs:Rows)(sps:List Oper)(m:List Bool)(l:List Oper)(st:St):Prop:=
 jdc G ops (fun s=>jbo G ops K Rs (sps.reverse++jdr m l) (l.drop m.length) ⟨s.fr,R0,s.toks⟩) m l st
theorem jh5{ops:List Oper}{Q:Exit->St->Prop}{st:St}(m:List Bool)(Rs:Rows)(h:drawZ ops.toArray m=true)(hz:stZ ops.toArray m=true)(hs:SubR Rs st.rows)
  (hA:jcm G ops (Q .normal) st.rows Rs [] m ops ⟨st.fr,Rs,st.toks⟩): @DrawP G ⟨ops⟩ ⟨Q⟩ st:=
 jlt fun N w0 M0 β a w id Q' hG hd hK hsim=>draw_soundZ hG id m Rs h hz hd hK hsim hs (by unfold jcm at hA;simpa [jbo]using hA)
theorem jbg{ops:List Oper}{Q:Exit->St->Prop}{st:St}(m:List Bool)(Rs:Rows)(h:(drawZ ops.toArray m&&stZ ops.toArray m)=true)(hs:SubR Rs st.rows)
  (hA:jcm G ops (Q .normal) st.rows Rs [] m ops ⟨st.fr,Rs,st.toks⟩): @DrawP G ⟨ops⟩ ⟨Q⟩ st:=by
 rw[Bool.and_eq_true]at h;exact jh5 m Rs h.1 h.2 hs hA
theorem jg4(ops:List Oper)(K:St->Prop)(R0 Rs:Rows)(sps:List Oper)(l:List Oper)(st:St):jcm G ops K R0 Rs sps [] l st=jbo G ops K Rs sps.reverse l ⟨st.fr,R0,st.toks⟩:=by
 unfold jcm jdc;simp[jdr]
variable(dst:Option Tmp)(ty:TypeId)(pos:String)(af:Array Edge)(gd:Option (Nat×Bool))(st:St)(ops:List Oper)(r:List Oper)
theorem aheadZN_nil1(K:St->Prop)(R0 Rs:Rows)(a:Oper)(l:List Oper):jcm G ops K R0 Rs [a] [] l st=jbo G ops K Rs [a] l ⟨st.fr,R0,st.toks⟩:=jg4 ops K R0 Rs [a] l st
theorem aheadZN_nil2(K:St->Prop)(R0 Rs:Rows)(a b:Oper)(l:List Oper):jcm G ops K R0 Rs [b,a] [] l st=jbo G ops K Rs [a,b] l ⟨st.fr,R0,st.toks⟩:=jg4 ops K R0 Rs [b,a] l st
theorem aheadZN_nil3(K:St->Prop)(R0 Rs:Rows)(a b c:Oper)(l:List Oper):jcm G ops K R0 Rs [c,b,a] [] l st=jbo G ops K Rs [a,b,c] l ⟨st.fr,R0,st.toks⟩:=jg4 ops K R0 Rs [c,b,a] l st
theorem aheadZN_true(K:St->Prop)(R0 Rs:Rows)(sps:List Oper)(m:List Bool)(o:Oper)(l:List Oper):
  jcm G ops K R0 Rs sps (true::m) (o::l) st=jcm G ops K R0 Rs (o::sps) m l st:=by
 simp only[jcm,List.reverse_cons,List.append_assoc,jdr,List.length_cons,List.drop_succ_cons,List.singleton_append]
 conv=>lhs;unfold jdc
theorem aheadZN_free(K:St->Prop)(R0 Rs:Rows)(sps:List Oper)(m:List Bool)(op:Op):
  jcm G ops K R0 Rs sps (false::m) (⟨dst,op,ty,pos,af,none⟩::r) st=aq G st ⟨dst,op,ty,pos,af,none⟩ (fun av=>jcm G ops K R0 Rs sps m r (st.put dst av)):=by
 simp only[jcm,jdr,List.length_cons,List.drop_succ_cons]
 conv=>lhs;unfold jdc
theorem aheadZN_guard(K:St->Prop)(R0 Rs:Rows)(sps:List Oper)(m:List Bool)(op:Op)(j:Nat)(want:Bool):
  jcm G ops K R0 Rs sps (false::m) (⟨dst,op,ty,pos,af,some (j,want)⟩::r) st=Opt (jcw st ops j) (K:=⟨fun y=>match y with
   | some b=>Two (b==want) (A:=⟨aq G st ⟨dst,op,ty,pos,af,some (j,want)⟩ (fun av=>jcm G ops K R0 Rs sps m r (st.put dst av))⟩) (B:=⟨jcm G ops K R0 Rs sps m r (st.put dst jc8)⟩)
   | none=>jcm G ops K R0 Rs sps m r (st.put dst jc8)⟩):=by
 simp only[jcm,jdr,List.length_cons,List.drop_succ_cons]
 conv=>lhs;unfold jdc
 simp only[Opt,jqf];split<;>rename_i h<;>rw[h]<;>rfl
theorem spListZN_nil(K:St->Prop)(Rs:Rows)(l:List Oper):jbo G ops K Rs [] l st=alist G ops K l st:=propext ⟨fun h=>h,fun h=>h⟩
theorem spListZN_call(K:St->Prop)(Rs:Rows)(l:List Oper)(f:Operand)(azz:Array Operand)(ts:Array TypeId):
  jbo G ops K Rs (⟨dst,.call ⟨.value f,azz,ts⟩,ty,pos,af,none⟩::r) l st=SpCall G (evO st f) (azz.toList.map (evO st)) st.rows (T:=⟨fun av R'=>SubR Rs R'/\jbo G ops K Rs r l ((⟨st.fr,R',st.toks⟩:St).put dst av)⟩):=
 propext ⟨fun h=>h.2,fun h=>⟨rfl,h⟩⟩
theorem spListZN_append(K:St->Prop)(Rs:Rows)(l:List Oper)(d:Tmp)(azz:Array Operand)(ts:Array TypeId):
  jbo G ops K Rs (⟨some d,.call ⟨.builtin .append,azz,ts⟩,ty,pos,af,none⟩::r) l st=match ts.toList,azz.toList with
   | [t,t'],[s,x]=>match(G.ti t).kind with
    | .sl e=>t=t'/\SpApp G d t e (evO st s) (jca (evO st x)) st.rows (T:=⟨fun av R'=>SubR Rs R'/\jbo G ops K Rs r l ((⟨st.fr,R',st.toks⟩:St).put (some d) av)⟩)
    | _=>False
   | _,_=>False:=by
 apply propext;constructor
 ·intro h;have h:=h.2;unfold spZ at h;dsimp only at h;rw[if_pos (by rfl)]at h;unfold sp at h;dsimp only at h;split at h
  ·rename_i h1 h2 h3;cases h1;rw[h2,h3];exact h
  ·exact h.elim
 ·intro h;refine⟨rfl,?_⟩;unfold spZ;dsimp only;rw[if_pos (by rfl)];unfold sp;dsimp only;split at h
  ·rename_i h2 h3;rw[h2,h3];exact h
  ·exact h.elim
theorem spListZN_load(K:St->Prop)(Rs:Rows)(l:List Oper)(t:TypeId)(p:Operand):
  jbo G ops K Rs (⟨dst,.load t p,ty,pos,af,none⟩::r) l st=aq G st ⟨dst,.load t p,ty,pos,af,none⟩ (fun av=>SubR Rs st.rows/\jbo G ops K Rs r l ((⟨st.fr,st.rows,st.toks⟩:St).put dst av)):=
 propext ⟨fun h=>h.2,fun h=>⟨rfl,h⟩⟩
theorem spListZN_fieldAddr(K:St->Prop)(Rs:Rows)(l:List Oper)(t:TypeId)(p:Operand)(k:Nat):
  jbo G ops K Rs (⟨dst,.fieldAddr t p k,ty,pos,af,none⟩::r) l st=aq G st ⟨dst,.fieldAddr t p k,ty,pos,af,none⟩ (fun av=>SubR Rs st.rows/\jbo G ops K Rs r l ((⟨st.fr,st.rows,st.toks⟩:St).put dst av)):=
 propext ⟨fun h=>h.2,fun h=>⟨rfl,h⟩⟩
theorem spListZN_nilCheck(K:St->Prop)(Rs:Rows)(l:List Oper)(p:Operand):
  jbo G ops K Rs (⟨dst,.nilCheck p,ty,pos,af,none⟩::r) l st=aq G st ⟨dst,.nilCheck p,ty,pos,af,none⟩ (fun av=>SubR Rs st.rows/\jbo G ops K Rs r l ((⟨st.fr,st.rows,st.toks⟩:St).put dst av)):=
 propext ⟨fun h=>h.2,fun h=>⟨rfl,h⟩⟩
theorem spListZN_build(K:St->Prop)(Rs:Rows)(l:List Oper)(t:TypeId)(fs:Array (Nat×Operand)):
  jbo G ops K Rs (⟨dst,.build t fs,ty,pos,af,none⟩::r) l st=aq G st ⟨dst,.build t fs,ty,pos,af,none⟩ (fun av=>SubR Rs st.rows/\jbo G ops K Rs r l ((⟨st.fr,st.rows,st.toks⟩:St).put dst av)):=
 propext ⟨fun h=>h.2,fun h=>⟨rfl,h⟩⟩
theorem spListZN_move(K:St->Prop)(Rs:Rows)(l:List Oper)(p:Operand):
  jbo G ops K Rs (⟨dst,.move p,ty,pos,af,none⟩::r) l st=aq G st ⟨dst,.move p,ty,pos,af,none⟩ (fun av=>SubR Rs st.rows/\jbo G ops K Rs r l ((⟨st.fr,st.rows,st.toks⟩:St).put dst av)):=
 propext ⟨fun h=>h.2,fun h=>⟨rfl,h⟩⟩
theorem aheadZN_nil4(K:St->Prop)(R0 Rs:Rows)(a b c d:Oper)(l:List Oper):jcm G ops K R0 Rs [d,c,b,a] [] l st=jbo G ops K Rs [a,b,c,d] l ⟨st.fr,R0,st.toks⟩:=jg4 ops K R0 Rs [d,c,b,a] l st
def jor(G:Ctx)(t:TypeId)(p x:AV)(R:Rows)[T:Hold (Rows->Prop)]:Prop:=jgc G t p x R fun _ R'=>T.val R'
theorem jis{t:TypeId}{p x:AV}{R:Rows}{T T':AV->Rows->Prop}(h:jgc G t p x R T)(hT:∀av R',T av R'->T' av R'):jgc G t p x R T':=by
 unfold jgc at h⊢;split at h
 ·split at h
  ·split at h
   ·obtain⟨h1,h2,h3,h4,h5,h6⟩:=h;exact⟨h1,h2,h3,h4,h5,hT _ _ h6⟩
   ·exact h.elim
  ·exact h.elim
 ·exact h.elim
theorem spListZN_store(K:St->Prop)(Rs:Rows)(l:List Oper)(t:TypeId)(p x:Operand):
  jbo G ops K Rs (⟨none,.store t p x,ty,pos,af,none⟩::r) l st=jor G t (evO st p) (evO st x) st.rows (T:=⟨fun R'=>jbo G ops K [] r l ⟨st.fr,R',st.toks⟩⟩):=
 by
 apply propext;constructor
 ·intro h;have h2:=h.2;unfold spZ at h2;dsimp only at h2;exact jis h2 fun _ _ h=>h.2
 ·intro h;refine⟨rfl,?_⟩;unfold spZ;dsimp only;exact jis h fun _ _ h=>⟨(fun k x hk=>by cases hk),h⟩
theorem SpStore_loc(t:TypeId)(d s i j:Nat)(y:IV)(R:Rows)(T:Rows->Prop): @jor G t (.loc d s i j) (.im y) R ⟨T⟩=Opt (look R d) (K:=⟨fun p=>Opt p.2[i]? (K:=⟨fun c=>p.1=s/\(G.ti t).size≠0/\(cellsOf y).length=(G.ti t).size/\(cellsOf y).all IV.one=true/\j+(G.ti t).size<=c.length/\
  T (setRow R d s (p.2.set i (jbi c j (cellsOf y))))⟩)⟩):=by
 unfold jor jgc Opt AV.dp;dsimp only;cases h:look R d with
 | none=>rfl
 | some p=>
  obtain⟨s',es⟩:=p;dsimp only;cases es[i]? <;>rfl
end
attribute [go_sem ↓] aheadZN_guard aheadZN_nil1 aheadZN_nil2 aheadZN_nil3 aheadZN_true aheadZN_free spListZN_nil spListZN_call spListZN_append spListZN_store SpStore_loc spListZN_load spListZN_fieldAddr spListZN_nilCheck spListZN_build spListZN_move aheadZN_nil4
end
end Go.Abs
namespace Go.LP
section
def cfU(ts:List (Nat×Rat)):Nat->Nat->Rat
 | 0,_=>0
 | i+1,k=>match ts[i]? with
  | some t=>if k=t.1 then t.2 else cfU ts i k
  | none=>cfU ts i k
def ngU(ts:List (Nat×Rat))(f:Nat->Rat):Nat->Nat->Rat
 | 0,k=>f k
 | i+1,k=>match ts[i]? with
  | some t=>if k=t.1 then-t.2 else ngU ts f i k
  | none=>ngU ts f i k
theorem cfU_succ{ts:List (Nat×Rat)}{i k:Nat}{t:Nat×Rat}(h:ts[i]? =some t):cfU ts (i+1) k=if k=t.1 then t.2 else cfU ts i k:=by rw[cfU,h]
theorem ngU_succ{ts:List (Nat×Rat)}{f:Nat->Rat}{i k:Nat}{t:Nat×Rat}(h:ts[i]? =some t):ngU ts f (i+1) k=if k=t.1 then-t.2 else ngU ts f i k:=by rw[ngU,h]
theorem cf_snoc{t:Nat×Rat}{k:Nat}:∀{ts:List (Nat×Rat)},(∀u∈ts,u.1≠t.1)->cf (ts++[t]) k=if k=t.1 then t.2 else cf ts k
 | [],_=>by simp only[List.nil_append,cf]
 | u::ts,h=>by
  rw[List.cons_append,cf,cf,cf_snoc fun v hv=>h v (List.mem_cons_of_mem _ hv)];have:=h u (List.mem_cons_self ..);by_cases e:k=u.1
  ·subst e;rw[if_pos rfl,if_neg this,if_pos rfl]
  ·rw[if_neg e,if_neg e]
theorem RT.fresh:∀{ts:List (Nat×Rat)} {lo N i:Nat} {t:Nat×Rat},RT ts lo N->ts[i]? =some t->∀u∈ts.take i,u.1≠t.1
 | [],_,_,_,_,_,h,_,_=>by simp at h
 | v::ts,lo,N,0,t,h,ht,u,hu=>by rw[List.take_zero]at hu;cases hu
 | v::ts,lo,N,i+1,t,h,ht,u,hu=>by
  rw[List.getElem?_cons_succ]at ht;rw[List.take_succ_cons]at hu;rcases List.mem_cons.1 hu with rfl | hu
  ·have:=RT.mem h.2.2.2 t (List.mem_of_getElem? ht);omega
  ·exact RT.fresh h.2.2.2 ht u hu
theorem jq7{ts:List (Nat×Rat)}{lo N k:Nat}(h:RT ts lo N):∀i,i<=ts.length->cfU ts i k=cf (ts.take i) k
 | 0,_=>by rw[List.take_zero];rfl
 | i+1,hi=>by
  have hg:ts[i]? =some ts[i]:=List.getElem?_eq_getElem (by omega);rw[cfU_succ hg,List.take_add_one,hg,show(some ts[i]).toList=[ts[i]]from rfl,cf_snoc (h.fresh hg),jq7 h i (by omega)]
theorem cfU_all{ts:List (Nat×Rat)}{lo N k:Nat}(h:RT ts lo N):cfU ts ts.length k=cf ts k:=by rw[jq7 h _ (Nat.le_refl _),List.take_length]
theorem cf_get:∀{ts:List (Nat×Rat)} {lo N i:Nat} {t:Nat×Rat},RT ts lo N->ts[i]? =some t->cf ts t.1=t.2
 | [],_,_,_,_,_,h=>by simp at h
 | v::ts,lo,N,0,t,h,ht=>by
  rw[List.getElem?_cons_zero]at ht;cases ht;rw[cf,if_pos rfl]
 | v::ts,lo,N,i+1,t,h,ht=>by
  rw[List.getElem?_cons_succ]at ht;have:=RT.mem h.2.2.2 t (List.mem_of_getElem? ht);rw[cf,if_neg (by omega)];exact cf_get h.2.2.2 ht
theorem ngU_eq{ts:List (Nat×Rat)}{lo N k:Nat}(h:RT ts lo N){f:Nat->Rat}(hf:∀(i:Nat) (t:Nat×Rat),ts[i]? =some t->f t.1=t.2):∀i,i<=ts.length->ngU ts f i k=f k-2*cfU ts i k
 | 0,_=>by simp only[ngU,cfU];grind
 | i+1,hi=>by
  have hg:ts[i]? =some ts[i]:=List.getElem?_eq_getElem (by omega);rw[ngU_succ hg,cfU_succ hg,ngU_eq h hf i (by omega)];by_cases e:k=ts[i].1
  ·rw[if_pos e,if_pos e,e,hf i _ hg];grind
  ·rw[if_neg e,if_neg e]
theorem ngU_all{ts:List (Nat×Rat)}{lo N k:Nat}(h:RT ts lo N):ngU ts (fun k=>cfU ts ts.length k) ts.length k= -cf ts k:=by
 rw[ngU_eq h (fun i t ht=>by rw[cfU_all h];exact cf_get h ht) _ (Nat.le_refl _),cfU_all h];grind
theorem ngU_zero{ts:List (Nat×Rat)}{lo N k:Nat}(h:RT ts lo N):∀i,i<=ts.length->ngU ts (fun _=>0) i k= -cfU ts i k
 | 0,_=>by simp only[ngU,cfU];grind
 | i+1,hi=>by
  have hg:ts[i]? =some ts[i]:=List.getElem?_eq_getElem (by omega);rw[ngU_succ hg,cfU_succ hg,ngU_zero h i (by omega)];by_cases e:k=ts[i].1
  ·rw[if_pos e,if_pos e]
  ·rw[if_neg e,if_neg e]
end
end Go.LP
namespace Go.Proofs.YtfahloobpegieaaGreat
section
open Go.Abs
open Go.LP (Dic Rw RT cf cfU ngU jea)
attribute [local go_sem] ints ic big frac fc rwC tmC lineC
structure OAp(nm:DN)(m:Nat):Prop where
 dr:nm.d≠nm.r
 d_o:nm.d≠nm.o
 ds:nm.d≠nm.s
 rg:nm.r≠nm.g
 ro:nm.r≠nm.o
 rs:nm.r≠nm.s
 go:nm.g≠nm.o
 gs:nm.g≠nm.s
 os:nm.o≠nm.s
 da:∀i,i<m->nm.d≠nm.a i
 ra:∀i,i<m->nm.r≠nm.a i
 ga:∀i,i<m->nm.g≠nm.a i
 oa:∀i,i<m->nm.o≠nm.a i
 sa:∀i,i<m->nm.s≠nm.a i
 aa:∀i j,i<m->j<m->nm.a i=nm.a j->i=j
structure HasO(L:Abs.Rows)(nm:DN)(D:Dic)(src:Nat->Int×Bool):Prop where
 blk:blks L
 dg:nm.d≠nm.g
 ap:D.m≠0->OAp nm D.m
 hd:Abs.look L (hp nm.d)=some (6,[[.int D.n,sl0 nm.r 235 5 D.m,.ref nm.g 42 4 D.n,sl0 nm.o 3 1 D.m,.emp,sl0 nm.s 264 2 D.m]])
 hg:Abs.look L (hp nm.g)=some (4,tab D.n fun j=>qc (D.g j))
 hr:D.m≠0->Abs.look L (hp nm.r)=some (5,tab D.m fun i=>lineC (D.v i) (nm.a i) D.n)
 ho:D.m≠0->Abs.look L (hp nm.o)=some (1,tab D.m fun i=>oc (D.own i))
 hs:D.m≠0->Abs.look L (hp nm.s)=some (2,tab D.m fun i=>srcC (src i))
 ha:∀i,i<D.m->Abs.look L (hp (nm.a i))=some (4,tab D.n fun j=>qc (D.a i j))
theorem HasO.sub{L L':Abs.Rows}{nm:DN}{D:Dic}{src:Nat->Int×Bool}(h:HasO L nm D src)(hb:blks L')(hs:SubR L L'):HasO L' nm D src:=
 ⟨hb,h.dg,h.ap,hs _ _ h.hd,hs _ _ h.hg,fun hm=>hs _ _ (h.hr hm),fun hm=>hs _ _ (h.ho hm),fun hm=>hs _ _ (h.hs hm),fun i hi=>hs _ _ (h.ha i hi)⟩
structure Kept(L L':Abs.Rows)(nm:DN)(m X1 X2 X3 A:Nat):Prop where
 keep:∀k x,Abs.look L (hp k)=some x->k≠nm.d->(m≠0->k≠nm.o/\k≠nm.r/\k≠nm.s)->Abs.look L' (hp k)=some x/\k≠X1/\k≠X2/\k≠X3/\k≠A
theorem HasO.step{L L':Abs.Rows}{nm:DN}{D:Dic}{src:Nat->Int×Bool}(h:HasO L nm D src){w:Rw}{row:Nat}{turned:Bool}{X1 X2 X3 A:Nat}{f:Nat->Rat}{v:Rat}(bL:blks L')
  (h1:Abs.look L' (hp nm.d)=some (6,[[.int D.n,.ref X2 235 5 (D.m+1),.ref nm.g 42 4 D.n,.ref X1 3 1 (D.m+1),.emp,.ref X3 264 2 (D.m+1)]]))
  (h2:Abs.look L' (hp X1)=some (1,(tab D.m fun i=>oc (D.own i))++[oc (D.n+D.m)]))
  (h3:Abs.look L' (hp X2)=some (5,(tab D.m fun i=>lineC (D.v i) (nm.a i) D.n)++[lineC v A D.n]))
  (h4:Abs.look L' (hp X3)=some (2,(tab D.m fun i=>srcC (src i))++[srcC (row,turned)]))
  (h5:Abs.look L' (hp A)=some (4,tab D.n fun j=>qc (f j))) (hk:Kept L L' nm D.m X1 X2 X3 A)
  (d1:nm.d≠X1) (d2:nm.d≠X2) (d3:nm.d≠X3) (d4:nm.d≠A) (x12:X1≠X2) (x13:X1≠X3) (x14:X1≠A) (x23:X2≠X3) (x24:X2≠A) (x34:X3≠A)
  (hv:v=if turned=true then-w.val else w.val) (hf:∀k,f k=if turned=true then-cf w.ts k else cf w.ts k):
  ∃nm':DN,nm'.d=nm.d/\HasO L' nm' (D.put w turned) (jea D src row turned):=by
 have kg:=hk.keep nm.g _ h.hg (Ne.symm h.dg) fun hm=>⟨(h.ap hm).go,Ne.symm (h.ap hm).rg,(h.ap hm).gs⟩;have ka:=fun i (hi:i<D.m)=>hk.keep (nm.a i) _ (h.ha i hi) (Ne.symm ((h.ap (by omega)).da i hi)) fun hm=>⟨Ne.symm ((h.ap hm).oa i hi),Ne.symm ((h.ap hm).ra i hi),Ne.symm ((h.ap hm).sa i hi)⟩;have hm1:(D.put w turned).m≠0:=Nat.succ_ne_zero _;have ai:∀i,i<D.m+1->i≠D.m->i<D.m:=fun i h1 h2=>by omega
 refine⟨⟨nm.d,X2,nm.g,X1,nm.f,X3,fun i=>if i=D.m then A else nm.a i⟩,rfl,bL,h.dg,fun _=> ?_,?_,?_,fun _=> ?_,fun _=> ?_,fun _=> ?_,fun i hi=> ?_⟩
 ·refine⟨d2,d1,d3,Ne.symm kg.2.2.1,Ne.symm x12,x23,kg.2.1,kg.2.2.2.1,x13,?_,?_,?_,?_,?_,?_⟩
  ·intro i hi;dsimp only;split
   ·exact d4
   ·rename_i e;exact(h.ap (by have:=ai i hi e;omega)).da i (ai i hi e)
  ·intro i hi;dsimp only;split
   ·exact x24
   ·rename_i e;exact Ne.symm (ka i (ai i hi e)).2.2.1
  ·intro i hi;dsimp only;split
   ·exact kg.2.2.2.2
   ·rename_i e;exact(h.ap (by have:=ai i hi e;omega)).ga i (ai i hi e)
  ·intro i hi;dsimp only;split
   ·exact x14
   ·rename_i e;exact Ne.symm (ka i (ai i hi e)).2.1
  ·intro i hi;dsimp only;split
   ·exact x34
   ·rename_i e;exact Ne.symm (ka i (ai i hi e)).2.2.2.1
  ·intro i j hi hj e;dsimp only at e;by_cases e1:i=D.m
   ·rw[if_pos e1]at e;by_cases e2:j=D.m
    ·omega
    ·rw[if_neg e2]at e;exact absurd e.symm (ka j (ai j hj e2)).2.2.2.2
   ·rw[if_neg e1]at e;by_cases e2:j=D.m
    ·rw[if_pos e2]at e;exact absurd e (ka i (ai i hi e1)).2.2.2.2
    ·rw[if_neg e2]at e;exact(h.ap (by have:=ai i hi e1;omega)).aa i j (ai i hi e1) (ai j hj e2) e
 ·rw[h1,jan hm1,jan hm1,jan hm1];rfl
 ·exact kg.1
 ·rw[h3];show some (5,_)=some (5,tab (D.m+1) _);rw[jhm];congr 3
  ·refine jas fun i hi=> ?_;rw[show(D.put w turned).v i=D.v i from if_neg (by omega)];show _=lineC (D.v i) (if i=D.m then A else nm.a i) D.n;rw[if_neg (by omega)]
  ·rw[show(D.put w turned).v D.m=_ from if_pos rfl,hv];show _=[lineC _ (if D.m=D.m then A else nm.a D.m) D.n];rw[if_pos rfl]
 ·rw[h2];show some (1,_)=some (1,tab (D.m+1) _);rw[jhm];congr 3
  ·refine jas fun i hi=> ?_;rw[show(D.put w turned).own i=D.own i from if_neg (by omega)]
  ·rw[show(D.put w turned).own D.m=_ from if_pos rfl]
 ·rw[h4];show some (2,_)=some (2,tab (D.m+1) _);rw[jhm];congr 3
  ·refine jas fun i hi=> ?_;rw[show jea D src row turned i=src i from if_neg (by omega)]
  ·rw[show jea D src row turned D.m=_ from if_pos rfl]
 ·dsimp only;by_cases e:i=D.m
  ·rw[if_pos e,h5,show(D.put w turned).a i=_ from if_pos e];show some (4,tab D.n _)=some (4,tab D.n _);congr 2;refine jas fun j _=>congrArg qc ?_;rw[hf]
  ·rw[if_neg e,(ka i (ai i hi e)).1,show(D.put w turned).a i=D.a i from if_neg e];rfl
theorem jam{L:Abs.Rows}{k:Nat}{v:Nat×List (List IV)}(h:Abs.look L k=some v):SubR [(k,v)] L:=fun j x hj=>by
 by_cases e:j=k
 ·subst e;rw[ja2]at hj;cases hj;exact h
 ·rw[ja0 _ _ e]at hj;cases hj
theorem jb1{L R:Abs.Rows}{d:Nat}{v:Nat×List (List IV)}(h:Abs.look R d=some v)(hs:SubR L R):SubR ((d,v)::L) R:=fun k x hk=>by
 by_cases e:k=d
 ·subst e;rw[ja2]at hk;cases hk;exact h
 ·rw[ja0 _ _ e]at hk;exact hs k x hk
theorem jh4{L:Abs.Rows}{k d:Nat}{v v':Nat×List (List IV)}(hd:d<100000)(hs:SubR [(hp k,v)] L):SubR [(hp k,v)] ((d,v')::L):=
 ja3 (by dsimp only;rw[ja0 _ _ (hp_ne hd)];rfl) hs
theorem jaf{L:Abs.Rows}{k d:Nat}{v:Nat×List (List IV)}(h:d≠k):Abs.del ((d,v)::L) k=(d,v)::Abs.del L k:=by
 unfold Abs.del;rw[List.filter_cons,if_pos (by simpa using h)]
theorem jif{α:Type}{p:Prop}(x:α)(h:∀y,x=y->p):p:=h x rfl
end
section
open Go.Abs
open Go.LP (Rw RT tsum)
attribute [local go_sem] ints ic big frac fc rwC tmC Evid.c Place.c Move.c Cert.c Recall.c Purity.c
section
variable{L:Abs.Rows}{nm:MN}{e:Evid}{ws:List Rw}{os:List (List IV)}
theorem HasM.grow{L':Abs.Rows}(h:HasM L nm e ws os){w:Rw}{og:List IV}{X1 X2:Nat}(ho:og.length=4)(b:blks L')(d1:nm.d≠X1)(d2:nm.d≠X2)(x12:X1≠X2)
  (hd:Abs.look L' (hp nm.d)=some (10,[e.c++[.ref X1 227 6 (ws.length+1),.ref X2 222 4 (ws.length+1)]]))
  (h1:Abs.look L' (hp X1)=some (6,ws.map rwC++[rwC w])) (h2:Abs.look L' (hp X2)=some (4,os++[og])):∃nm':MN,nm'.d=nm.d/\HasM L' nm' e (ws++[w]) (os++[og]):=by
 have hl:(ws++[w]).length=ws.length+1:=by rw[List.length_append];rfl
 refine⟨⟨nm.d,X1,X2⟩,rfl,b,fun _=>d1,fun _=>d2,fun _=>x12,?_,?_,?_,fun _=> ?_,fun _=>h2⟩
 ·rw[List.length_append,List.length_append,h.len];rfl
 ·intro c hc;rcases List.mem_append.1 hc with hc | hc
  ·exact h.o4 c hc
  ·rw[List.mem_singleton.1 hc];exact ho
 ·rw[hl,jan (Nat.succ_ne_zero _),jan (Nat.succ_ne_zero _)];exact hd
 ·rw[h1,List.map_append];rfl
set_option maxHeartbeats 4000000 in
theorem e_add(h:HasM L nm e ws os)(w:Rw)(a b c d:Int)(hl:ws.length<=10000):
  CtrH G.P 188 [.loc (hp nm.d) 10 0 0,.im (.sl (w.ts.map tmC)),.im (.int w.kind),.im (frac w.val),.im (.agg [.int a,.int b,.int c,.int d])] L
   (fun x L'=>x= .im (.tup [])/\∃nm':MN,nm'.d=nm.d/\HasM L' nm' e (ws++[w]) (os++[[.int a,.int b,.int c,.int d]])):=by
 have hb:=h.blk;have F1:=bF hb;have K1:=bK hb;have G1:=bN hb;have c0:=h.hd;have b8:∀k,(8 !=hp k)=true:=fun k=>by simp only[bne_iff_ne,ne_eq];exact hp_ne (by decide)
 have b9:∀k,(9 !=hp k)=true:=fun k=>by simp only[bne_iff_ne,ne_eq];exact hp_ne (by decide)
 by_cases hn:ws.length=0
 ·have hos:os=[]:=List.eq_nil_of_length_eq_zero (by rw[h.len];exact hn);have hws:ws=[]:=List.eq_nil_of_length_eq_zero hn;subst hos hws;have hz:([]:List Rw).length=0:=rfl;rw[hz,jb9,jb9]at c0;refine jb8 (goodH [20,30] []) _ _ [] Tryz.func188 rfl rfl (by decide+kernel) rfl ?_;simp only[F1,K1,G1,go_sem];refine jbg [false,false,false,false,false,false,false,false,false,false,true,false,false] [(9,4,[[.int a,.int b,.int c,.int d]]),(8,4,[fc w.val]),(hp nm.d,10,[e.c++[.emp,.emp]])] (by decide+kernel) (ja6 _ (ja6 _ (jam c0))) ?_;simp only[c0,F1,K1,G1,go_sem];refine And.intro (fun c hc=>by rw[List.mem_singleton.1 hc];rfl) ?_;refine jdj (fun X1 hX1=> ?_);have lX1:Abs.look L (hp X1)=none:=by
   rw[ja0 _ _ (hp_ne (by decide)).symm,ja0 _ _ (hp_ne (by decide)).symm]at hX1;exact hX1
  clear hX1;have xd:¬X1=nm.d:=fun e=>by rw[e,c0]at lX1;cases lX1
  refine And.intro ?_ ?_
  ·refine ja3 ?_ (ja6 _ (ja6 _ (jam c0)));dsimp only;rw[ja0 _ _ (hp_ne (by decide)).symm,ja0 _ _ (hp_ne (by decide)).symm,ja0 _ _ (hpne xd)];rfl
  simp only[c0,xd,Ne.symm xd,F1,K1,G1,go_sem];refine jif (List.map (fun p=>if p.1=hp nm.d then(p.1,10,[e.c++[.ref X1 227 6 1,.emp]])else p) L) (fun Q2 hQ2e=> ?_);have e1:=hQ2e;simp only[Evid.c,List.cons_append,List.nil_append]at e1;simp only[e1,go_sem];have lQ2:∀k,k≠hp nm.d->Abs.look Q2 k=Abs.look L k:=fun k hk=>by rw[<-hQ2e];exact jag hk
  have dQ2:Abs.look Q2 (hp nm.d)=some (10,[e.c++[.ref X1 227 6 1,.emp]]):=by rw[<-hQ2e];exact jab c0
  have bQ2:blks Q2:=hQ2e▸jb5 hb;have F3:=bF bQ2;have K3:=bK bQ2;have G3:=bN bQ2;refine jbg [false,false,false,false,false,false,false,true,false,false] [(9,4,[[.int a,.int b,.int c,.int d]]),(hp nm.d,10,[e.c++[.ref X1 227 6 1,.emp]])] (by decide+kernel) ?_ ?_
  ·refine jb1 ?_ (jam ?_)
   ·dsimp only;rw[ja0 _ _ (hp_ne (by decide)),ja2]
   ·dsimp only;rw[ja0 _ _ (hpne (Ne.symm xd)),ja0 _ _ (hp_ne (by decide)).symm,ja0 _ _ (hp_ne (by decide)).symm];exact dQ2
  simp only[dQ2,xd,Ne.symm xd,F3,K3,G3,go_sem];refine And.intro (fun c hc=>by rw[List.mem_singleton.1 hc];rfl) ?_;refine jdj (fun X2 hX2=> ?_);have lX2:¬X2=X1/\Abs.look Q2 (hp X2)=none:=by
   have e1:¬X2=X1:=fun e=>by rw[e,ja2]at hX2;cases hX2
   rw[ja0 _ _ (hpne e1),ja0 _ _ (hp_ne (by decide)).symm,ja0 _ _ (hp_ne (by decide)).symm]at hX2;exact⟨e1,hX2⟩
  clear hX2;obtain⟨x21,lX2⟩:=lX2;have yd:¬X2=nm.d:=fun e=>by rw[e,dQ2]at lX2;cases lX2
  refine And.intro ?_ ?_
  ·refine jb1 ?_ (jam ?_)
   ·rw[ja0 _ _ (hp_ne (by decide)),ja0 _ _ (hp_ne (by decide)),ja2]
   ·rw[ja0 _ _ (hpne (Ne.symm yd)),ja0 _ _ (hpne (Ne.symm xd)),ja0 _ _ (hp_ne (by decide)).symm,ja0 _ _ (hp_ne (by decide)).symm];exact dQ2
  simp only[dQ2,x21,Ne.symm x21,xd,Ne.symm xd,yd,Ne.symm yd,F3,K3,G3,go_sem];refine jba ?_;simp only[go_sem];refine h.grow (X1:=X1) (X2:=X2) rfl jdd (Ne.symm xd) (Ne.symm yd) (Ne.symm x21) ?_ ?_ ?_
  ·rw[jah,ja0 _ _ (hpne (Ne.symm yd)),ja0 _ _ (hpne (Ne.symm xd)),ja0 _ _ (hp_ne (by decide)).symm,ja0 _ _ (hp_ne (by decide)).symm];exact jab dQ2
  ·rw[jah,ja0 _ _ (hpne (Ne.symm x21)),ja2];rfl
  ·rw[jah,ja2];rfl
 ·rw[jan hn,jan hn]at c0;have dr:=h.dr hn;have d_o:=h.d_o hn;have ro:=h.ro hn;have cr:=h.hr hn;have co:=h.ho hn;have hol:os.length=ws.length:=h.len;have htk:List.take ws.length (ws.map rwC)=ws.map rwC:=List.take_of_length_le (by rw[List.length_map];exact Nat.le_refl _);have hto:List.take ws.length os=os:=List.take_of_length_le (by omega);obtain⟨Q,hQe⟩:∃Q,Abs.del L (hp nm.r)=Q:=⟨_,rfl⟩;have lQ:∀k,k≠hp nm.r->Abs.look Q k=Abs.look L k:=fun k hk=>by rw[<-hQe];exact ja5 _ hk
  have bQ:blks Q:=hQe▸jbf hb;have hQf:List.filter (fun p=>p.1 !=hp nm.r) L=Q:=hQe;have cdQ:=(lQ _ (hpne dr)).trans c0;have coQ:=(lQ _ (hpne (Ne.symm ro))).trans co;have F2:=bF bQ;have K2:=bK bQ;have G2:=bN bQ;refine jb8 (goodH [20,30] []) _ _ [] Tryz.func188 rfl rfl (by decide+kernel) rfl ?_;simp only[F1,K1,G1,go_sem];refine jbg [false,false,false,false,false,false,false,false,false,false,true,false,false] [(9,4,[[.int a,.int b,.int c,.int d]]),(8,4,[fc w.val]),(hp nm.d,10,[e.c++[.ref nm.r 227 6 ws.length,.ref nm.o 222 4 ws.length]])] (by decide+kernel) (ja6 _ (ja6 _ (jam c0))) ?_;simp only[c0,cr,htk,List.length_map,F1,K1,G1,go_sem];refine And.intro (fun c hc=>by rw[List.mem_singleton.1 hc];rfl) (And.intro (Nat.le_refl _) (And.intro (by omega) ?_));refine jde (fun X1 hX1=> ?_);have lX1:Abs.look Q (hp X1)=none:=by
   rw[jaf (hp_ne (by decide)),jaf (hp_ne (by decide)),ja0 _ _ (hp_ne (by decide)).symm,ja0 _ _ (hp_ne (by decide)).symm,hQe]at hX1;exact hX1
  clear hX1;have xd:¬X1=nm.d:=fun e=>by rw[e,cdQ]at lX1;cases lX1
  have xo:¬X1=nm.o:=fun e=>by rw[e,coQ]at lX1;cases lX1
  refine And.intro ?_ ?_
  ·rw[jaf (hp_ne (by decide)),jaf (hp_ne (by decide)),hQe];refine ja3 ?_ (ja6 _ (ja6 _ (jam cdQ)));dsimp only;rw[ja0 _ _ (hp_ne (by decide)).symm,ja0 _ _ (hp_ne (by decide)).symm,ja0 _ _ (hpne xd)];rfl
  simp only[cdQ,b8,b9,hQf,xd,Ne.symm xd,dr,Ne.symm dr,F2,K2,G2,go_sem];refine jif (List.map (fun p=>if p.1=hp nm.d then(p.1,10,[e.c++[.ref X1 227 6 (ws.length+1),.ref nm.o 222 4 ws.length]])else p) Q) (fun Q2 hQ2e=> ?_);have e1:=hQ2e;simp only[Evid.c,List.cons_append,List.nil_append]at e1;simp only[e1,go_sem];have lQ2:∀k,k≠hp nm.d->Abs.look Q2 k=Abs.look Q k:=fun k hk=>by rw[<-hQ2e];exact jag hk
  have dQ2:Abs.look Q2 (hp nm.d)=some (10,[e.c++[.ref X1 227 6 (ws.length+1),.ref nm.o 222 4 ws.length]]):=by rw[<-hQ2e];exact jab cdQ
  have bQ2:blks Q2:=hQ2e▸jb5 bQ;have oQ2:=(lQ2 _ (hpne (Ne.symm d_o))).trans coQ;have xQ2:Abs.look Q2 (hp X1)=none:=by rw[lQ2 _ (hpne xd)];exact lX1
  have F3:=bF bQ2;have K3:=bK bQ2;have G3:=bN bQ2;obtain⟨Q3,hQ3e⟩:∃Q3,Abs.del Q2 (hp nm.o)=Q3:=⟨_,rfl⟩;have lQ3:∀k,k≠hp nm.o->Abs.look Q3 k=Abs.look Q2 k:=fun k hk=>by rw[<-hQ3e];exact ja5 _ hk
  have bQ3:blks Q3:=hQ3e▸jbf bQ2;have hQ3f:List.filter (fun p=>p.1 !=hp nm.o) Q2=Q3:=hQ3e;have d3:=(lQ3 _ (hpne d_o)).trans dQ2;have F4:=bF bQ3;have K4:=bK bQ3;have G4:=bN bQ3;refine jbg [false,false,false,false,false,false,false,true,false,false] [(9,4,[[.int a,.int b,.int c,.int d]]),(hp nm.d,10,[e.c++[.ref X1 227 6 (ws.length+1),.ref nm.o 222 4 ws.length]])] (by decide+kernel) ?_ ?_
  ·refine jb1 ?_ (jam ?_)
   ·dsimp only;rw[ja0 _ _ (hp_ne (by decide)),ja2]
   ·dsimp only;rw[ja0 _ _ (hpne (Ne.symm xd)),ja0 _ _ (hp_ne (by decide)).symm,ja0 _ _ (hp_ne (by decide)).symm];exact dQ2
  simp only[dQ2,oQ2,hol,hto,xd,Ne.symm xd,xo,Ne.symm xo,F3,K3,G3,go_sem];refine And.intro (fun c hc=>by rw[List.mem_singleton.1 hc];rfl) (And.intro (by omega) (And.intro (by omega) ?_));refine jde (fun X2 hX2=> ?_);have lX2:¬X2=X1/\Abs.look Q3 (hp X2)=none:=by
   rw[jaf (hpne xo),jaf (hp_ne (by decide)),jaf (hp_ne (by decide)),hQ3e]at hX2;have e1:¬X2=X1:=fun e=>by rw[e,ja2]at hX2;cases hX2
   rw[ja0 _ _ (hpne e1),ja0 _ _ (hp_ne (by decide)).symm,ja0 _ _ (hp_ne (by decide)).symm]at hX2;exact⟨e1,hX2⟩
  clear hX2;obtain⟨x21,lX2⟩:=lX2;have yd:¬X2=nm.d:=fun e=>by rw[e,d3]at lX2;cases lX2
  refine And.intro ?_ ?_
  ·rw[jaf (hpne xo),jaf (hp_ne (by decide)),jaf (hp_ne (by decide)),hQ3e];refine jb1 ?_ (jam ?_)
   ·rw[ja0 _ _ (hp_ne (by decide)),ja0 _ _ (hp_ne (by decide)),ja2]
   ·rw[ja0 _ _ (hpne (Ne.symm yd)),ja0 _ _ (hpne (Ne.symm xd)),ja0 _ _ (hp_ne (by decide)).symm,ja0 _ _ (hp_ne (by decide)).symm];exact d3
  have bn1:(hp X1 !=hp nm.o)=true:=by simp only[bne_iff_ne,ne_eq];exact hpne xo
  simp only[d3,x21,Ne.symm x21,xd,Ne.symm xd,yd,Ne.symm yd,xo,bn1,b8,b9,hQ3f,F4,K4,G4,go_sem];refine jba ?_;simp only[go_sem];refine h.grow (X1:=X1) (X2:=X2) rfl jdd (Ne.symm xd) (Ne.symm yd) (Ne.symm x21) ?_ ?_ ?_
  ·rw[jah,ja0 _ _ (hpne (Ne.symm yd)),ja0 _ _ (hpne (Ne.symm xd)),ja0 _ _ (hp_ne (by decide)).symm,ja0 _ _ (hp_ne (by decide)).symm];exact jab d3
  ·rw[jah,ja0 _ _ (hpne (Ne.symm x21)),ja2];rfl
  ·rw[jah,ja2]
end
end
end Go.Proofs.YtfahloobpegieaaGreat
