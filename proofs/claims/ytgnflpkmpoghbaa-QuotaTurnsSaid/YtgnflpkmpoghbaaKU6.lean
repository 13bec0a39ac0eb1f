/- A part of the proof. No further condition. -/
import Derived.Test.YtgnflpkmpoghbaaKU5
import Derived.StillTail
import Derived.Deep.LoopGhost
set_option linter.all false
set_option maxRecDepth 10000000
set_option maxHeartbeats 16000000
namespace Go.Abs
section
open Go.RowKit (Below)
def jbj(st:St)(ops:List Oper)(j:Nat):Option (Option Bool):=
 match ops[j]? with
 | some o=>match o.dst with
  | some t=>match st.get t with
   | .im (.sc (.bool b))=>some (some b)
   | .im (.sc _)=>some none
   | _=>none
  | none=>none
 | none=>none
def alist(G:Ctx)(ops:List Oper)(K:St->Prop):List Oper->St->Prop
 | [],st=>K st
 | o::r,st=>match o.guard with
  | none=>aop G o (alist G ops K r) st
  | some (j,want)=>match jbj st ops j with
   | some (some b)=>(b=want->aop G o (alist G ops K r) st)/\(b≠want->alist G ops K r (st.put o.dst jb6))
   | some none=>alist G ops K r (st.put o.dst jb6)
   | none=>False
def nilC(x:Operand):Bool:=
 match x with
 | .const (.slice none 0 0)=>true
 | _=>false
def appP(G:Ctx)(st:St)(ts:List TypeId)(xs:List Operand)(K:AV->Prop):Prop:=
 match ts,xs with
 | [t,t'],[s,x]=>match(G.ti t).kind,nilC s,evO st x with
  | .sl e,true,.im (.sl xs)=>t=t'/\(G.ti t).size≠0/\(G.ti e).size≠0/\(G.ti e).bytes≠0/\(∀c∈xs,c.length=(G.ti e).size)/\xs.length*(G.ti e).bytes<=140737488355328/\K (.im (.sl xs))
  | _,_,_=>False
 | _,_=>False
def aq(G:Ctx)(st:St)(o:Oper)(K:AV->Prop):Prop:=
 match o.op with
 | .call c=>match c.callee with
  | .value f=>match evO st f,ivsOf (c.args.toList.map (evO st))with
   | .im (.clo g caps),some xs=>(3<=g/\g<G.fns)/\∃r,Ctr G.P g (xs++caps) (· =r)/\K (.im r)
   | _,_=>False
  | .builtin .append=>appP G st c.argTypes.toList c.args.toList K
  | _=>match yv G st o with
   | some av=>K av
   | none=>False
 | _=>match yv G st o with
  | some av=>K av
  | none=>False
def ahead(G:Ctx)(ops:List Oper)(K:St->Prop):List Oper->St->Prop
 | [],st=>K st
 | o::r,st=>match o.guard with
  | none=>aq G st o fun av=>ahead G ops K r (st.put o.dst av)
  | some (j,want)=>match jbj st ops j with
   | some (some b)=>(b=want->aq G st o fun av=>ahead G ops K r (st.put o.dst av))/\(b≠want->ahead G ops K r (st.put o.dst jb6))
   | some none=>ahead G ops K r (st.put o.dst jb6)
   | none=>False
section
variable{G:Ctx}{N:Nat}{w0:Base}{w w':World}{M0:Nat->Nat->Prop}{β:Nat->Option Nat}{st st':St}{a:Act}{ops:List Oper}
theorem jc6(h:Sim N w0 M0 β st a w){j:Nat}{b:Bool}(hy:jbj st ops j=some (some b)):yielded ops.toArray a.tmps j=some b:=by
 unfold jbj at hy;split at hy
 ·rename_i o ho;split at hy
  ·rename_i t ht;split at hy
   ·rename_i b' hb;cases hy;have hr:=h.fr t;rw[hb]at hr;have hv:=Rep.sc_inv hr;have hlt:t<a.tmps.size:=by
     rcases Nat.lt_or_ge t a.tmps.size with h' | h'
     ·exact h'
     ·simp[Array.getElem?_eq_none h',undef]at hv
    have:a.tmps[t]? =some (.bool b):=by
     rw[Array.getElem?_eq_getElem hlt];simp[hlt]at hv;rw[hv]
    have ho':ops.toArray[j]? =some o:=by simpa using ho
    simp[yielded,ho',ht,this]
   ·cases hy
   ·cases hy
  ·cases hy
 ·cases hy
theorem jcr(h:Sim N w0 M0 β st a w){j:Nat}(hy:jbj st ops j=some none):∀b,yielded ops.toArray a.tmps j≠some b:=by
 unfold jbj at hy;split at hy
 ·rename_i o ho;split at hy
  ·rename_i t ht;split at hy
   ·cases hy
   ·rename_i v hb hv;have hr:=h.fr t;rw[hv]at hr;have hv':=Rep.sc_inv hr;intro b hyb;have ho':ops.toArray[j]? =some o:=by simpa using ho
    unfold yielded at hyb;simp only[ho',Option.bind_some,ht]at hyb;split at hyb
    ·rename_i b' hb';have:a.tmps.getD t undef= .bool b':=by simp[hb']
     rw[this]at hv';exact hb b' (by rw[<-hv'])
    ·cases hyb
   ·cases hy
  ·cases hy
 ·cases hy
theorem jd1(hG:G.Good){K:St->Prop}{Q':Exit->Act->World->Prop}(hK:∀st' β' a' w',K st'->Sim N w0 M0 β' st' a' w'->Q' .normal a' w'):
  ∀(l:List Oper) (st:St) (β:Nat->Option Nat) (a:Act) (w:World),(∀o∈l,∀d,o.dst=some d->d<N)->alist G ops K l st->Sim N w0 M0 β st a w->wpList G.P ops.toArray Q' l a w
 | [],st,β,a,w,_,hA,h=>hK st β a w hA h
 | o::l,st,β,a,w,hd,hA,h=>by
  have ih:=jd1 hG hK l;have hd0:=hd o (by simp);have hd':∀o∈l,∀d,o.dst=some d->d<N:=fun o ho=>hd o (by simp[ho]);unfold alist at hA;unfold wpList;split at hA
  ·rename_i hg;have hw:Region.wanted o (yielded ops.toArray a.tmps)=true:=by simp[Region.wanted,hg]
   rw[if_pos hw];exact .inl (jdg hG h hd0 hA fun st' β' a' w' hk hs=>ih st' β' a' w' hd' hk hs)
  ·rename_i j want hg;have skip:Region.wanted o (yielded ops.toArray a.tmps)=false->alist G ops K l (st.put o.dst jb6)->
     (if Region.wanted o (yielded ops.toArray a.tmps)=true then o.wp G.P a w (wpList G.P ops.toArray Q' l) Q'\/(o.asks G.P a w/\LetsOut Q')else wpList G.P ops.toArray Q' l (a.put o.dst undef) w):=fun hw hA'=>by
    rw[if_neg (by simp[hw])];exact ih _ β _ _ hd' hA' (h.put hd0 (Rep.sc _ rfl))
   split at hA
   ·rename_i b hy;have hyc:=jc6 h hy;by_cases hb:b=want
    ·have hw:Region.wanted o (yielded ops.toArray a.tmps)=true:=by simp[Region.wanted,hg,hyc,hb]
     rw[if_pos hw];exact .inl (jdg hG h hd0 (hA.1 hb) fun st' β' a' w' hk hs=>ih st' β' a' w' hd' hk hs)
    ·exact skip (by simp[Region.wanted,hg,hyc,hb]) (hA.2 hb)
   ·rename_i hy;have hyc:=jcr h hy;exact skip (by simp[Region.wanted,hg,hyc]) hA
   ·exact hA.elim
def qVal(G:Ctx)(st:St)(o:Oper)(av:AV):Prop:=
 yv G st o=some av\/(∃c f g caps xs r,o.op= .call c/\c.callee= .value f/\evO st f= .im (.clo g caps)/\ivsOf (c.args.toList.map (evO st))=some xs/\(3<=g/\g<G.fns)/\Ctr G.P g (xs++caps) (· =r)/\av= .im r)\/
  ∃c,o.op= .call c/\c.callee= .builtin .append/\appP G st c.argTypes.toList c.args.toList (av= ·)
def qStep(G:Ctx)(ops:List Oper)(st:St)(o:Oper)(av:AV):Prop:=
 match o.guard with
 | none=>qVal G st o av
 | some (j,want)=>match jbj st ops j with
  | some (some b)=>if b=want then qVal G st o av else av=jb6
  | some none=>av=jb6
  | none=>False
theorem appP_val{ts:List TypeId}{xs:List Operand}{K:AV->Prop}(h:appP G st ts xs K):∃av,appP G st ts xs (av= ·)/\K av:=by
 unfold appP at h⊢;split at h
 ·split at h
  ·rename_i e xs h1 h2 h3;obtain⟨a1,a2,a3,a4,a5,a6,hk⟩:=h;refine⟨.im (.sl xs),?_,hk⟩;exact⟨a1,a2,a3,a4,a5,a6,rfl⟩
  ·exact h.elim
 ·exact h.elim
theorem jda{o:Oper}{K:AV->Prop}(h:aq G st o K):∃av,qVal G st o av/\K av:=by
 unfold aq at h;have plain:(match yv G st o with | some av=>K av | none=>False)->∃av,qVal G st o av/\K av:=fun h=>by
  split at h
  ·rename_i av hy;exact⟨av,.inl hy,h⟩
  ·exact h.elim
 split at h
 ·rename_i c ho;split at h
  ·rename_i f hf;split at h
   ·rename_i g caps xs h1 h2;obtain⟨hg,r,hr,hk⟩:=h;exact⟨_,.inr (.inl ⟨c,f,g,caps,xs,r,ho,hf,h1,h2,hg,hr,rfl⟩),hk⟩
   ·exact h.elim
  ·rename_i hb;obtain⟨av,h1,h2⟩:=appP_val h;exact⟨av,.inr (.inr ⟨c,ho,hb,h1⟩),h2⟩
  ·exact plain h
 ·exact plain h
def stUp(res:Nat->AV)(L:Nat->Bool):List Oper->St->St
 | [],st=>st
 | o::r,st=>stUp (fun i=>res (i+1)) (fun i=>L (i+1)) r (if L 0=true then st.put o.dst (res 0)else st)
theorem jh7{K:St->Prop}:∀(l:List Oper) (st:St),ahead G ops K l st->
  ∃res:Nat->AV,(∀i o,l[i]? =some o->qStep G ops (stUp res (fun _=>true) (l.take i) st) o (res i))/\K (stUp res (fun _=>true) l st)
 | [],st,h=>⟨fun _=> .und,fun i o hi=>by simp at hi,h⟩
 | o::l,st,h=>by
  have key:∃av,qStep G ops st o av/\ahead G ops K l (st.put o.dst av):=by
   unfold ahead at h;unfold qStep;split at h
   ·obtain⟨av,h1,h2⟩:=jda h;exact⟨av,h1,h2⟩
   ·rename_i j want hg;split at h
    ·rename_i b hy;by_cases hb:b=want
     ·obtain⟨av,h1,h2⟩:=jda (h.1 hb);exact⟨av,by rw[if_pos hb];exact h1,h2⟩
     ·exact⟨jb6,by rw[if_neg hb],h.2 hb⟩
    ·exact⟨jb6,rfl,h⟩
    ·exact h.elim
  obtain⟨av,h1,h2⟩:=key;obtain⟨res,h3,h4⟩:=jh7 l _ h2;refine⟨fun i=>match i with | 0=>av | i+1=>res i,fun i o' hi=> ?_,?_⟩
  ·cases i with
   | zero=>simp at hi;subst hi;exact h1
   | succ i=>
    have:=h3 i o' (by simpa using hi)
    simpa [stUp]using this
  ·simpa [stUp]using h4
theorem ja4(res:Nat->AV)(L:Nat->Bool)(l:List Oper)(st:St):(stUp res L l st).rows=st.rows/\(stUp res L l st).toks=st.toks:=by
 induction l generalizing res L st with
 | nil=>exact⟨rfl,rfl⟩
 | cons o l ih=>
  simp only[stUp];have:=ih (fun i=>res (i+1)) (fun i=>L (i+1)) (if L 0=true then st.put o.dst (res 0)else st);have e:(if L 0=true then st.put o.dst (res 0)else st).rows=st.rows/\(if L 0=true then st.put o.dst (res 0)else st).toks=st.toks:=by
   split
   ·unfold St.put;split<;>exact⟨rfl,rfl⟩
   ·exact⟨rfl,rfl⟩
  exact⟨this.1.trans e.1,this.2.trans e.2⟩
theorem jbm{dst:Option Nat}{av:AV}{t:Nat}(h:dst≠some t):(st.put dst av).get t=st.get t:=by
 cases dst with
 | none=>rfl
 | some d=>
  have:t≠d:=fun e=>h (by rw[e]);simp[St.put,St.get,look,this]
theorem jan{av:AV}{t:Nat}:(st.put (some t) av).get t=av:=by simp[St.put,St.get,look]
theorem jap{t:Nat}:∀(l:List Oper) (res:Nat->AV) (L L':Nat->Bool) (st st':St),st.get t=st'.get t->(∀i o,l[i]? =some o->o.dst=some t->L i=L' i)->
  (stUp res L l st).get t=(stUp res L' l st').get t
 | [],_,_,_,_,_,h,_=>h
 | o::l,res,L,L',st,st',h,hL=>by
  simp only[stUp];refine jap l _ _ _ _ _ ?_ (fun i o' hi ho=>hL (i+1) o' (by simpa using hi) ho);by_cases hd:o.dst=some t
  ·have:=hL 0 o rfl hd;rw[<-this];split
   ·rw[hd,jan,jan]
   ·exact h
  ·have:∀(s:St) (b:Bool),(if b=true then s.put o.dst (res 0)else s).get t=s.get t:=fun s b=>by
    split
    ·exact jbm hd
    ·rfl
   rw[this,this];exact h
theorem jev:∀(l:List Oper) (res:Nat->AV) (j:Nat) (st:St),stUp res (fun _=>true) (l.take j) st=stUp res (fun i=>decide (i<j)) l st
 | [],_,j,st=>by simp[stUp]
 | o::l,res,0,st=>by
  have:∀(l:List Oper) (res:Nat->AV) (st:St),stUp res (fun i=>decide (i<0)) l st=st:=by
   intro l
   induction l with
   | nil=>intros;rfl
   | cons o l ih=>intro res st;simp only[stUp];exact ih _ _
  rw[this];rfl
 | o::l,res,j+1,st=>by
  simp only[List.take_succ_cons,stUp];rw[jev l];simp
theorem jcf{t:Nat}:∀(l:List Oper) (res:Nat->AV) (L:Nat->Bool) (st:St) (i:Nat) (o:Oper),l[i]? =some o->o.dst=some t->L i=true->
  (∀k o',i<k->l[k]? =some o'->L k=true->o'.dst≠some t)->(stUp res L l st).get t=res i
 | [],_,_,_,i,o,hi,_,_,_=>by simp at hi
 | o'::l,res,L,st,0,o,hi,hd,hL,hk=>by
  simp at hi;subst hi;simp only[stUp,hL,if_true];have:(stUp (fun i=>res (i+1)) (fun i=>L (i+1)) l (st.put o'.dst (res 0))).get t=(stUp (fun i=>res (i+1)) (fun _=>false) l (st.put o'.dst (res 0))).get t:=
   jap l _ _ _ _ _ rfl fun i o2 hi ho=>by
    cases hc:L (i+1)with
    | false=>rfl
    | true=>exact absurd ho (hk (i+1) o2 (by omega) (by simpa using hi) hc)
  rw[this];have hf:∀(l:List Oper) (res:Nat->AV) (st:St),stUp res (fun _=>false) l st=st:=by
   intro l
   induction l with
   | nil=>intros;rfl
   | cons o l ih=>intro res st;simp only[stUp];exact ih _ _
  rw[hf,hd,jan]
 | o'::l,res,L,st,i+1,o,hi,hd,hL,hk=>by
  simp only[stUp];exact jcf l (fun i=>res (i+1)) (fun i=>L (i+1)) _ i o (by simpa using hi) hd hL (fun k o2 hlt hk' hLk=>hk (k+1) o2 (by omega) (by simpa using hk') hLk)
theorem jbr{x:Operand}(h:∀t,x= .tmp t->st.get t=st'.get t):evO st x=evO st' x:=by
 cases x<;>simp only[evO];exact h _ rfl
theorem jdl:∀{ps:List (Nat×Operand)},(∀p∈ps,evO st p.2=evO st' p.2)->jcj st ps=jcj st' ps
 | [],_=>rfl
 | (i,x)::r,h=>by
  unfold jcj;rw[h (i,x) (by simp),jdl (fun p hp=>h p (by simp[hp]))]
theorem yLoad_congr{t:TypeId}{p:AV}(hr:st.rows=st'.rows):yLoad G st t p=yLoad G st' t p:=by
 unfold yLoad;rw[hr]
theorem jgr{m:AV}(ht:st.toks=st'.toks):mapOf st m=mapOf st' m:=by
 cases m<;>simp only[mapOf,ht]
theorem yv_congr{o:Oper}(h:∀x∈o.op.operands,evO st x=evO st' x)(hr:st.rows=st'.rows)(ht:st.toks=st'.toks):yv G st o=yv G st' o:=by
 unfold yv;generalize o.op=op at h;cases op<;>simp only[Op.operands]at h<;>(try rfl)<;>dsimp only
 case move x=>rw[h x (by simp)]
 case assign x=>rw[h x (by simp)]
 case pick c x y=>rw[h c (by simp),h x (by simp),h y (by simp)]
 case build t ps=>rw[jdl (st:=st) (st':=st') fun p hp=>h p.2 (by simp;exact⟨p.1,by simpa using hp⟩)]
 case buildSlice t n ps=>rw[jdl (st:=st) (st':=st') fun p hp=>h p.2 (by simp;exact⟨p.1,by simpa using hp⟩)]
 case load t p=>rw[h p (by simp)];exact yLoad_congr hr
 case nilCheck x=>rw[h x (by simp)]
 case binOp op t x y u=>rw[h x (by simp),h y (by simp)]
 case unOp op t x=>rw[h x (by simp)]
 case convert s d x=>rw[h x (by simp)]
 case lookup t m k ok=>rw[h m (by simp),h k (by simp),jgr ht]
 case makeFunc fn first caps=>
  have:caps.toList.map (evO st)=caps.toList.map (evO st'):=List.map_congr_left fun x hx=>h x (by simp[Array.mem_toList_iff.1 hx]);simp only[this]
 case slice t x lo hi mx=>
  have e1:lo.map (evO st)=lo.map (evO st'):=by cases lo with | none=>rfl | some y=>simp[h y (by simp)]
  have e2:hi.map (evO st)=hi.map (evO st'):=by cases hi with | none=>rfl | some y=>simp[h y (by simp)]
  rw[h x (by simp),e1,e2]
 case fieldAddr t x f=>simp only[h x (by simp)]
 case field t x f=>simp only[h x (by simp)]
 case indexAddr t x i=>rw[h x (by simp),h i (by simp)]
 case index t x i=>rw[h x (by simp),h i (by simp)]
 case extract x k=>rw[h x (by simp)]
 case call c=>
  have e1:c.args.toList.map (evO st)=c.args.toList.map (evO st'):=List.map_congr_left fun x hx=>h x (by simp[Call.operands,Array.mem_toList_iff.1 hx]);have e2:∀x,c.args.toList=[x]->evO st x=evO st' x:=fun x hx=>h x (by
   have:x∈c.args:=Array.mem_toList_iff.1 (by rw[hx];simp);simp[Call.operands,this])
  simp only[e1];cases hc:c.callee<;>dsimp only;rename_i b;cases b<;>dsimp only;split
  ·rename_i t x _ hx;rw[e2 x hx,jgr ht]
  ·rfl
end
end
section
open Go.RowKit (Below)
def jch(n size:Nat):Array Bool:=((List.range size).map fun i=>decide (i<n)).toArray
def drawB(ops:Array Oper)(n:Nat):Bool:=
 decide (n<=ops.size)&&
 (List.range ops.size).all (fun j=>match ops[j]? with
  | some o=>o.after.all fun e=> !Region.binds .any e || decide (e.on<j)
  | none=>true)&&
 (List.range n).all (fun j=>(List.range j).all fun i=>Region.waitsFor .any ops j i || (match ops[i]?,ops[j]? with
  | some oi,some oj=>oi.apart ops oj
  | _,_=>false))&&
 (n==ops.size || (Region.sinkB .any ops n&&Region.chainB .any ops n))&&
 Region.seqB .any ops (ops.size-n) n (jch n ops.size)
section
variable{G:Ctx}{N:Nat}{w0:Base}{w w':World}{M0:Nat->Nat->Prop}{β:Nat->Option Nat}{st st':St}{a:Act}{ops:List Oper}
theorem Sim.congr(h:Sim N w0 M0 β st a w)(hg:∀t,st.get t=st'.get t)(hr:st.rows=st'.rows)(ht:st.toks=st'.toks):Sim N w0 M0 β st' a w:=by
 have hM:Mo M0 β st'=Mo M0 β st:=by unfold Mo;rw[hr,ht]
 refine⟨h.size,h.defers,h.below,h.m0,fun t=> ?_,?_,?_,?_,?_,by rw[<-hr];exact h.nam,h.np,h.perm⟩
 ·rw[hM,<-hg,<-ht];exact h.fr t
 ·rw[hM,<-hr];exact h.rows
 ·rw[<-ht];exact h.toks
 ·rw[<-hr,<-ht];exact h.inj
 ·rw[<-hr,<-ht];exact h.excl
theorem app_rep(hG:G.Ok)(h:Sim N w0 M0 β st a w){t e ty:TypeId}{xv:Value}{xs:List (List IV)}
  (h0:(G.ti t).size≠0) (hk:(G.ti t).kind= .sl e) (h1:(G.ti e).size≠0) (hby:(G.ti e).bytes≠0) (hlx:∀c∈xs,c.length=(G.ti e).size) (hbound:xs.length*(G.ti e).bytes<=140737488355328)
  (hx:Rep w (Mo M0 β st) (.sl xs) xv):
  ∃v' w',(Builtin.append_ #[t,t] ty #[.slice none 0 0,xv]).run G.P w= .ok v' w'/\Below w.heap.size w w'/\Rep w' (Mo M0 β st) (.sl xs) v':=by
 have hu:=hG.sl h0 hk;obtain⟨i,z,hi,hsz,hbt,hz,_,hzs⟩:=hG.info h1;by_cases hne:xs=[]
 ·subst hne;have hxv:∃xad xc,xv= .slice xad 0 xc:=by
   cases hx with
   | nil a c=>exact⟨a,c,rfl⟩
   | sl es s b o c u h=>exact absurd rfl h
  obtain⟨xad,xc,rfl⟩:=hxv;have hrun:(Builtin.append_ #[t,t] ty #[.slice none 0 0,.slice xad 0 xc]).run G.P w= .ok (.slice none 0 0) w:=by
   cases xad<;>simp[Builtin.append_,run_underlying hu,sizeOf,typeInfo,hi,Builtin.lenOf,Builtin.firstCells,loadCells,loadCellsFrom,storeCells]
  exact⟨_,_,hrun,Below.refl _ _,Rep.nil _ _⟩
 obtain⟨xad,xc,gx,rfl,_,hxc⟩:=jex h1 hx hlx;obtain⟨xb,xo,rfl,hxcells⟩:=hxc hne;generalize hS:(G.ti e).size=S at*;have hfx:xs.flatten.length=xs.length*S:=jbe hlx;have hxpos:0<xs.length:=List.length_pos_iff.2 hne;have hmax:xs.length<=140737488355328:=Nat.le_trans (Nat.le_mul_of_pos_right _ (Nat.pos_of_ne_zero hby)) hbound;have hnews:∀j u,((List.range xs.flatten.length).map gx)[j]? =some u->w.cell? ((⟨xb,xo,none⟩:Addr).add j)=some u:=jcq hxcells;have hnl:((List.range xs.flatten.length).map gx).length=xs.length*i.size:=by simp[hfx,hsz]
 have hm63:xs.length<=maxLen:=by unfold maxLen;omega
 have hrun:∃cells:Array Value,∃cap,(Builtin.append_ #[t,t] ty #[.slice none 0 0,.slice (some ⟨xb,xo,none⟩) xs.length xc]).run G.P w= .ok (.slice (some ⟨w.heap.size,0,none⟩) xs.length cap) (w.drew.alloc (.cells cells e))/\
   xs.length<=cap/\cap<=maxLen/\cells.size=cap*S/\∀k,k<xs.length*S->cells[k]? =some (gx k):=by
  have hcap':=grownCap_ge w xs.length 0 e;have hcm':=grownCap_le_maxLen w xs.length 0 e hm63;have hsize:∀c:Array Value,c=((List.range xs.flatten.length).map gx).toArray++Builtin.zeroCells z.cells (grownCap w xs.length 0 e-xs.length)->c.size=grownCap w xs.length 0 e*S/\∀k,k<xs.length*S->c[k]? =some (gx k):=by
   rintro c rfl;refine⟨?_,fun k hk'=> ?_⟩
   ·simp only[Array.size_append,List.size_toArray,List.length_map,List.length_range,hfx,size_zeroCells,hzs];rw[<-Nat.add_mul];congr 1;omega
   ·rw[Array.getElem?_append_left (by simp[hfx];omega)];simp[hfx,hk']
  have hr:=run_append_nil (P:=G.P) w t ty e i z hu hi hz ⟨xb,xo,none⟩ xs.length xc _ hnl hnews hxpos (by omega) (by rw[hbt];omega);exact⟨_,_,hr,hcap',hcm',(hsize _ rfl).1,(hsize _ rfl).2⟩
 obtain⟨cells,cap,hrun,hc1,hc2,hc3,hc4⟩:=hrun;refine⟨_,_,hrun,(Below.refl _ _).drew.alloc (Nat.le_refl _) _,?_⟩;have hat:∀(i':Nat) e' (j:Nat) x,xs[i']? =some e'->e'[j]? =some x->x.one=true/\i'*S+j<xs.length*S/\cells[i'*S+j]? =some (gx (i'*S+j))/\Rep w (Mo M0 β st) x (gx (i'*S+j)):=fun i' e' j x hi' hj=>by
  have hfl:=jbn hlx hi' hj;obtain⟨g1,_,g2⟩:=hxcells _ x hfl;have hkl:=(List.getElem?_eq_some_iff.1 hfl).1;exact⟨g1,by omega,hc4 _ (by omega),g2⟩
 have hbel:Below w.heap.size w (w.drew.alloc (.cells cells e)):=(Below.refl _ _).drew.alloc (Nat.le_refl _) _;refine Rep.sl xs S w.heap.size 0 cap (fun i j=>gx (i*S+j)) hne hlx hc1 (fun i' e' j x hi' hj=> ?_) (fun i' e' j x hi' hj=> ?_)
 ·obtain⟨g1,g2,g3,_⟩:=hat i' e' j x hi' hj;refine⟨g1,?_,fun hm=>absurd (h.mlt hm) (Nat.lt_irrefl _)⟩;have hsz':w.drew.heap.size=w.heap.size:=rfl;rw[<-hsz',World.cell?_alloc_new,Nat.zero_add]
  first
   | exact g3
   | simpa using g3
 ·obtain⟨_,_,_,g4⟩:=hat i' e' j x hi' hj;exact g4.kept (Below.kept (M:=Mo M0 β st) hbel)
theorem nilC_eq{x:Operand}(h:nilC x=true):x= .const (.slice none 0 0):=by
 unfold nilC at h;split at h
 ·rfl
 ·cases h
theorem jb8(hG:G.Good)(h:Sim N w0 M0 β st a w){o:Oper}{av:AV}(hq:qVal G st o av){K':Act->World->Prop}{Q':Exit->Act->World->Prop}
  (hK:∀v w',Below w.heap.size w w'->RepA w' (Mo M0 β st) β st.toks av v->K' (a.put o.dst v) w'):o.wp G.P a w K' Q':=by
 rcases hq with hy | ⟨c,f,g,caps,xs,r,ho,hc,hf,hxs,hg,hctr,rfl⟩ | ⟨c,ho,hc,hq⟩
 ·obtain⟨v,w',hr,hb,hv⟩:=yv_run hG.ok h hy;unfold Oper.wp;rw[hr];exact hK v w' hb hv
 ·have hargs:=jdr h hxs;have hfv:=jab h f;rw[hf]at hfv;obtain⟨vs,hfe,hcaps⟩:=Rep.clo_inv hfv;have hall:RepL w (Mo M0 β st) (xs++caps) ((c.args.map a.eval)++vs).toList:=by
   refine⟨?_,fun k x v hx hv=> ?_⟩
   ·have h1:=hargs.1;have h2:=hcaps.1;simp at h1 h2;simp[h1,h2]
   ·rw[Array.toList_append,Array.toList_map]at hv;have h1:=hargs.1;by_cases hk:k<xs.length
    ·rw[List.getElem?_append_left hk]at hx;rw[List.getElem?_append_left (by omega)]at hv;exact hargs.2 k x v hx hv
    ·rw[List.getElem?_append_right (by omega)]at hx;rw[List.getElem?_append_right (by omega),<-h1]at hv;exact hcaps.2 _ x v hx hv
  have hcalls:=hctr w (Mo M0 β st) _ (fun b o hm=>h.mlt hm) hall;have hrun:(execOp a.eval o).run G.P w= .ok (.enter g (c.args.map a.eval++vs)) w:=by
   unfold execOp;rw[ho];simp only[resolve,hc,hfe,Deferred.ofValue,Sem.run_bind,Sem.run_pure,Result.andThen_ok,Array.empty_append,invoke,jd6 (hG.fn g hg)]
  unfold Oper.wp;rw[hrun,Oper.upon_enter];rw[Array.toArray_toList]at hcalls;refine hcalls.mono fun e w' ⟨r',v,hr,he,hv,hb⟩=> ?_;subst he;subst hr;exact hK v w' hb hv
 ·unfold appP at hq;split at hq
  ·rename_i t t' s x hts has;split at hq
   ·rename_i e xs h1 h2 h3;obtain⟨rfl,a2,a3,a4,a5,a6,rfl⟩:=hq;have hs:=nilC_eq h2;subst hs;have hxv:=jab h x;rw[h3]at hxv;obtain⟨v',w',hrun,hbel,hrep⟩:=app_rep (ty:=o.type) hG.ok h a2 h1 a3 a4 a5 a6 hxv;have hat:c.argTypes= #[t,t]:=by apply Array.ext';simpa using hts
    have haa:c.args= #[.const (.slice none 0 0),x]:=by apply Array.ext';simpa using has
    unfold Oper.wp execOp;rw[ho];have hev:a.eval (.const (.slice none 0 0))= .slice none 0 0:=rfl;simp only[resolve,hc,hat,haa,invoke,builtin,Sem.run_bind,Sem.run_pure,Result.andThen_ok,List.map_toArray,List.map_cons,List.map_nil,hev,hrun,Oper.upon_value];exact hK v' w' hbel hrep
   ·exact hq.elim
  ·exact hq.elim
theorem jaj{o:Oper}{x:Operand}{t:Nat}(hx:x∈o.op.operands)(ht:x= .tmp t):t∈o.looksAt ops.toArray:=by
 subst ht;exact List.mem_append_left _ (List.mem_filterMap.2 ⟨.tmp t,by simpa using hx,rfl⟩)
theorem je6{o:Oper}{av:AV}(h:∀t∈o.looksAt ops.toArray,st.get t=st'.get t)(hr:st.rows=st'.rows)(ht:st.toks=st'.toks)(hq:qVal G st o av):qVal G st' o av:=by
 have hx:∀x∈o.op.operands,evO st x=evO st' x:=fun x hx=>jbr fun t ht=>h t (jaj hx ht);rcases hq with hy | ⟨c,f,g,caps,xs,r,ho,hc,hf,hxs,rest⟩ | ⟨c,ho,hc,hq⟩
 ·exact .inl (by rw[<-yv_congr hx hr ht];exact hy)
 rotate_left
 ·refine .inr (.inr ⟨c,ho,hc,?_⟩);have hx':∀x∈c.args.toList,evO st x=evO st' x:=fun x hm=>hx x (by rw[ho];simp[Op.operands,Call.operands,Array.mem_toList_iff.1 hm]);unfold appP at hq⊢;split at hq
  ·rename_i t t' s x h1 h2;rw[<-hx' x (by rw[h2];simp)];exact hq
  ·exact hq.elim
 ·refine .inr (.inl ⟨c,f,g,caps,xs,r,ho,hc,?_,?_,rest⟩)
  ·rw[<-hx f (by rw[ho];simp[Op.operands,Call.operands,hc])];exact hf
  ·rw[<-hxs];congr 1;exact(List.map_congr_left fun x hx'=>(hx x (by rw[ho];simp[Op.operands,Call.operands,Array.mem_toList_iff.1 hx'])).symm)
theorem jcw{o:Oper}{av:AV}(h:∀t∈o.looksAt ops.toArray,st.get t=st'.get t)(hr:st.rows=st'.rows)(ht:st.toks=st'.toks)(hq:qStep G ops st o av):qStep G ops st' o av:=by
 unfold qStep at hq⊢;cases hg:o.guard with
 | none=>rw[hg]at hq;exact je6 h hr ht hq
 | some p=>
  obtain⟨j,want⟩:=p;rw[hg]at hq;have hy:jbj st ops j=jbj st' ops j:=by
   unfold jbj;cases ho:ops[j]? with
   | none=>rfl
   | some oj=>
    cases hd:oj.dst with
    | none=>simp only[hd]
    | some t=>
     have:t∈o.looksAt ops.toArray:=by
      have ho':ops.toArray[j]? =some oj:=by simpa using ho
      simp[Oper.looksAt,hg,ho',ho,hd]
     simp only[hd,h t this]
  simp only[<-hy];dsimp only at hq;cases hyy:jbj st ops j with
  | none=>rw[hyy]at hq;exact hq
  | some x=>
   cases x with
   | none=>rw[hyy]at hq;exact hq
   | some b=>
    rw[hyy]at hq;dsimp only at hq⊢;by_cases hb:b=want
    ·rw[if_pos hb]at hq⊢;exact je6 h hr ht hq
    ·rw[if_neg hb]at hq⊢;exact hq
def cntB(listed:Array Bool):Nat->Nat
 | 0=>0
 | n+1=>cntB listed n+(if listed.getD n false=true then 0 else 1)
theorem jeb{listed:Array Bool}{i:Nat}(hi:i<listed.size)(h0:listed.getD i false=false):∀n,cntB (listed.setIfInBounds i true) n+(if i<n then 1 else 0)=cntB listed n
 | 0=>by simp[cntB]
 | n+1=>by
  have ih:=jeb hi h0 n;simp only[cntB];by_cases hin:i=n
  ·subst hin;have:(listed.setIfInBounds i true).getD i false=true:=by simp[hi]
   rw[if_pos this,h0];simp only[Nat.lt_irrefl,if_false,Nat.add_zero]at ih;simp[ih]
  ·have:(listed.setIfInBounds i true).getD n false=listed.getD n false:=getD_set_ne false hin;rw[this];generalize (if listed.getD n false=true then 0 else 1)=x;by_cases h:i<n
   ·rw[if_pos h]at ih;rw[if_pos (by omega:i<n+1)];omega
   ·rw[if_neg h]at ih;rw[if_neg (by omega:¬i<n+1)];omega
theorem jd0{listed:Array Bool}:∀{n},cntB listed n=0->∀i,i<n->listed.getD i false=true
 | 0,_,i,hi=>by omega
 | n+1,h,i,hi=>by
  simp only[cntB]at h;by_cases hin:i=n
  ·subst hin;by_cases hl:listed.getD i false=true
   ·exact hl
   ·rw[if_neg hl]at h;omega
  ·exact jd0 (n:=n) (by omega) i (by omega)
theorem jec{listed:Array Bool}:∀{n},cntB listed n≠0->∃i,i<n/\listed.getD i false=false/\∀j,j<i->listed.getD j false=true
 | 0,h=>absurd rfl h
 | n+1,h=>by
  by_cases h0:cntB listed n=0
  ·refine⟨n,by omega,?_,fun j hj=>jd0 h0 j hj⟩;simp only[cntB,h0]at h;cases hl:listed.getD n false with
   | false=>rfl
   | true=>rw[hl]at h;simp at h
  ·obtain⟨i,h1,h2⟩:=jec h0;exact⟨i,by omega,h2⟩
theorem draw_sound(hG:G.Good)(id n:Nat)(hB:drawB ops.toArray n=true)(hd:∀o∈ops,∀d,o.dst=some d->d<N){K:St->Prop}{Q':Exit->Act->World->Prop}
  (hK:∀st' β' a' w',K st'->Sim N w0 M0 β' st' a' w'->Q' .normal a' w') (h:Sim N w0 M0 β st a w)
  (hA:ahead G ops (fun s=>alist G ops K (ops.drop n) s) (ops.take n) st):(Code.region id ops.toArray true).wp G.P Q' a w:=by
 simp only[drawB,Bool.and_eq_true,decide_eq_true_eq,Bool.or_eq_true,beq_iff_eq]at hB;obtain⟨⟨⟨⟨hn,hafter⟩,hpair⟩,htail⟩,hseq⟩:=hB;obtain⟨res,hres,hfin⟩:=jh7 _ _ hA;have hsz:ops.toArray.size=ops.length:=by simp
 have htake:∀i,i<n->(ops.take n)[i]? =ops[i]? :=fun i hi=>by rw[List.getElem?_take,if_pos hi]
 have hlt:∀i o,(ops.take n)[i]? =some o->i<n/\ops[i]? =some o:=fun i o hi=>by
  rw[List.getElem?_take]at hi;split at hi
  ·exact⟨‹_›,hi⟩
  ·cases hi
 have arr:∀(i:Nat) (o:Oper),ops[i]? =some o->ops.toArray[i]? =some o:=fun i o h=>by simpa using h
 have hpair':∀i j oi oj,i<j->j<n->ops[i]? =some oi->ops[j]? =some oj->Region.waitsFor .any ops.toArray j i=true\/oi.apart ops.toArray oj=true:=by
  intro i j oi oj hij hj h1 h2;have:=List.all_eq_true.1 (List.all_eq_true.1 hpair j (List.mem_range.2 hj)) i (List.mem_range.2 hij);rw[arr i oi h1,arr j oj h2]at this
  simpa using this
 have hafter':∀(j:Nat) oj,ops[j]? =some oj->∀e∈oj.after,Region.binds .any e=true->e.on<j:=by
  intro j oj hj e he hb;have hjl:j<ops.toArray.size:=by rw[hsz];exact(List.getElem?_eq_some_iff.1 hj).1
  have:=List.all_eq_true.1 hafter j (List.mem_range.2 hjl);rw[arr j oj hj]at this;have:=Array.all_eq_true'.1 this e he
  simpa [hb]using this
 have main:∀c (listed:Array Bool) (a:Act) (w:World),cntB listed n=c->HeadInv .any ops.toArray n listed->
   Sim N w0 M0 β (stUp res (fun i=>listed.getD i false) (ops.take n) st) a w->wpAny G.P .any ops.toArray Q' (c+(ops.toArray.size-n)) listed a w:=by
  intro c
  induction c with
  | zero=>
   intro listed a w hc inv hs;rw[Nat.zero_add];have hall:=jd0 hc;have hcan:listed=jch n ops.toArray.size:=by
    apply Array.ext
    ·rw[inv.size];simp[jch]
    ·intro i h1 h2;have hil:i<ops.length:=by rw[inv.size]at h1;simpa using h1
     by_cases hin:i<n
     ·have:=hall i hin;have e1:listed[i]=true:=by simpa [h1]using this
      rw[e1];simp[jch,hin]
     ·have:=inv.tail i (by omega) (by rw[inv.size]at h1;exact h1);have e1:listed[i]=false:=by simpa [h1]using this
      rw[e1];simp[jch,hin]
   have hs':Sim N w0 M0 β (stUp res (fun _=>true) (ops.take n) st) a w:=by
    refine hs.congr (fun t=>jap _ _ _ _ _ _ rfl fun i o hi _=>hall i (hlt i o hi).1) ?_ ?_
    ·rw[(ja4 _ _ _ _).1,(ja4 _ _ _ _).1]
    ·rw[(ja4 _ _ _ _).2,(ja4 _ _ _ _).2]
   have hlist:=jd1 hG hK (ops.drop n) _ β a w (fun o ho=>hd o (List.mem_of_mem_drop ho)) hfin hs';have hdl:(ops.drop n).length=ops.toArray.size-n:=by simp
   have:=wpAny_of_seq (P:=G.P) (md:= .any) (Q':=Q') (ops.drop n) n listed a w (fun j=>by simp[List.getElem?_drop]) (by rw[hcan,hdl];exact hseq) hlist
   rwa [hdl]at this
  | succ c ih=>
   intro listed a w hc inv hs;obtain⟨i0,hi0,hun0,hmin⟩:=jec (by omega:cntB listed n≠0);have hL:∀i,i<n->(listed.getD i true=false↔listed.getD i false=false):=fun i hi=>by
    have:i<listed.size:=by rw[inv.size];omega
    simp[this]
   have hready0:i0∈Region.ready .any ops.toArray listed:=by
    have hil:i0<ops.length:=by rw[<-hsz];omega
    refine mem_ready.2 ⟨(hL i0 hi0).2 hun0,ops[i0],arr i0 _ (List.getElem?_eq_getElem hil),fun e he hb=>hmin _ (hafter' i0 _ (List.getElem?_eq_getElem hil) e he hb)⟩
   have hgoal:(Region.ready .any ops.toArray listed=[]->Q' .normal a w)/\∀i∈Region.ready .any ops.toArray listed,wpOp G.P ops.toArray Q' i (wpAny G.P .any ops.toArray Q' (c+(ops.toArray.size-n)) (listed.setIfInBounds i true)) a w:=by
    refine⟨fun hr=>(by rw[hr]at hready0;cases hready0),fun i hi=> ?_⟩;obtain⟨hun,oi,hoi,hall⟩:=mem_ready.1 hi;have hoi':ops[i]? =some oi:=by simpa using hoi
    have hisz:i<ops.toArray.size:=(Array.getElem?_eq_some_iff.1 hoi).1;have hin:i<n:=by
     rcases Nat.lt_or_ge i n with h' | h'
     ·exact h'
     ·rcases htail with e | ⟨hsink,hchain⟩
      ·omega
      ·exact absurd hi (tail_waits hsink hchain (by omega) inv _ i0 rfl hi0 ((hL i0 hi0).2 hun0) i h')
    have hunf:listed.getD i false=false:=(hL i hin).1 hun;have hwait:∀k,Region.waitsFor .any ops.toArray i k=true->listed.getD k false=true:=fun k hk=>by
     obtain⟨oj,hoj,e,he,hb,hon⟩:=Region.waitsFor_spec hk;rw[hoi]at hoj;cases hoj;rw[<-hon];exact hall e he hb
    have hlate:∀k,Region.waitsFor .any ops.toArray k i=true->listed.getD k false=false:=fun k hk=>by
     obtain⟨ok,hok,e,he,hb,hon⟩:=Region.waitsFor_spec hk;cases hl:listed.getD k false with
     | false=>rfl
     | true=>
      have:=inv.closed k ok hok hl e he hb;rw[hon,hunf]at this;cases this
    have hagree:∀t∈oi.looksAt ops.toArray,(stUp res (fun _=>true) ((ops.take n).take i) st).get t=(stUp res (fun k=>listed.getD k false) (ops.take n) st).get t:=by
     intro t ht;rw[jev];refine jap _ _ _ _ _ _ rfl fun k ok hk hdk=> ?_;obtain⟨hkn,hok⟩:=hlt k ok hk;rcases Nat.lt_trichotomy k i with hki | hki | hki
     ·rcases hpair' k i ok oi hki hin hok hoi' with hw | hap
      ·rw[hwait k hw];simp[hki]
      ·exact absurd ht ((Oper.apart_spec hap).1 t hdk)
     ·subst hki;rw[hunf];simp
     ·rcases hpair' i k oi ok hki hkn hoi' hok with hw | hap
      ·rw[hlate k hw];simp;omega
      ·exact absurd ht ((Oper.apart_spec hap).2.2 t hdk)
    have hq:qStep G ops (stUp res (fun k=>listed.getD k false) (ops.take n) st) oi (res i):=
     jcw hagree (by rw[(ja4 _ _ _ _).1,(ja4 _ _ _ _).1]) (by rw[(ja4 _ _ _ _).2,(ja4 _ _ _ _).2]) (hres i oi (by rw[htake i hin];exact hoi'))
    have hisL:i<listed.size:=by rw[inv.size];exact hisz
    have hcnt:cntB (listed.setIfInBounds i true) n=c:=by
     have:=jeb hisL hunf n;rw[if_pos hin]at this;omega
    have next:∀v w2,Below w.heap.size w w2->RepA w2 (Mo M0 β (stUp res (fun k=>listed.getD k false) (ops.take n) st)) β (stUp res (fun k=>listed.getD k false) (ops.take n) st).toks (res i) v->
      wpAny G.P .any ops.toArray Q' (c+(ops.toArray.size-n)) (listed.setIfInBounds i true) (a.put oi.dst v) w2:=by
     intro v w2 hb hv;have hs2:=(hs.ext hb).put (dst:=oi.dst) (hd oi (List.mem_of_getElem? hoi')) hv;refine ih _ _ _ hcnt (inv.set hi hin) (hs2.congr (fun t=> ?_) ?_ ?_)
     ·have hset:∀k,k≠i->(listed.setIfInBounds i true).getD k false=listed.getD k false:=fun k hk=>getD_set_ne false (Ne.symm hk);by_cases hdt:oi.dst=some t
      ·rw[hdt,jan];refine(jcf (ops.take n) res _ st i oi (by rw[htake i hin];exact hoi') hdt (by simp[hisL]) fun k ok hik hk hLk hdk=> ?_).symm;obtain⟨hkn,hok⟩:=hlt k ok hk;rw[hset k (by omega)]at hLk;rcases hpair' i k oi ok hik hkn hoi' hok with hw | hap
       ·rw[hlate k hw]at hLk;cases hLk
       ·exact(Oper.apart_spec hap).2.1 t hdt hdk
      ·rw[jbm hdt];refine jap _ _ _ _ _ _ rfl fun k ok hk hdk=> ?_;have:k≠i:=fun e=>by
        subst e;obtain⟨_,hok⟩:=hlt k ok hk;rw[hoi']at hok;cases hok;exact hdt hdk
       exact(hset k this).symm
     ·rw[show((stUp res (fun k=>listed.getD k false) (ops.take n) st).put oi.dst (res i)).rows=(stUp res (fun k=>listed.getD k false) (ops.take n) st).rows by unfold St.put;split<;>rfl,(ja4 _ _ _ _).1,(ja4 _ _ _ _).1]
     ·rw[show((stUp res (fun k=>listed.getD k false) (ops.take n) st).put oi.dst (res i)).toks=(stUp res (fun k=>listed.getD k false) (ops.take n) st).toks by unfold St.put;split<;>rfl,(ja4 _ _ _ _).2,(ja4 _ _ _ _).2]
    unfold wpOp;rw[hoi];dsimp only;unfold qStep at hq;cases hg:oi.guard with
    | none=>
     rw[hg]at hq;rw[if_pos (by simp[Region.wanted,hg])];exact .inl (jb8 hG hs hq next)
    | some p=>
     obtain⟨j,want⟩:=p;rw[hg]at hq;dsimp only at hq;split at hq
     ·rename_i b hy;have hyc:=jc6 hs hy;by_cases hb:b=want
      ·rw[if_pos hb]at hq;rw[if_pos (by simp[Region.wanted,hg,hyc,hb])];exact .inl (jb8 hG hs hq next)
      ·rw[if_neg hb]at hq;rw[if_neg (by simp[Region.wanted,hg,hyc,hb])];exact next _ w (Below.refl _ _) (by rw[hq];exact Rep.sc _ rfl)
     ·rename_i hy;have hyc:=jcr hs hy;rw[if_neg (by simp[Region.wanted,hg,hyc])];exact next _ w (Below.refl _ _) (by rw[hq];exact Rep.sc _ rfl)
     ·exact hq.elim
   have:c+1+(ops.toArray.size-n)=(c+(ops.toArray.size-n))+1:=by omega
   rw[this];exact hgoal
 refine wp_region_any hG.mixed ?_;have inv0:HeadInv .any ops.toArray n (Array.replicate ops.toArray.size false):=
  ⟨by simp,fun j oj _ hl=>(by rw[getD_replicate_false]at hl;cases hl),fun t _ ht=>getD_in (by simpa using ht) (getD_replicate_false _ _)⟩
 have hc0:∀k,cntB (Array.replicate ops.toArray.size false) k=k:=fun k=>by
  induction k with
  | zero=>rfl
  | succ k ihk=>simp only[cntB,ihk,getD_replicate_false];simp
 have:=main n (Array.replicate ops.toArray.size false) a _ (hc0 n) inv0 (h.drew.congr (fun t=>by
  have hf:∀(l:List Oper) (res:Nat->AV) (L:Nat->Bool) (st:St),(∀i,L i=false)->stUp res L l st=st:=by
   intro l
   induction l with
   | nil=>intros;rfl
   | cons o l ih=>
    intro res L st hL;simp only[stUp,hL 0];exact ih _ _ _ fun i=>hL (i+1)
  rw[hf _ _ _ _ fun i=>getD_replicate_false _ _]) (ja4 _ _ _ _).1.symm (ja4 _ _ _ _).2.symm)
 rwa [show n+(ops.toArray.size-n)=ops.toArray.size by omega]at this
