/- A part of the proof. No further condition. -/
import Derived.Test.YtjcjcpebocbonaaGreatKZ5
import Derived.StillTail
import Derived.Deep.LoopGhost
set_option linter.all false
set_option maxRecDepth 10000000
set_option maxHeartbeats 16000000
namespace Go.Abs
section
open Go.RowKit (Below)
def jcx(st:St)(ops:List Oper)(j:Nat):Option (Option Bool):=
 match ops[j]? with
 | some o=>match o.dst with
  | some t=>match st.get t with
   | .im (.sc (.bool b))=>some (some b)
   | .im (.sc _)=>some none
   | _=>none
  | none=>none
 | none=>none
def alist(G:Ctx)(ops:List Oper)(K:St->Prop):List Oper->St->Prop
 | [],st=>K st
 | o::r,st=>match o.guard with
  | none=>aop G o (alist G ops K r) st
  | some (j,want)=>match jcx st ops j with
   | some (some b)=>(b=want->aop G o (alist G ops K r) st)/\(b≠want->alist G ops K r (st.put o.dst jcc))
   | some none=>alist G ops K r (st.put o.dst jcc)
   | none=>False
def nilC(x:Operand):Bool:=
 match x with
 | .const (.slice none 0 0)=>true
 | _=>false
def appP(G:Ctx)(st:St)(ts:List TypeId)(xs:List Operand)(K:AV->Prop):Prop:=
 match ts,xs with
 | [t,t'],[s,x]=>match(G.ti t).kind,nilC s,evO st x with
  | .sl e,true,.im (.sl xs)=>t=t'/\(G.ti t).size≠0/\(G.ti e).size≠0/\(G.ti e).bytes≠0/\(∀c∈xs,c.length=(G.ti e).size)/\xs.length*(G.ti e).bytes<=140737488355328/\K (.im (.sl xs))
  | _,_,_=>False
 | _,_=>False
def aq(G:Ctx)(st:St)(o:Oper)(K:AV->Prop):Prop:=
 match o.op with
 | .call c=>match c.callee with
  | .value f=>match evO st f,ivsOf (c.args.toList.map (evO st))with
   | .im (.clo g caps),some xs=>(3<=g/\g<G.fns)/\∃r,Ctr G.P g (xs++caps) (· =r)/\K (.im r)
   | _,_=>False
  | .builtin .append=>appP G st c.argTypes.toList c.args.toList K
  | _=>match yv G st o with
   | some av=>K av
   | none=>False
 | _=>match yv G st o with
  | some av=>K av
  | none=>False
def ahead(G:Ctx)(ops:List Oper)(K:St->Prop):List Oper->St->Prop
 | [],st=>K st
 | o::r,st=>match o.guard with
  | none=>aq G st o fun av=>ahead G ops K r (st.put o.dst av)
  | some (j,want)=>match jcx st ops j with
   | some (some b)=>(b=want->aq G st o fun av=>ahead G ops K r (st.put o.dst av))/\(b≠want->ahead G ops K r (st.put o.dst jcc))
   | some none=>ahead G ops K r (st.put o.dst jcc)
   | none=>False
section
variable{G:Ctx}{N:Nat}{w0:Base}{w w':World}{M0:Nat->Nat->Prop}{β:Nat->Option Nat}{st st':St}{a:Act}{ops:List Oper}
theorem jdu(h:Sim N w0 M0 β st a w){j:Nat}{b:Bool}(hy:jcx st ops j=some (some b)):yielded ops.toArray a.tmps j=some b:=by
 unfold jcx at hy;split at hy
 ·rename_i o ho;split at hy
  ·rename_i t ht;split at hy
   ·rename_i b' hb;cases hy;have hr:=h.fr t;rw[hb]at hr;have hv:=Rep.sc_inv hr;have a1:t<a.tmps.size:=by
     rcases zT t a.tmps.size with h' | h'
     ·exact h'
     ·simp[Array.getElem?_eq_none h',undef]at hv
    have:a.tmps[t]? =some (.bool b):=by
     rw[qn a1];simp[a1]at hv;rw[hv]
    have a6:ops.toArray[j]? =some o:=by simpa using ho
    simp[yielded,a6,ht,this]
   ·cases hy
   ·cases hy
  ·cases hy
 ·cases hy
theorem jea(h:Sim N w0 M0 β st a w){j:Nat}(hy:jcx st ops j=some none):∀b,yielded ops.toArray a.tmps j≠some b:=by
 unfold jcx at hy;split at hy
 ·rename_i o ho;split at hy
  ·rename_i t ht;split at hy
   ·cases hy
   ·rename_i v hb hv;have hr:=h.fr t;rw[hv]at hr;have a6:=Rep.sc_inv hr;intro b a1;have a7:ops.toArray[j]? =some o:=by simpa using ho
    unfold yielded at a1;simp only[a7,Option.bind_some,ht]at a1;split at a1
    ·rename_i b' a8;have:a.tmps.getD t undef= .bool b':=by simp[a8]
     rw[this]at a6;exact hb b' (by rw[<-a6])
    ·cases a1
   ·cases hy
  ·cases hy
 ·cases hy
theorem jfi(hG:G.Good){K:St->Prop}{Q':Exit->Act->World->Prop}(hK:∀st' β' a' w',K st'->Sim N w0 M0 β' st' a' w'->Q' .normal a' w'):
  ∀(l:List Oper) (st:St) (β:Nat->Option Nat) (a:Act) (w:World),(∀o∈l,∀d,o.dst=some d->d<N)->alist G ops K l st->Sim N w0 M0 β st a w->wpList G.P ops.toArray Q' l a w
 | [],st,β,a,w,_,hA,h=>hK st β a w hA h
 | o::l,st,β,a,w,hd,hA,h=>by
  have ih:=jfi hG hK l;have a6:=hd o (by simp);have a7:∀o∈l,∀d,o.dst=some d->d<N:=fun o ho=>hd o (by simp[ho]);unfold alist at hA;unfold wpList;split at hA
  ·rename_i hg;have hw:Region.wanted o (yielded ops.toArray a.tmps)=true:=by simp[Region.wanted,hg]
   rw[zh hw];exact .inl (jeo hG h a6 hA fun st' β' a' w' hk hs=>ih st' β' a' w' a7 hk hs)
  ·rename_i j want hg;have skip:Region.wanted o (yielded ops.toArray a.tmps)=false->alist G ops K l (st.put o.dst jcc)->
     (if Region.wanted o (yielded ops.toArray a.tmps)=true then o.wp G.P a w (wpList G.P ops.toArray Q' l) Q'\/(o.asks G.P a w/\LetsOut Q')else wpList G.P ops.toArray Q' l (a.put o.dst undef) w):=fun hw a8=>by
    rw[zl (by simp[hw])];exact ih _ β _ _ a7 a8 (h.put a6 (Rep.sc _ rfl))
   split at hA
   ·rename_i b hy;have a1:=jdu h hy;by_cases hb:b=want
    ·have hw:Region.wanted o (yielded ops.toArray a.tmps)=true:=by simp[Region.wanted,hg,a1,hb]
     rw[zh hw];exact .inl (jeo hG h a6 (hA.1 hb) fun st' β' a' w' hk hs=>ih st' β' a' w' a7 hk hs)
    ·exact skip (by simp[Region.wanted,hg,a1,hb]) (hA.2 hb)
   ·rename_i hy;have a1:=jea h hy;exact skip (by simp[Region.wanted,hg,a1]) hA
   ·exact hA.elim
def qVal(G:Ctx)(st:St)(o:Oper)(av:AV):Prop:=
 yv G st o=some av\/(∃c f g caps xs r,o.op= .call c/\c.callee= .value f/\evO st f= .im (.clo g caps)/\ivsOf (c.args.toList.map (evO st))=some xs/\(3<=g/\g<G.fns)/\Ctr G.P g (xs++caps) (· =r)/\av= .im r)\/
  ∃c,o.op= .call c/\c.callee= .builtin .append/\appP G st c.argTypes.toList c.args.toList (av= ·)
def qStep(G:Ctx)(ops:List Oper)(st:St)(o:Oper)(av:AV):Prop:=
 match o.guard with
 | none=>qVal G st o av
 | some (j,want)=>match jcx st ops j with
  | some (some b)=>if b=want then qVal G st o av else av=jcc
  | some none=>av=jcc
  | none=>False
theorem appP_val{ts:List TypeId}{xs:List Operand}{K:AV->Prop}(h:appP G st ts xs K):∃av,appP G st ts xs (av= ·)/\K av:=by
 unfold appP at h⊢;split at h
 ·split at h
  ·rename_i e xs h1 h2 h3;obtain⟨a1,a2,a3,a4,a5,a6,hk⟩:=h;refine⟨.im (.sl xs),?_,hk⟩;exact⟨a1,a2,a3,a4,a5,a6,rfl⟩
  ·exact h.elim
 ·exact h.elim
theorem jfv{o:Oper}{K:AV->Prop}(h:aq G st o K):∃av,qVal G st o av/\K av:=by
 unfold aq at h;have plain:(match yv G st o with | some av=>K av | none=>False)->∃av,qVal G st o av/\K av:=fun h=>by
  split at h
  ·rename_i av hy;exact⟨av,.inl hy,h⟩
  ·exact h.elim
 split at h
 ·rename_i c ho;split at h
  ·rename_i f hf;split at h
   ·rename_i g caps xs h1 h2;obtain⟨hg,r,hr,hk⟩:=h;exact⟨_,.inr (.inl ⟨c,f,g,caps,xs,r,ho,hf,h1,h2,hg,hr,rfl⟩),hk⟩
   ·exact h.elim
  ·rename_i hb;obtain⟨av,h1,h2⟩:=appP_val h;exact⟨av,.inr (.inr ⟨c,ho,hb,h1⟩),h2⟩
  ·exact plain h
 ·exact plain h
def stUp(res:Nat->AV)(L:Nat->Bool):List Oper->St->St
 | [],st=>st
 | o::r,st=>stUp (fun i=>res (i+1)) (fun i=>L (i+1)) r (if L 0=true then st.put o.dst (res 0)else st)
theorem jmh{K:St->Prop}:∀(l:List Oper) (st:St),ahead G ops K l st->
  ∃res:Nat->AV,(∀i o,l[i]? =some o->qStep G ops (stUp res (fun _=>true) (l.take i) st) o (res i))/\K (stUp res (fun _=>true) l st)
 | [],st,h=>⟨fun _=> .und,fun i o hi=>by simp at hi,h⟩
 | o::l,st,h=>by
  have key:∃av,qStep G ops st o av/\ahead G ops K l (st.put o.dst av):=by
   unfold ahead at h;unfold qStep;split at h
   ·obtain⟨av,h1,h2⟩:=jfv h;exact⟨av,h1,h2⟩
   ·rename_i j want hg;split at h
    ·rename_i b hy;by_cases hb:b=want
     ·obtain⟨av,h1,h2⟩:=jfv (h.1 hb);exact⟨av,by rw[zh hb];exact h1,h2⟩
     ·exact⟨jcc,by rw[zl hb],h.2 hb⟩
    ·exact⟨jcc,rfl,h⟩
    ·exact h.elim
  obtain⟨av,h1,h2⟩:=key;obtain⟨res,h3,h4⟩:=jmh l _ h2;refine⟨fun i=>match i with | 0=>av | i+1=>res i,fun i o' hi=> ?_,?_⟩
  ·cases i with
   | zero=>simp at hi;subst hi;exact h1
   | succ i=>
    have:=h3 i o' (by simpa using hi)
    simpa [stUp]using this
  ·simpa [stUp]using h4
theorem jaa(res:Nat->AV)(L:Nat->Bool)(l:List Oper)(st:St):(stUp res L l st).rows=st.rows/\(stUp res L l st).toks=st.toks:=by
 induction l generalizing res L st with
 | nil=>exact⟨rfl,rfl⟩
 | cons o l ih=>
  simp only[stUp];have:=ih (fun i=>res (i+1)) (fun i=>L (i+1)) (if L 0=true then st.put o.dst (res 0)else st);have e:(if L 0=true then st.put o.dst (res 0)else st).rows=st.rows/\(if L 0=true then st.put o.dst (res 0)else st).toks=st.toks:=by
   split
   ·unfold St.put;split<;>exact⟨rfl,rfl⟩
   ·exact⟨rfl,rfl⟩
  exact⟨this.1.trans e.1,this.2.trans e.2⟩
theorem jdl{dst:Option Nat}{av:AV}{t:Nat}(h:dst≠some t):(st.put dst av).get t=st.get t:=by
 cases dst with
 | none=>rfl
 | some d=>
  have:t≠d:=fun e=>h (by rw[e]);simp[St.put,St.get,look,this]
theorem jby{av:AV}{t:Nat}:(st.put (some t) av).get t=av:=by simp[St.put,St.get,look]
theorem jbz{t:Nat}:∀(l:List Oper) (res:Nat->AV) (L L':Nat->Bool) (st st':St),st.get t=st'.get t->(∀i o,l[i]? =some o->o.dst=some t->L i=L' i)->
  (stUp res L l st).get t=(stUp res L' l st').get t
 | [],_,_,_,_,_,h,_=>h
 | o::l,res,L,L',st,st',h,hL=>by
  simp only[stUp];refine jbz l _ _ _ _ _ ?_ (fun i o' hi ho=>hL (i+1) o' (by simpa using hi) ho);by_cases hd:o.dst=some t
  ·have:=hL 0 o rfl hd;rw[<-this];split
   ·rw[hd,jby,jby]
   ·exact h
  ·have:∀(s:St) (b:Bool),(if b=true then s.put o.dst (res 0)else s).get t=s.get t:=fun s b=>by
    split
    ·exact jdl hd
    ·rfl
   rw[this,this];exact h
theorem jin:∀(l:List Oper) (res:Nat->AV) (j:Nat) (st:St),stUp res (fun _=>true) (l.take j) st=stUp res (fun i=>decide (i<j)) l st
 | [],_,j,st=>by simp[stUp]
 | o::l,res,0,st=>by
  have:∀(l:List Oper) (res:Nat->AV) (st:St),stUp res (fun i=>decide (i<0)) l st=st:=by
   intro l
   induction l with
   | nil=>intros;rfl
   | cons o l ih=>intro res st;simp only[stUp];exact ih _ _
  rw[this];rfl
 | o::l,res,j+1,st=>by
  simp only[List.take_succ_cons,stUp];rw[jin l];simp
theorem jej{t:Nat}:∀(l:List Oper) (res:Nat->AV) (L:Nat->Bool) (st:St) (i:Nat) (o:Oper),l[i]? =some o->o.dst=some t->L i=true->
  (∀k o',i<k->l[k]? =some o'->L k=true->o'.dst≠some t)->(stUp res L l st).get t=res i
 | [],_,_,_,i,o,hi,_,_,_=>by simp at hi
 | o'::l,res,L,st,0,o,hi,hd,hL,hk=>by
  simp at hi;subst hi;simp only[stUp,hL,qA];have:(stUp (fun i=>res (i+1)) (fun i=>L (i+1)) l (st.put o'.dst (res 0))).get t=(stUp (fun i=>res (i+1)) (fun _=>false) l (st.put o'.dst (res 0))).get t:=
   jbz l _ _ _ _ _ rfl fun i o2 hi ho=>by
    cases hc:L (i+1)with
    | false=>rfl
    | true=>exact absurd ho (hk (i+1) o2 (by omega) (by simpa using hi) hc)
  rw[this];have hf:∀(l:List Oper) (res:Nat->AV) (st:St),stUp res (fun _=>false) l st=st:=by
   intro l
   induction l with
   | nil=>intros;rfl
   | cons o l ih=>intro res st;simp only[stUp];exact ih _ _
  rw[hf,hd,jby]
 | o'::l,res,L,st,i+1,o,hi,hd,hL,hk=>by
  simp only[stUp];exact jej l (fun i=>res (i+1)) (fun i=>L (i+1)) _ i o (by simpa using hi) hd hL (fun k o2 a7 a1 a6=>hk (k+1) o2 (by omega) (by simpa using a1) a6)
theorem jds{x:Operand}(h:∀t,x= .tmp t->st.get t=st'.get t):evO st x=evO st' x:=by
 cases x<;>simp only[evO];exact h _ rfl
theorem jgl:∀{ps:List (Nat×Operand)},(∀p∈ps,evO st p.2=evO st' p.2)->jer st ps=jer st' ps
 | [],_=>rfl
 | (i,x)::r,h=>by
  unfold jer;rw[h (i,x) (by simp),jgl (fun p hp=>h p (by simp[hp]))]
theorem yLoad_congr{t:TypeId}{p:AV}(hr:st.rows=st'.rows):yLoad G st t p=yLoad G st' t p:=by
 unfold yLoad;rw[hr]
theorem jll{m:AV}(ht:st.toks=st'.toks):mapOf st m=mapOf st' m:=by
 cases m<;>simp only[mapOf,ht]
theorem yv_congr{o:Oper}(h:∀x∈o.op.operands,evO st x=evO st' x)(hr:st.rows=st'.rows)(ht:st.toks=st'.toks):yv G st o=yv G st' o:=by
 unfold yv;generalize o.op=op at h;cases op<;>simp only[Op.operands]at h<;>(try rfl)<;>dsimp only
 case move x=>rw[h x (by simp)]
 case assign x=>rw[h x (by simp)]
 case pick c x y=>rw[h c (by simp),h x (by simp),h y (by simp)]
 case build t ps=>rw[jgl (st:=st) (st':=st') fun p hp=>h p.2 (by simp;exact⟨p.1,by simpa using hp⟩)]
 case buildSlice t n ps=>rw[jgl (st:=st) (st':=st') fun p hp=>h p.2 (by simp;exact⟨p.1,by simpa using hp⟩)]
 case load t p=>rw[h p (by simp)];exact yLoad_congr hr
 case nilCheck x=>rw[h x (by simp)]
 case binOp op t x y u=>rw[h x (by simp),h y (by simp)]
 case unOp op t x=>rw[h x (by simp)]
 case convert s d x=>rw[h x (by simp)]
 case lookup t m k ok=>rw[h m (by simp),h k (by simp),jll ht]
 case makeFunc fn first caps=>
  have:caps.toList.map (evO st)=caps.toList.map (evO st'):=qV fun x hx=>h x (by simp[yF.1 hx]);simp only[this]
 case slice t x lo hi mx=>
  have e1:lo.map (evO st)=lo.map (evO st'):=by cases lo with | none=>rfl | some y=>simp[h y (by simp)]
  have e2:hi.map (evO st)=hi.map (evO st'):=by cases hi with | none=>rfl | some y=>simp[h y (by simp)]
  rw[h x (by simp),e1,e2]
 case fieldAddr t x f=>simp only[h x (by simp)]
 case field t x f=>simp only[h x (by simp)]
 case indexAddr t x i=>rw[h x (by simp),h i (by simp)]
 case index t x i=>rw[h x (by simp),h i (by simp)]
 case extract x k=>rw[h x (by simp)]
 case call c=>
  have e1:c.args.toList.map (evO st)=c.args.toList.map (evO st'):=qV fun x hx=>h x (by simp[Call.operands,yF.1 hx]);have e2:∀x,c.args.toList=[x]->evO st x=evO st' x:=fun x hx=>h x (by
   have:x∈c.args:=yF.1 (by rw[hx];simp);simp[Call.operands,this])
  simp only[e1];cases hc:c.callee<;>dsimp only;rename_i b;cases b<;>dsimp only;split
  ·rename_i t x _ hx;rw[e2 x hx,jll ht]
  ·rfl
end
end
section
open Go.RowKit (Below)
def jen(n size:Nat):Array Bool:=((List.range size).map fun i=>decide (i<n)).toArray
def drawB(ops:Array Oper)(n:Nat):Bool:=
 decide (n<=ops.size)&&
 (List.range ops.size).all (fun j=>match ops[j]? with
  | some o=>o.after.all fun e=> !Region.binds .any e || decide (e.on<j)
  | none=>true)&&
 (List.range n).all (fun j=>(List.range j).all fun i=>Region.waitsFor .any ops j i || (match ops[i]?,ops[j]? with
  | some oi,some oj=>oi.apart ops oj
  | _,_=>false))&&
 (n==ops.size || (Region.sinkB .any ops n&&Region.chainB .any ops n))&&
 Region.seqB .any ops (ops.size-n) n (jen n ops.size)
section
variable{G:Ctx}{N:Nat}{w0:Base}{w w':World}{M0:Nat->Nat->Prop}{β:Nat->Option Nat}{st st':St}{a:Act}{ops:List Oper}
theorem Sim.congr(h:Sim N w0 M0 β st a w)(hg:∀t,st.get t=st'.get t)(hr:st.rows=st'.rows)(ht:st.toks=st'.toks):Sim N w0 M0 β st' a w:=by
 have hM:Mo M0 β st'=Mo M0 β st:=by unfold Mo;rw[hr,ht]
 refine⟨h.size,h.defers,h.below,h.m0,fun t=> ?_,?_,?_,?_,?_,by rw[<-hr];exact h.nam,h.np,h.perm⟩
 ·rw[hM,<-hg,<-ht];exact h.fr t
 ·rw[hM,<-hr];exact h.rows
 ·rw[<-ht];exact h.toks
 ·rw[<-hr,<-ht];exact h.inj
 ·rw[<-hr,<-ht];exact h.excl
theorem app_rep(hG:G.Ok)(h:Sim N w0 M0 β st a w){t e ty:TypeId}{xv:Value}{xs:List (List IV)}
  (h0:(G.ti t).size≠0) (hk:(G.ti t).kind= .sl e) (h1:(G.ti e).size≠0) (e3:(G.ti e).bytes≠0) (b2:∀c∈xs,c.length=(G.ti e).size) (hbound:xs.length*(G.ti e).bytes<=140737488355328)
  (hx:Rep w (Mo M0 β st) (.sl xs) xv):
  ∃v' w',(Builtin.append_ #[t,t] ty #[.slice none 0 0,xv]).run G.P w= .ok v' w'/\Below w.heap.size w w'/\Rep w' (Mo M0 β st) (.sl xs) v':=by
 have hu:=hG.sl h0 hk;obtain⟨i,z,hi,c8,e4,hz,_,c5⟩:=hG.info h1;by_cases b1:xs=[]
 ·subst b1;have c6:∃a7 xc,xv= .slice a7 0 xc:=by
   cases hx with
   | nil a c=>exact⟨a,c,rfl⟩
   | sl es s b o c u h=>exact absurd rfl h
  obtain⟨a7,xc,rfl⟩:=c6;have a6:(Builtin.append_ #[t,t] ty #[.slice none 0 0,.slice a7 0 xc]).run G.P w= .ok (.slice none 0 0) w:=by
   cases a7<;>simp[Builtin.append_,run_underlying hu,sizeOf,typeInfo,hi,Builtin.lenOf,Builtin.firstCells,loadCells,loadCellsFrom,storeCells]
  exact⟨_,_,a6,Below.refl _ _,Rep.nil _ _⟩
 obtain⟨a7,xc,gx,rfl,_,c7⟩:=jip h1 hx b2;obtain⟨xb,xo,rfl,a1⟩:=c7 b1;generalize hS:(G.ti e).size=S at*;have b3:xs.flatten.length=xs.length*S:=jd2 b2;have b4:0<xs.length:=qG.2 b1;have e5:xs.length<=140737488355328:=qH (jg _ (jN e3)) hbound;have b5:∀j u,((List.range xs.flatten.length).map gx)[j]? =some u->w.cell? ((⟨xb,xo,none⟩:Addr).add j)=some u:=jf5 a1;have c9:((List.range xs.flatten.length).map gx).length=xs.length*i.size:=by simp[b3,c8]
 have b8:xs.length<=maxLen:=by unfold maxLen;omega
 have a6:∃cells:Array Value,∃cap,(Builtin.append_ #[t,t] ty #[.slice none 0 0,.slice (some ⟨xb,xo,none⟩) xs.length xc]).run G.P w= .ok (.slice (some ⟨w.heap.size,0,none⟩) xs.length cap) (w.drew.alloc (.cells cells e))/\
   xs.length<=cap/\cap<=maxLen/\cells.size=cap*S/\∀k,k<xs.length*S->cells[k]? =some (gx k):=by
  have b6:=grownCap_ge w xs.length 0 e;have c0:=grownCap_le_maxLen w xs.length 0 e b8;have a8:∀c:Array Value,c=((List.range xs.flatten.length).map gx).toArray++Builtin.zeroCells z.cells (grownCap w xs.length 0 e-xs.length)->c.size=grownCap w xs.length 0 e*S/\∀k,k<xs.length*S->c[k]? =some (gx k):=by
   rintro c rfl;refine⟨?_,fun k e0=> ?_⟩
   ·simp only[jc,qP,za,q9,b3,size_zeroCells,c5];rw[<-qD];congr 1;omega
   ·rw[ym (by simp[b3];omega)];simp[b3,e0]
  have hr:=run_append_nil (P:=G.P) w t ty e i z hu hi hz ⟨xb,xo,none⟩ xs.length xc _ c9 b5 b4 (by omega) (by rw[e4];omega);exact⟨_,_,hr,b6,c0,(a8 _ rfl).1,(a8 _ rfl).2⟩
 obtain⟨cells,cap,a6,e2,e8,e7,e1⟩:=a6;refine⟨_,_,a6,(Below.refl _ _).drew.alloc (zu _) _,?_⟩;have c4:∀(i':Nat) e' (j:Nat) x,xs[i']? =some e'->e'[j]? =some x->x.one=true/\i'*S+j<xs.length*S/\cells[i'*S+j]? =some (gx (i'*S+j))/\Rep w (Mo M0 β st) x (gx (i'*S+j)):=fun i' e' j x b0 hj=>by
  have b9:=jdm b2 b0 hj;obtain⟨g1,_,g2⟩:=a1 _ x b9;have e6:=(zr.1 b9).1;exact⟨g1,by omega,e1 _ (by omega),g2⟩
 have c3:Below w.heap.size w (w.drew.alloc (.cells cells e)):=(Below.refl _ _).drew.alloc (zu _) _;refine Rep.sl xs S w.heap.size 0 cap (fun i j=>gx (i*S+j)) b1 b2 e2 (fun i' e' j x b0 hj=> ?_) (fun i' e' j x b0 hj=> ?_)
 ·obtain⟨g1,g2,g3,_⟩:=c4 i' e' j x b0 hj;refine⟨g1,?_,fun hm=>absurd (h.mlt hm) (q8 _)⟩;have b7:w.drew.heap.size=w.heap.size:=rfl;rw[<-b7,World.cell?_alloc_new,qi]
  first
   | exact g3
   | simpa using g3
 ·obtain⟨_,_,_,g4⟩:=c4 i' e' j x b0 hj;exact g4.kept (Below.kept (M:=Mo M0 β st) c3)
theorem nilC_eq{x:Operand}(h:nilC x=true):x= .const (.slice none 0 0):=by
 unfold nilC at h;split at h
 ·rfl
 ·cases h
theorem jcs(hG:G.Good)(h:Sim N w0 M0 β st a w){o:Oper}{av:AV}(hq:qVal G st o av){K':Act->World->Prop}{Q':Exit->Act->World->Prop}
  (hK:∀v w',Below w.heap.size w w'->RepA w' (Mo M0 β st) β st.toks av v->K' (a.put o.dst v) w'):o.wp G.P a w K' Q':=by
 rcases hq with hy | ⟨c,f,g,caps,xs,r,ho,hc,hf,hxs,hg,hctr,rfl⟩ | ⟨c,ho,hc,hq⟩
 ·obtain⟨v,w',hr,hb,hv⟩:=yv_run hG.ok h hy;unfold Oper.wp;rw[hr];exact hK v w' hb hv
 ·have a1:=jh9 h hxs;have b3:=jb6 h f;rw[hf]at b3;obtain⟨vs,b7,b0⟩:=Rep.clo_inv b3;have b5:RepL w (Mo M0 β st) (xs++caps) ((c.args.map a.eval)++vs).toList:=by
   refine⟨?_,fun k x v hx hv=> ?_⟩
   ·have h1:=a1.1;have h2:=b0.1;simp at h1 h2;simp[h1,h2]
   ·rw[yV,vm]at hv;have h1:=a1.1;by_cases hk:k<xs.length
    ·rw[zK hk]at hx;rw[zK (by omega)]at hv;exact a1.2 k x v hx hv
    ·rw[zP (by omega)]at hx;rw[zP (by omega),<-h1]at hv;exact b0.2 _ x v hx hv
  have a7:=hctr w (Mo M0 β st) _ (fun b o hm=>h.mlt hm) b5;have a8:(execOp a.eval o).run G.P w= .ok (.enter g (c.args.map a.eval++vs)) w:=by
   unfold execOp;rw[ho];simp only[resolve,hc,b7,Deferred.ofValue,Sem.run_bind,Sem.run_pure,Result.andThen_ok,vx,invoke,jfo (hG.fn g hg)]
  unfold Oper.wp;rw[a8,Oper.upon_enter];rw[Array.toArray_toList]at a7;refine a7.mono fun e w' ⟨r',v,hr,he,hv,hb⟩=> ?_;subst he;subst hr;exact hK v w' hb hv
 ·unfold appP at hq;split at hq
  ·rename_i t t' s x b6 has;split at hq
   ·rename_i e xs h1 h2 h3;obtain⟨rfl,a2,a3,a4,a5,a6,rfl⟩:=hq;have hs:=nilC_eq h2;subst hs;have b1:=jb6 h x;rw[h3]at b1;obtain⟨v',w',a8,b4,b2⟩:=app_rep (ty:=o.type) hG.ok h a2 h1 a3 a4 a5 a6 b1;have b9:c.argTypes= #[t,t]:=by apply yO;simpa using b6
    have c0:c.args= #[.const (.slice none 0 0),x]:=by apply yO;simpa using has
    unfold Oper.wp execOp;rw[ho];have b8:a.eval (.const (.slice none 0 0))= .slice none 0 0:=rfl;simp only[resolve,hc,b9,c0,invoke,builtin,Sem.run_bind,Sem.run_pure,Result.andThen_ok,jF,zt,zF,b8,a8,Oper.upon_value];exact hK v' w' b4 b2
   ·exact hq.elim
  ·exact hq.elim
theorem jbt{o:Oper}{x:Operand}{t:Nat}(hx:x∈o.op.operands)(ht:x= .tmp t):t∈o.looksAt ops.toArray:=by
 subst ht;exact jA _ (List.mem_filterMap.2 ⟨.tmp t,by simpa using hx,rfl⟩)
theorem jhs{o:Oper}{av:AV}(h:∀t∈o.looksAt ops.toArray,st.get t=st'.get t)(hr:st.rows=st'.rows)(ht:st.toks=st'.toks)(hq:qVal G st o av):qVal G st' o av:=by
 have hx:∀x∈o.op.operands,evO st x=evO st' x:=fun x hx=>jds fun t ht=>h t (jbt hx ht);rcases hq with hy | ⟨c,f,g,caps,xs,r,ho,hc,hf,hxs,rest⟩ | ⟨c,ho,hc,hq⟩
 ·exact .inl (by rw[<-yv_congr hx hr ht];exact hy)
 rotate_left
 ·refine .inr (.inr ⟨c,ho,hc,?_⟩);have a1:∀x∈c.args.toList,evO st x=evO st' x:=fun x hm=>hx x (by rw[ho];simp[Op.operands,Call.operands,yF.1 hm]);unfold appP at hq⊢;split at hq
  ·rename_i t t' s x h1 h2;rw[<-a1 x (by rw[h2];simp)];exact hq
  ·exact hq.elim
 ·refine .inr (.inl ⟨c,f,g,caps,xs,r,ho,hc,?_,?_,rest⟩)
  ·rw[<-hx f (by rw[ho];simp[Op.operands,Call.operands,hc])];exact hf
  ·rw[<-hxs];congr 1;exact(qV fun x a1=>(hx x (by rw[ho];simp[Op.operands,Call.operands,yF.1 a1])).symm)
theorem jf9{o:Oper}{av:AV}(h:∀t∈o.looksAt ops.toArray,st.get t=st'.get t)(hr:st.rows=st'.rows)(ht:st.toks=st'.toks)(hq:qStep G ops st o av):qStep G ops st' o av:=by
 unfold qStep at hq⊢;cases hg:o.guard with
 | none=>rw[hg]at hq;exact jhs h hr ht hq
 | some p=>
  obtain⟨j,want⟩:=p;rw[hg]at hq;have hy:jcx st ops j=jcx st' ops j:=by
   unfold jcx;cases ho:ops[j]? with
   | none=>rfl
   | some oj=>
    cases hd:oj.dst with
    | none=>simp only[hd]
    | some t=>
     have:t∈o.looksAt ops.toArray:=by
      have a6:ops.toArray[j]? =some oj:=by simpa using ho
      simp[Oper.looksAt,hg,a6,ho,hd]
     simp only[hd,h t this]
  simp only[<-hy];dsimp only at hq;cases a1:jcx st ops j with
  | none=>rw[a1]at hq;exact hq
  | some x=>
   cases x with
   | none=>rw[a1]at hq;exact hq
   | some b=>
    rw[a1]at hq;dsimp only at hq⊢;by_cases hb:b=want
    ·rw[zh hb]at hq⊢;exact jhs h hr ht hq
    ·rw[zl hb]at hq⊢;exact hq
def cntB(a1:Array Bool):Nat->Nat
 | 0=>0
 | n+1=>cntB a1 n+(if a1.getD n false=true then 0 else 1)
theorem jhy{a1:Array Bool}{i:Nat}(hi:i<a1.size)(h0:a1.getD i false=false):∀n,cntB (a1.setIfInBounds i true) n+(if i<n then 1 else 0)=cntB a1 n
 | 0=>by simp[cntB]
 | n+1=>by
  have ih:=jhy hi h0 n;simp only[cntB];by_cases a6:i=n
  ·subst a6;have:(a1.setIfInBounds i true).getD i false=true:=by simp[hi]
   rw[zh this,h0];simp only[q8,qp,Nat.add_zero]at ih;simp[ih]
  ·have:(a1.setIfInBounds i true).getD n false=a1.getD n false:=getD_set_ne false a6;rw[this];generalize (if a1.getD n false=true then 0 else 1)=x;by_cases h:i<n
   ·rw[zh h]at ih;rw[zh (by omega:i<n+1)];omega
   ·rw[zl h]at ih;rw[zl (by omega:¬i<n+1)];omega
theorem jfh{a1:Array Bool}:∀{n},cntB a1 n=0->∀i,i<n->a1.getD i false=true
 | 0,_,i,hi=>by omega
 | n+1,h,i,hi=>by
  simp only[cntB]at h;by_cases a6:i=n
  ·subst a6;by_cases hl:a1.getD i false=true
   ·exact hl
   ·rw[zl hl]at h;omega
  ·exact jfh (n:=n) (by omega) i (by omega)
theorem jhz{a1:Array Bool}:∀{n},cntB a1 n≠0->∃i,i<n/\a1.getD i false=false/\∀j,j<i->a1.getD j false=true
 | 0,h=>absurd rfl h
 | n+1,h=>by
  by_cases h0:cntB a1 n=0
  ·refine⟨n,by omega,?_,fun j hj=>jfh h0 j hj⟩;simp only[cntB,h0]at h;cases hl:a1.getD n false with
   | false=>rfl
   | true=>rw[hl]at h;simp at h
  ·obtain⟨i,h1,h2⟩:=jhz h0;exact⟨i,by omega,h2⟩
theorem draw_sound(hG:G.Good)(id n:Nat)(hB:drawB ops.toArray n=true)(hd:∀o∈ops,∀d,o.dst=some d->d<N){K:St->Prop}{Q':Exit->Act->World->Prop}
  (hK:∀st' β' a' w',K st'->Sim N w0 M0 β' st' a' w'->Q' .normal a' w') (h:Sim N w0 M0 β st a w)
  (hA:ahead G ops (fun s=>alist G ops K (ops.drop n) s) (ops.take n) st):(Code.region id ops.toArray true).wp G.P Q' a w:=by
 simp only[drawB,zn,zO,qt,yB]at hB;obtain⟨⟨⟨⟨hn,c5⟩,e2⟩,e0⟩,h4⟩:=hB;obtain⟨res,h5,h9⟩:=jmh _ _ hA;have h3:ops.toArray.size=ops.length:=by simp
 have b5:∀i,i<n->(ops.take n)[i]? =ops[i]? :=fun i hi=>by rw[qy,zh hi]
 have c3:∀i o,(ops.take n)[i]? =some o->i<n/\ops[i]? =some o:=fun i o hi=>by
  rw[qy]at hi;split at hi
  ·exact⟨‹_›,hi⟩
  ·cases hi
 have arr:∀(i:Nat) (o:Oper),ops[i]? =some o->ops.toArray[i]? =some o:=fun i o h=>by simpa using h
 have a8:∀i j oi oj,i<j->j<n->ops[i]? =some oi->ops[j]? =some oj->Region.waitsFor .any ops.toArray j i=true\/oi.apart ops.toArray oj=true:=by
  intro i j oi oj k8 hj h1 h2;have:=List.all_eq_true.1 (List.all_eq_true.1 e2 j (qx.2 hj)) i (qx.2 k8);rw[arr i oi h1,arr j oj h2]at this
  simpa using this
 have b8:∀(j:Nat) oj,ops[j]? =some oj->∀e∈oj.after,Region.binds .any e=true->e.on<j:=by
  intro j oj hj e he hb;have k6:j<ops.toArray.size:=by rw[h3];exact(zr.1 hj).1
  have:=List.all_eq_true.1 c5 j (qx.2 k6);rw[arr j oj hj]at this;have:=jQ.1 this e he
  simpa [hb]using this
 have main:∀c (a1:Array Bool) (a:Act) (w:World),cntB a1 n=c->HeadInv .any ops.toArray n a1->
   Sim N w0 M0 β (stUp res (fun i=>a1.getD i false) (ops.take n) st) a w->wpAny G.P .any ops.toArray Q' (c+(ops.toArray.size-n)) a1 a w:=by
  intro c
  induction c with
  | zero=>
   intro a1 a w hc inv hs;rw[qi];have b2:=jfh hc;have k2:a1=jen n ops.toArray.size:=by
    apply Array.ext
    ·rw[inv.size];simp[jen]
    ·intro i h1 h2;have e6:i<ops.length:=by rw[inv.size]at h1;simpa using h1
     by_cases a7:i<n
     ·have:=b2 i a7;have e1:a1[i]=true:=by simpa [h1]using this
      rw[e1];simp[jen,a7]
     ·have:=inv.tail i (by omega) (by rw[inv.size]at h1;exact h1);have e1:a1[i]=false:=by simpa [h1]using this
      rw[e1];simp[jen,a7]
   have k5:Sim N w0 M0 β (stUp res (fun _=>true) (ops.take n) st) a w:=by
    refine hs.congr (fun t=>jbz _ _ _ _ _ _ rfl fun i o hi _=>b2 i (c3 i o hi).1) ?_ ?_
    ·rw[(jaa _ _ _ _).1,(jaa _ _ _ _).1]
    ·rw[(jaa _ _ _ _).2,(jaa _ _ _ _).2]
   have e4:=jfi hG hK (ops.drop n) _ β a w (fun o ho=>hd o (yq ho)) h9 k5;have k0:(ops.drop n).length=ops.toArray.size-n:=by simp
   have:=wpAny_of_seq (P:=G.P) (md:= .any) (Q':=Q') (ops.drop n) n a1 a w (fun j=>by simp[qQ]) (by rw[k2,k0];exact h4) e4
   rwa [k0]at this
  | succ c ih=>
   intro a1 a w hc inv hs;obtain⟨i0,e7,c6,h7⟩:=jhz (by omega:cntB a1 n≠0);have hL:∀i,i<n->(a1.getD i true=false↔a1.getD i false=false):=fun i hi=>by
    have:i<a1.size:=by rw[inv.size];omega
    simp[this]
   have b1:i0∈Region.ready .any ops.toArray a1:=by
    have e6:i0<ops.length:=by rw[<-h3];omega
    refine mem_ready.2 ⟨(hL i0 e7).2 c6,ops[i0],arr i0 _ (zw e6),fun e he hb=>h7 _ (b8 i0 _ (zw e6) e he hb)⟩
   have e8:(Region.ready .any ops.toArray a1=[]->Q' .normal a w)/\∀i∈Region.ready .any ops.toArray a1,wpOp G.P ops.toArray Q' i (wpAny G.P .any ops.toArray Q' (c+(ops.toArray.size-n)) (a1.setIfInBounds i true)) a w:=by
    refine⟨fun hr=>(by rw[hr]at b1;cases b1),fun i hi=> ?_⟩;obtain⟨k3,oi,c0,b2⟩:=mem_ready.1 hi;have a6:ops[i]? =some oi:=by simpa using c0
    have h8:i<ops.toArray.size:=(zm.1 c0).1;have a7:i<n:=by
     rcases zT i n with h' | h'
     ·exact h'
     ·rcases e0 with e | ⟨hsink,hchain⟩
      ·omega
      ·exact absurd hi (tail_waits hsink hchain (by omega) inv _ i0 rfl e7 ((hL i0 e7).2 c6) i h')
    have b4:a1.getD i false=false:=(hL i a7).1 k3;have c9:∀k,Region.waitsFor .any ops.toArray i k=true->a1.getD k false=true:=fun k hk=>by
     obtain⟨oj,h6,e,he,hb,e3⟩:=Region.waitsFor_spec hk;rw[c0]at h6;cases h6;rw[<-e3];exact b2 e he hb
    have b6:∀k,Region.waitsFor .any ops.toArray k i=true->a1.getD k false=false:=fun k hk=>by
     obtain⟨ok,b0,e,he,hb,e3⟩:=Region.waitsFor_spec hk;cases hl:a1.getD k false with
     | false=>rfl
     | true=>
      have:=inv.closed k ok b0 hl e he hb;rw[e3,b4]at this;cases this
    have c4:∀t∈oi.looksAt ops.toArray,(stUp res (fun _=>true) ((ops.take n).take i) st).get t=(stUp res (fun k=>a1.getD k false) (ops.take n) st).get t:=by
     intro t ht;rw[jin];refine jbz _ _ _ _ _ _ rfl fun k ok hk b3=> ?_;obtain⟨e5,b0⟩:=c3 k ok hk;rcases qS k i with hki | hki | hki
     ·rcases a8 k i ok oi hki a7 b0 a6 with hw | hap
      ·rw[c9 k hw];simp[hki]
      ·exact absurd ht ((Oper.apart_spec hap).1 t b3)
     ·subst hki;rw[b4];simp
     ·rcases a8 i k oi ok hki e5 a6 b0 with hw | hap
      ·rw[b6 k hw];simp;omega
      ·exact absurd ht ((Oper.apart_spec hap).2.2 t b3)
    have hq:qStep G ops (stUp res (fun k=>a1.getD k false) (ops.take n) st) oi (res i):=
     jf9 c4 (by rw[(jaa _ _ _ _).1,(jaa _ _ _ _).1]) (by rw[(jaa _ _ _ _).2,(jaa _ _ _ _).2]) (h5 i oi (by rw[b5 i a7];exact a6))
    have c8:i<a1.size:=by rw[inv.size];exact h8
    have k1:cntB (a1.setIfInBounds i true) n=c:=by
     have:=jhy c8 b4 n;rw[zh a7]at this;omega
    have next:∀v w2,Below w.heap.size w w2->RepA w2 (Mo M0 β (stUp res (fun k=>a1.getD k false) (ops.take n) st)) β (stUp res (fun k=>a1.getD k false) (ops.take n) st).toks (res i) v->
      wpAny G.P .any ops.toArray Q' (c+(ops.toArray.size-n)) (a1.setIfInBounds i true) (a.put oi.dst v) w2:=by
     intro v w2 hb hv;have k4:=(hs.ext hb).put (dst:=oi.dst) (hd oi (zk a6)) hv;refine ih _ _ _ k1 (inv.set hi a7) (k4.congr (fun t=> ?_) ?_ ?_)
     ·have c7:∀k,k≠i->(a1.setIfInBounds i true).getD k false=a1.getD k false:=fun k hk=>getD_set_ne false (zH hk);by_cases b7:oi.dst=some t
      ·rw[b7,jby];refine(jej (ops.take n) res _ st i oi (by rw[b5 i a7];exact a6) b7 (by simp[c8]) fun k ok k7 hk e9 b3=> ?_).symm;obtain⟨e5,b0⟩:=c3 k ok hk;rw[c7 k (by omega)]at e9;rcases a8 i k oi ok k7 e5 a6 b0 with hw | hap
       ·rw[b6 k hw]at e9;cases e9
       ·exact(Oper.apart_spec hap).2.1 t b7 b3
      ·rw[jdl b7];refine jbz _ _ _ _ _ _ rfl fun k ok hk b3=> ?_;have:k≠i:=fun e=>by
        subst e;obtain⟨_,b0⟩:=c3 k ok hk;rw[a6]at b0;cases b0;exact b7 b3
       exact(c7 k this).symm
     ·rw[show((stUp res (fun k=>a1.getD k false) (ops.take n) st).put oi.dst (res i)).rows=(stUp res (fun k=>a1.getD k false) (ops.take n) st).rows by unfold St.put;split<;>rfl,(jaa _ _ _ _).1,(jaa _ _ _ _).1]
     ·rw[show((stUp res (fun k=>a1.getD k false) (ops.take n) st).put oi.dst (res i)).toks=(stUp res (fun k=>a1.getD k false) (ops.take n) st).toks by unfold St.put;split<;>rfl,(jaa _ _ _ _).2,(jaa _ _ _ _).2]
    unfold wpOp;rw[c0];dsimp only;unfold qStep at hq;cases hg:oi.guard with
    | none=>
     rw[hg]at hq;rw[zh (by simp[Region.wanted,hg])];exact .inl (jcs hG hs hq next)
    | some p=>
     obtain⟨j,want⟩:=p;rw[hg]at hq;dsimp only at hq;split at hq
     ·rename_i b hy;have b9:=jdu hs hy;by_cases hb:b=want
      ·rw[zh hb]at hq;rw[zh (by simp[Region.wanted,hg,b9,hb])];exact .inl (jcs hG hs hq next)
      ·rw[zl hb]at hq;rw[zl (by simp[Region.wanted,hg,b9,hb])];exact next _ w (Below.refl _ _) (by rw[hq];exact Rep.sc _ rfl)
     ·rename_i hy;have b9:=jea hs hy;rw[zl (by simp[Region.wanted,hg,b9])];exact next _ w (Below.refl _ _) (by rw[hq];exact Rep.sc _ rfl)
     ·exact hq.elim
   have:c+1+(ops.toArray.size-n)=(c+(ops.toArray.size-n))+1:=by omega
   rw[this];exact e8
 refine wp_region_any hG.mixed ?_;have h0:HeadInv .any ops.toArray n (Array.replicate ops.toArray.size false):=
  ⟨by simp,fun j oj _ hl=>(by rw[getD_replicate_false]at hl;cases hl),fun t _ ht=>getD_in (by simpa using ht) (getD_replicate_false _ _)⟩
 have k9:∀k,cntB (Array.replicate ops.toArray.size false) k=k:=fun k=>by
  induction k with
  | zero=>rfl
  | succ k ihk=>simp only[cntB,ihk,getD_replicate_false];simp
 have:=main n (Array.replicate ops.toArray.size false) a _ (k9 n) h0 (h.drew.congr (fun t=>by
  have hf:∀(l:List Oper) (res:Nat->AV) (L:Nat->Bool) (st:St),(∀i,L i=false)->stUp res L l st=st:=by
   intro l
   induction l with
   | nil=>intros;rfl
   | cons o l ih=>
    intro res L st hL;simp only[stUp,hL 0];exact ih _ _ _ fun i=>hL (i+1)
  rw[hf _ _ _ _ fun i=>getD_replicate_false _ _]) (jaa _ _ _ _).1.symm (jaa _ _ _ _).2.symm)
 rwa [show n+(ops.toArray.size-n)=ops.toArray.size by omega]at this
