/- A part of the proof. No further condition. -/
import Derived.Test.YtjcjcpebocbonaaGreatKY6
set_option linter.all false
set_option maxRecDepth 10000000
set_option maxHeartbeats 16000000
namespace Go.Abs
section
open Go.RowKit (Below)
def jbv(o:Oper):Bool:=
 match o.op with
 | .store _ _ _=>o.guard.isNone&&o.dst.isNone
 | _=>false
def jg8(o:Oper):Bool:=
 match o.op with
 | .load _ _=>true
 | _=>false
def jj4(ops:Array Oper)(i:Nat):Nat->List Nat
 | 0=>[]
 | k+1=>if(Region.waitsFor .any ops k i || (jj4 ops i k).any fun m=>Region.waitsFor .any ops k m)=true then k::jj4 ops i k else jj4 ops i k
def jol(o:Oper):Bool:=
 match o.op with
 | .alloc _=>o.guard.isNone&&o.dst.isSome
 | _=>false
def jbf(G:Ctx)(o:Oper):Option (Nat×List IV):=
 match o.op,o.dst,o.guard with
 | .alloc t,some d,none=>match jd1 G t with
  | some z=>some (d,z)
  | none=>none
 | _,_,_=>none
theorem jeq{G:Ctx}{o:Oper}{d:Nat}{z:List IV}(h:jbf G o=some (d,z)):∃t,o.op= .alloc t/\o.dst=some d/\o.guard=none/\jd1 G t=some z/\jol o=true/\jbv o=false/\jg8 o=false:=by
 obtain⟨dst,op,ty,pos,af,gd⟩:=o;unfold jbf at h;dsimp only at h;split at h
 ·split at h
  ·cases h;refine⟨_,rfl,rfl,rfl,‹_›,rfl,rfl,rfl⟩
  ·cases h
 ·cases h
def jp0(ops:Array Oper)(i:Nat):Option Nat:=
 match ops[i]? with
 | some o=>if jol o=true then o.dst else none
 | none=>none
def storeAt(ops:Array Oper)(i:Nat):Bool:=
 match ops[i]? with
 | some o=>jbv o
 | none=>false
def loadAt(ops:Array Oper)(i:Nat):Bool:=
 match ops[i]? with
 | some o=>jg8 o
 | none=>false
def jkt(ops:Array Oper)(h s:Nat):Bool:=
 match ops[h]?,ops[s]? with
 | some oh,some os=>match oh.dst with
  | some t=>(os.looksAt ops).contains t
  | none=>false
 | _,_=>false
def drawS(ops:Array Oper):Bool:=
 (List.range ops.size).all (fun j=>match ops[j]? with
  | some o=>o.after.all fun e=> !Region.binds .any e || decide (e.on<j)
  | none=>true)&&
 (List.range ops.size).all (fun j=>storeAt ops j || (List.range j).all fun i=>storeAt ops i || Region.waitsFor .any ops j i || (match ops[i]?,ops[j]? with
  | some oi,some oj=>oi.apart ops oj
  | _,_=>false))&&
 (List.range ops.size).all (fun i=>(List.range ops.size).all fun s=> !storeAt ops s || !((storeAt ops i&&decide (i<s)) || loadAt ops i || (!storeAt ops i&&jkt ops i s)) || (jj4 ops i ops.size).contains s)&&
 (List.range ops.size).all (fun i=>(List.range ops.size).all fun j=>i==j || (jp0 ops i).isNone || jp0 ops i !=jp0 ops j)
theorem drawS_spec{ops:Array Oper}(h:drawS ops=true):
  (∀(j:Nat) oj,ops[j]? =some oj->∀e∈oj.after,Region.binds .any e=true->e.on<j)/\
  (∀i j oi oj,i<j->ops[i]? =some oi->ops[j]? =some oj->jbv oi=false->jbv oj=false->Region.waitsFor .any ops j i=true\/oi.apart ops oj=true)/\
  (∀i s oi os,ops[i]? =some oi->ops[s]? =some os->jbv os=true->((jbv oi=true/\i<s)\/jg8 oi=true\/(jbv oi=false/\∃t,oi.dst=some t/\t∈os.looksAt ops))->s∈jj4 ops i ops.size)/\
  (∀(i j:Nat) oi oj d,ops[i]? =some oi->ops[j]? =some oj->jol oi=true->jol oj=true->oi.dst=some d->oj.dst=some d->i=j):=by
 simp only[drawS,zn]at h;obtain⟨⟨⟨h1,h2⟩,h3⟩,h4⟩:=h;have sz:∀(j:Nat) o,ops[j]? =some o->j<ops.size:=fun j o h=>(zm.1 h).1;refine⟨fun j oj hj e he hb=> ?_,fun i j oi oj a6 hi hj si sj=> ?_,fun i s oi os hi hs a1 hc=> ?_,fun i j oi oj d hi hj ai aj di dj=> ?_⟩
 case refine_4=>
  have:=List.all_eq_true.1 (List.all_eq_true.1 h4 i (qw.2 (sz i oi hi))) j (qw.2 (sz j oj hj));simp only[jp0,hi,hj,ai,aj,qD,di,dj]at this
  simpa using this
 ·have:=List.all_eq_true.1 h1 j (qw.2 (sz j oj hj));rw[hj]at this;have:=jR.1 this e he
  simpa [hb]using this
 ·have:=List.all_eq_true.1 h2 j (qw.2 (sz j oj hj));simp only[storeAt,hj,sj,ym]at this;have:=List.all_eq_true.1 this i (qw.2 a6);simp only[hi,si,ym,qp]at this;exact this
 ·have:=List.all_eq_true.1 (List.all_eq_true.1 h3 i (qw.2 (sz i oi hi))) s (qw.2 (sz s os hs));have a7:((storeAt ops i&&decide (i<s)) || loadAt ops i || (!storeAt ops i&&jkt ops i s))=true:=by
   simp only[storeAt,loadAt,jkt,hi,hs];rcases hc with ⟨h4,h5⟩ | h4 | ⟨h4,t,h5,h6⟩
   ·simp[h4,h5]
   ·simp[h4]
   ·simp[h4,h5,h6]
  rw[a7]at this;simp only[storeAt,hs,a1,j5,ym]at this
  simpa using this
section
variable{G:Ctx}{N:Nat}{w0:Base}{w:World}{M0:Nat->Nat->Prop}{β:Nat->Option Nat}{st st':St}{a:Act}{ops:List Oper}
theorem je4{ops:Array Oper}{a1:Array Bool}{i:Nat}(a6:∀j oj,ops[j]? =some oj->a1.getD j false=true->∀e∈oj.after,Region.binds .any e=true->a1.getD e.on false=true):
  ∀k j,j∈jj4 ops i k->a1.getD j false=true->a1.getD i false=true
 | 0,j,hj,_=>by cases hj
 | k+1,j,hj,hl=>by
  unfold jj4 at hj;split at hj
  ·rename_i hc;rcases zL.1 hj with rfl | hj
   ·rw[qp]at hc;rcases hc with hc | hc
    ·obtain⟨oj,a8,e,he,hb,a7⟩:=Region.waitsFor_spec hc;rw[<-a7];exact a6 _ oj a8 hl e he hb
    ·obtain⟨m,hm,hc⟩:=jk.1 hc;obtain⟨oj,a8,e,he,hb,a7⟩:=Region.waitsFor_spec hc;exact je4 a6 _ m hm (by rw[<-a7];exact a6 _ oj a8 hl e he hb)
   ·exact je4 a6 k j hj hl
  ·exact je4 a6 k j hj hl
theorem jfq{ops:Array Oper}{a1:Array Bool}{i:Nat}(b1:∀j oj,ops[j]? =some oj->a1.getD j false=true->∀e∈oj.after,Region.binds .any e=true->a1.getD e.on false=true)
  {j:Nat} {oj:Oper} (a8:ops[j]? =some oj) (a7:∀e∈oj.after,Region.binds .any e=true->a1.getD e.on false=true):∀k,j∈jj4 ops i k->a1.getD i false=true
 | 0,hj=>by cases hj
 | k+1,hj=>by
  unfold jj4 at hj;split at hj
  ·rename_i hc;rcases zL.1 hj with rfl | hj
   ·rw[qp]at hc;rcases hc with hc | hc
    ·obtain⟨b2,a6,e,he,hb,b0⟩:=Region.waitsFor_spec hc;rw[a8]at a6;cases a6;rw[<-b0];exact a7 e he hb
    ·obtain⟨m,hm,hc⟩:=jk.1 hc;obtain⟨b2,a6,e,he,hb,b0⟩:=Region.waitsFor_spec hc;rw[a8]at a6;cases a6;exact je4 b1 _ m hm (by rw[<-b0];exact a7 e he hb)
   ·exact jfq b1 a8 a7 k hj
  ·exact jfq b1 a8 a7 k hj
def jbe(G:Ctx)(ops:List Oper)(K:St->Prop):List Oper->St->Prop
 | [],st=>K st
 | o::r,st=>if jbv o=true then jbe G ops K r st else match jbf G o with
  | some (d,z)=>jbe G ops K r (st.put o.dst (.loc d z.length 0 0))
  | none=>match o.guard with
   | none=>aq G st o fun av=>jbe G ops K r (st.put o.dst av)
   | some (j,want)=>match jcv st ops j with
    | some (some b)=>(b=want->aq G st o fun av=>jbe G ops K r (st.put o.dst av))/\(b≠want->jbe G ops K r (st.put o.dst jcc))
    | some none=>jbe G ops K r (st.put o.dst jcc)
    | none=>False
def hStep(G:Ctx)(ops:List Oper)(st:St)(o:Oper)(av:AV):Prop:=
 match jbf G o with
 | some (d,z)=>av= .loc d z.length 0 0
 | none=>qStep G ops st o av
def jbc(G:Ctx):List Oper->List (Nat×Nat×List (List IV))
 | []=>[]
 | o::r=>match jbf G o with
  | some (d,z)=>(d,z.length,[z])::jbc G r
  | none=>jbc G r
def freshAll(G:Ctx):List Oper->St->St
 | [],st=>st
 | o::r,st=>match jbf G o with
  | some (d,_)=>freshAll G r (st.fresh d)
  | none=>freshAll G r st
def aStQ(G:Ctx)(K:List (Nat×Nat×List (List IV))->Prop)(st:St)(t:TypeId)(p x:Operand):Prop:=
 match ivOf (evO st x),evO st p with
 | some y,.loc d s i j=>match look st.rows d with
  | some (s',es)=>match es[i]? with
   | some c=>s'=s/\(G.ti t).size≠0/\(cellsOf y).length=(G.ti t).size/\(cellsOf y).all IV.one=true/\j+(G.ti t).size<=c.length/\
     K (setRow st.rows d s (es.set i (jbn c j (cellsOf y))))
   | none=>False
  | none=>False
 | _,_=>False
def jee(G:Ctx)(K:St->Prop):List Oper->St->Prop
 | [],st=>K st
 | o::r,st=>if jbv o=true then(match o.op with
   | .store t p x=>aStQ G (fun rows=>jee G K r {st with rows:=rows}) st t p x
   | _=>False)else jee G K r st
def StepR(G:Ctx)(st:St)(o:Oper)(rows:List (Nat×Nat×List (List IV))):Prop:=
 ∃t p x,o.op= .store t p x/\aStQ G (· =rows) st t p x
theorem aStQ_of{K:List (Nat×Nat×List (List IV))->Prop}{t:TypeId}{p x:Operand}(h:aStQ G K st t p x):∃rows,K rows/\aStQ G (· =rows) st t p x:=by
 unfold aStQ at h⊢;split at h
 ·split at h
  ·split at h
   ·obtain⟨h1,h2,h3,h4,h5,h6⟩:=h;exact⟨_,h6,h1,h2,h3,h4,h5,rfl⟩
   ·exact h.elim
  ·exact h.elim
 ·exact h.elim
def headL(l:List Oper)(k:Nat):Bool:=
 match l[k]? with
 | some o=> !jbv o
 | none=>true
theorem jjt{K:St->Prop}:∀(l:List Oper) (st:St),jbe G ops K l st->
  ∃res:Nat->AV,(∀i o,l[i]? =some o->jbv o=false->hStep G ops (stUp res (headL l) (l.take i) st) o (res i))/\K (stUp res (headL l) l st)
 | [],st,h=>⟨fun _=> .und,fun i o hi=>by simp at hi,h⟩
 | o::l,st,h=>by
  have a6:(fun i=>headL (o::l) (i+1))=headL l:=by funext i;simp[headL]
  unfold jbe at h;split at h
  ·rename_i hs;obtain⟨res,h3,h4⟩:=jjt l _ h;have h0:headL (o::l) 0=false:=by simp[headL,hs]
   refine⟨fun i=>match i with | 0=> .und | i+1=>res i,fun i o' hi a1=> ?_,?_⟩
   ·cases i with
    | zero=>simp at hi;subst hi;rw[hs]at a1;cases a1
    | succ i=>
     have:=h3 i o' (by simpa using hi) a1
     simpa [stUp,h0,a6]using this
   ·simpa [stUp,h0,a6]using h4
  ·rename_i hs;have a8:jbv o=false:=by simpa using hs
   have h0:headL (o::l) 0=true:=by simp[headL,a8]
   have key:∃av,hStep G ops st o av/\jbe G ops K l (st.put o.dst av):=by
    unfold hStep;cases a7:jbf G o with
    | some p=>
     obtain⟨d,z⟩:=p;rw[a7]at h;exact⟨_,rfl,h⟩
    | none=>
    rw[a7]at h;dsimp only at h⊢;unfold qStep;cases hg:o.guard with
    | none=>
     rw[hg]at h;obtain⟨av,h1,h2⟩:=jfw h;exact⟨av,h1,h2⟩
    | some p=>
     obtain⟨j,want⟩:=p;rw[hg]at h;dsimp only at h⊢;revert h;generalize jcv st ops j=y;intro h;cases y with
     | none=>exact h.elim
     | some y=>cases y with
      | none=>exact⟨jcc,rfl,h⟩
      | some b=>
       dsimp only at h⊢;by_cases hb:b=want
       ·obtain⟨av,h1,h2⟩:=jfw (h.1 hb);exact⟨av,by rw[ze hb];exact h1,h2⟩
       ·exact⟨jcc,by rw[zl hb],h.2 hb⟩
   obtain⟨av,h1,h2⟩:=key;obtain⟨res,h3,h4⟩:=jjt l _ h2;refine⟨fun i=>match i with | 0=>av | i+1=>res i,fun i o' hi a1=> ?_,?_⟩
   ·cases i with
    | zero=>simp at hi;subst hi;exact h1
    | succ i=>
     have:=h3 i o' (by simpa using hi) a1
     simpa [stUp,h0,a6]using this
   ·simpa [stUp,h0,a6]using h4
def cntS(l:List Oper):Nat->Nat
 | 0=>0
 | n+1=>cntS l n+(match l[n]? with | some o=>if jbv o=true then 1 else 0 | none=>0)
theorem jqp{l:List Oper}:∀{n m:Nat},n<=m->cntS l n<=cntS l m
 | n,0,h=>by rw[show n=0 by omega];exact zu _
 | n,m+1,h=>by
  by_cases e:n=m+1
  ·subst e;exact zu _
  ·exact qI (jqp (by omega:n<=m)) (by simp only[cntS];omega)
theorem jrg{l:List Oper}{i s:Nat}{o:Oper}(h:l[i]? =some o)(ho:jbv o=true)(a1:i<s):cntS l i<cntS l s:=by
 have h1:cntS l (i+1)=cntS l i+1:=by simp[cntS,h,ho]
 have h2:=jqp (l:=l) (by omega:i+1<=s);omega
theorem jow{l:List Oper}{m:Nat}:∀{i:Nat},m<cntS l i->∃s o,s<i/\l[s]? =some o/\jbv o=true/\cntS l s=m
 | 0,h=>by simp[cntS]at h
 | i+1,h=>by
  by_cases h1:m<cntS l i
  ·obtain⟨s,o,h2,h3⟩:=jow h1;exact⟨s,o,by omega,h3⟩
  ·simp only[cntS]at h;split at h
   ·rename_i o ho;split at h
    ·rename_i hs;exact⟨i,o,by omega,ho,hs,by omega⟩
    ·omega
   ·omega
theorem jha(o:Oper)(l:List Oper):∀n,cntS (o::l) (n+1)=(if jbv o=true then 1 else 0)+cntS l n
 | 0=>by simp[cntS]
 | n+1=>by
  have:=jha o l n;simp only[cntS]at this⊢;rw[List.getElem?_cons_succ];omega
theorem jic{K:St->Prop}:∀(l:List Oper) (st:St),jee G K l st->∃rk:Nat->List (Nat×Nat×List (List IV)),rk 0=st.rows/\
  (∀i o,l[i]? =some o->jbv o=true->StepR G {st with rows:=rk (cntS l i)} o (rk (cntS l i+1)))/\K {st with rows:=rk (cntS l l.length)}
 | [],st,h=>⟨fun _=>st.rows,rfl,fun i o hi=>by simp at hi,h⟩
 | o::l,st,h=>by
  unfold jee at h;split at h
  ·rename_i hs;split at h
   ·rename_i t p x ho;obtain⟨rows,h1,h2⟩:=aStQ_of h;obtain⟨rk,h3,h4,h5⟩:=jic l _ h1;refine⟨fun k=>match k with | 0=>st.rows | k+1=>rk k,rfl,fun i o' hi a1=> ?_,?_⟩
    ·cases i with
     | zero=>
      simp at hi;subst hi;refine⟨t,p,x,ho,?_⟩;show aStQ G (· =rk 0) _ t p x;rw[h3];exact h2
     | succ i=>
      have h6:=h4 i o' (by simpa using hi) a1;rw[jha,ze hs,wy 1];exact h6
    ·rw[List.length_cons,jha,ze hs,wy 1];exact h5
   ·exact h.elim
  ·rename_i hs;obtain⟨rk,h3,h4,h5⟩:=jic l _ h;refine⟨rk,h3,fun i o' hi a1=> ?_,?_⟩
   ·cases i with
    | zero=>simp at hi;subst hi;exact absurd a1 hs
    | succ i=>
     have h6:=h4 i o' (by simpa using hi) a1;rw[jha,zl hs,qi];exact h6
   ·rw[List.length_cons,jha,zl hs,qi];exact h5
theorem jmu:∀(l:List Oper) (res:Nat->AV) (L:Nat->Bool) (j:Nat) (st:St),stUp res L (l.take j) st=stUp res (fun i=>decide (i<j)&&L i) l st
 | [],_,_,j,st=>by simp[stUp]
 | o::l,res,L,0,st=>by
  have:∀(l:List Oper) (res:Nat->AV) (L:Nat->Bool) (st:St),stUp res (fun i=>decide (i<0)&&L i) l st=st:=by
   intro l
   induction l with
   | nil=>intros;rfl
   | cons o l ih=>intro res L st;simp only[stUp,jv,decide_false,qZ,yc,qt];simpa using ih (fun i=>res (i+1)) (fun i=>L (i+1)) st
  rw[this];rfl
 | o::l,res,L,j+1,st=>by
  simp only[List.take_succ_cons,stUp];rw[jmu l];simp
theorem jfn(r:List (Nat×Nat×List (List IV)))(x:Operand):evO {st with rows:=r} x=evO st x:=by cases x<;>rfl
theorem jk7(r:List (Nat×Nat×List (List IV))):∀ps:List (Nat×Operand),jes {st with rows:=r} ps=jes st ps
 | []=>rfl
 | (i,x)::ps=>by simp only[jes,jfn,jk7 r ps]
theorem jql(r:List (Nat×Nat×List (List IV))):evO {st with rows:=r}=evO st:=funext (jfn r)
theorem mapOf_rows(r:List (Nat×Nat×List (List IV)))(m:AV):mapOf {st with rows:=r} m=mapOf st m:=by
 cases m<;>rfl
theorem yv_rows(r:List (Nat×Nat×List (List IV))){o:Oper}(h:jg8 o=false):yv G {st with rows:=r} o=yv G st o:=by
 unfold yv;unfold jg8 at h;split at h
 ·cases h
 ·rename_i a1;cases ho:o.op<;>first | (exact absurd ho (a1 _ _)) | simp only[jfn,jql,jk7,mapOf_rows]
theorem yLoad_mono{r:List (Nat×Nat×List (List IV))}(hr:∀d x,look st.rows d=some x->look r d=some x){t:TypeId}{p av:AV}(h:yLoad G st t p=some av):yLoad G {st with rows:=r} t p=some av:=by
 unfold yLoad at h⊢;split at h
 ·cases h
 ·rename_i h0;rw[zl h0];split at h
  ·exact h
  ·split at h
   ·rename_i hl;dsimp only;rw[hr _ _ hl];exact h
   ·cases h
  ·cases h
theorem yv_mono{r:List (Nat×Nat×List (List IV))}(hr:∀d x,look st.rows d=some x->look r d=some x){o:Oper}{av:AV}(h:yv G st o=some av):yv G {st with rows:=r} o=some av:=by
 cases hl:jg8 o with
 | false=>rw[yv_rows r hl];exact h
 | true=>
  unfold jg8 at hl;split at hl
  ·rename_i t p ho;unfold yv at h⊢;rw[ho]at h⊢;dsimp only at h⊢;rw[jfn];exact yLoad_mono hr h
  ·cases hl
theorem jmy{r:List (Nat×Nat×List (List IV))}{o:Oper}{av:AV}(h:jg8 o=false\/∀d x,look st.rows d=some x->look r d=some x)(hq:qStep G ops st o av):qStep G ops {st with rows:=r} o av:=by
 have hv:∀{av},qVal G st o av->qVal G {st with rows:=r} o av:=fun hq=>by
  rcases hq with hy | ⟨c,f,g,caps,xs,r',ho,hc,hf,hxs,hg⟩ | ⟨c,ho,hc,hq⟩
  ·rcases h with h | h
   ·exact .inl (by rw[yv_rows r h];exact hy)
   ·exact .inl (yv_mono h hy)
  ·exact .inr (.inl ⟨c,f,g,caps,xs,r',ho,hc,by rw[jfn];exact hf,by rw[jql];exact hxs,hg⟩)
  ·exact .inr (.inr ⟨c,ho,hc,by unfold appP at hq⊢;simp only[jfn];exact hq⟩)
 unfold qStep at hq⊢;split
 ·rename_i hg;rw[hg]at hq;exact hv hq
 ·rename_i j want hg;rw[hg]at hq;dsimp only at hq;have hy:jcv {st with rows:=r} ops j=jcv st ops j:=rfl;rw[hy];revert hq;generalize jcv st ops j=y;intro hq;cases y with
  | none=>exact hq
  | some y=>cases y with
   | none=>exact hq
   | some b=>
    dsimp only at hq⊢;by_cases hb:b=want
    ·rw[ze hb]at hq⊢;exact hv hq
    ·rw[zl hb]at hq⊢;exact hq
theorem Sim.congrL(h:Sim N w0 M0 β st a w)(hg:∀t,st.get t=st'.get t)(hr:∀d,look st.rows d=look st'.rows d)(ht:∀d,look st.toks d=look st'.toks d):Sim N w0 M0 β st' a w:=by
 have hM:Mo M0 β st'=Mo M0 β st:=by
  funext b o;simp only[Mo,hr,ht]
 refine⟨h.size,h.defers,h.below,h.m0,fun t=> ?_,fun d s es hd=> ?_,fun d s n hd=> ?_,fun d d' b h1 h2=> ?_,fun d hd=> ?_,fun k hN a1 hk=>h.nam k hN a1 (by rw[hr];exact hk),h.np,h.perm⟩
 ·rw[hM,<-hg];exact(h.fr t).move (Kept.refl w _) (fun _ _=>rfl) (fun d s n _ hl=>by rw[ht];exact hl) (fun _ _ _ _ _=>rfl) (Shp.refl _)
 ·rw[hM];exact h.rows d s es (by rw[hr];exact hd)
 ·exact h.toks d s n (by rw[ht];exact hd)
 ·rw[<-hr,<-ht]at h1 h2;exact h.inj d d' b h1 h2
 ·rw[<-ht];rw[<-hr]at hd;exact h.excl d hd
def jj5(G:Ctx)(K:St->Prop)(ops:List Oper)(st:St):Prop:=jee G K ops {st with rows:=jbc G ops++st.rows}
theorem jbr{α:Type}(l:List (Nat×α))(q:Nat->Bool)(d:Nat):look (l.filter fun p=>q p.1) d=if q d=true then look l d else none:=by
 induction l with
 | nil=>simp[look]
 | cons p l ih=>
  obtain⟨j,v⟩:=p;by_cases hj:q j=true
  ·rw[jS (by simpa using hj)];by_cases hd:d=j
   ·subst hd;simp only[look,qD];rw[ze hj]
   ·simp only[look,hd,qt,ih]
  ·rw[jT (by simpa using hj),ih];by_cases hd:d=j
   ·subst hd;rw[zl hj,zl hj]
   ·simp only[look,hd,qt]
theorem look_app{α:Type}(l l':List (Nat×α))(d:Nat):look (l++l') d=match look l d with | some x=>some x | none=>look l' d:=by
 induction l with
 | nil=>rfl
 | cons p l ih=>
  obtain⟨j,v⟩:=p;by_cases hd:d=j
  ·subst hd;simp[look]
  ·simp only[List.cons_append,look,hd,qt,ih]
def upB(G:Ctx)(ops:List Oper)(a1:Array Bool)(d:Nat):Bool:=(List.range ops.length).all fun i=>match ops[i]? with
 | some o=>(match jbf G o with
  | some (k,_)=>k !=d || a1.getD i false
  | none=>true)
 | none=>true
theorem upB_iff{a1:Array Bool}{d:Nat}:upB G ops a1 d=true↔∀(i:Nat) o z,ops[i]? =some o->jbf G o=some (d,z)->a1.getD i false=true:=by
 unfold upB;rw[List.all_eq_true];constructor
 ·intro h i o z hi ho;have:=h i (qw.2 (zr.1 hi).1);rw[hi]at this;simp only[ho]at this
  simpa using this
 ·intro h i hi;rw[qw]at hi;rw[za hi];dsimp only;cases ho:jbf G ops[i]with
  | none=>rfl
  | some p=>
   obtain⟨k,z⟩:=p;dsimp only;by_cases hk:k=d
   ·subst hk;rw[h i _ z (za hi) ho];simp
   ·simp[hk]
theorem ji5{d:Nat}:∀{l:List Oper},(∀o∈l,∀z,jbf G o≠some (d,z))->look (jbc G l) d=none
 | [],_=>rfl
 | o::l,h=>by
  have ih:=ji5 (l:=l) fun o' a1=>h o' (zV _ a1);unfold jbc;split
  ·rename_i k z ho;have:d≠k:=fun e=>h o (zQ ..) z (by rw[ho,e]);simp only[look,this,qt];exact ih
  ·exact ih
theorem jli{d:Nat}{z:List IV}:∀{l:List Oper} {i:Nat} {o:Oper},(∀(i j:Nat) oi oj zi zj,l[i]? =some oi->l[j]? =some oj->jbf G oi=some (d,zi)->jbf G oj=some (d,zj)->i=j)->
  l[i]? =some o->jbf G o=some (d,z)->look (jbc G l) d=some (z.length,[z])
 | [],_,_,_,hi,_=>by simp at hi
 | o'::l,0,o,hu,hi,ho=>by
  simp at hi;subst hi;unfold jbc;rw[ho];simp[look]
 | o'::l,i+1,o,hu,hi,ho=>by
  have ih:=jli (l:=l) (i:=i) (o:=o) (z:=z) (fun i j oi oj zi zj h1 h2 h3 h4=>by
   have:=hu (i+1) (j+1) oi oj zi zj (by simpa using h1) (by simpa using h2) h3 h4;omega) (by simpa using hi) ho
  unfold jbc;split
  ·rename_i k z' a1;have:d≠k:=fun e=>by
    subst e;have:=hu 0 (i+1) o' o z' z rfl hi a1 ho;omega
   simp only[look,this,qt];exact ih
  ·exact ih
theorem St.Clean.fresh{d k:Nat}(h:st.Clean d):(st.fresh k).Clean d:=by
 refine⟨fun t hr=> ?_,?_,?_⟩
 ·rw[jlt]at hr;exact h.refs t (je0 hr).1
 ·by_cases e:d=k
  ·subst e;simp[St.fresh,jab]
  ·simp only[St.fresh,jaa _ e];exact h.rows
 ·by_cases e:d=k
  ·subst e;simp[St.fresh,jab]
  ·simp only[St.fresh,jaa _ e];exact h.toks
theorem jfv{G:Ctx}{d:Nat}:∀(l:List Oper) (st:St),(st.Clean d\/∃o∈l,∃z,jbf G o=some (d,z))->(freshAll G l st).Clean d
 | [],st,h=>by
  rcases h with h | ⟨o,ho,_⟩
  ·exact h
  ·cases ho
 | o::l,st,h=>by
  unfold freshAll;split
  ·rename_i k z ho;refine jfv l _ ?_;rcases h with h | ⟨o',ho',z',hz'⟩
   ·exact .inl h.fresh
   ·rcases zL.1 ho' with rfl | ho'
    ·rw[ho]at hz';cases hz';exact .inl (jgo _ _)
    ·exact .inr ⟨o',ho',z',hz'⟩
  ·rename_i ho;refine jfv l _ ?_;rcases h with h | ⟨o',ho',z',hz'⟩
   ·exact .inl h
   ·rcases zL.1 ho' with rfl | ho'
    ·rw[ho]at hz';cases hz'
    ·exact .inr ⟨o',ho',z',hz'⟩
theorem Sim.unref(h:Sim N w0 M0 β st a w){d:Nat}(a7:d<N)(hc:st.Clean d):Sim N w0 M0 (upd β d none) st a w:=by
 have hM:∀b o,Mo M0 (upd β d none) st b o->Mo M0 β st b o:=by
  rintro b o (hm | ⟨k,s,es,hk,hb⟩ | ⟨k,s,n,hk,hb⟩)
  ·exact .inl hm
  ·by_cases e:k=d
   ·subst e;rw[jau]at hb;cases hb
   ·rw[jav _ _ e]at hb;exact .inr (.inl ⟨k,s,es,hk,hb⟩)
  ·by_cases e:k=d
   ·subst e;rw[jau]at hb;cases hb.1
   ·rw[jav _ _ e]at hb;exact .inr (.inr ⟨k,s,n,hk,hb⟩)
 refine⟨h.size,h.defers,h.below,h.m0,fun t=> ?_,fun k s es hk=> ?_,fun k s n hk b hb=> ?_,fun k k' b h1 h2 hb a1=> ?_,h.excl,fun k hN a8 hk=> ?_,h.np,jkk h.perm (.inl (qv a7 h.np))⟩
 case refine_5=>
  have e:k≠d:=fun e=>by subst e;rw[hc.rows]at hk;cases hk
  rw[jav _ _ e];exact h.nam k hN a8 hk
 ·exact(h.fr t).move (Kept.less w hM) (fun k hr=>jav _ _ fun e=>hc.refs t (e▸hr)) (fun _ _ _ _ hl=>hl) (fun _ _ _ _ _=>rfl) (Shp.refl _)
 ·have e:k≠d:=fun e=>by subst e;rw[hc.rows]at hk;cases hk
  obtain⟨b,h1,h2,h3⟩:=h.rows k s es hk;exact⟨b,by rw[jav _ _ e];exact h1,h2,h3.move (Kept.less w hM) rfl⟩
 ·have e:k≠d:=fun e=>by subst e;rw[hc.toks]at hk;cases hk
  rw[jav _ _ e]at hb;exact h.toks k s n hk b hb
 ·have a6:∀k,((look st.rows k).isSome\/(look st.toks k).isSome)->k≠d:=fun k hk e=>by
   subst e;rw[hc.rows,hc.toks]at hk;simp at hk
  rw[jav _ _ (a6 k h1)]at hb;rw[jav _ _ (a6 k' h2)]at a1;exact h.inj k k' b h1 h2 hb a1
theorem Sim.freshAll:∀(l:List Oper) {st:St} {β:Nat->Option Nat},(∀o∈l,∀d,o.dst=some d->d<N)->Sim N w0 M0 β st a w->∃β',Sim N w0 M0 β' (freshAll G l st) a w/\(∀d,β d=none->β' d=none)/\∀o∈l,∀d z,jbf G o=some (d,z)->β' d=none
 | [],st,β,_,h=>⟨β,h,fun _ h=>h,fun o ho=>by cases ho⟩
 | o::l,st,β,hds,h=>by
  unfold Abs.freshAll;split
  ·rename_i k z ho;obtain⟨β',h1,h2,h3⟩:=Sim.freshAll l (fun o' a1=>hds o' (zV _ a1)) ((h.fresh k).unref (by
    obtain⟨_,_,h9,_⟩:=jeq ho;exact hds o (zQ ..) k h9) (jgo st k))
   refine⟨β',h1,fun d hd=>h2 d ?_,fun o' a1 d z' a6=> ?_⟩
   ·by_cases e:d=k
    ·subst e;exact jau _ _ _
    ·rw[jav _ _ e];exact hd
   ·rcases zL.1 a1 with rfl | a1
    ·rw[ho]at a6;cases a6;exact h2 _ (jau _ _ _)
    ·exact h3 o' a1 d z' a6
  ·rename_i ho;obtain⟨β',h1,h2,h3⟩:=Sim.freshAll l (fun o' a1=>hds o' (zV _ a1)) h;refine⟨β',h1,h2,fun o' a1 d z' a6=> ?_⟩;rcases zL.1 a1 with rfl | a1
   ·rw[ho]at a6;cases a6
   ·exact h3 o' a1 d z' a6
theorem RepA.moveB{w':World}{M M':Nat->Nat->Prop}{β':Nat->Option Nat}{toks:List (Nat×Nat×Nat)}{av:AV}{v:Value}(h:RepA w M β toks av v)(hk:Kept w M w' M')(hβ:∀d b,β d=some b->β' d=some b)
  (hh:∀d b,(look toks d).isSome->β d=some b->w'.heap[b]? =w.heap[b]?) (hs:Shp w w'):RepA w' M' β' toks av v:=by
 cases av with
 | im x=>exact Rep.kept (w:=w) h hk
 | und=>trivial
 | sx es=>exact⟨Rep.kept h.1 hk,h.2⟩
 | vec d e s es=>
  refine⟨Rep.kept h.1 hk,h.2.1,fun hl=> ?_⟩;rcases h.2.2 hl with hc | ⟨b,cap,cur,h1,h2,h3,h4⟩
  ·exact .inl hc
  ·exact .inr ⟨b,cap,cur,hβ d b h1,h2,by rw[hh d b (by simp[hl]) h1];exact h3,h4⟩
 | osl d s i n=>
  obtain⟨ad,c,h1,h2,h3⟩:=h;exact⟨ad,c,h1,h2,fun hn=>let⟨b,h4,h5⟩:=h3 hn;⟨b,hβ d b h4,h5⟩⟩
 | gsl d e s n=>
  obtain⟨b,cap,cur,h1,h2,h3,h4,h5,h6⟩:=h;obtain⟨a1,h7,h8⟩:=hs b cur e h3;exact⟨b,cap,a1,hβ d b h1,h2,h7,h4,h5,by rw[h8];exact h6⟩
 | loc d s i j=>
  obtain⟨b,h1,h2⟩:=h;exact⟨b,hβ d b h1,h2⟩
 | mpo d sc kvs=>
  obtain⟨b,h1,h2,h3⟩:=h;exact⟨b,hβ d b h1,h2,fun hl=>by rw[hh d b (by simp[hl]) h1];exact h3 hl⟩
theorem Sim.newRowB(h:Sim N w0 M0 β st a w){d s:Nat}{es:List (List IV)}{cells:Array Value}{T:TypeId}(b7:d<N)(b8:β d=none)(c0:look st.rows d=none)(b1:look st.toks d=none)(b6:∀e∈es,e.length=s)
  (hr:∀(i:Nat) e (j:Nat) x,es[i]? =some e->e[j]? =some x->x.one=true/\∃u,cells[i*s+j]? =some u/\Rep w (Mo M0 β st) x u):
  Sim N w0 M0 (upd β d (some w.heap.size)) {st with rows:=(d,s,es)::st.rows} a (w.alloc (.cells cells T)):=by
 have hM:∀b o,Mo M0 (upd β d (some w.heap.size)) {st with rows:=(d,s,es)::st.rows} b o->b≠w.heap.size->Mo M0 β st b o:=by
  intro b o hm hb;rcases hm with hm | ⟨k,s',es',hk,hkb⟩ | ⟨k,s',n,hk,hkb⟩
  ·exact .inl hm
  ·by_cases e:k=d
   ·subst e;rw[jau]at hkb;cases hkb;exact absurd rfl hb
   ·rw[jav _ _ e]at hkb;exact .inr (.inl ⟨k,s',es',by simpa [look,e]using hk,hkb⟩)
  ·by_cases e:k=d
   ·subst e;exact absurd hk (by simp[b1])
   ·rw[jav _ _ e]at hkb;exact .inr (.inr ⟨k,s',n,hk,hkb⟩)
 have hk:Kept w (Mo M0 β st) (w.alloc (.cells cells T)) (Mo M0 (upd β d (some w.heap.size)) {st with rows:=(d,s,es)::st.rows}):=by
  refine⟨fun b o u a8 hn=> ?_,fun b es c hb hn=> ?_,Shp.old fun b hb=>heap_alloc_old w _ hb⟩
  ·have hb:b<w.heap.size:=World.block_lt_of_cell? (a:=⟨b,o,none⟩) w a8;exact⟨by rw[World.cell?_alloc_lt w _ _ hb];exact a8,fun hm=>hn (hM b o hm (by omega))⟩
  ·have b4:=(zm.1 hb).1;exact⟨by rw[heap_alloc_old w _ b4];exact hb,fun hm=>hn (hM b 0 hm (by omega))⟩
 have hold:∀b,b<w.heap.size->(w.alloc (.cells cells T)).heap[b]? =w.heap[b]? :=fun b hb=>heap_alloc_old w _ hb;have a7:∀k s es b,look st.rows k=some (s,es)->β k=some b->b<w.heap.size:=fun k s es b hk hb=>by
  obtain⟨b',a6,_,cur,T',h1,_⟩:=h.rows k s es hk;rw[hb]at a6;cases a6;exact(zm.1 h1).1
 refine⟨h.size,h.defers,h.below.alloc _,h.m0,fun t=> ?_,fun k s' es' a1=> ?_,fun k s' n a1 b hb=> ?_,fun k k' b h1 h2 hb a6=> ?_,fun k a1=> ?_,fun k hN b9 a1=> ?_,h.np,jkk h.perm (.inl (qv b7 h.np))⟩
 case refine_6=>
  have e:k≠d:=by omega
  rw[jav _ _ e];exact h.nam k hN b9 (by simpa [look,e]using a1)
 ·refine(h.fr t).moveB hk (fun k b hb=> ?_) (fun k b hl hb=> ?_) (Shp.old hold)
  ·have e:k≠d:=fun e=>by subst e;rw[b8]at hb;cases hb
   rw[jav _ _ e];exact hb
  ·obtain⟨⟨s',n⟩,b5⟩:=zD.1 hl;exact hold b (h.toks k s' n b5 b hb).2
 ·by_cases e:k=d
  ·subst e;simp only[look,qD,qa,q7]at a1;obtain⟨rfl,rfl⟩:=a1;refine⟨w.heap.size,jau _ _ _,fun hp=>absurd (qv (w0.lt _ hp) h.below.size) (q8 _),cells,T,heap_alloc_new w _,b6,fun i e j x hi hj=> ?_⟩;obtain⟨h1,u,h2,h3⟩:=hr i e j x hi hj;exact⟨h1,u,h2,h3.kept hk⟩
  ·have b2:look st.rows k=some (s',es'):=by simpa [look,e]using a1
   obtain⟨b,h1,h2,h3⟩:=h.rows k s' es' b2;exact⟨b,by rw[jav _ _ e];exact h1,h2,h3.move hk (hold b (a7 k s' es' b b2 h1))⟩
 ·have e:k≠d:=fun e=>by subst e;rw[b1]at a1;cases a1
  rw[jav _ _ e]at hb;obtain⟨h1,h2⟩:=h.toks k s' n a1 b hb;exact⟨h1,by simp;omega⟩
 ·have b0:∀k,((look ((d,s,es)::st.rows) k).isSome\/(look st.toks k).isSome)->k≠d->((look st.rows k).isSome\/(look st.toks k).isSome):=fun k hk b3=>by
   simpa [look,b3]using hk
  have lt:∀k b,((look st.rows k).isSome\/(look st.toks k).isSome)->β k=some b->b<w.heap.size:=fun k b hk hb=>by
   rcases hk with hk | hk
   ·obtain⟨⟨s',es'⟩,hl⟩:=zD.1 hk;exact a7 k s' es' b hl hb
   ·obtain⟨⟨s',n⟩,hl⟩:=zD.1 hk;exact(h.toks k s' n hl b hb).2
  by_cases e:k=d<;>by_cases e':k'=d
  ·omega
  ·subst e;rw[jau]at hb;rw[jav _ _ e']at a6;cases hb;exact absurd (lt k' _ (b0 k' h2 e') a6) (by omega)
  ·subst e';rw[jau]at a6;rw[jav _ _ e]at hb;cases a6;exact absurd (lt k _ (b0 k h1 e) hb) (by omega)
  ·rw[jav _ _ e]at hb;rw[jav _ _ e']at a6;exact h.inj k k' b (b0 k h1 e) (b0 k' h2 e') hb a6
 ·by_cases e:k=d
  ·subst e;exact b1
  ·exact h.excl k (by simpa [look,e]using a1)
theorem drawS_sound(hG:G.Good)(id:Nat)(hB:drawS ops.toArray=true)(hd:∀o∈ops,∀d,o.dst=some d->d<N){K:St->Prop}{Q':Exit->Act->World->Prop}
  (hK:∀st' β' a' w',K st'->Sim N w0 M0 β' st' a' w'->Q' .normal a' w') (h:Sim N w0 M0 β st a w)
  (hA:jbe G ops (jj5 G K ops) ops (freshAll G ops st)):(Code.region id ops.toArray true).wp G.P Q' a w:=by
 obtain⟨k8,e1,c4,p4⟩:=drawS_spec hB;obtain⟨β0,h,hβ0⟩:∃β0,Sim N w0 M0 β0 (freshAll G ops st) a w/\∀o∈ops,∀d z,jbf G o=some (d,z)->β0 d=none:=by
  obtain⟨β',h1,_,h3⟩:=Sim.freshAll (G:=G) ops hd h;exact⟨β',h1,h3⟩
 have c3:∀o∈ops,∀d z,jbf G o=some (d,z)->(freshAll G ops st).Clean d:=fun o ho d z hz=>jfv ops st (.inr ⟨o,ho,z,hz⟩);generalize freshAll G ops st=st at hA h c3;obtain⟨res,p1,o7⟩:=jjt _ _ hA;unfold jj5 at o7;obtain⟨rk,l2,r8,r0⟩:=jic _ _ o7;have h5:ops.toArray.size=ops.length:=by simp
 have arr:∀(i:Nat) (o:Oper),ops[i]? =some o->ops.toArray[i]? =some o:=fun i o h=>by simpa using h
 have r3:∀(i:Nat) (o:Oper),ops.toArray[i]? =some o->ops[i]? =some o:=fun i o h=>by simpa using h
 have e8:∀o,jbv o=true->o.dst=none/\o.guard=none:=fun o ho=>by
  unfold jbv at ho;split at ho
  ·simp only[zn,Option.isNone_iff_eq_none]at ho;exact⟨ho.2,ho.1⟩
  ·cases ho
 have e9:∀(d i j:Nat) oi oj zi zj,ops[i]? =some oi->ops[j]? =some oj->jbf G oi=some (d,zi)->jbf G oj=some (d,zj)->i=j:=fun d i j oi oj zi zj h1 h2 h3 h4=>by
  obtain⟨_,_,d1,_,_,a1,_⟩:=jeq h3;obtain⟨_,_,d2,_,_,a2,_⟩:=jeq h4;exact p4 i j oi oj d (arr i oi h1) (arr j oj h2) a1 a2 d1 d2
 have main:∀c (a6:Array Bool) (m:Nat) (a:Act) (w:World) (β:Nat->Option Nat),cntB a6 ops.toArray.size=c->HeadInv .any ops.toArray ops.toArray.size a6->m<=cntS ops ops.length->
   (∀s o,ops[s]? =some o->jbv o=true->(a6.getD s false=true↔cntS ops s<m))->
   (∀i o d z,ops[i]? =some o->jbf G o=some (d,z)->a6.getD i false=false->β d=none/\look (rk m) d=some (z.length,[z]))->
   Sim N w0 M0 β {stUp res (fun i=>a6.getD i false&&headL ops i) ops st with rows:=(rk m).filter fun p=>upB G ops a6 p.1} a w->wpAny G.P .any ops.toArray Q' c a6 a w:=by
  intro c
  induction c with
  | zero=>
   intro a6 m a w β hc inv hm e2 e7 hs;have c0:=jfi hc;have s3:m=cntS ops ops.length:=by
    rcases zU m (cntS ops ops.length)with c6 | hge
    ·obtain⟨s,o,h1,h2,h3,h4⟩:=jow c6;have:=(e2 s o h2 h3).1 (c0 s (by rw[h5];exact h1));omega
    ·omega
   subst s3;refine⟨?_,?_⟩
   ·cases hr:Region.ready .any ops.toArray a6 with
    | nil=>rfl
    | cons i r=>
     have hi:i∈Region.ready .any ops.toArray a6:=by rw[hr];exact zQ ..
     obtain⟨l8,oi,b2,_⟩:=mem_ready.1 hi;have b9:i<ops.toArray.size:=(zm.1 b2).1;have:=c0 i b9;rw[getD_both l8]at this;cases this
   ·refine hK _ _ _ _ r0 (hs.congrL (fun t=> ?_) (fun d=> ?_) (fun d=> ?_))
    ·exact jbz _ _ _ _ _ _ rfl fun i o hi _=>by
      have:=c0 i (by rw[h5];exact(zr.1 hi).1);rw[this,qA]
    ·show look (List.filter (fun p=>upB G ops a6 p.1) _) d=look _ d;rw[jbr,ze (upB_iff.2 fun i o z hi _=>c0 i (by rw[h5];exact(zr.1 hi).1))]
    ·show look (stUp _ _ _ _).toks d=look (stUp _ _ _ _).toks d;rw[(ja9 _ _ _ _).2,(ja9 _ _ _ _).2]
  | succ c ih=>
   intro a6 m a w β hc inv hm e2 e7 hs;obtain⟨i0,u0,o6,p7⟩:=jhu (by omega:cntB a6 ops.toArray.size≠0);have c8:i0∈Region.ready .any ops.toArray a6:=by
    have p9:i0<ops.length:=by rw[<-h5];omega
    exact mem_ready.2 ⟨getD_in (by rw[inv.size];exact u0) o6,ops[i0],arr i0 _ (za p9),fun e he hb=>p7 _ (k8 i0 _ (arr _ _ (za p9)) e he hb)⟩
   refine⟨fun hr=>(by rw[hr]at c8;cases c8),fun i hi=> ?_⟩;obtain⟨l8,oi,b2,c0⟩:=mem_ready.1 hi;have a7:=r3 i oi b2;have b9:i<ops.toArray.size:=(zm.1 b2).1;have b8:a6.getD i false=false:=getD_both l8;have l5:i<a6.size:=by rw[inv.size];exact b9
   have k4:cntB (a6.setIfInBounds i true) ops.toArray.size=c:=by
    have:=jht l5 b8 ops.toArray.size;rw[ze b9]at this;omega
   have a8:∀k,k≠i->(a6.setIfInBounds i true).getD k false=a6.getD k false:=fun k hk=>getD_set_ne false (zH hk);have b7:(a6.setIfInBounds i true).getD i false=true:=by simp[l5]
   have l0:jbf G oi=none->∀d,upB G ops (a6.setIfInBounds i true) d=upB G ops a6 d:=fun b6 d=>by
    rw[wC,upB_iff,upB_iff];have:∀(k:Nat) o z,ops[k]? =some o->jbf G o=some (d,z)->k≠i:=fun k o z hk ho e=>by
     subst e;rw[a7]at hk;cases hk;rw[b6]at ho;cases ho
    constructor
    ·intro h k o z hk ho;rw[<-a8 k (this k o z hk ho)];exact h k o z hk ho
    ·intro h k o z hk ho;rw[a8 k (this k o z hk ho)];exact h k o z hk ho
   cases b5:jbv oi with
   | true=>
    have b6:jbf G oi=none:=by
     cases u6:jbf G oi with
     | none=>rfl
     | some p=>obtain⟨_,_,_,_,_,_,l1,_⟩:=jeq (d:=p.1) (z:=p.2) u6;rw[b5]at l1;cases l1
    obtain⟨r2,u3⟩:=e8 oi b5;have p8:m=cntS ops i:=by
     rcases zU m (cntS ops i)with c6 | hge
     ·obtain⟨s,o,h1,h2,h3,h4⟩:=jow c6;have hl:=jfq inv.closed b2 c0 _ (c4 s i o oi (arr s o h2) b2 b5 (.inl ⟨h3,h1⟩));have:=(e2 s o h2 h3).1 hl;omega
     ·have:=mt (e2 i oi a7 b5).2 (by rw[b8];simp);omega
    obtain⟨t,p,x,k0,hq⟩:=r8 i oi a7 b5;have r1:∀z:Operand,z∈oi.op.operands->evO {stUp res (fun i=>a6.getD i false&&headL ops i) ops st with rows:=(rk m).filter fun p=>upB G ops a6 p.1} z=evO {stUp res (headL ops) ops st with rows:=rk (cntS ops i)} z:=by
     intro z hz;rw[jfn,jfn];refine jdp fun t' r4=>jbz _ _ _ _ _ _ rfl fun k ok hk b1=> ?_;have c9:jbv ok=false:=by
      cases hb:jbv ok with
      | false=>rfl
      | true=>rw[(e8 ok hb).1]at b1;cases b1
     have b0:=jfq inv.closed b2 c0 _ (c4 k i ok oi (arr k ok hk) b2 b5 (.inr (.inr ⟨c9,t',b1,jbs hz r4⟩)));rw[b0,qA]
    have hx:x∈oi.op.operands:=by rw[k0];simp[Op.operands]
    have hp:p∈oi.op.operands:=by rw[k0];simp[Op.operands]
    unfold aStQ at hq;rw[<-r1 x hx,<-r1 p hp]at hq;split at hq
    ·rename_i y d s i1 j hy s0;split at hq
     ·rename_i s' es h8;split at hq
      ·rename_i cc s9;obtain⟨rfl,h0,hl,n2,hj,l9⟩:=hq;have hr:=jfl (jb7 hs x) hy;have n1:=jb7 hs p;rw[s0]at n1;have k6:β d≠none:=by
        obtain⟨b,hb,_⟩:=n1;rw[hb];simp
       have c7:upB G ops a6 d=true:=upB_iff.2 fun k o z hk ho=>by
        cases b0:a6.getD k false with
        | true=>rfl
        | false=>exact absurd (e7 k o d z hk ho b0).1 k6
       have e0:look (rk m) d=some (s',es):=by rw[p8];exact h8
       have n0:look ({stUp res (fun i=>a6.getD i false&&headL ops i) ops st with rows:=(rk m).filter fun p=>upB G ops a6 p.1}:St).rows d=some (s',es):=by
        show look (List.filter (fun p=>upB G ops a6 p.1) _) d=_;rw[jbr,ze c7];exact e0
       obtain⟨w',o9,o8⟩:=jpl hG.ok hs h0 n0 s9 hl n2 hj n1 hr;have e3:rk (m+1)=setRow (rk m) d s' (es.set i1 (jbn cc j (cellsOf y))):=by rw[p8];exact l9.symm
       have s4:m+1<=cntS ops ops.length:=by
        have:=jrg a7 b5 (by rw[<-h5];exact b9:i<ops.length);omega
       have next:wpAny G.P .any ops.toArray Q' c (a6.setIfInBounds i true) a w':=by
        refine ih _ (m+1) _ _ β k4 (inv.set hi b9) s4 (fun s o e5 e6=> ?_) (fun k o d' z hk ho b0=> ?_) ?_
        ·by_cases h7:s=i
         ·subst h7;rw[b7];simp;omega
         ·rw[a8 s h7,e2 s o e5 e6];have:cntS ops s≠m:=fun e=>by
           rcases vv h7 with c6 | hgt
           ·have:=jrg e5 e6 c6;omega
           ·have:=jrg a7 b5 hgt;omega
          omega
        ·have b4:k≠i:=fun e=>by subst e;rw[b7]at b0;cases b0
         rw[a8 k b4]at b0;obtain⟨h1,h2⟩:=e7 k o d' z hk ho b0;have n9:d'≠d:=fun e=>by subst e;exact k6 h1
         refine⟨h1,?_⟩;rw[e3,jcp n9];exact h2
        ·refine o8.congrL (fun t'=> ?_) (fun k=> ?_) (fun k=> ?_)
         ·refine jbz (st:=st) (st':=st) ops _ _ _ rfl fun k ok hk b1=> ?_;have b4:k≠i:=fun e=>by
           subst e;rw[a7]at hk;cases hk;rw[r2]at b1;cases b1
          rw[a8 k b4]
         ·show look (setRow (List.filter (fun p=>upB G ops a6 p.1) (rk m)) d s' _) k=look (List.filter (fun p=>upB G ops (a6.setIfInBounds i true) p.1) (rk (m+1))) k;rw[jbr,l0 b6,e3];by_cases hk:k=d
          ·subst hk;rw[ze c7,jc7 (by rw[jbr,ze c7,e0];rfl),jc7 (by rw[e0];rfl)]
          ·rw[jcp hk,jcp hk,jbr]
         ·show look (stUp _ _ _ _).toks k=look (stUp _ _ _ _).toks k;rw[(ja9 _ _ _ _).2,(ja9 _ _ _ _).2]
       unfold wpOp;rw[b2];dsimp only;rw[ze (by simp[Region.wanted,u3])];refine .inl ?_;unfold Oper.wp execOp;rw[k0];simp only[Sem.run_bind,o9,Result.andThen_ok,Sem.run_pure,Oper.upon_skip];rw[r2];exact next
      ·exact hq.elim
     ·exact hq.elim
    ·exact hq.elim
   | false=>
    have o1:headL ops i=true:=by simp[headL,a7,b5]
    have l6:∀k,Region.waitsFor .any ops.toArray i k=true->a6.getD k false=true:=fun k hk=>by
     obtain⟨oj,p5,e,he,hb,n3⟩:=Region.waitsFor_spec hk;rw[b2]at p5;cases p5;rw[<-n3];exact c0 e he hb
    have k2:∀k,Region.waitsFor .any ops.toArray k i=true->a6.getD k false=false:=fun k hk=>by
     obtain⟨ok,c5,e,he,hb,n3⟩:=Region.waitsFor_spec hk;cases hl:a6.getD k false with
     | false=>rfl
     | true=>
      have:=inv.closed k ok c5 hl e he hb;rw[n3,b8]at this;cases this
    have l3:∀(k:Nat) (ok:Oper) (t:Nat),ops[k]? =some ok->ok.dst=some t->jbv ok=false:=fun k ok t hk b1=>by
     cases hb:jbv ok with
     | false=>rfl
     | true=>rw[(e8 ok hb).1]at b1;cases b1
    have k7:∀t∈oi.looksAt ops.toArray,(stUp res (headL ops) (ops.take i) st).get t=(stUp res (fun k=>a6.getD k false&&headL ops k) ops st).get t:=by
     intro t ht;rw[jmu];refine jbz _ _ _ _ _ _ rfl fun k ok c5 b1=> ?_;have c9:=l3 k ok t c5 b1;have u1:headL ops k=true:=by simp[headL,c5,c9]
     rw[u1,Bool.and_true,Bool.and_true];rcases qS k i with b4 | b4 | b4
     ·rcases e1 k i ok oi b4 (arr k ok c5) b2 c9 b5 with hw | hap
      ·rw[l6 k hw];simp[b4]
      ·exact absurd ht ((Oper.apart_spec hap).1 t b1)
     ·subst b4;rw[b8];simp
     ·rcases e1 i k oi ok b4 b2 (arr k ok c5) b5 c9 with hw | hap
      ·rw[k2 k hw];simp;omega
      ·exact absurd ht ((Oper.apart_spec hap).2.2 t b1)
    have h6:∀v,(St.put (stUp res (fun k=>a6.getD k false&&headL ops k) ops st) oi.dst (res i))=v->∀t,v.get t=(stUp res (fun k=>(a6.setIfInBounds i true).getD k false&&headL ops k) ops st).get t:=fun v hv t=>by
     subst hv;by_cases k3:oi.dst=some t
     ·rw[k3,jby];refine(jel ops res _ st i oi a7 k3 (by rw[b7,o1];rfl) fun k ok s8 c5 k9 b1=> ?_).symm;have c9:=l3 k ok t c5 b1;rw[zn]at k9;rw[a8 k (by omega)]at k9;rcases e1 i k oi ok s8 b2 (arr k ok c5) b5 c9 with hw | hap
      ·rw[k2 k hw]at k9;cases k9.1
      ·exact(Oper.apart_spec hap).2.1 t k3 b1
     ·rw[jdi k3];refine jbz (st:=st) (st':=st) ops _ _ _ rfl fun k ok hk b1=> ?_;have:k≠i:=fun e=>by
       subst e;rw[a7]at hk;cases hk;exact k3 b1
      rw[a8 k this]
    have l4:∀s o,ops[s]? =some o->jbv o=true->((a6.setIfInBounds i true).getD s false=true↔cntS ops s<m):=fun s o e5 e6=>by
     have:s≠i:=fun e=>by subst e;rw[a7]at e5;cases e5;rw[b5]at e6;cases e6
     rw[a8 s this];exact e2 s o e5 e6
    have b3:=p1 i oi a7 b5;unfold hStep at b3;cases b6:jbf G oi with
    | some p=>
     obtain⟨d,z⟩:=p;rw[b6]at b3;dsimp only at b3;obtain⟨t,k0,e4,u2,hz,_⟩:=jeq b6;obtain⟨k6,p0⟩:=e7 i oi d z a7 b6 b8;have u4:=c3 oi (zk a7) d z b6;have c7:upB G ops a6 d=false:=by
      cases hu:upB G ops a6 d with
      | false=>rfl
      | true=>rw[upB_iff.1 hu i oi z a7 b6]at b8;cases b8
     have l7:upB G ops (a6.setIfInBounds i true) d=true:=upB_iff.2 fun k o z' hk ho=>by
      rw[e9 d k i o oi z' z hk a7 ho b6];exact b7
     have o5:∀k,k≠d->upB G ops (a6.setIfInBounds i true) k=upB G ops a6 k:=fun k s7=>by
      rw[wC,upB_iff,upB_iff];have:∀(j:Nat) o z',ops[j]? =some o->jbf G o=some (k,z')->j≠i:=fun j o z' hj ho e=>by
       subst e;rw[a7]at hj;cases hj;rw[b6]at ho;cases ho;exact s7 rfl
      constructor
      ·intro h j o z' hj ho;rw[<-a8 j (this j o z' hj ho)];exact h j o z' hj ho
      ·intro h j o z' hj ho;rw[a8 j (this j o z' hj ho)];exact h j o z' hj ho
     obtain⟨zv,r5,o3,r6,_,u7⟩:=jf2 hG.ok hz w (Mo M0 β {stUp res (fun k=>a6.getD k false&&headL ops k) ops st with rows:=(rk m).filter fun p=>upB G ops a6 p.1});have h8:∀(i':Nat) e (j:Nat) x,[z][i']? =some e->e[j]? =some x->x.one=true/\∃u,zv.cells[i'*z.length+j]? =some u/\Rep w (Mo M0 β {stUp res (fun k=>a6.getD k false&&headL ops k) ops st with rows:=(rk m).filter fun p=>upB G ops a6 p.1}) x u:=by
      intro i' e j x o0 hj;cases i' with
      | succ i'=>simp at o0
      | zero=>
       simp at o0;subst o0;have c6:j<zv.cells.toList.length:=by rw[<-o3.1];exact(zr.1 hj).1
       have hu:=za c6;refine⟨r6 x (zk hj),_,?_,o3.2 j x _ hj hu⟩;rw[vZ,qi,<-zS];exact hu
     have p6:=hs.newRowB (T:=t) (d:=d) (s:=z.length) (es:=[z]) (hd oi (zk a7) d e4) k6 (by
      show look (List.filter (fun p=>upB G ops a6 p.1) _) d=none;rw[jbr,c7];rfl) (by
      show look (stUp _ _ _ _).toks d=none;rw[(ja9 _ _ _ _).2];exact u4.toks) (fun e he=>by simp at he;rw[he]) h8
     have p2:=p6.put (dst:=some d) (av:= .loc d z.length 0 0) (v:= .pointer (some ⟨w.heap.size,0,none⟩)) (fun d' e=>by cases e;exact hd oi (zk a7) d e4) ⟨w.heap.size,jau _ _ _,by simp⟩;have next:wpAny G.P .any ops.toArray Q' c (a6.setIfInBounds i true) (a.put (some d) (.pointer (some ⟨w.heap.size,0,none⟩))) (w.alloc (.cells zv.cells t)):=by
      refine ih _ m _ _ _ k4 (inv.set hi b9) hm l4 (fun k o d' z' hk ho b0=> ?_) (p2.congrL (fun t'=> ?_) (fun k=> ?_) (fun k=> ?_))
      ·have b4:k≠i:=fun e=>by subst e;rw[b7]at b0;cases b0
       rw[a8 k b4]at b0;have n9:d'≠d:=fun e=>by subst e;exact b4 (e9 d' k i o oi z' z hk a7 ho b6)
       obtain⟨h1,h2⟩:=e7 k o d' z' hk ho b0;exact⟨by rw[jav _ _ n9];exact h1,h2⟩
      ·have:=h6 _ rfl t';rw[e4,b3]at this;exact this
      ·show look ((d,z.length,[z])::List.filter (fun p=>upB G ops a6 p.1) (rk m)) k=look (List.filter (fun p=>upB G ops (a6.setIfInBounds i true) p.1) (rk m)) k;rw[jbr];by_cases hk:k=d
       ·subst hk;rw[ze l7,p0];simp[look]
       ·rw[o5 k hk];simp only[look,hk,qt];rw[jbr]
      ·show look (stUp _ _ _ _).toks k=look (stUp _ _ _ _).toks k;rw[(ja9 _ _ _ _).2,(ja9 _ _ _ _).2]
     unfold wpOp;rw[b2];dsimp only;rw[ze (by simp[Region.wanted,u2])];refine .inl ?_;unfold Oper.wp execOp;rw[k0];simp only[Instr.alloc,Sem.run_bind,r5,Result.andThen_ok,newVar,newRow,run_newObj,Sem.run_pure,World.alloc_eq,Oper.upon_value,e4];exact next
    | none=>
    rw[b6]at b3;dsimp only at b3;have r9:qStep G ops (stUp res (fun k=>a6.getD k false&&headL ops k) ops st) oi (res i):=
     jfa k7 (by rw[(ja9 _ _ _ _).1,(ja9 _ _ _ _).1]) (by rw[(ja9 _ _ _ _).2,(ja9 _ _ _ _).2]) b3
    have hq:qStep G ops {stUp res (fun k=>a6.getD k false&&headL ops k) ops st with rows:=(rk m).filter fun p=>upB G ops a6 p.1} oi (res i):=by
     refine jmy ?_ r9;cases s6:jg8 oi with
     | false=>exact .inl rfl
     | true=>
      refine .inr fun d x hx=> ?_;rw[(ja9 _ _ _ _).1]at hx;have s5:m=0:=by
       rcases yN m with e | hpos
       ·exact e
       ·have c6:0<cntS ops ops.length:=by omega
        obtain⟨s,o,h1,h2,h3,h4⟩:=jow c6;have hl:=(e2 s o h2 h3).2 (by omega);have:=je4 inv.closed _ _ (c4 i s oi o b2 (arr s o h2) h3 (.inr (.inl s6))) hl;rw[b8]at this;cases this
      have k1:∀o∈ops,∀z,jbf G o≠some (d,z):=fun o ho z hz=>by
       rw[(c3 o ho d z hz).rows]at hx;cases hx
      rw[jbr,ze (upB_iff.2 fun k o z hk ho=>absurd ho (k1 o (zk hk) z)),s5,l2];show look (jbc G ops++(stUp _ _ _ _).rows) d=_;rw[look_app,ji5 k1,(ja9 _ _ _ _).1];exact hx
    have next:∀v w2,Below w.heap.size w w2->RepA w2 (Mo M0 β {stUp res (fun k=>a6.getD k false&&headL ops k) ops st with rows:=(rk m).filter fun p=>upB G ops a6 p.1}) β (stUp res (fun k=>a6.getD k false&&headL ops k) ops st).toks (res i) v->
      wpAny G.P .any ops.toArray Q' c (a6.setIfInBounds i true) (a.put oi.dst v) w2:=by
     intro v w2 hb hv;have r7:=(hs.ext hb).put (dst:=oi.dst) (hd oi (zk a7)) hv;have p3:∀(s:St) d v,(s.put d v).rows=s.rows/\(s.put d v).toks=s.toks:=fun s d v=>by unfold St.put;split<;>exact⟨rfl,rfl⟩
     refine ih _ m _ _ β k4 (inv.set hi b9) hm l4 (fun k o d z hk ho b0=> ?_) (r7.congrL (fun t=> ?_) (fun k=> ?_) (fun k=> ?_))
     ·have b4:k≠i:=fun e=>by subst e;rw[b7]at b0;cases b0
      rw[a8 k b4]at b0;exact e7 k o d z hk ho b0
     ·refine Eq.trans ?_ (h6 _ rfl t);cases oi.dst<;>rfl
     ·rw[(p3 _ _ _).1];show look (List.filter (fun p=>upB G ops a6 p.1) (rk m)) k=look (List.filter (fun p=>upB G ops (a6.setIfInBounds i true) p.1) (rk m)) k;rw[jbr,jbr,l0 b6]
     ·rw[(p3 _ _ _).2];show look (stUp _ _ _ _).toks k=look (stUp _ _ _ _).toks k;rw[(ja9 _ _ _ _).2,(ja9 _ _ _ _).2]
    unfold wpOp;rw[b2];dsimp only;unfold qStep at hq;cases hg:oi.guard with
    | none=>
     rw[hg]at hq;rw[ze (by simp[Region.wanted,hg])];exact .inl (jcr hG hs hq next)
    | some p=>
     obtain⟨j,want⟩:=p;rw[hg]at hq;dsimp only at hq;split at hq
     ·rename_i b hy;have k5:=jdr hs hy;by_cases hb:b=want
      ·rw[ze hb]at hq;rw[ze (by simp[Region.wanted,hg,k5,hb])];exact .inl (jcr hG hs hq next)
      ·rw[zl hb]at hq;rw[zl (by simp[Region.wanted,hg,k5,hb])];exact next _ w (Below.refl _ _) (by rw[hq];exact Rep.sc _ rfl)
     ·rename_i hy;have k5:=je9 hs hy;rw[zl (by simp[Region.wanted,hg,k5])];exact next _ w (Below.refl _ _) (by rw[hq];exact Rep.sc _ rfl)
     ·exact hq.elim
 refine wp_region_any hG.mixed ?_;have o2:HeadInv .any ops.toArray ops.toArray.size (Array.replicate ops.toArray.size false):=
  ⟨by simp,fun j oj _ hl=>(by rw[getD_replicate_false]at hl;cases hl),fun t h1 h2=>by omega⟩
 have u5:∀k,cntB (Array.replicate ops.toArray.size false) k=k:=fun k=>by
  induction k with
  | zero=>rfl
  | succ k ihk=>simp only[cntB,ihk,getD_replicate_false];simp
 have hf:∀(l:List Oper) (res:Nat->AV) (L:Nat->Bool) (st:St),(∀i,L i=false)->stUp res L l st=st:=by
  intro l
  induction l with
  | nil=>intros;rfl
  | cons o l ih=>
   intro res L st hL;simp only[stUp,hL 0];exact ih _ _ _ fun i=>hL (i+1)
 have n4:∀i:Nat,(Array.replicate ops.toArray.size false).getD i false=false:=fun i=>getD_replicate_false _ _;have h9:rk 0=jbc G ops++st.rows:=by rw[l2];show jbc G ops++(stUp _ _ _ _).rows=_;rw[(ja9 _ _ _ _).1]
 refine main ops.toArray.size (Array.replicate ops.toArray.size false) 0 a _ β0 (u5 _) o2 (zG _) (fun s o _ _=>by rw[getD_replicate_false];simp) (fun i o d z hi ho _=>⟨hβ0 o (zk hi) d z ho,?_⟩) ?_
 ·rw[h9,look_app,jli (fun i j oi oj zi zj=>e9 d i j oi oj zi zj) hi ho]
 rw[hf _ _ _ _ fun i=>by rw[getD_replicate_false];rfl];refine(h.drew).congrL (fun t=>rfl) (fun d=> ?_) (fun d=>rfl);show look st.rows d=look (List.filter (fun p=>upB G ops _ p.1) (rk 0)) d;rw[jbr,h9];by_cases hk:∃o∈ops,∃z,jbf G o=some (d,z)
 ·obtain⟨o,ho,z,hz⟩:=hk;obtain⟨i,hi⟩:=yP ho;rw[(c3 o ho d z hz).rows];split
  ·rename_i hu;have:=upB_iff.1 hu i o z hi hz;rw[n4]at this;cases this
  ·rfl
 ·have k1:∀o∈ops,∀z,jbf G o≠some (d,z):=fun o ho z hz=>hk ⟨o,ho,z,hz⟩;rw[ze (upB_iff.2 fun k o z hk ho=>absurd ho (k1 o (zk hk) z)),look_app,ji5 k1]
end
end
section
open Go.RowKit (Below)
section
variable{G:Ctx}{N:Nat}{w0:Base}{w w':World}{M0:Nat->Nat->Prop}{β:Nat->Option Nat}{st st':St}{a:Act}{ops:List Oper}
theorem Mo_tok0{d s n b o:Nat}(h:Mo M0 (upd β d none) (tokSt st d d s n) b o):Mo M0 β st b o:=by
 rcases h with h | ⟨k,s',es',hk,hkb⟩ | ⟨k,s',n',hk,hkb,ho⟩
 ·exact .inl h
 ·have a1:k≠d:=fun e=>by subst e;simp[tokSt,jab]at hk
  rw[jav _ _ a1]at hkb;simp only[tokSt,jaa _ a1]at hk;exact .inr (.inl ⟨k,s',es',hk,hkb⟩)
 ·by_cases a1:k=d
  ·subst a1;rw[jau]at hkb;cases hkb
  ·rw[jav _ _ a1]at hkb;exact .inr (.inr ⟨k,s',n',(jce a1 hk).2,hkb,ho⟩)
theorem Mo_tokAt{d b s n b' o:Nat}(ht:look st.toks d=some (s,n))(hm:Mo M0 (upd β d (some b)) st b' o)(hr:look st.rows d=none):Mo M0 β st b' o\/(b'=b/\n*s<=o):=by
 rcases hm with hm | ⟨k,s',es',hk,hkb⟩ | ⟨k,s',n',hk,hkb,ho⟩
 ·exact .inl (.inl hm)
 ·have a1:k≠d:=fun e=>by subst e;rw[hr]at hk;cases hk
  rw[jav _ _ a1]at hkb;exact .inl (.inr (.inl ⟨k,s',es',hk,hkb⟩))
 ·by_cases a1:k=d
  ·subst a1;rw[jau]at hkb;rw[ht]at hk;cases hkb;cases hk;exact .inr ⟨rfl,ho⟩
  ·rw[jav _ _ a1]at hkb;exact .inl (.inr (.inr ⟨k,s',n',hk,hkb,ho⟩))
theorem Sim.tokAt(h:Sim N w0 M0 β st a w)(hb:Below w.heap.size w w'){d s n b:Nat}(ht:look st.toks d=some (s,n))(hd:β d=none)(b7:w.heap.size<=b)(b0:b<w'.heap.size):
  Sim N w0 M0 (upd β d (some b)) st a w':=by
 have b3:look st.rows d=none:=by
  cases hr:look st.rows d with
  | none=>rfl
  | some x=>have:=h.excl d (by simp[hr]);rw[ht]at this;cases this
 have b4:∀b' o,b'<w.heap.size->¬Mo M0 β st b' o->¬Mo M0 (upd β d (some b)) st b' o:=fun b' o hl hn hm=>by
  rcases Mo_tokAt ht hm b3 with hm | ⟨e,_⟩
  ·exact hn hm
  ·omega
 have hk:Kept w (Mo M0 β st) w' (Mo M0 (upd β d (some b)) st):=
  ⟨fun b' o u hc hn=>have hl:=World.block_lt_of_cell? (a:=⟨b',o,none⟩) w hc;⟨by rw[<-hc];exact hb.cell hl,b4 b' o hl hn⟩,
   fun b' es c hc hn=>have hl:=(zm.1 hc).1;⟨by rw[hb.block b' hl];exact hc,b4 b' 0 hl hn⟩,Shp.of hb⟩
 have a7:∀k b',β k=some b'->upd β d (some b) k=some b':=fun k b' a1=>by
  have b5:k≠d:=fun e=>by subst e;rw[hd]at a1;cases a1
  rw[jav _ _ b5];exact a1
 have a8:∀k b',((look st.rows k).isSome\/(look st.toks k).isSome)->β k=some b'->b'<w.heap.size:=fun k b' hk a1=>by
  rcases hk with hk | hk
  ·obtain⟨⟨s',es'⟩,hl⟩:=zD.1 hk;obtain⟨b2,b0,_,cur,T',h1,_⟩:=h.rows k s' es' hl;rw[a1]at b0;cases b0;exact(zm.1 h1).1
  ·obtain⟨⟨s',n'⟩,hl⟩:=zD.1 hk;exact(h.toks k s' n' hl b' a1).2
 refine⟨h.size,h.defers,h.below.step hb,h.m0,fun t=> ?_,fun k s' es' a6=> ?_,fun k s' n' a6 b' b1=> ?_,fun k k' b' h1 h2 e1 e2=> ?_,h.excl,fun k hN b6 a6=> ?_,h.np,fun b'=>a7 _ _ (h.perm b')⟩
 ·exact(h.fr t).moveB hk a7 (fun k b' hl a1=>hb.block b' (a8 k b' (.inr hl) a1)) (Shp.of hb)
 ·obtain⟨b',h1,h2,h3⟩:=h.rows k s' es' a6;exact⟨b',a7 k b' h1,h2,h3.move hk (hb.block b' (a8 k b' (.inl (by simp[a6])) h1))⟩
 ·by_cases e:k=d
  ·subst e;rw[jau]at b1;cases b1;exact⟨fun hp=>absurd (qv (w0.lt _ hp) h.below.size) (by omega),b0⟩
  ·rw[jav _ _ e]at b1;obtain⟨h1,h2⟩:=h.toks k s' n' a6 b' b1;exact⟨h1,qv h2 hb.size⟩
 ·by_cases e:k=d<;>by_cases e':k'=d
  ·omega
  ·subst e;rw[jau]at e1;rw[jav _ _ e']at e2;cases e1;exact absurd (a8 k' _ h2 e2) (by omega)
  ·subst e';rw[jau]at e2;rw[jav _ _ e]at e1;cases e2;exact absurd (a8 k _ h1 e1) (by omega)
  ·rw[jav _ _ e]at e1;rw[jav _ _ e']at e2;exact h.inj k k' b' h1 h2 e1 e2
 ·have e:k≠d:=fun e=>by subst e;rw[b3]at a6;cases a6
  rw[jav _ _ e];exact h.nam k hN b6 a6
end
end
section
open Go.RowKit (Below)
def aAny(G:Ctx)(ops:List Oper)(K:St->Prop):Nat->Array Bool->St->Prop
 | 0,listed,st=>Region.ready .any ops.toArray listed=[]/\K st
 | f+1,listed,st=>Region.ready .any ops.toArray listed≠[]/\
   ∀i∈Region.ready .any ops.toArray listed,∃o,ops[i]? =some o/\alist G ops (aAny G ops K f (listed.setIfInBounds i true)) [o] st
section
variable{G:Ctx}{N:Nat}{w0:Base}{w w':World}{M0:Nat->Nat->Prop}{β:Nat->Option Nat}{st st':St}{a:Act}{ops:List Oper}
theorem jnn(hG:G.Good)(hd:∀o∈ops,∀d,o.dst=some d->d<N){K:St->Prop}{Q':Exit->Act->World->Prop}
  (hK:∀st' β' a' w',K st'->Sim N w0 M0 β' st' a' w'->Q' .normal a' w'):
  ∀(f:Nat) (a1:Array Bool) (st:St) (β:Nat->Option Nat) (a:Act) (w:World),aAny G ops K f a1 st->Sim N w0 M0 β st a w->wpAny G.P .any ops.toArray Q' f a1 a w
 | 0,a1,st,β,a,w,hA,h=>⟨hA.1,hK st β a w hA.2 h⟩
 | f+1,a1,st,β,a,w,hA,h=>by
  refine⟨fun hr=>absurd hr hA.1,fun i hi=> ?_⟩;obtain⟨o,ho,hl⟩:=hA.2 i hi;have a7:=hd o (zk ho);have a8:ops.toArray[i]? =some o:=by simpa using ho
  have ih:=jnn hG hd hK f (a1.setIfInBounds i true);unfold wpOp;rw[a8];dsimp only;unfold alist at hl;have b0:∀s,alist G ops (aAny G ops K f (a1.setIfInBounds i true)) [] s=aAny G ops K f (a1.setIfInBounds i true) s:=fun s=>rfl;split at hl
  ·rename_i hg;have hw:Region.wanted o (yielded ops.toArray a.tmps)=true:=by simp[Region.wanted,hg]
   rw[ze hw];exact .inl (jep hG h a7 hl fun st' β' a' w' hk hs=>ih st' β' a' w' hk hs)
  ·rename_i j want hg;split at hl
   ·rename_i b hy;have a6:=jdr h hy;by_cases hb:b=want
    ·have hw:Region.wanted o (yielded ops.toArray a.tmps)=true:=by simp[Region.wanted,hg,a6,hb]
     rw[ze hw];exact .inl (jep hG h a7 (hl.1 hb) fun st' β' a' w' hk hs=>ih st' β' a' w' hk hs)
    ·have hw:Region.wanted o (yielded ops.toArray a.tmps)=false:=by simp[Region.wanted,hg,a6,hb]
     rw[zl (by simp[hw])];exact ih _ β _ _ (hl.2 hb) (h.put a7 (Rep.sc _ rfl))
   ·rename_i hy;have a6:=je9 h hy;have hw:Region.wanted o (yielded ops.toArray a.tmps)=false:=by simp[Region.wanted,hg,a6]
    rw[zl (by simp[hw])];exact ih _ β _ _ hl (h.put a7 (Rep.sc _ rfl))
   ·exact hl.elim
theorem any_sound(hG:G.Good)(id:Nat)(hd:∀o∈ops,∀d,o.dst=some d->d<N){K:St->Prop}{Q':Exit->Act->World->Prop}
  (hK:∀st' β' a' w',K st'->Sim N w0 M0 β' st' a' w'->Q' .normal a' w') (h:Sim N w0 M0 β st a w)
  (hA:aAny G ops K ops.length (Array.replicate ops.length false) st):(Code.region id ops.toArray true).wp G.P Q' a w:=by
 refine wp_region_any hG.mixed ?_;have:=jnn hG hd hK ops.length (Array.replicate ops.length false) st β a _ hA h.drew;have a1:ops.toArray.size=ops.length:=by simp
 rw[a1];exact this
