/- A part of the proof. No further condition. -/
import Derived.Test.YtgnflpkmpoghbaaKU6
set_option linter.all false
set_option maxRecDepth 10000000
set_option maxHeartbeats 16000000
namespace Go.Abs
section
open Go.RowKit (Below)
def jak(o:Oper):Bool:=
 match o.op with
 | .store _ _ _=>o.guard.isNone&&o.dst.isNone
 | _=>false
def jf5(o:Oper):Bool:=
 match o.op with
 | .load _ _=>true
 | _=>false
def jff(ops:Array Oper)(i:Nat):Nat->List Nat
 | 0=>[]
 | k+1=>if(Region.waitsFor .any ops k i || (jff ops i k).any fun m=>Region.waitsFor .any ops k m)=true then k::jff ops i k else jff ops i k
def jif(o:Oper):Bool:=
 match o.op with
 | .alloc _=>o.guard.isNone&&o.dst.isSome
 | _=>false
def jaf(G:Ctx)(o:Oper):Option (Nat×List IV):=
 match o.op,o.dst,o.guard with
 | .alloc t,some d,none=>match jbi G t with
  | some z=>some (d,z)
  | none=>none
 | _,_,_=>none
theorem jci{G:Ctx}{o:Oper}{d:Nat}{z:List IV}(h:jaf G o=some (d,z)):∃t,o.op= .alloc t/\o.dst=some d/\o.guard=none/\jbi G t=some z/\jif o=true/\jak o=false/\jf5 o=false:=by
 obtain⟨dst,op,ty,pos,af,gd⟩:=o;unfold jaf at h;dsimp only at h;split at h
 ·split at h
  ·cases h;refine⟨_,rfl,rfl,rfl,‹_›,rfl,rfl,rfl⟩
  ·cases h
 ·cases h
def jil(ops:Array Oper)(i:Nat):Option Nat:=
 match ops[i]? with
 | some o=>if jif o=true then o.dst else none
 | none=>none
def storeAt(ops:Array Oper)(i:Nat):Bool:=
 match ops[i]? with
 | some o=>jak o
 | none=>false
def loadAt(ops:Array Oper)(i:Nat):Bool:=
 match ops[i]? with
 | some o=>jf5 o
 | none=>false
def jgh(ops:Array Oper)(h s:Nat):Bool:=
 match ops[h]?,ops[s]? with
 | some oh,some os=>match oh.dst with
  | some t=>(os.looksAt ops).contains t
  | none=>false
 | _,_=>false
def drawS(ops:Array Oper):Bool:=
 (List.range ops.size).all (fun j=>match ops[j]? with
  | some o=>o.after.all fun e=> !Region.binds .any e || decide (e.on<j)
  | none=>true)&&
 (List.range ops.size).all (fun j=>storeAt ops j || (List.range j).all fun i=>storeAt ops i || Region.waitsFor .any ops j i || (match ops[i]?,ops[j]? with
  | some oi,some oj=>oi.apart ops oj
  | _,_=>false))&&
 (List.range ops.size).all (fun i=>(List.range ops.size).all fun s=> !storeAt ops s || !((storeAt ops i&&decide (i<s)) || loadAt ops i || (!storeAt ops i&&jgh ops i s)) || (jff ops i ops.size).contains s)&&
 (List.range ops.size).all (fun i=>(List.range ops.size).all fun j=>i==j || (jil ops i).isNone || jil ops i !=jil ops j)
theorem drawS_spec{ops:Array Oper}(h:drawS ops=true):
  (∀(j:Nat) oj,ops[j]? =some oj->∀e∈oj.after,Region.binds .any e=true->e.on<j)/\
  (∀i j oi oj,i<j->ops[i]? =some oi->ops[j]? =some oj->jak oi=false->jak oj=false->Region.waitsFor .any ops j i=true\/oi.apart ops oj=true)/\
  (∀i s oi os,ops[i]? =some oi->ops[s]? =some os->jak os=true->((jak oi=true/\i<s)\/jf5 oi=true\/(jak oi=false/\∃t,oi.dst=some t/\t∈os.looksAt ops))->s∈jff ops i ops.size)/\
  (∀(i j:Nat) oi oj d,ops[i]? =some oi->ops[j]? =some oj->jif oi=true->jif oj=true->oi.dst=some d->oj.dst=some d->i=j):=by
 simp only[drawS,Bool.and_eq_true]at h;obtain⟨⟨⟨h1,h2⟩,h3⟩,h4⟩:=h;have sz:∀(j:Nat) o,ops[j]? =some o->j<ops.size:=fun j o h=>(Array.getElem?_eq_some_iff.1 h).1;refine⟨fun j oj hj e he hb=> ?_,fun i j oi oj hij hi hj si sj=> ?_,fun i s oi os hi hs hst hc=> ?_,fun i j oi oj d hi hj ai aj di dj=> ?_⟩
 case refine_4=>
  have:=List.all_eq_true.1 (List.all_eq_true.1 h4 i (List.mem_range.2 (sz i oi hi))) j (List.mem_range.2 (sz j oj hj));simp only[jil,hi,hj,ai,aj,if_true,di,dj]at this
  simpa using this
 ·have:=List.all_eq_true.1 h1 j (List.mem_range.2 (sz j oj hj));rw[hj]at this;have:=Array.all_eq_true'.1 this e he
  simpa [hb]using this
 ·have:=List.all_eq_true.1 h2 j (List.mem_range.2 (sz j oj hj));simp only[storeAt,hj,sj,Bool.false_or]at this;have:=List.all_eq_true.1 this i (List.mem_range.2 hij);simp only[hi,si,Bool.false_or,Bool.or_eq_true]at this;exact this
 ·have:=List.all_eq_true.1 (List.all_eq_true.1 h3 i (List.mem_range.2 (sz i oi hi))) s (List.mem_range.2 (sz s os hs));have hcc:((storeAt ops i&&decide (i<s)) || loadAt ops i || (!storeAt ops i&&jgh ops i s))=true:=by
   simp only[storeAt,loadAt,jgh,hi,hs];rcases hc with ⟨h4,h5⟩ | h4 | ⟨h4,t,h5,h6⟩
   ·simp[h4,h5]
   ·simp[h4]
   ·simp[h4,h5,h6]
  rw[hcc]at this;simp only[storeAt,hs,hst,Bool.not_true,Bool.false_or]at this
  simpa using this
section
variable{G:Ctx}{N:Nat}{w0:Base}{w:World}{M0:Nat->Nat->Prop}{β:Nat->Option Nat}{st st':St}{a:Act}{ops:List Oper}
theorem jc5{ops:Array Oper}{listed:Array Bool}{i:Nat}(hcl:∀j oj,ops[j]? =some oj->listed.getD j false=true->∀e∈oj.after,Region.binds .any e=true->listed.getD e.on false=true):
  ∀k j,j∈jff ops i k->listed.getD j false=true->listed.getD i false=true
 | 0,j,hj,_=>by cases hj
 | k+1,j,hj,hl=>by
  unfold jff at hj;split at hj
  ·rename_i hc;rcases List.mem_cons.1 hj with rfl | hj
   ·rw[Bool.or_eq_true]at hc;rcases hc with hc | hc
    ·obtain⟨oj,hoj,e,he,hb,hon⟩:=Region.waitsFor_spec hc;rw[<-hon];exact hcl _ oj hoj hl e he hb
    ·obtain⟨m,hm,hc⟩:=List.any_eq_true.1 hc;obtain⟨oj,hoj,e,he,hb,hon⟩:=Region.waitsFor_spec hc;exact jc5 hcl _ m hm (by rw[<-hon];exact hcl _ oj hoj hl e he hb)
   ·exact jc5 hcl k j hj hl
  ·exact jc5 hcl k j hj hl
theorem jd7{ops:Array Oper}{listed:Array Bool}{i:Nat}(hcl:∀j oj,ops[j]? =some oj->listed.getD j false=true->∀e∈oj.after,Region.binds .any e=true->listed.getD e.on false=true)
  {j:Nat} {oj:Oper} (hoj:ops[j]? =some oj) (hall:∀e∈oj.after,Region.binds .any e=true->listed.getD e.on false=true):∀k,j∈jff ops i k->listed.getD i false=true
 | 0,hj=>by cases hj
 | k+1,hj=>by
  unfold jff at hj;split at hj
  ·rename_i hc;rcases List.mem_cons.1 hj with rfl | hj
   ·rw[Bool.or_eq_true]at hc;rcases hc with hc | hc
    ·obtain⟨oj',hoj',e,he,hb,hon⟩:=Region.waitsFor_spec hc;rw[hoj]at hoj';cases hoj';rw[<-hon];exact hall e he hb
    ·obtain⟨m,hm,hc⟩:=List.any_eq_true.1 hc;obtain⟨oj',hoj',e,he,hb,hon⟩:=Region.waitsFor_spec hc;rw[hoj]at hoj';cases hoj';exact jc5 hcl _ m hm (by rw[<-hon];exact hall e he hb)
   ·exact jd7 hcl hoj hall k hj
  ·exact jd7 hcl hoj hall k hj
def jav(G:Ctx)(ops:List Oper)(K:St->Prop):List Oper->St->Prop
 | [],st=>K st
 | o::r,st=>if jak o=true then jav G ops K r st else match jaf G o with
  | some (d,z)=>jav G ops K r (st.put o.dst (.loc d z.length 0 0))
  | none=>match o.guard with
   | none=>aq G st o fun av=>jav G ops K r (st.put o.dst av)
   | some (j,want)=>match jbj st ops j with
    | some (some b)=>(b=want->aq G st o fun av=>jav G ops K r (st.put o.dst av))/\(b≠want->jav G ops K r (st.put o.dst jb6))
    | some none=>jav G ops K r (st.put o.dst jb6)
    | none=>False
def hStep(G:Ctx)(ops:List Oper)(st:St)(o:Oper)(av:AV):Prop:=
 match jaf G o with
 | some (d,z)=>av= .loc d z.length 0 0
 | none=>qStep G ops st o av
def jar(G:Ctx):List Oper->List (Nat×Nat×List (List IV))
 | []=>[]
 | o::r=>match jaf G o with
  | some (d,z)=>(d,z.length,[z])::jar G r
  | none=>jar G r
def freshAll(G:Ctx):List Oper->St->St
 | [],st=>st
 | o::r,st=>match jaf G o with
  | some (d,_)=>freshAll G r (st.fresh d)
  | none=>freshAll G r st
def aStQ(G:Ctx)(K:List (Nat×Nat×List (List IV))->Prop)(st:St)(t:TypeId)(p x:Operand):Prop:=
 match ivOf (evO st x),evO st p with
 | some y,.loc d s i j=>match look st.rows d with
  | some (s',es)=>match es[i]? with
   | some c=>s'=s/\(G.ti t).size≠0/\(cellsOf y).length=(G.ti t).size/\(cellsOf y).all IV.one=true/\j+(G.ti t).size<=c.length/\
     K (setRow st.rows d s (es.set i (jah c j (cellsOf y))))
   | none=>False
  | none=>False
 | _,_=>False
def jca(G:Ctx)(K:St->Prop):List Oper->St->Prop
 | [],st=>K st
 | o::r,st=>if jak o=true then(match o.op with
   | .store t p x=>aStQ G (fun rows=>jca G K r {st with rows:=rows}) st t p x
   | _=>False)else jca G K r st
def StepR(G:Ctx)(st:St)(o:Oper)(rows:List (Nat×Nat×List (List IV))):Prop:=
 ∃t p x,o.op= .store t p x/\aStQ G (· =rows) st t p x
theorem aStQ_of{K:List (Nat×Nat×List (List IV))->Prop}{t:TypeId}{p x:Operand}(h:aStQ G K st t p x):∃rows,K rows/\aStQ G (· =rows) st t p x:=by
 unfold aStQ at h⊢;split at h
 ·split at h
  ·split at h
   ·obtain⟨h1,h2,h3,h4,h5,h6⟩:=h;exact⟨_,h6,h1,h2,h3,h4,h5,rfl⟩
   ·exact h.elim
  ·exact h.elim
 ·exact h.elim
def headL(l:List Oper)(k:Nat):Bool:=
 match l[k]? with
 | some o=> !jak o
 | none=>true
theorem jfq{K:St->Prop}:∀(l:List Oper) (st:St),jav G ops K l st->
  ∃res:Nat->AV,(∀i o,l[i]? =some o->jak o=false->hStep G ops (stUp res (headL l) (l.take i) st) o (res i))/\K (stUp res (headL l) l st)
 | [],st,h=>⟨fun _=> .und,fun i o hi=>by simp at hi,h⟩
 | o::l,st,h=>by
  have hsh:(fun i=>headL (o::l) (i+1))=headL l:=by funext i;simp[headL]
  unfold jav at h;split at h
  ·rename_i hs;obtain⟨res,h3,h4⟩:=jfq l _ h;have h0:headL (o::l) 0=false:=by simp[headL,hs]
   refine⟨fun i=>match i with | 0=> .und | i+1=>res i,fun i o' hi ho'=> ?_,?_⟩
   ·cases i with
    | zero=>simp at hi;subst hi;rw[hs]at ho';cases ho'
    | succ i=>
     have:=h3 i o' (by simpa using hi) ho'
     simpa [stUp,h0,hsh]using this
   ·simpa [stUp,h0,hsh]using h4
  ·rename_i hs;have hs':jak o=false:=by simpa using hs
   have h0:headL (o::l) 0=true:=by simp[headL,hs']
   have key:∃av,hStep G ops st o av/\jav G ops K l (st.put o.dst av):=by
    unfold hStep;cases hal:jaf G o with
    | some p=>
     obtain⟨d,z⟩:=p;rw[hal]at h;exact⟨_,rfl,h⟩
    | none=>
    rw[hal]at h;dsimp only at h⊢;unfold qStep;cases hg:o.guard with
    | none=>
     rw[hg]at h;obtain⟨av,h1,h2⟩:=jda h;exact⟨av,h1,h2⟩
    | some p=>
     obtain⟨j,want⟩:=p;rw[hg]at h;dsimp only at h⊢;revert h;generalize jbj st ops j=y;intro h;cases y with
     | none=>exact h.elim
     | some y=>cases y with
      | none=>exact⟨jb6,rfl,h⟩
      | some b=>
       dsimp only at h⊢;by_cases hb:b=want
       ·obtain⟨av,h1,h2⟩:=jda (h.1 hb);exact⟨av,by rw[if_pos hb];exact h1,h2⟩
       ·exact⟨jb6,by rw[if_neg hb],h.2 hb⟩
   obtain⟨av,h1,h2⟩:=key;obtain⟨res,h3,h4⟩:=jfq l _ h2;refine⟨fun i=>match i with | 0=>av | i+1=>res i,fun i o' hi ho'=> ?_,?_⟩
   ·cases i with
    | zero=>simp at hi;subst hi;exact h1
    | succ i=>
     have:=h3 i o' (by simpa using hi) ho'
     simpa [stUp,h0,hsh]using this
   ·simpa [stUp,h0,hsh]using h4
def cntS(l:List Oper):Nat->Nat
 | 0=>0
 | n+1=>cntS l n+(match l[n]? with | some o=>if jak o=true then 1 else 0 | none=>0)
theorem jje{l:List Oper}:∀{n m:Nat},n<=m->cntS l n<=cntS l m
 | n,0,h=>by rw[show n=0 by omega];exact Nat.le_refl _
 | n,m+1,h=>by
  by_cases e:n=m+1
  ·subst e;exact Nat.le_refl _
  ·exact Nat.le_trans (jje (by omega:n<=m)) (by simp only[cntS];omega)
theorem jjt{l:List Oper}{i s:Nat}{o:Oper}(h:l[i]? =some o)(ho:jak o=true)(his:i<s):cntS l i<cntS l s:=by
 have h1:cntS l (i+1)=cntS l i+1:=by simp[cntS,h,ho]
 have h2:=jje (l:=l) (by omega:i+1<=s);omega
theorem jij{l:List Oper}{m:Nat}:∀{i:Nat},m<cntS l i->∃s o,s<i/\l[s]? =some o/\jak o=true/\cntS l s=m
 | 0,h=>by simp[cntS]at h
 | i+1,h=>by
  by_cases h1:m<cntS l i
  ·obtain⟨s,o,h2,h3⟩:=jij h1;exact⟨s,o,by omega,h3⟩
  ·simp only[cntS]at h;split at h
   ·rename_i o ho;split at h
    ·rename_i hs;exact⟨i,o,by omega,ho,hs,by omega⟩
    ·omega
   ·omega
theorem jdw(o:Oper)(l:List Oper):∀n,cntS (o::l) (n+1)=(if jak o=true then 1 else 0)+cntS l n
 | 0=>by simp[cntS]
 | n+1=>by
  have:=jdw o l n;simp only[cntS]at this⊢;rw[List.getElem?_cons_succ];omega
theorem jet{K:St->Prop}:∀(l:List Oper) (st:St),jca G K l st->∃rk:Nat->List (Nat×Nat×List (List IV)),rk 0=st.rows/\
  (∀i o,l[i]? =some o->jak o=true->StepR G {st with rows:=rk (cntS l i)} o (rk (cntS l i+1)))/\K {st with rows:=rk (cntS l l.length)}
 | [],st,h=>⟨fun _=>st.rows,rfl,fun i o hi=>by simp at hi,h⟩
 | o::l,st,h=>by
  unfold jca at h;split at h
  ·rename_i hs;split at h
   ·rename_i t p x ho;obtain⟨rows,h1,h2⟩:=aStQ_of h;obtain⟨rk,h3,h4,h5⟩:=jet l _ h1;refine⟨fun k=>match k with | 0=>st.rows | k+1=>rk k,rfl,fun i o' hi ho'=> ?_,?_⟩
    ·cases i with
     | zero=>
      simp at hi;subst hi;refine⟨t,p,x,ho,?_⟩;show aStQ G (· =rk 0) _ t p x;rw[h3];exact h2
     | succ i=>
      have h6:=h4 i o' (by simpa using hi) ho';rw[jdw,if_pos hs,Nat.add_comm 1];exact h6
    ·rw[List.length_cons,jdw,if_pos hs,Nat.add_comm 1];exact h5
   ·exact h.elim
  ·rename_i hs;obtain⟨rk,h3,h4,h5⟩:=jet l _ h;refine⟨rk,h3,fun i o' hi ho'=> ?_,?_⟩
   ·cases i with
    | zero=>simp at hi;subst hi;exact absurd ho' hs
    | succ i=>
     have h6:=h4 i o' (by simpa using hi) ho';rw[jdw,if_neg hs,Nat.zero_add];exact h6
   ·rw[List.length_cons,jdw,if_neg hs,Nat.zero_add];exact h5
theorem jhd:∀(l:List Oper) (res:Nat->AV) (L:Nat->Bool) (j:Nat) (st:St),stUp res L (l.take j) st=stUp res (fun i=>decide (i<j)&&L i) l st
 | [],_,_,j,st=>by simp[stUp]
 | o::l,res,L,0,st=>by
  have:∀(l:List Oper) (res:Nat->AV) (L:Nat->Bool) (st:St),stUp res (fun i=>decide (i<0)&&L i) l st=st:=by
   intro l
   induction l with
   | nil=>intros;rfl
   | cons o l ih=>intro res L st;simp only[stUp,Nat.not_lt_zero,decide_false,Bool.false_and,Bool.false_eq_true,if_false];simpa using ih (fun i=>res (i+1)) (fun i=>L (i+1)) st
  rw[this];rfl
 | o::l,res,L,j+1,st=>by
  simp only[List.take_succ_cons,stUp];rw[jhd l];simp
theorem jd5(r:List (Nat×Nat×List (List IV)))(x:Operand):evO {st with rows:=r} x=evO st x:=by cases x<;>rfl
theorem jg0(r:List (Nat×Nat×List (List IV))):∀ps:List (Nat×Operand),jcj {st with rows:=r} ps=jcj st ps
 | []=>rfl
 | (i,x)::ps=>by simp only[jcj,jd5,jg0 r ps]
theorem jjb(r:List (Nat×Nat×List (List IV))):evO {st with rows:=r}=evO st:=funext (jd5 r)
theorem mapOf_rows(r:List (Nat×Nat×List (List IV)))(m:AV):mapOf {st with rows:=r} m=mapOf st m:=by
 cases m<;>rfl
theorem yv_rows(r:List (Nat×Nat×List (List IV))){o:Oper}(h:jf5 o=false):yv G {st with rows:=r} o=yv G st o:=by
 unfold yv;unfold jf5 at h;split at h
 ·cases h
 ·rename_i hno;cases ho:o.op<;>first | (exact absurd ho (hno _ _)) | simp only[jd5,jjb,jg0,mapOf_rows]
theorem yLoad_mono{r:List (Nat×Nat×List (List IV))}(hr:∀d x,look st.rows d=some x->look r d=some x){t:TypeId}{p av:AV}(h:yLoad G st t p=some av):yLoad G {st with rows:=r} t p=some av:=by
 unfold yLoad at h⊢;split at h
 ·cases h
 ·rename_i h0;rw[if_neg h0];split at h
  ·exact h
  ·split at h
   ·rename_i hl;dsimp only;rw[hr _ _ hl];exact h
   ·cases h
  ·cases h
theorem yv_mono{r:List (Nat×Nat×List (List IV))}(hr:∀d x,look st.rows d=some x->look r d=some x){o:Oper}{av:AV}(h:yv G st o=some av):yv G {st with rows:=r} o=some av:=by
 cases hl:jf5 o with
 | false=>rw[yv_rows r hl];exact h
 | true=>
  unfold jf5 at hl;split at hl
  ·rename_i t p ho;unfold yv at h⊢;rw[ho]at h⊢;dsimp only at h⊢;rw[jd5];exact yLoad_mono hr h
  ·cases hl
theorem jhf{r:List (Nat×Nat×List (List IV))}{o:Oper}{av:AV}(h:jf5 o=false\/∀d x,look st.rows d=some x->look r d=some x)(hq:qStep G ops st o av):qStep G ops {st with rows:=r} o av:=by
 have hv:∀{av},qVal G st o av->qVal G {st with rows:=r} o av:=fun hq=>by
  rcases hq with hy | ⟨c,f,g,caps,xs,r',ho,hc,hf,hxs,hg⟩ | ⟨c,ho,hc,hq⟩
  ·rcases h with h | h
   ·exact .inl (by rw[yv_rows r h];exact hy)
   ·exact .inl (yv_mono h hy)
  ·exact .inr (.inl ⟨c,f,g,caps,xs,r',ho,hc,by rw[jd5];exact hf,by rw[jjb];exact hxs,hg⟩)
  ·exact .inr (.inr ⟨c,ho,hc,by unfold appP at hq⊢;simp only[jd5];exact hq⟩)
 unfold qStep at hq⊢;split
 ·rename_i hg;rw[hg]at hq;exact hv hq
 ·rename_i j want hg;rw[hg]at hq;dsimp only at hq;have hy:jbj {st with rows:=r} ops j=jbj st ops j:=rfl;rw[hy];revert hq;generalize jbj st ops j=y;intro hq;cases y with
  | none=>exact hq
  | some y=>cases y with
   | none=>exact hq
   | some b=>
    dsimp only at hq⊢;by_cases hb:b=want
    ·rw[if_pos hb]at hq⊢;exact hv hq
    ·rw[if_neg hb]at hq⊢;exact hq
theorem Sim.congrL(h:Sim N w0 M0 β st a w)(hg:∀t,st.get t=st'.get t)(hr:∀d,look st.rows d=look st'.rows d)(ht:∀d,look st.toks d=look st'.toks d):Sim N w0 M0 β st' a w:=by
 have hM:Mo M0 β st'=Mo M0 β st:=by
  funext b o;simp only[Mo,hr,ht]
 refine⟨h.size,h.defers,h.below,h.m0,fun t=> ?_,fun d s es hd=> ?_,fun d s n hd=> ?_,fun d d' b h1 h2=> ?_,fun d hd=> ?_,fun k hN hN' hk=>h.nam k hN hN' (by rw[hr];exact hk),h.np,h.perm⟩
 ·rw[hM,<-hg];exact(h.fr t).move (Kept.refl w _) (fun _ _=>rfl) (fun d s n _ hl=>by rw[ht];exact hl) (fun _ _ _ _ _=>rfl) (Shp.refl _)
 ·rw[hM];exact h.rows d s es (by rw[hr];exact hd)
 ·exact h.toks d s n (by rw[ht];exact hd)
 ·rw[<-hr,<-ht]at h1 h2;exact h.inj d d' b h1 h2
 ·rw[<-ht];rw[<-hr]at hd;exact h.excl d hd
def jgf(G:Ctx)(K:St->Prop)(ops:List Oper)(st:St):Prop:=jca G K ops {st with rows:=jar G ops++st.rows}
theorem jam{α:Type}(l:List (Nat×α))(q:Nat->Bool)(d:Nat):look (l.filter fun p=>q p.1) d=if q d=true then look l d else none:=by
 induction l with
 | nil=>simp[look]
 | cons p l ih=>
  obtain⟨j,v⟩:=p;by_cases hj:q j=true
  ·rw[List.filter_cons_of_pos (by simpa using hj)];by_cases hd:d=j
   ·subst hd;simp only[look,if_true];rw[if_pos hj]
   ·simp only[look,hd,if_false,ih]
  ·rw[List.filter_cons_of_neg (by simpa using hj),ih];by_cases hd:d=j
   ·subst hd;rw[if_neg hj,if_neg hj]
   ·simp only[look,hd,if_false]
theorem jid{α:Type}(l l':List (Nat×α))(d:Nat):look (l++l') d=match look l d with | some x=>some x | none=>look l' d:=by
 induction l with
 | nil=>rfl
 | cons p l ih=>
  obtain⟨j,v⟩:=p;by_cases hd:d=j
  ·subst hd;simp[look]
  ·simp only[List.cons_append,look,hd,if_false,ih]
def upB(G:Ctx)(ops:List Oper)(listed:Array Bool)(d:Nat):Bool:=(List.range ops.length).all fun i=>match ops[i]? with
 | some o=>(match jaf G o with
  | some (k,_)=>k !=d || listed.getD i false
  | none=>true)
 | none=>true
theorem upB_iff{listed:Array Bool}{d:Nat}:upB G ops listed d=true↔∀(i:Nat) o z,ops[i]? =some o->jaf G o=some (d,z)->listed.getD i false=true:=by
 unfold upB;rw[List.all_eq_true];constructor
 ·intro h i o z hi ho;have:=h i (List.mem_range.2 (List.getElem?_eq_some_iff.1 hi).1);rw[hi]at this;simp only[ho]at this
  simpa using this
 ·intro h i hi;rw[List.mem_range]at hi;rw[List.getElem?_eq_getElem hi];dsimp only;cases ho:jaf G ops[i]with
  | none=>rfl
  | some p=>
   obtain⟨k,z⟩:=p;dsimp only;by_cases hk:k=d
   ·subst hk;rw[h i _ z (List.getElem?_eq_getElem hi) ho];simp
   ·simp[hk]
theorem jem{d:Nat}:∀{l:List Oper},(∀o∈l,∀z,jaf G o≠some (d,z))->look (jar G l) d=none
 | [],_=>rfl
 | o::l,h=>by
  have ih:=jem (l:=l) fun o' ho'=>h o' (List.mem_cons_of_mem _ ho');unfold jar;split
  ·rename_i k z ho;have:d≠k:=fun e=>h o (List.mem_cons_self ..) z (by rw[ho,e]);simp only[look,this,if_false];exact ih
  ·exact ih
theorem jgq{d:Nat}{z:List IV}:∀{l:List Oper} {i:Nat} {o:Oper},(∀(i j:Nat) oi oj zi zj,l[i]? =some oi->l[j]? =some oj->jaf G oi=some (d,zi)->jaf G oj=some (d,zj)->i=j)->
  l[i]? =some o->jaf G o=some (d,z)->look (jar G l) d=some (z.length,[z])
 | [],_,_,_,hi,_=>by simp at hi
 | o'::l,0,o,hu,hi,ho=>by
  simp at hi;subst hi;unfold jar;rw[ho];simp[look]
 | o'::l,i+1,o,hu,hi,ho=>by
  have ih:=jgq (l:=l) (i:=i) (o:=o) (z:=z) (fun i j oi oj zi zj h1 h2 h3 h4=>by
   have:=hu (i+1) (j+1) oi oj zi zj (by simpa using h1) (by simpa using h2) h3 h4;omega) (by simpa using hi) ho
  unfold jar;split
  ·rename_i k z' ho';have:d≠k:=fun e=>by
    subst e;have:=hu 0 (i+1) o' o z' z rfl hi ho' ho;omega
   simp only[look,this,if_false];exact ih
  ·exact ih
theorem St.Clean.fresh{d k:Nat}(h:st.Clean d):(st.fresh k).Clean d:=by
 refine⟨fun t hr=> ?_,?_,?_⟩
 ·rw[jf6]at hr;exact h.refs t (jbl hr).1
 ·by_cases e:d=k
  ·subst e;simp[St.fresh,ja2]
  ·simp only[St.fresh,ja6 _ e];exact h.rows
 ·by_cases e:d=k
  ·subst e;simp[St.fresh,ja2]
  ·simp only[St.fresh,ja6 _ e];exact h.toks
theorem jd9{G:Ctx}{d:Nat}:∀(l:List Oper) (st:St),(st.Clean d\/∃o∈l,∃z,jaf G o=some (d,z))->(freshAll G l st).Clean d
 | [],st,h=>by
  rcases h with h | ⟨o,ho,_⟩
  ·exact h
  ·cases ho
 | o::l,st,h=>by
  unfold freshAll;split
  ·rename_i k z ho;refine jd9 l _ ?_;rcases h with h | ⟨o',ho',z',hz'⟩
   ·exact .inl h.fresh
   ·rcases List.mem_cons.1 ho' with rfl | ho'
    ·rw[ho]at hz';cases hz';exact .inl (jc9 _ _)
    ·exact .inr ⟨o',ho',z',hz'⟩
  ·rename_i ho;refine jd9 l _ ?_;rcases h with h | ⟨o',ho',z',hz'⟩
   ·exact .inl h
   ·rcases List.mem_cons.1 ho' with rfl | ho'
    ·rw[ho]at hz';cases hz'
    ·exact .inr ⟨o',ho',z',hz'⟩
theorem Sim.unref(h:Sim N w0 M0 β st a w){d:Nat}(hdN:d<N)(hc:st.Clean d):Sim N w0 M0 (upd β d none) st a w:=by
 have hM:∀b o,Mo M0 (upd β d none) st b o->Mo M0 β st b o:=by
  rintro b o (hm | ⟨k,s,es,hk,hb⟩ | ⟨k,s,n,hk,hb⟩)
  ·exact .inl hm
  ·by_cases e:k=d
   ·subst e;rw[jaa]at hb;cases hb
   ·rw[ja9 _ _ e]at hb;exact .inr (.inl ⟨k,s,es,hk,hb⟩)
  ·by_cases e:k=d
   ·subst e;rw[jaa]at hb;cases hb.1
   ·rw[ja9 _ _ e]at hb;exact .inr (.inr ⟨k,s,n,hk,hb⟩)
 refine⟨h.size,h.defers,h.below,h.m0,fun t=> ?_,fun k s es hk=> ?_,fun k s n hk b hb=> ?_,fun k k' b h1 h2 hb hb'=> ?_,h.excl,fun k hN hN' hk=> ?_,h.np,je7 h.perm (.inl (Nat.lt_of_lt_of_le hdN h.np))⟩
 case refine_5=>
  have e:k≠d:=fun e=>by subst e;rw[hc.rows]at hk;cases hk
  rw[ja9 _ _ e];exact h.nam k hN hN' hk
 ·exact(h.fr t).move (Kept.less w hM) (fun k hr=>ja9 _ _ fun e=>hc.refs t (e▸hr)) (fun _ _ _ _ hl=>hl) (fun _ _ _ _ _=>rfl) (Shp.refl _)
 ·have e:k≠d:=fun e=>by subst e;rw[hc.rows]at hk;cases hk
  obtain⟨b,h1,h2,h3⟩:=h.rows k s es hk;exact⟨b,by rw[ja9 _ _ e];exact h1,h2,h3.move (Kept.less w hM) rfl⟩
 ·have e:k≠d:=fun e=>by subst e;rw[hc.toks]at hk;cases hk
  rw[ja9 _ _ e]at hb;exact h.toks k s n hk b hb
 ·have dom:∀k,((look st.rows k).isSome\/(look st.toks k).isSome)->k≠d:=fun k hk e=>by
   subst e;rw[hc.rows,hc.toks]at hk;simp at hk
  rw[ja9 _ _ (dom k h1)]at hb;rw[ja9 _ _ (dom k' h2)]at hb';exact h.inj k k' b h1 h2 hb hb'
theorem Sim.freshAll:∀(l:List Oper) {st:St} {β:Nat->Option Nat},(∀o∈l,∀d,o.dst=some d->d<N)->Sim N w0 M0 β st a w->∃β',Sim N w0 M0 β' (freshAll G l st) a w/\(∀d,β d=none->β' d=none)/\∀o∈l,∀d z,jaf G o=some (d,z)->β' d=none
 | [],st,β,_,h=>⟨β,h,fun _ h=>h,fun o ho=>by cases ho⟩
 | o::l,st,β,hds,h=>by
  unfold Abs.freshAll;split
  ·rename_i k z ho;obtain⟨β',h1,h2,h3⟩:=Sim.freshAll l (fun o' ho'=>hds o' (List.mem_cons_of_mem _ ho')) ((h.fresh k).unref (by
    obtain⟨_,_,h9,_⟩:=jci ho;exact hds o (List.mem_cons_self ..) k h9) (jc9 st k))
   refine⟨β',h1,fun d hd=>h2 d ?_,fun o' ho' d z' hz'=> ?_⟩
   ·by_cases e:d=k
    ·subst e;exact jaa _ _ _
    ·rw[ja9 _ _ e];exact hd
   ·rcases List.mem_cons.1 ho' with rfl | ho'
    ·rw[ho]at hz';cases hz';exact h2 _ (jaa _ _ _)
    ·exact h3 o' ho' d z' hz'
  ·rename_i ho;obtain⟨β',h1,h2,h3⟩:=Sim.freshAll l (fun o' ho'=>hds o' (List.mem_cons_of_mem _ ho')) h;refine⟨β',h1,h2,fun o' ho' d z' hz'=> ?_⟩;rcases List.mem_cons.1 ho' with rfl | ho'
   ·rw[ho]at hz';cases hz'
   ·exact h3 o' ho' d z' hz'
theorem RepA.moveB{w':World}{M M':Nat->Nat->Prop}{β':Nat->Option Nat}{toks:List (Nat×Nat×Nat)}{av:AV}{v:Value}(h:RepA w M β toks av v)(hk:Kept w M w' M')(hβ:∀d b,β d=some b->β' d=some b)
  (hh:∀d b,(look toks d).isSome->β d=some b->w'.heap[b]? =w.heap[b]?) (hs:Shp w w'):RepA w' M' β' toks av v:=by
 cases av with
 | im x=>exact Rep.kept (w:=w) h hk
 | und=>trivial
 | sx es=>exact⟨Rep.kept h.1 hk,h.2⟩
 | vec d e s es=>
  refine⟨Rep.kept h.1 hk,h.2.1,fun hl=> ?_⟩;rcases h.2.2 hl with hc | ⟨b,cap,cur,h1,h2,h3,h4⟩
  ·exact .inl hc
  ·exact .inr ⟨b,cap,cur,hβ d b h1,h2,by rw[hh d b (by simp[hl]) h1];exact h3,h4⟩
 | osl d s i n=>
  obtain⟨ad,c,h1,h2,h3⟩:=h;exact⟨ad,c,h1,h2,fun hn=>let⟨b,h4,h5⟩:=h3 hn;⟨b,hβ d b h4,h5⟩⟩
 | gsl d e s n=>
  obtain⟨b,cap,cur,h1,h2,h3,h4,h5,h6⟩:=h;obtain⟨cur',h7,h8⟩:=hs b cur e h3;exact⟨b,cap,cur',hβ d b h1,h2,h7,h4,h5,by rw[h8];exact h6⟩
 | loc d s i j=>
  obtain⟨b,h1,h2⟩:=h;exact⟨b,hβ d b h1,h2⟩
 | mpo d sc kvs=>
  obtain⟨b,h1,h2,h3⟩:=h;exact⟨b,hβ d b h1,h2,fun hl=>by rw[hh d b (by simp[hl]) h1];exact h3 hl⟩
theorem Sim.newRowB(h:Sim N w0 M0 β st a w){d s:Nat}{es:List (List IV)}{cells:Array Value}{T:TypeId}(hdN:d<N)(hb0:β d=none)(hr0:look st.rows d=none)(ht0:look st.toks d=none)(hes:∀e∈es,e.length=s)
  (hr:∀(i:Nat) e (j:Nat) x,es[i]? =some e->e[j]? =some x->x.one=true/\∃u,cells[i*s+j]? =some u/\Rep w (Mo M0 β st) x u):
  Sim N w0 M0 (upd β d (some w.heap.size)) {st with rows:=(d,s,es)::st.rows} a (w.alloc (.cells cells T)):=by
 have hM:∀b o,Mo M0 (upd β d (some w.heap.size)) {st with rows:=(d,s,es)::st.rows} b o->b≠w.heap.size->Mo M0 β st b o:=by
  intro b o hm hb;rcases hm with hm | ⟨k,s',es',hk,hkb⟩ | ⟨k,s',n,hk,hkb⟩
  ·exact .inl hm
  ·by_cases e:k=d
   ·subst e;rw[jaa]at hkb;cases hkb;exact absurd rfl hb
   ·rw[ja9 _ _ e]at hkb;exact .inr (.inl ⟨k,s',es',by simpa [look,e]using hk,hkb⟩)
  ·by_cases e:k=d
   ·subst e;exact absurd hk (by simp[ht0])
   ·rw[ja9 _ _ e]at hkb;exact .inr (.inr ⟨k,s',n,hk,hkb⟩)
 have hk:Kept w (Mo M0 β st) (w.alloc (.cells cells T)) (Mo M0 (upd β d (some w.heap.size)) {st with rows:=(d,s,es)::st.rows}):=by
  refine⟨fun b o u hcell hn=> ?_,fun b es c hb hn=> ?_,Shp.old fun b hb=>heap_alloc_old w _ hb⟩
  ·have hb:b<w.heap.size:=World.block_lt_of_cell? (a:=⟨b,o,none⟩) w hcell;exact⟨by rw[World.cell?_alloc_lt w _ _ hb];exact hcell,fun hm=>hn (hM b o hm (by omega))⟩
  ·have hlt:=(Array.getElem?_eq_some_iff.1 hb).1;exact⟨by rw[heap_alloc_old w _ hlt];exact hb,fun hm=>hn (hM b 0 hm (by omega))⟩
 have hold:∀b,b<w.heap.size->(w.alloc (.cells cells T)).heap[b]? =w.heap[b]? :=fun b hb=>heap_alloc_old w _ hb;have hrowlt:∀k s es b,look st.rows k=some (s,es)->β k=some b->b<w.heap.size:=fun k s es b hk hb=>by
  obtain⟨b',hb',_,cur,T',h1,_⟩:=h.rows k s es hk;rw[hb]at hb';cases hb';exact(Array.getElem?_eq_some_iff.1 h1).1
 refine⟨h.size,h.defers,h.below.alloc _,h.m0,fun t=> ?_,fun k s' es' hk'=> ?_,fun k s' n hk' b hb=> ?_,fun k k' b h1 h2 hb hb'=> ?_,fun k hk'=> ?_,fun k hN hN' hk'=> ?_,h.np,je7 h.perm (.inl (Nat.lt_of_lt_of_le hdN h.np))⟩
 case refine_6=>
  have e:k≠d:=by omega
  rw[ja9 _ _ e];exact h.nam k hN hN' (by simpa [look,e]using hk')
 ·refine(h.fr t).moveB hk (fun k b hb=> ?_) (fun k b hl hb=> ?_) (Shp.old hold)
  ·have e:k≠d:=fun e=>by subst e;rw[hb0]at hb;cases hb
   rw[ja9 _ _ e];exact hb
  ·obtain⟨⟨s',n⟩,hl'⟩:=Option.isSome_iff_exists.1 hl;exact hold b (h.toks k s' n hl' b hb).2
 ·by_cases e:k=d
  ·subst e;simp only[look,if_true,Option.some.injEq,Prod.mk.injEq]at hk';obtain⟨rfl,rfl⟩:=hk';refine⟨w.heap.size,jaa _ _ _,fun hp=>absurd (Nat.lt_of_lt_of_le (w0.lt _ hp) h.below.size) (Nat.lt_irrefl _),cells,T,heap_alloc_new w _,hes,fun i e j x hi hj=> ?_⟩;obtain⟨h1,u,h2,h3⟩:=hr i e j x hi hj;exact⟨h1,u,h2,h3.kept hk⟩
  ·have hk2:look st.rows k=some (s',es'):=by simpa [look,e]using hk'
   obtain⟨b,h1,h2,h3⟩:=h.rows k s' es' hk2;exact⟨b,by rw[ja9 _ _ e];exact h1,h2,h3.move hk (hold b (hrowlt k s' es' b hk2 h1))⟩
 ·have e:k≠d:=fun e=>by subst e;rw[ht0]at hk';cases hk'
  rw[ja9 _ _ e]at hb;obtain⟨h1,h2⟩:=h.toks k s' n hk' b hb;exact⟨h1,by simp;omega⟩
 ·have dom:∀k,((look ((d,s,es)::st.rows) k).isSome\/(look st.toks k).isSome)->k≠d->((look st.rows k).isSome\/(look st.toks k).isSome):=fun k hk hne=>by
   simpa [look,hne]using hk
  have lt:∀k b,((look st.rows k).isSome\/(look st.toks k).isSome)->β k=some b->b<w.heap.size:=fun k b hk hb=>by
   rcases hk with hk | hk
   ·obtain⟨⟨s',es'⟩,hl⟩:=Option.isSome_iff_exists.1 hk;exact hrowlt k s' es' b hl hb
   ·obtain⟨⟨s',n⟩,hl⟩:=Option.isSome_iff_exists.1 hk;exact(h.toks k s' n hl b hb).2
  by_cases e:k=d<;>by_cases e':k'=d
  ·omega
  ·subst e;rw[jaa]at hb;rw[ja9 _ _ e']at hb';cases hb;exact absurd (lt k' _ (dom k' h2 e') hb') (by omega)
  ·subst e';rw[jaa]at hb';rw[ja9 _ _ e]at hb;cases hb';exact absurd (lt k _ (dom k h1 e) hb) (by omega)
  ·rw[ja9 _ _ e]at hb;rw[ja9 _ _ e']at hb';exact h.inj k k' b (dom k h1 e) (dom k' h2 e') hb hb'
 ·by_cases e:k=d
  ·subst e;exact ht0
  ·exact h.excl k (by simpa [look,e]using hk')
theorem drawS_sound(hG:G.Good)(id:Nat)(hB:drawS ops.toArray=true)(hd:∀o∈ops,∀d,o.dst=some d->d<N){K:St->Prop}{Q':Exit->Act->World->Prop}
  (hK:∀st' β' a' w',K st'->Sim N w0 M0 β' st' a' w'->Q' .normal a' w') (h:Sim N w0 M0 β st a w)
  (hA:jav G ops (jgf G K ops) ops (freshAll G ops st)):(Code.region id ops.toArray true).wp G.P Q' a w:=by
 obtain⟨hafter,hpair,hstore,hone⟩:=drawS_spec hB;obtain⟨β0,h,hβ0⟩:∃β0,Sim N w0 M0 β0 (freshAll G ops st) a w/\∀o∈ops,∀d z,jaf G o=some (d,z)->β0 d=none:=by
  obtain⟨β',h1,_,h3⟩:=Sim.freshAll (G:=G) ops hd h;exact⟨β',h1,h3⟩
 have hclean:∀o∈ops,∀d z,jaf G o=some (d,z)->(freshAll G ops st).Clean d:=fun o ho d z hz=>jd9 ops st (.inr ⟨o,ho,z,hz⟩);generalize freshAll G ops st=st at hA h hclean;obtain⟨res,hres,hst⟩:=jfq _ _ hA;unfold jgf at hst;obtain⟨rk,hrk0,hrk,hfin⟩:=jet _ _ hst;have hsz:ops.toArray.size=ops.length:=by simp
 have arr:∀(i:Nat) (o:Oper),ops[i]? =some o->ops.toArray[i]? =some o:=fun i o h=>by simpa using h
 have rra:∀(i:Nat) (o:Oper),ops.toArray[i]? =some o->ops[i]? =some o:=fun i o h=>by simpa using h
 have sdst:∀o,jak o=true->o.dst=none/\o.guard=none:=fun o ho=>by
  unfold jak at ho;split at ho
  ·simp only[Bool.and_eq_true,Option.isNone_iff_eq_none]at ho;exact⟨ho.2,ho.1⟩
  ·cases ho
 have huni:∀(d i j:Nat) oi oj zi zj,ops[i]? =some oi->ops[j]? =some oj->jaf G oi=some (d,zi)->jaf G oj=some (d,zj)->i=j:=fun d i j oi oj zi zj h1 h2 h3 h4=>by
  obtain⟨_,_,d1,_,_,a1,_⟩:=jci h3;obtain⟨_,_,d2,_,_,a2,_⟩:=jci h4;exact hone i j oi oj d (arr i oi h1) (arr j oj h2) a1 a2 d1 d2
 have main:∀c (listed:Array Bool) (m:Nat) (a:Act) (w:World) (β:Nat->Option Nat),cntB listed ops.toArray.size=c->HeadInv .any ops.toArray ops.toArray.size listed->m<=cntS ops ops.length->
   (∀s o,ops[s]? =some o->jak o=true->(listed.getD s false=true↔cntS ops s<m))->
   (∀i o d z,ops[i]? =some o->jaf G o=some (d,z)->listed.getD i false=false->β d=none/\look (rk m) d=some (z.length,[z]))->
   Sim N w0 M0 β {stUp res (fun i=>listed.getD i false&&headL ops i) ops st with rows:=(rk m).filter fun p=>upB G ops listed p.1} a w->wpAny G.P .any ops.toArray Q' c listed a w:=by
  intro c
  induction c with
  | zero=>
   intro listed m a w β hc inv hm hls hal hs;have hall:=jd0 hc;have hmm:m=cntS ops ops.length:=by
    rcases Nat.lt_or_ge m (cntS ops ops.length)with hlt | hge
    ·obtain⟨s,o,h1,h2,h3,h4⟩:=jij hlt;have:=(hls s o h2 h3).1 (hall s (by rw[hsz];exact h1));omega
    ·omega
   subst hmm;refine⟨?_,?_⟩
   ·cases hr:Region.ready .any ops.toArray listed with
    | nil=>rfl
    | cons i r=>
     have hi:i∈Region.ready .any ops.toArray listed:=by rw[hr];exact List.mem_cons_self ..
     obtain⟨hun,oi,hoi,_⟩:=mem_ready.1 hi;have hisz:i<ops.toArray.size:=(Array.getElem?_eq_some_iff.1 hoi).1;have:=hall i hisz;rw[getD_both hun]at this;cases this
   ·refine hK _ _ _ _ hfin (hs.congrL (fun t=> ?_) (fun d=> ?_) (fun d=> ?_))
    ·exact jap _ _ _ _ _ _ rfl fun i o hi _=>by
      have:=hall i (by rw[hsz];exact(List.getElem?_eq_some_iff.1 hi).1);rw[this,Bool.true_and]
    ·show look (List.filter (fun p=>upB G ops listed p.1) _) d=look _ d;rw[jam,if_pos (upB_iff.2 fun i o z hi _=>hall i (by rw[hsz];exact(List.getElem?_eq_some_iff.1 hi).1))]
    ·show look (stUp _ _ _ _).toks d=look (stUp _ _ _ _).toks d;rw[(ja4 _ _ _ _).2,(ja4 _ _ _ _).2]
  | succ c ih=>
   intro listed m a w β hc inv hm hls hal hs;obtain⟨i0,hi0,hun0,hmin⟩:=jec (by omega:cntB listed ops.toArray.size≠0);have hready0:i0∈Region.ready .any ops.toArray listed:=by
    have hil:i0<ops.length:=by rw[<-hsz];omega
    exact mem_ready.2 ⟨getD_in (by rw[inv.size];exact hi0) hun0,ops[i0],arr i0 _ (List.getElem?_eq_getElem hil),fun e he hb=>hmin _ (hafter i0 _ (arr _ _ (List.getElem?_eq_getElem hil)) e he hb)⟩
   refine⟨fun hr=>(by rw[hr]at hready0;cases hready0),fun i hi=> ?_⟩;obtain⟨hun,oi,hoi,hall⟩:=mem_ready.1 hi;have hoi':=rra i oi hoi;have hisz:i<ops.toArray.size:=(Array.getElem?_eq_some_iff.1 hoi).1;have hunf:listed.getD i false=false:=getD_both hun;have hisL:i<listed.size:=by rw[inv.size];exact hisz
   have hcnt:cntB (listed.setIfInBounds i true) ops.toArray.size=c:=by
    have:=jeb hisL hunf ops.toArray.size;rw[if_pos hisz]at this;omega
   have hset:∀k,k≠i->(listed.setIfInBounds i true).getD k false=listed.getD k false:=fun k hk=>getD_set_ne false (Ne.symm hk);have hseti:(listed.setIfInBounds i true).getD i false=true:=by simp[hisL]
   have hupn:jaf G oi=none->∀d,upB G ops (listed.setIfInBounds i true) d=upB G ops listed d:=fun hno d=>by
    rw[Bool.eq_iff_iff,upB_iff,upB_iff];have:∀(k:Nat) o z,ops[k]? =some o->jaf G o=some (d,z)->k≠i:=fun k o z hk ho e=>by
     subst e;rw[hoi']at hk;cases hk;rw[hno]at ho;cases ho
    constructor
    ·intro h k o z hk ho;rw[<-hset k (this k o z hk ho)];exact h k o z hk ho
    ·intro h k o z hk ho;rw[hset k (this k o z hk ho)];exact h k o z hk ho
   cases hsi:jak oi with
   | true=>
    have hno:jaf G oi=none:=by
     cases hc':jaf G oi with
     | none=>rfl
     | some p=>obtain⟨_,_,_,_,_,_,hst',_⟩:=jci (d:=p.1) (z:=p.2) hc';rw[hsi]at hst';cases hst'
    obtain⟨hdn,hgn⟩:=sdst oi hsi;have hmi:m=cntS ops i:=by
     rcases Nat.lt_or_ge m (cntS ops i)with hlt | hge
     ·obtain⟨s,o,h1,h2,h3,h4⟩:=jij hlt;have hl:=jd7 inv.closed hoi hall _ (hstore s i o oi (arr s o h2) hoi hsi (.inl ⟨h3,h1⟩));have:=(hls s o h2 h3).1 hl;omega
     ·have:=mt (hls i oi hoi' hsi).2 (by rw[hunf];simp);omega
    obtain⟨t,p,x,hop,hq⟩:=hrk i oi hoi' hsi;have hev:∀z:Operand,z∈oi.op.operands->evO {stUp res (fun i=>listed.getD i false&&headL ops i) ops st with rows:=(rk m).filter fun p=>upB G ops listed p.1} z=evO {stUp res (headL ops) ops st with rows:=rk (cntS ops i)} z:=by
     intro z hz;rw[jd5,jd5];refine jbr fun t' hzt=>jap _ _ _ _ _ _ rfl fun k ok hk hdk=> ?_;have hsk:jak ok=false:=by
      cases hb:jak ok with
      | false=>rfl
      | true=>rw[(sdst ok hb).1]at hdk;cases hdk
     have hlk:=jd7 inv.closed hoi hall _ (hstore k i ok oi (arr k ok hk) hoi hsi (.inr (.inr ⟨hsk,t',hdk,jaj hz hzt⟩)));rw[hlk,Bool.true_and]
    have hx:x∈oi.op.operands:=by rw[hop];simp[Op.operands]
    have hp:p∈oi.op.operands:=by rw[hop];simp[Op.operands]
    unfold aStQ at hq;rw[<-hev x hx,<-hev p hp]at hq;split at hq
    ·rename_i y d s i1 j hy hpl;split at hq
     ·rename_i s' es hrow;split at hq
      ·rename_i cc hic;obtain⟨rfl,h0,hl,hones,hj,hrows⟩:=hq;have hr:=jd4 (jab hs x) hy;have hpv:=jab hs p;rw[hpl]at hpv;have hbd:β d≠none:=by
        obtain⟨b,hb,_⟩:=hpv;rw[hb];simp
       have hupd:upB G ops listed d=true:=upB_iff.2 fun k o z hk ho=>by
        cases hlk:listed.getD k false with
        | true=>rfl
        | false=>exact absurd (hal k o d z hk ho hlk).1 hbd
       have hrowm:look (rk m) d=some (s',es):=by rw[hmi];exact hrow
       have hrow':look ({stUp res (fun i=>listed.getD i false&&headL ops i) ops st with rows:=(rk m).filter fun p=>upB G ops listed p.1}:St).rows d=some (s',es):=by
        show look (List.filter (fun p=>upB G ops listed p.1) _) d=_;rw[jam,if_pos hupd];exact hrowm
       obtain⟨w',hrun,hsim⟩:=jip hG.ok hs h0 hrow' hic hl hones hj hpv hr;have hrows':rk (m+1)=setRow (rk m) d s' (es.set i1 (jah cc j (cellsOf y))):=by rw[hmi];exact hrows.symm
       have hm1:m+1<=cntS ops ops.length:=by
        have:=jjt hoi' hsi (by rw[<-hsz];exact hisz:i<ops.length);omega
       have next:wpAny G.P .any ops.toArray Q' c (listed.setIfInBounds i true) a w':=by
        refine ih _ (m+1) _ _ β hcnt (inv.set hi hisz) hm1 (fun s o hs' ho'=> ?_) (fun k o d' z hk ho hlk=> ?_) ?_
        ·by_cases hsi':s=i
         ·subst hsi';rw[hseti];simp;omega
         ·rw[hset s hsi',hls s o hs' ho'];have:cntS ops s≠m:=fun e=>by
           rcases Nat.lt_or_gt_of_ne hsi' with hlt | hgt
           ·have:=jjt hs' ho' hlt;omega
           ·have:=jjt hoi' hsi hgt;omega
          omega
        ·have hki:k≠i:=fun e=>by subst e;rw[hseti]at hlk;cases hlk
         rw[hset k hki]at hlk;obtain⟨h1,h2⟩:=hal k o d' z hk ho hlk;have hne:d'≠d:=fun e=>by subst e;exact hbd h1
         refine⟨h1,?_⟩;rw[hrows',jbg hne];exact h2
        ·refine hsim.congrL (fun t'=> ?_) (fun k=> ?_) (fun k=> ?_)
         ·refine jap (st:=st) (st':=st) ops _ _ _ rfl fun k ok hk hdk=> ?_;have hki:k≠i:=fun e=>by
           subst e;rw[hoi']at hk;cases hk;rw[hdn]at hdk;cases hdk
          rw[hset k hki]
         ·show look (setRow (List.filter (fun p=>upB G ops listed p.1) (rk m)) d s' _) k=look (List.filter (fun p=>upB G ops (listed.setIfInBounds i true) p.1) (rk (m+1))) k;rw[jam,hupn hno,hrows'];by_cases hk:k=d
          ·subst hk;rw[if_pos hupd,jbf (by rw[jam,if_pos hupd,hrowm];rfl),jbf (by rw[hrowm];rfl)]
          ·rw[jbg hk,jbg hk,jam]
         ·show look (stUp _ _ _ _).toks k=look (stUp _ _ _ _).toks k;rw[(ja4 _ _ _ _).2,(ja4 _ _ _ _).2]
       unfold wpOp;rw[hoi];dsimp only;rw[if_pos (by simp[Region.wanted,hgn])];refine .inl ?_;unfold Oper.wp execOp;rw[hop];simp only[Sem.run_bind,hrun,Result.andThen_ok,Sem.run_pure,Oper.upon_skip];rw[hdn];exact next
      ·exact hq.elim
     ·exact hq.elim
    ·exact hq.elim
   | false=>
    have hhead:headL ops i=true:=by simp[headL,hoi',hsi]
    have hwait:∀k,Region.waitsFor .any ops.toArray i k=true->listed.getD k false=true:=fun k hk=>by
     obtain⟨oj,hoj,e,he,hb,hon⟩:=Region.waitsFor_spec hk;rw[hoi]at hoj;cases hoj;rw[<-hon];exact hall e he hb
    have hlate:∀k,Region.waitsFor .any ops.toArray k i=true->listed.getD k false=false:=fun k hk=>by
     obtain⟨ok,hok,e,he,hb,hon⟩:=Region.waitsFor_spec hk;cases hl:listed.getD k false with
     | false=>rfl
     | true=>
      have:=inv.closed k ok hok hl e he hb;rw[hon,hunf]at this;cases this
    have hnst:∀(k:Nat) (ok:Oper) (t:Nat),ops[k]? =some ok->ok.dst=some t->jak ok=false:=fun k ok t hk hdk=>by
     cases hb:jak ok with
     | false=>rfl
     | true=>rw[(sdst ok hb).1]at hdk;cases hdk
    have hagree:∀t∈oi.looksAt ops.toArray,(stUp res (headL ops) (ops.take i) st).get t=(stUp res (fun k=>listed.getD k false&&headL ops k) ops st).get t:=by
     intro t ht;rw[jhd];refine jap _ _ _ _ _ _ rfl fun k ok hok hdk=> ?_;have hsk:=hnst k ok t hok hdk;have hhk:headL ops k=true:=by simp[headL,hok,hsk]
     rw[hhk,Bool.and_true,Bool.and_true];rcases Nat.lt_trichotomy k i with hki | hki | hki
     ·rcases hpair k i ok oi hki (arr k ok hok) hoi hsk hsi with hw | hap
      ·rw[hwait k hw];simp[hki]
      ·exact absurd ht ((Oper.apart_spec hap).1 t hdk)
     ·subst hki;rw[hunf];simp
     ·rcases hpair i k oi ok hki hoi (arr k ok hok) hsi hsk with hw | hap
      ·rw[hlate k hw];simp;omega
      ·exact absurd ht ((Oper.apart_spec hap).2.2 t hdk)
    have hstUp:∀v,(St.put (stUp res (fun k=>listed.getD k false&&headL ops k) ops st) oi.dst (res i))=v->∀t,v.get t=(stUp res (fun k=>(listed.setIfInBounds i true).getD k false&&headL ops k) ops st).get t:=fun v hv t=>by
     subst hv;by_cases hdt:oi.dst=some t
     ·rw[hdt,jan];refine(jcf ops res _ st i oi hoi' hdt (by rw[hseti,hhead];rfl) fun k ok hik hok hLk hdk=> ?_).symm;have hsk:=hnst k ok t hok hdk;rw[Bool.and_eq_true]at hLk;rw[hset k (by omega)]at hLk;rcases hpair i k oi ok hik hoi (arr k ok hok) hsi hsk with hw | hap
      ·rw[hlate k hw]at hLk;cases hLk.1
      ·exact(Oper.apart_spec hap).2.1 t hdt hdk
     ·rw[jbm hdt];refine jap (st:=st) (st':=st) ops _ _ _ rfl fun k ok hk hdk=> ?_;have:k≠i:=fun e=>by
       subst e;rw[hoi']at hk;cases hk;exact hdt hdk
      rw[hset k this]
    have hls':∀s o,ops[s]? =some o->jak o=true->((listed.setIfInBounds i true).getD s false=true↔cntS ops s<m):=fun s o hs' ho'=>by
     have:s≠i:=fun e=>by subst e;rw[hoi']at hs';cases hs';rw[hsi]at ho';cases ho'
     rw[hset s this];exact hls s o hs' ho'
    have hresi:=hres i oi hoi' hsi;unfold hStep at hresi;cases hno:jaf G oi with
    | some p=>
     obtain⟨d,z⟩:=p;rw[hno]at hresi;dsimp only at hresi;obtain⟨t,hop,hdst,hgu,hz,_⟩:=jci hno;obtain⟨hbd,hrkd⟩:=hal i oi d z hoi' hno hunf;have hcl:=hclean oi (List.mem_of_getElem? hoi') d z hno;have hupd:upB G ops listed d=false:=by
      cases hu:upB G ops listed d with
      | false=>rfl
      | true=>rw[upB_iff.1 hu i oi z hoi' hno]at hunf;cases hunf
     have hupd':upB G ops (listed.setIfInBounds i true) d=true:=upB_iff.2 fun k o z' hk ho=>by
      rw[huni d k i o oi z' z hk hoi' ho hno];exact hseti
     have hupk:∀k,k≠d->upB G ops (listed.setIfInBounds i true) k=upB G ops listed k:=fun k hkd=>by
      rw[Bool.eq_iff_iff,upB_iff,upB_iff];have:∀(j:Nat) o z',ops[j]? =some o->jaf G o=some (k,z')->j≠i:=fun j o z' hj ho e=>by
       subst e;rw[hoi']at hj;cases hj;rw[hno]at ho;cases ho;exact hkd rfl
      constructor
      ·intro h j o z' hj ho;rw[<-hset j (this j o z' hj ho)];exact h j o z' hj ho
      ·intro h j o z' hj ho;rw[hset j (this j o z' hj ho)];exact h j o z' hj ho
     obtain⟨zv,hzr,hz1,hz2,_,hzs⟩:=jco hG.ok hz w (Mo M0 β {stUp res (fun k=>listed.getD k false&&headL ops k) ops st with rows:=(rk m).filter fun p=>upB G ops listed p.1});have hrow:∀(i':Nat) e (j:Nat) x,[z][i']? =some e->e[j]? =some x->x.one=true/\∃u,zv.cells[i'*z.length+j]? =some u/\Rep w (Mo M0 β {stUp res (fun k=>listed.getD k false&&headL ops k) ops st with rows:=(rk m).filter fun p=>upB G ops listed p.1}) x u:=by
      intro i' e j x hi' hj;cases i' with
      | succ i'=>simp at hi'
      | zero=>
       simp at hi';subst hi';have hlt:j<zv.cells.toList.length:=by rw[<-hz1.1];exact(List.getElem?_eq_some_iff.1 hj).1
       have hu:=List.getElem?_eq_getElem hlt;refine⟨hz2 x (List.mem_of_getElem? hj),_,?_,hz1.2 j x _ hj hu⟩;rw[Nat.zero_mul,Nat.zero_add,<-Array.getElem?_toList];exact hu
     have hnew:=hs.newRowB (T:=t) (d:=d) (s:=z.length) (es:=[z]) (hd oi (List.mem_of_getElem? hoi') d hdst) hbd (by
      show look (List.filter (fun p=>upB G ops listed p.1) _) d=none;rw[jam,hupd];rfl) (by
      show look (stUp _ _ _ _).toks d=none;rw[(ja4 _ _ _ _).2];exact hcl.toks) (fun e he=>by simp at he;rw[he]) hrow
     have hput:=hnew.put (dst:=some d) (av:= .loc d z.length 0 0) (v:= .pointer (some ⟨w.heap.size,0,none⟩)) (fun d' e=>by cases e;exact hd oi (List.mem_of_getElem? hoi') d hdst) ⟨w.heap.size,jaa _ _ _,by simp⟩;have next:wpAny G.P .any ops.toArray Q' c (listed.setIfInBounds i true) (a.put (some d) (.pointer (some ⟨w.heap.size,0,none⟩))) (w.alloc (.cells zv.cells t)):=by
      refine ih _ m _ _ _ hcnt (inv.set hi hisz) hm hls' (fun k o d' z' hk ho hlk=> ?_) (hput.congrL (fun t'=> ?_) (fun k=> ?_) (fun k=> ?_))
      ·have hki:k≠i:=fun e=>by subst e;rw[hseti]at hlk;cases hlk
       rw[hset k hki]at hlk;have hne:d'≠d:=fun e=>by subst e;exact hki (huni d' k i o oi z' z hk hoi' ho hno)
       obtain⟨h1,h2⟩:=hal k o d' z' hk ho hlk;exact⟨by rw[ja9 _ _ hne];exact h1,h2⟩
      ·have:=hstUp _ rfl t';rw[hdst,hresi]at this;exact this
      ·show look ((d,z.length,[z])::List.filter (fun p=>upB G ops listed p.1) (rk m)) k=look (List.filter (fun p=>upB G ops (listed.setIfInBounds i true) p.1) (rk m)) k;rw[jam];by_cases hk:k=d
       ·subst hk;rw[if_pos hupd',hrkd];simp[look]
       ·rw[hupk k hk];simp only[look,hk,if_false];rw[jam]
      ·show look (stUp _ _ _ _).toks k=look (stUp _ _ _ _).toks k;rw[(ja4 _ _ _ _).2,(ja4 _ _ _ _).2]
     unfold wpOp;rw[hoi];dsimp only;rw[if_pos (by simp[Region.wanted,hgu])];refine .inl ?_;unfold Oper.wp execOp;rw[hop];simp only[Instr.alloc,Sem.run_bind,hzr,Result.andThen_ok,newVar,newRow,run_newObj,Sem.run_pure,World.alloc_eq,Oper.upon_value,hdst];exact next
    | none=>
    rw[hno]at hresi;dsimp only at hresi;have hq0:qStep G ops (stUp res (fun k=>listed.getD k false&&headL ops k) ops st) oi (res i):=
     jcw hagree (by rw[(ja4 _ _ _ _).1,(ja4 _ _ _ _).1]) (by rw[(ja4 _ _ _ _).2,(ja4 _ _ _ _).2]) hresi
    have hq:qStep G ops {stUp res (fun k=>listed.getD k false&&headL ops k) ops st with rows:=(rk m).filter fun p=>upB G ops listed p.1} oi (res i):=by
     refine jhf ?_ hq0;cases hld:jf5 oi with
     | false=>exact .inl rfl
     | true=>
      refine .inr fun d x hx=> ?_;rw[(ja4 _ _ _ _).1]at hx;have hm0:m=0:=by
       rcases Nat.eq_zero_or_pos m with e | hpos
       ·exact e
       ·have hlt:0<cntS ops ops.length:=by omega
        obtain⟨s,o,h1,h2,h3,h4⟩:=jij hlt;have hl:=(hls s o h2 h3).2 (by omega);have:=jc5 inv.closed _ _ (hstore i s oi o hoi (arr s o h2) h3 (.inr (.inl hld))) hl;rw[hunf]at this;cases this
      have hnk:∀o∈ops,∀z,jaf G o≠some (d,z):=fun o ho z hz=>by
       rw[(hclean o ho d z hz).rows]at hx;cases hx
      rw[jam,if_pos (upB_iff.2 fun k o z hk ho=>absurd ho (hnk o (List.mem_of_getElem? hk) z)),hm0,hrk0];show look (jar G ops++(stUp _ _ _ _).rows) d=_;rw[jid,jem hnk,(ja4 _ _ _ _).1];exact hx
    have next:∀v w2,Below w.heap.size w w2->RepA w2 (Mo M0 β {stUp res (fun k=>listed.getD k false&&headL ops k) ops st with rows:=(rk m).filter fun p=>upB G ops listed p.1}) β (stUp res (fun k=>listed.getD k false&&headL ops k) ops st).toks (res i) v->
      wpAny G.P .any ops.toArray Q' c (listed.setIfInBounds i true) (a.put oi.dst v) w2:=by
     intro v w2 hb hv;have hs2:=(hs.ext hb).put (dst:=oi.dst) (hd oi (List.mem_of_getElem? hoi')) hv;have hpr:∀(s:St) d v,(s.put d v).rows=s.rows/\(s.put d v).toks=s.toks:=fun s d v=>by unfold St.put;split<;>exact⟨rfl,rfl⟩
     refine ih _ m _ _ β hcnt (inv.set hi hisz) hm hls' (fun k o d z hk ho hlk=> ?_) (hs2.congrL (fun t=> ?_) (fun k=> ?_) (fun k=> ?_))
     ·have hki:k≠i:=fun e=>by subst e;rw[hseti]at hlk;cases hlk
      rw[hset k hki]at hlk;exact hal k o d z hk ho hlk
     ·refine Eq.trans ?_ (hstUp _ rfl t);cases oi.dst<;>rfl
     ·rw[(hpr _ _ _).1];show look (List.filter (fun p=>upB G ops listed p.1) (rk m)) k=look (List.filter (fun p=>upB G ops (listed.setIfInBounds i true) p.1) (rk m)) k;rw[jam,jam,hupn hno]
     ·rw[(hpr _ _ _).2];show look (stUp _ _ _ _).toks k=look (stUp _ _ _ _).toks k;rw[(ja4 _ _ _ _).2,(ja4 _ _ _ _).2]
    unfold wpOp;rw[hoi];dsimp only;unfold qStep at hq;cases hg:oi.guard with
    | none=>
     rw[hg]at hq;rw[if_pos (by simp[Region.wanted,hg])];exact .inl (jb8 hG hs hq next)
    | some p=>
     obtain⟨j,want⟩:=p;rw[hg]at hq;dsimp only at hq;split at hq
     ·rename_i b hy;have hyc:=jc6 hs hy;by_cases hb:b=want
      ·rw[if_pos hb]at hq;rw[if_pos (by simp[Region.wanted,hg,hyc,hb])];exact .inl (jb8 hG hs hq next)
      ·rw[if_neg hb]at hq;rw[if_neg (by simp[Region.wanted,hg,hyc,hb])];exact next _ w (Below.refl _ _) (by rw[hq];exact Rep.sc _ rfl)
     ·rename_i hy;have hyc:=jcr hs hy;rw[if_neg (by simp[Region.wanted,hg,hyc])];exact next _ w (Below.refl _ _) (by rw[hq];exact Rep.sc _ rfl)
     ·exact hq.elim
 refine wp_region_any hG.mixed ?_;have inv0:HeadInv .any ops.toArray ops.toArray.size (Array.replicate ops.toArray.size false):=
  ⟨by simp,fun j oj _ hl=>(by rw[getD_replicate_false]at hl;cases hl),fun t h1 h2=>by omega⟩
 have hc0:∀k,cntB (Array.replicate ops.toArray.size false) k=k:=fun k=>by
  induction k with
  | zero=>rfl
  | succ k ihk=>simp only[cntB,ihk,getD_replicate_false];simp
 have hf:∀(l:List Oper) (res:Nat->AV) (L:Nat->Bool) (st:St),(∀i,L i=false)->stUp res L l st=st:=by
  intro l
  induction l with
  | nil=>intros;rfl
  | cons o l ih=>
   intro res L st hL;simp only[stUp,hL 0];exact ih _ _ _ fun i=>hL (i+1)
 have hnone:∀i:Nat,(Array.replicate ops.toArray.size false).getD i false=false:=fun i=>getD_replicate_false _ _;have hrk0':rk 0=jar G ops++st.rows:=by rw[hrk0];show jar G ops++(stUp _ _ _ _).rows=_;rw[(ja4 _ _ _ _).1]
 refine main ops.toArray.size (Array.replicate ops.toArray.size false) 0 a _ β0 (hc0 _) inv0 (Nat.zero_le _) (fun s o _ _=>by rw[getD_replicate_false];simp) (fun i o d z hi ho _=>⟨hβ0 o (List.mem_of_getElem? hi) d z ho,?_⟩) ?_
 ·rw[hrk0',jid,jgq (fun i j oi oj zi zj=>huni d i j oi oj zi zj) hi ho]
 rw[hf _ _ _ _ fun i=>by rw[getD_replicate_false];rfl];refine(h.drew).congrL (fun t=>rfl) (fun d=> ?_) (fun d=>rfl);show look st.rows d=look (List.filter (fun p=>upB G ops _ p.1) (rk 0)) d;rw[jam,hrk0'];by_cases hk:∃o∈ops,∃z,jaf G o=some (d,z)
 ·obtain⟨o,ho,z,hz⟩:=hk;obtain⟨i,hi⟩:=List.getElem?_of_mem ho;rw[(hclean o ho d z hz).rows];split
  ·rename_i hu;have:=upB_iff.1 hu i o z hi hz;rw[hnone]at this;cases this
  ·rfl
 ·have hnk:∀o∈ops,∀z,jaf G o≠some (d,z):=fun o ho z hz=>hk ⟨o,ho,z,hz⟩;rw[if_pos (upB_iff.2 fun k o z hk ho=>absurd ho (hnk o (List.mem_of_getElem? hk) z)),jid,jem hnk]
end
end
section
open Go.RowKit (Below)
section
variable{G:Ctx}{N:Nat}{w0:Base}{w w':World}{M0:Nat->Nat->Prop}{β:Nat->Option Nat}{st st':St}{a:Act}{ops:List Oper}
theorem Mo_tok0{d s n b o:Nat}(h:Mo M0 (upd β d none) (tokSt st d d s n) b o):Mo M0 β st b o:=by
 rcases h with h | ⟨k,s',es',hk,hkb⟩ | ⟨k,s',n',hk,hkb,ho⟩
 ·exact .inl h
 ·have hne:k≠d:=fun e=>by subst e;simp[tokSt,ja2]at hk
  rw[ja9 _ _ hne]at hkb;simp only[tokSt,ja6 _ hne]at hk;exact .inr (.inl ⟨k,s',es',hk,hkb⟩)
 ·by_cases hne:k=d
  ·subst hne;rw[jaa]at hkb;cases hkb
  ·rw[ja9 _ _ hne]at hkb;exact .inr (.inr ⟨k,s',n',(jb1 hne hk).2,hkb,ho⟩)
theorem Mo_tokAt{d b s n b' o:Nat}(ht:look st.toks d=some (s,n))(hm:Mo M0 (upd β d (some b)) st b' o)(hr:look st.rows d=none):Mo M0 β st b' o\/(b'=b/\n*s<=o):=by
 rcases hm with hm | ⟨k,s',es',hk,hkb⟩ | ⟨k,s',n',hk,hkb,ho⟩
 ·exact .inl (.inl hm)
 ·have hne:k≠d:=fun e=>by subst e;rw[hr]at hk;cases hk
  rw[ja9 _ _ hne]at hkb;exact .inl (.inr (.inl ⟨k,s',es',hk,hkb⟩))
 ·by_cases hne:k=d
  ·subst hne;rw[jaa]at hkb;rw[ht]at hk;cases hkb;cases hk;exact .inr ⟨rfl,ho⟩
  ·rw[ja9 _ _ hne]at hkb;exact .inl (.inr (.inr ⟨k,s',n',hk,hkb,ho⟩))
theorem Sim.tokAt(h:Sim N w0 M0 β st a w)(hb:Below w.heap.size w w'){d s n b:Nat}(ht:look st.toks d=some (s,n))(hd:β d=none)(hb1:w.heap.size<=b)(hb2:b<w'.heap.size):
  Sim N w0 M0 (upd β d (some b)) st a w':=by
 have hrow:look st.rows d=none:=by
  cases hr:look st.rows d with
  | none=>rfl
  | some x=>have:=h.excl d (by simp[hr]);rw[ht]at this;cases this
 have hmo:∀b' o,b'<w.heap.size->¬Mo M0 β st b' o->¬Mo M0 (upd β d (some b)) st b' o:=fun b' o hl hn hm=>by
  rcases Mo_tokAt ht hm hrow with hm | ⟨e,_⟩
  ·exact hn hm
  ·omega
 have hk:Kept w (Mo M0 β st) w' (Mo M0 (upd β d (some b)) st):=
  ⟨fun b' o u hc hn=>have hl:=World.block_lt_of_cell? (a:=⟨b',o,none⟩) w hc;⟨by rw[<-hc];exact hb.cell hl,hmo b' o hl hn⟩,
   fun b' es c hc hn=>have hl:=(Array.getElem?_eq_some_iff.1 hc).1;⟨by rw[hb.block b' hl];exact hc,hmo b' 0 hl hn⟩,Shp.of hb⟩
 have hmon:∀k b',β k=some b'->upd β d (some b) k=some b':=fun k b' hkb=>by
  have hne:k≠d:=fun e=>by subst e;rw[hd]at hkb;cases hkb
  rw[ja9 _ _ hne];exact hkb
 have hlt:∀k b',((look st.rows k).isSome\/(look st.toks k).isSome)->β k=some b'->b'<w.heap.size:=fun k b' hk hkb=>by
  rcases hk with hk | hk
  ·obtain⟨⟨s',es'⟩,hl⟩:=Option.isSome_iff_exists.1 hk;obtain⟨b2,hb2,_,cur,T',h1,_⟩:=h.rows k s' es' hl;rw[hkb]at hb2;cases hb2;exact(Array.getElem?_eq_some_iff.1 h1).1
  ·obtain⟨⟨s',n'⟩,hl⟩:=Option.isSome_iff_exists.1 hk;exact(h.toks k s' n' hl b' hkb).2
 refine⟨h.size,h.defers,h.below.step hb,h.m0,fun t=> ?_,fun k s' es' hk'=> ?_,fun k s' n' hk' b' hb'=> ?_,fun k k' b' h1 h2 e1 e2=> ?_,h.excl,fun k hN hN' hk'=> ?_,h.np,fun b'=>hmon _ _ (h.perm b')⟩
 ·exact(h.fr t).moveB hk hmon (fun k b' hl hkb=>hb.block b' (hlt k b' (.inr hl) hkb)) (Shp.of hb)
 ·obtain⟨b',h1,h2,h3⟩:=h.rows k s' es' hk';exact⟨b',hmon k b' h1,h2,h3.move hk (hb.block b' (hlt k b' (.inl (by simp[hk'])) h1))⟩
 ·by_cases e:k=d
  ·subst e;rw[jaa]at hb';cases hb';exact⟨fun hp=>absurd (Nat.lt_of_lt_of_le (w0.lt _ hp) h.below.size) (by omega),hb2⟩
  ·rw[ja9 _ _ e]at hb';obtain⟨h1,h2⟩:=h.toks k s' n' hk' b' hb';exact⟨h1,Nat.lt_of_lt_of_le h2 hb.size⟩
 ·by_cases e:k=d<;>by_cases e':k'=d
  ·omega
  ·subst e;rw[jaa]at e1;rw[ja9 _ _ e']at e2;cases e1;exact absurd (hlt k' _ h2 e2) (by omega)
  ·subst e';rw[jaa]at e2;rw[ja9 _ _ e]at e1;cases e2;exact absurd (hlt k _ h1 e1) (by omega)
  ·rw[ja9 _ _ e]at e1;rw[ja9 _ _ e']at e2;exact h.inj k k' b' h1 h2 e1 e2
 ·have e:k≠d:=fun e=>by subst e;rw[hrow]at hk';cases hk'
  rw[ja9 _ _ e];exact h.nam k hN hN' hk'
