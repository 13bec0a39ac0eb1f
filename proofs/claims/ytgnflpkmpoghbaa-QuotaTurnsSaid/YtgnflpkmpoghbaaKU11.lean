/- A part of the proof. No further condition. -/
import Derived.Test.YtgnflpkmpoghbaaKU10
import Derived.RangeFuncNested
import Derived.RangeFuncBound
import Derived.RangeFuncCalls
import Derived.RangeFuncLeaves
import Derived.RangeFuncBox
import Derived.RangeFuncGives
import Derived.Shelf.Abstract
import Derived.Shelf.RegionOpen
import Derived.OwnWalkIn
import Derived.TacticsInMore
import Derived.LoopNIn
import Derived.LoopIn
import Derived.BigRegionIn
import Derived.BigFrameIn
import Derived.Maps.RangeRun
set_option linter.all false
set_option maxRecDepth 10000000
set_option maxHeartbeats 16000000
namespace Go.Abs
section
open Go.RowKit (Below)
def entAt(st:St)(d:Nat)(sc:Nat×Bool)(kvs:List (List Int×List Int))(ks:List Int)(m k:Operand):Prop:=evO st m= .mpo d sc kvs/\keyI (evO st k)=some ks
def jf4(st:St)(d:Nat)(sc:Nat×Bool)(kvs:List (List Int×List Int))(ks:List Int)(o:Oper):Prop:=
 match o.op with
 | .lookup _ m k false=>entAt st d sc kvs ks m k
 | .binOp _ _ x y _=>∃a b,evO st x= .im (.sc a)/\evO st y= .im (.sc b)
 | _=>True
def lateB(o:Oper):Bool:=
 match o.op with
 | .lookup _ _ _ false=>true
 | .binOp _ _ _ _ _=>true
 | _=>false
def jg3(G:Ctx)(d:Nat)(sc:Nat×Bool)(kvs:List (List Int×List Int))(ks:List Int)(K:St->Prop):List Oper->St->Prop
 | [],st=>K st
 | o::r,st=>match o.op with
  | .mapEntry _ m k=>entAt st d sc kvs ks m k/\jg3 G d sc kvs ks K r (st.put o.dst .und)
  | .extract _ _=>jg3 G d sc kvs ks K r (st.put o.dst .und)
  | _=>jf4 st d sc kvs ks o/\aq G st o fun av=>jg3 G d sc kvs ks K r (st.put o.dst av)
def stepE(G:Ctx)(d:Nat)(sc:Nat×Bool)(kvs:List (List Int×List Int))(ks:List Int)(st:St)(o:Oper)(av:AV):Prop:=
 match o.op with
 | .mapEntry _ m k=>entAt st d sc kvs ks m k/\av= .und
 | .extract _ _=>av= .und
 | _=>qVal G st o av/\jf4 st d sc kvs ks o
def jhh(o:Oper):Bool:=
 match o.op with
 | .mapEntry _ _ _=>false
 | .extract _ _=>false
 | _=>true
def entC(ops:List Oper)(n iE iX dE dX:Nat):Bool:=
 ops.length==n+1&&(Nat.blt iE n&&(Nat.blt iX n&&(iE !=iX&&(Region.waitsFor .any ops.toArray iX iE&&(drawB ops.toArray n&&(dE !=dX&&
 (List.range n).all fun i=>i==iE || (i==iX || (match ops[i]? with
  | some o=>o.guard.isNone&&jhh o&&((Region.waitsFor .any ops.toArray iE i || lateB o)&&(o.dst !=some dE&&o.dst !=some dX))
  | none=>false))))))))
section
variable{G:Ctx}{N:Nat}{w0:Base}{w w':World}{M0:Nat->Nat->Prop}{β:Nat->Option Nat}{st st':St}{a:Act}{ops:List Oper}{d:Nat}{sc:Nat×Bool}{kvs:List (List Int×List Int)}{ks:List Int}
theorem jh2{m k:Operand}{o:Oper}(h:∀t∈o.looksAt ops.toArray,st.get t=st'.get t)(hm:m∈o.op.operands)(hk:k∈o.op.operands)(he:entAt st d sc kvs ks m k):entAt st' d sc kvs ks m k:=
 ⟨by rw[<-jbr fun t ht=>h t (jaj hm ht)];exact he.1,by rw[<-jbr fun t ht=>h t (jaj hk ht)];exact he.2⟩
theorem lateOk_congr{o:Oper}(h:∀t∈o.looksAt ops.toArray,st.get t=st'.get t)(hl:jf4 st d sc kvs ks o):jf4 st' d sc kvs ks o:=by
 unfold jf4 at hl⊢;split
 ·rename_i t m k ho;rw[ho]at hl;exact jh2 h (by rw[ho];simp[Op.operands]) (by rw[ho];simp[Op.operands]) hl
 ·rename_i op t x y rt ho;rw[ho]at hl;obtain⟨a,b,h1,h2⟩:=hl;exact⟨a,b,by rw[<-jbr fun t ht=>h t (jaj (by rw[ho];simp[Op.operands]) ht)];exact h1,by rw[<-jbr fun t ht=>h t (jaj (by rw[ho];simp[Op.operands]) ht)];exact h2⟩
 ·trivial
theorem stepE_congr{o:Oper}{av:AV}(h:∀t∈o.looksAt ops.toArray,st.get t=st'.get t)(hr:st.rows=st'.rows)(ht:st.toks=st'.toks)(hq:stepE G d sc kvs ks st o av):stepE G d sc kvs ks st' o av:=by
 unfold stepE at hq⊢;split at hq
 ·rename_i t m k ho;exact⟨jh2 h (by rw[ho];simp[Op.operands]) (by rw[ho];simp[Op.operands]) hq.1,hq.2⟩
 ·exact hq
 ·exact⟨je6 h hr ht hq.1,lateOk_congr h hq.2⟩
theorem jhw{K:St->Prop}:∀(l:List Oper) (st:St),jg3 G d sc kvs ks K l st->
  ∃res:Nat->AV,(∀i o,l[i]? =some o->stepE G d sc kvs ks (stUp res (fun _=>true) (l.take i) st) o (res i))/\K (stUp res (fun _=>true) l st)
 | [],st,h=>⟨fun _=> .und,fun i o hi=>by simp at hi,h⟩
 | o::l,st,h=>by
  have key:∃av,stepE G d sc kvs ks st o av/\jg3 G d sc kvs ks K l (st.put o.dst av):=by
   unfold jg3 at h;unfold stepE;split at h
   ·exact⟨.und,⟨h.1,rfl⟩,h.2⟩
   ·exact⟨.und,rfl,h⟩
   ·obtain⟨av,h1,h3⟩:=jda h.2;exact⟨av,⟨h1,h.1⟩,h3⟩
  obtain⟨av,h1,h2⟩:=key;obtain⟨res,h3,h4⟩:=jhw l _ h2;refine⟨fun i=>match i with | 0=>av | i+1=>res i,fun i o' hi=> ?_,?_⟩
  ·cases i with
   | zero=>simp at hi;subst hi;exact h1
   | succ i=>
    have:=h3 i o' (by simpa using hi)
    simpa [stUp]using this
  ·simpa [stUp]using h4
def St.mp(st:St)(m:Bool)(d:Nat)(sc:Nat×Bool)(kvs:List (List Int×List Int)):St:=if m=true then{st with fr:=jcu d sc kvs st.fr}else st
theorem jd8(m:Bool):(st.mp m d sc kvs).rows=st.rows/\(st.mp m d sc kvs).toks=st.toks:=by
 unfold St.mp;split<;>exact⟨rfl,rfl⟩
theorem jj3(m:Bool)(t:Nat):(st.mp m d sc kvs).get t=if m=true then(st.get t).setM d sc kvs else st.get t:=by
 unfold St.mp;split
 ·simp only[St.get];rw[jcx];cases look st.fr t<;>rfl
 ·rfl
theorem jhk(x:Operand):evO (st.mp true d sc kvs) x=(evO st x).setM d sc kvs:=by
 cases x with
 | tmp t=>simp only[evO];rw[jj3,if_pos rfl]
 | const v=>
  simp only[evO];unfold ofV;split<;>first | rfl | (split<;>rfl)
 | global g=>rfl
 | func f=>rfl
theorem keyI_setM{av:AV}{ks:List Int}(h:keyI av=some ks):av.setM d sc kvs=av:=by
 unfold keyI at h;split at h<;>first | rfl | cases h
def v0F(kvs:List (List Int×List Int))(ks:List Int):List Int:=(mget kvs ks).getD [0]
theorem jj2:∀{l:List (List Int×List Int)} {x v:List Int},mget l x=some v->mput l x v=l
 | (k,u)::l,x,v,h=>by
  rw[mget]at h;rw[mput];split at h
  ·rename_i e;cases h;rw[if_pos e,e]
  ·rename_i e;rw[if_neg e,jj2 h]
theorem jhj:∀{l:List (List Int×List Int)} {x v u:List Int},mput (mput l x v) x u=mput l x u
 | [],x,v,u=>by simp[mput]
 | (k,w)::l,x,v,u=>by
  by_cases e:x=k
  ·simp[mput,e]
  ·rw[mput,if_neg e,mput,if_neg e,jhj,mput,if_neg e]
theorem jj5:∀{l:List (List Int×List Int)} {x v:List Int},mget (mput l x v) x=some v
 | [],x,v=>by simp[mput,mget]
 | (k,w)::l,x,v=>by
  by_cases e:x=k
  ·simp[mput,mget,e]
  ·rw[mput,if_neg e,mget,if_neg e,jj5]
theorem late_val{o:Oper}{av:AV}{kt e:TypeId}(hz:zeroE G e=some (.int 0))(hsc:sc=(ks.length,true))(htok:look st.toks d=some (0,0))(hty:∀t m k,o.op= .lookup t m k false->(G.ti t).kind= .mp kt e)
  (hb:lateB o=true) (hq:qVal G st o av) (hl:jf4 st d sc kvs ks o):qVal G (st.mp true d sc (mput kvs ks (v0F kvs ks))) o av/\av.setM d sc (mput kvs ks (v0F kvs ks))=av:=by
 rcases hq with hy | ⟨c,f,g,caps,xs,r,ho,_⟩ | ⟨c,ho,_⟩;rotate_left
 ·unfold lateB at hb;rw[ho]at hb;cases hb
 ·unfold lateB at hb;rw[ho]at hb;cases hb
 unfold lateB at hb;split at hb
 ·rename_i t m k ho;unfold jf4 at hl;rw[ho]at hl;obtain⟨hm,hk⟩:=hl;have hkd:=hty t m k ho;have hy':=hy;unfold yv at hy';rw[ho]at hy';dsimp only at hy';have e1:evO (st.mp true d sc (mput kvs ks (v0F kvs ks))) m= .mpo d sc (mput kvs ks (v0F kvs ks)):=by rw[jhk,hm];simp[AV.setM]
  have e2:evO (st.mp true d sc (mput kvs ks (v0F kvs ks))) k=evO st k:=by rw[jhk];exact keyI_setM hk
  have e3:mapOf (st.mp true d sc (mput kvs ks (v0F kvs ks))) (.mpo d sc (mput kvs ks (v0F kvs ks)))=some (sc,mput kvs ks (v0F kvs ks)):=by
   unfold mapOf;dsimp only;rw[(jd8 (st:=st) true).2,if_pos htok]
  have e4:mapOf st (.mpo d sc kvs)=some (sc,kvs):=by
   unfold mapOf;dsimp only;rw[if_pos htok]
  rw[hm,hk,e4]at hy';have key:∃x:Int,av= .im (.int x)/\jfh G t (some (sc,mput kvs ks (v0F kvs ks))) (some ks) false=some av:=by
   unfold jfh at hy'⊢;split at hy'
   ·cases hy'
   rename_i h0;rw[if_neg h0];rw[hkd]at hy'⊢;dsimp only at hy'⊢;split at hy'
   ·rename_i n hn;split at hy'
    ·rename_i hc;rw[if_pos ⟨hc.1,.inr (by rw[hsc,hc.1,ji9])⟩,jj5];dsimp only;unfold v0F;split at hy'
     ·rename_i v hv;rw[if_neg (by decide)]at hy'⊢;cases hy';rw[hv,hsc];exact⟨v.headD 0,rfl,rfl⟩
     ·rename_i hv;rw[hz]at hy';dsimp only at hy';rw[if_neg (by decide)]at hy'⊢;cases hy';rw[hv,hsc];exact⟨0,rfl,rfl⟩
    ·cases hy'
   ·cases hy'
  obtain⟨x,rfl,hx⟩:=key;refine⟨.inl ?_,rfl⟩;unfold yv;rw[ho];dsimp only;rw[e1,e2,e3,hk];exact hx
 ·rename_i op t x y rt ho;unfold jf4 at hl;rw[ho]at hl;obtain⟨p,q,h1,h2⟩:=hl;have e1:evO (st.mp true d sc (mput kvs ks (v0F kvs ks))) x= .im (.sc p):=by rw[jhk,h1];rfl
  have e2:evO (st.mp true d sc (mput kvs ks (v0F kvs ks))) y= .im (.sc q):=by rw[jhk,h2];rfl
  unfold yv at hy;rw[ho]at hy;dsimp only at hy;rw[h1,h2]at hy;dsimp only at hy;have hy2:∃v,scBin G op t p q=some v/\av= .im (.sc v):=by
   cases hs:scBin G op t p q with
   | none=>rw[hs]at hy;cases hy
   | some v=>rw[hs]at hy;cases hy;exact⟨v,rfl,rfl⟩
  obtain⟨v,hv,rfl⟩:=hy2;refine⟨.inl ?_,rfl⟩;unfold yv;rw[ho];dsimp only;rw[e1,e2];dsimp only;rw[hv]
 ·cases hb
def EntOf(w:World)(b:Nat)(sc:Nat×Bool)(kvs:List (List Int×List Int))(ks:List Int)(s:Nat):Prop:=
 ∃es c i en,w.heap[b]? =some (.map es c)/\Ents sc kvs es/\Born es c/\es[i]? =some (en:MapEntry)/\en.born=s/\∃v,mfind kvs ks 0=some (i,v)
theorem jhl:∀{l:List (List Int×List Int)} {x u:List Int} {j:Nat},mfind l x j=none->mfind (l++[(x,u)]) x j=some (j+l.length,u)
 | [],x,u,j,_=>by simp[mfind]
 | (k,w)::l,x,u,j,h=>by
  rw[mfind]at h;split at h
  ·cases h
  ·rename_i e;rw[List.cons_append,mfind,if_neg e,jhl h,List.length_cons];congr 2;omega
theorem mapEntry_run(hG:G.Ok){t kt e:TypeId}{b c:Nat}{es:Array MapEntry}(hu:G.P.underlying t=some (.map kt e))(hk:keyN G kt=some ks.length)(hsc:sc=(ks.length,true))(hz:zeroE G e=some (.int 0))
  (hb:w.heap[b]? =some (.map es c)) (he:Ents sc kvs es) (hbn:Born es c):
  ∃es' c' v s,(Instr.mapEntry t (.map (some b)) (keyV ks)).run G.P w= .ok (.tuple #[v,.int .i64 (s:Nat)]) {w with heap:=w.heap.setIfInBounds b (.map es' c')}/\Ents sc (mput kvs ks (v0F kvs ks)) es'/\Born es' c'/\
   EntOf {w with heap:=w.heap.setIfInBounds b (.map es' c')} b sc (mput kvs ks (v0F kvs ks)) ks s:=by
 have hlt:b<w.heap.size:=(Array.getElem?_eq_some_iff.1 hb).1;have hg:(getObj b).run G.P w= .ok (.map es c) w:=by simp[getObj,Sem.run,hb]
 have hs:∀o,(setObj b o).run G.P w= .ok () {w with heap:=w.heap.setIfInBounds b o}:=fun o=>by simp[setObj,Sem.run,hb]
 have hf:=run_findKey_rows (w:=w) hG hk rfl (sc:=sc) (kvs:=kvs) (es:=es) (fun _=>by rw[hsc]) he;have hck:=run_key_check hG hk rfl false w;have hlen:es.toList.length=kvs.length:=by have:=congrArg List.length he.2;simpa using this
 have hat:∀(i:Nat),(es.toList[i]?).map (fun e=>(e.key,e.val))=(kvs[i]?).map (fun p=>(keyV p.1,elemV sc.2 p.2)):=fun i=>by
  rw[<-List.getElem?_map,<-List.getElem?_map,he.2]
 have hmg:=jdf kvs ks 0;have hnew:∀o,({w with heap:=w.heap.setIfInBounds b o}:World).heap[b]? =some o:=fun o=>by simp[hlt]
 unfold Instr.mapEntry;rw[Sem.run_bind,run_underlying hu,Result.andThen_ok];simp only[Sem.run_bind,hg,Result.andThen_ok,hck,hf];cases hfi:mfind kvs ks 0 with
 | none=>
  rw[hfi]at hmg;have hmg:mget kvs ks=none:=hmg.symm;obtain⟨zv,hzr,hzp⟩:=jin hG hz w (fun _ _=>False);have hzv:zv= .int .i64 0:=Rep.sc_inv hzp;subst hzv;have e1:mput kvs ks (v0F kvs ks)=kvs++[(ks,[0])]:=by rw[je8 hfi];unfold v0F;rw[hmg];rfl
  have e2:Ents sc (kvs++[(ks,[0])]) (es.push {key:=keyV ks,val:= .int .i64 0,born:=c}):=by
   refine⟨fun p hp=> ?_,?_⟩
   ·rcases List.mem_append.1 hp with hp | hp
    ·exact he.1 p hp
    ·rw[List.mem_singleton]at hp;subst hp;rw[hsc]
   ·rw[Array.toList_push,List.map_append,List.map_append,he.2,hsc];rfl
  have e3:=hbn.push {key:=keyV ks,val:= .int .i64 0,born:=c} rfl;refine⟨es.push {key:=keyV ks,val:= .int .i64 0,born:=c},c+1,.int .i64 0,c,?_,by rw[e1];exact e2,e3,_,_,es.size,_,hnew _,by rw[e1];exact e2,e3,Array.getElem?_push_size,rfl,[0],?_⟩
  ·simp only[Option.map_none,Sem.run_bind,hzr,Result.andThen_ok,hs,Sem.run_pure];rfl
  ·rw[e1,<-Array.length_toList,hlen,jhl hfi,Nat.zero_add]
 | some p=>
  obtain⟨i,v⟩:=p;rw[hfi]at hmg;have hmg:mget kvs ks=some v:=hmg.symm;obtain⟨k,h1,h2,h3⟩:=mfind_some (u:=v) hfi;rw[Nat.zero_add]at h1;subst h1;have e1:mput kvs ks (v0F kvs ks)=kvs:=by unfold v0F;rw[hmg];exact jj2 hmg
  have hil:i<es.size:=by
   have:=(List.getElem?_eq_some_iff.1 h2).1;rw[<-hlen,Array.length_toList]at this;exact this
  have hei:es[i]? =some es[i]:=Array.getElem?_eq_getElem hil;have hkey:(es[i]).key=keyV ks:=by
   have:=hat i;rw[h2]at this;simp only[Array.getElem?_toList,hei,Option.map_some,Option.some.injEq,Prod.mk.injEq]at this;exact this.1
  have e4:es.modify i (fun e=>{e with key:=keyV ks})=es:=by
   refine Array.ext_getElem? fun j=> ?_;rw[Array.getElem?_modify];by_cases hij:i=j
   ·subst hij;rw[if_pos rfl,hei,Option.map_some,<-hkey]
   ·rw[if_neg hij]
  refine⟨es,c,elemV sc.2 v,(es[i]).born,?_,by rw[e1];exact he,hbn,es,c,i,es[i],hnew _,by rw[e1];exact he,hbn,hei,rfl,v,by rw[e1];exact hfi⟩;simp only[Option.map_some,Sem.run_bind,hei,Option.getD_some,hkey,Instr.keyThatStays,jfx,if_true,Sem.run_pure,Result.andThen_ok,e4,hs];rfl
theorem entryStore_run{t:TypeId}{b:Nat}{x:Int}{s:Nat}(h:EntOf w b sc kvs ks s)(hsc:sc=(ks.length,true)):
  ∃es' c' es c,w.heap[b]? =some (.map es c)/\(Instr.entryStore t (.map (some b)) (.int .i64 s) (.int .i64 x)).run G.P w= .ok () {w with heap:=w.heap.setIfInBounds b (.map es' c')}/\Ents sc (mput kvs ks [x]) es'/\Born es' c':=by
 obtain⟨es,c,i,en,hb,he,hbn,hei,hen,v,hv⟩:=h;have hg:(getObj b).run G.P w= .ok (.map es c) w:=by simp[getObj,Sem.run,hb]
 have hs:∀o,(setObj b o).run G.P w= .ok () {w with heap:=w.heap.setIfInBounds b o}:=fun o=>by simp[setObj,Sem.run,hb]
 obtain⟨k,h1,h2,h3⟩:=mfind_some (u:=[x]) hv;rw[Nat.zero_add]at h1;subst h1;have hil:i<es.size:=(Array.getElem?_eq_some_iff.1 hei).1;have hei':es[i]=en:=(Array.getElem?_eq_some_iff.1 hei).2;have hfind:es.findIdx? (fun e=>(e.born:Int)==(s:Int))=some i:=by
  rw[Array.findIdx?_eq_some_iff_getElem];refine⟨hil,by rw[hei',hen];simp,fun j hj=> ?_⟩;have hjl:j<es.size:=by omega
  have hne:(es[j]).born≠s:=fun e=>by
   have hn:=hbn.1;have a1:(es.toList.map (·.born))[j]? =some s:=by rw[List.getElem?_map,Array.getElem?_toList,Array.getElem?_eq_getElem hjl,Option.map_some,e]
   have a2:(es.toList.map (·.born))[i]? =some s:=by rw[List.getElem?_map,Array.getElem?_toList,hei,Option.map_some,hen]
   have:=(List.getElem?_inj (by simpa using hjl) hn).1 (a1.trans a2.symm);omega
  simp;omega
 have hlen:es.toList.length=kvs.length:=by have:=congrArg List.length he.2;simpa using this
 have hat:∀(i:Nat),(es.toList[i]?).map (fun e=>(e.key,e.val))=(kvs[i]?).map (fun p=>(keyV p.1,elemV sc.2 p.2)):=fun i=>by
  rw[<-List.getElem?_map,<-List.getElem?_map,he.2]
 have hkey:en.key=keyV ks:=by
  have:=hat i;rw[h2,Array.getElem?_toList,hei]at this;simp only[Option.map_some,Option.some.injEq,Prod.mk.injEq]at this;exact this.1
 refine⟨es.modify i fun e=>{e with val:= .int .i64 x},c,es,c,hb,?_,⟨?_,?_⟩,hbn.modify i _ fun _=>rfl⟩
 ·unfold Instr.entryStore;simp only[Sem.run_bind,hg,Result.andThen_ok,asInt,asIntOf,Sem.run_pure,hfind,hs]
 ·rw[h3];intro p hp;rcases List.mem_or_eq_of_mem_set hp with hp | hp
  ·exact he.1 p hp
  ·subst hp;rw[hsc]
 ·rw[h3];apply List.ext_getElem?;intro j;have hj:=hat j;rw[List.getElem?_map,List.getElem?_map,Array.getElem?_toList,Array.getElem?_modify,List.getElem?_set];rw[Array.getElem?_toList]at hj;by_cases hij:i=j
  ·subst hij;have hik:i<kvs.length:=(List.getElem?_eq_some_iff.1 h2).1;rw[if_pos rfl,if_pos rfl,hei];simp[hik,hkey,hsc,elemV]
  ·rw[if_neg hij,if_neg hij];exact hj
theorem draw_soundE(hG:G.Good)(id n iE iX dE dX:Nat){ty tyS kt e:TypeId}{tm tk:Nat}{xo:Operand}{tyE tyX tyS':TypeId}{pE pX pS:String}{aE aX aS:Array Edge}
  (hE:ops[iE]? =some ⟨some dE,.mapEntry ty (.tmp tm) (.tmp tk),tyE,pE,aE,none⟩) (hX:ops[iX]? =some ⟨some dX,.extract (.tmp dE) 1,tyX,pX,aX,none⟩) (hS:ops[n]? =some ⟨none,.entryStore tyS (.tmp tm) (.tmp dX) xo,tyS',pS,aS,none⟩)
  (hC:entC ops n iE iX dE dX=true) (hd:∀o∈ops,∀d,o.dst=some d->d<N) (h0:(G.ti ty).size≠0) (hkd:(G.ti ty).kind= .mp kt e) (hkn:keyN G kt=some ks.length) (hsc:sc=(ks.length,true)) (hz:zeroE G e=some (.int 0))
  (hlk:∀i t m k,i<n->(ops[i]?).map (·.op)=some (.lookup t m k false)->(G.ti t).kind= .mp kt e) {K:St->Prop} {Q':Exit->Act->World->Prop}
  (hK:∀st' β' a' w',K st'->Sim N w0 M0 β' st' a' w'->Q' .normal a' w') (h:Sim N w0 M0 β st a w) (htok:look st.toks d=some (0,0))
  (hA:jg3 G d sc kvs ks (fun s=>evO s (.tmp tm)= .mpo d sc kvs/\∃x,evO s xo= .im (.int x)/\K {s with fr:=jcu d sc (mput kvs ks [x]) s.fr}) (ops.take n) st):(Code.region id ops.toArray true).wp G.P Q' a w:=by
 unfold entC at hC;simp only[Bool.and_eq_true,beq_iff_eq,Nat.blt_eq,bne_iff_ne,ne_eq]at hC;obtain⟨hlen,hEn,hXn,hEX,hXE,hB,hdd,hall0⟩:=hC;simp only[drawB,Bool.and_eq_true,decide_eq_true_eq,Bool.or_eq_true,beq_iff_eq]at hB;obtain⟨⟨⟨⟨hn,hafter⟩,hpair⟩,htail⟩,hseq⟩:=hB;obtain⟨res,hres,hfin⟩:=jhw _ _ hA;have hu:=hG.ok.mp h0 hkd;have hoth:∀i o,i<n->i≠iE->i≠iX->ops[i]? =some o->(o.guard=none/\jhh o=true)/\(Region.waitsFor .any ops.toArray iE i=true\/lateB o=true)/\o.dst≠some dE/\o.dst≠some dX:=fun i o hi h1 h2 ho=>by
  have:=List.all_eq_true.1 hall0 i (List.mem_range.2 hi);simp only[Bool.or_eq_true,beq_iff_eq,ho,Bool.and_eq_true,bne_iff_ne,ne_eq,Option.isNone_iff_eq_none]at this;rcases this with e | e | e
  ·exact absurd e h1
  ·exact absurd e h2
  ·exact⟨e.1,e.2.1,e.2.2.1,e.2.2.2⟩
 have hsz:ops.toArray.size=ops.length:=by simp
 have htake:∀i,i<n->(ops.take n)[i]? =ops[i]? :=fun i hi=>by rw[List.getElem?_take,if_pos hi]
 have hlt:∀i o,(ops.take n)[i]? =some o->i<n/\ops[i]? =some o:=fun i o hi=>by
  rw[List.getElem?_take]at hi;split at hi
  ·exact⟨‹_›,hi⟩
  ·cases hi
 have arr:∀(i:Nat) (o:Oper),ops[i]? =some o->ops.toArray[i]? =some o:=fun i o h=>by simpa using h
 have hpair':∀i j oi oj,i<j->j<n->ops[i]? =some oi->ops[j]? =some oj->Region.waitsFor .any ops.toArray j i=true\/oi.apart ops.toArray oj=true:=by
  intro i j oi oj hij hj h1 h2;have:=List.all_eq_true.1 (List.all_eq_true.1 hpair j (List.mem_range.2 hj)) i (List.mem_range.2 hij);rw[arr i oi h1,arr j oj h2]at this
  simpa using this
 have hafter':∀(j:Nat) oj,ops[j]? =some oj->∀e∈oj.after,Region.binds .any e=true->e.on<j:=by
  intro j oj hj e he hb;have hjl:j<ops.toArray.size:=by rw[hsz];exact(List.getElem?_eq_some_iff.1 hj).1
  have:=List.all_eq_true.1 hafter j (List.mem_range.2 hjl);rw[arr j oj hj]at this;have:=Array.all_eq_true'.1 this e he
  simpa [hb]using this
 obtain⟨kv1,hkv1⟩:∃kv1,kv1=mput kvs ks (v0F kvs ks):=⟨_,rfl⟩;have hdEN:dE<N:=hd _ (List.mem_of_getElem? hE) dE rfl;have hdXN:dX<N:=hd _ (List.mem_of_getElem? hX) dX rfl;have htk:∀(m:Bool) (L:Nat->Bool),look ((stUp res L (ops.take n) st).mp m d sc kv1).toks d=some (0,0):=fun m L=>by
  rw[(jd8 m).2,(ja4 _ _ _ _).2];exact htok
 have main:∀c (listed:Array Bool) (a:Act) (w:World),cntB listed n=c->HeadInv .any ops.toArray n listed->
   Sim N w0 M0 β ((stUp res (fun i=>listed.getD i false) (ops.take n) st).mp (listed.getD iE false) d sc kv1) a w->
   (listed.getD iE false=true->∃(b s:Nat) (v:Value),β d=some b/\EntOf w b sc kv1 ks s/\a.tmps.getD dE undef= .tuple #[v,.int .i64 s]/\(listed.getD iX false=true->a.tmps.getD dX undef= .int .i64 s))->
   wpAny G.P .any ops.toArray Q' (c+(ops.toArray.size-n)) listed a w:=by
  intro c
  induction c with
  | zero=>
   intro listed a w hc inv hs hst;rw[Nat.zero_add];have hall:=jd0 hc;have hcan:listed=jch n ops.toArray.size:=by
    apply Array.ext
    ·rw[inv.size];simp[jch]
    ·intro i h1 h2;have hil:i<ops.length:=by rw[inv.size]at h1;simpa using h1
     by_cases hin:i<n
     ·have:=hall i hin;have e1:listed[i]=true:=by simpa [h1]using this
      rw[e1];simp[jch,hin]
     ·have:=inv.tail i (by omega) (by rw[inv.size]at h1;exact h1);have e1:listed[i]=false:=by simpa [h1]using this
      rw[e1];simp[jch,hin]
   have hlE:=hall iE hEn;have hlX:=hall iX hXn;obtain⟨b,s,v,hb,hent,_,hx⟩:=hst hlE;have hx:=hx hlX;rw[hlE]at hs;have hgst:∀t,(stUp res (fun i=>listed.getD i false) (ops.take n) st).get t=(stUp res (fun _=>true) (ops.take n) st).get t:=fun t=>jap _ _ _ _ _ _ rfl fun i o hi _=>hall i (hlt i o hi).1;have hs':Sim N w0 M0 β ((stUp res (fun _=>true) (ops.take n) st).mp true d sc kv1) a w:=by
    refine hs.congr (fun t=> ?_) ?_ ?_
    ·rw[jj3,jj3,hgst]
    ·rw[(jd8 true).1,(jd8 true).1,(ja4 _ _ _ _).1,(ja4 _ _ _ _).1]
    ·rw[(jd8 true).2,(jd8 true).2,(ja4 _ _ _ _).2,(ja4 _ _ _ _).2]
   obtain⟨hfm,x,hfx,hKx⟩:=hfin;have htks:=htk true (fun _=>true);generalize hS0:stUp res (fun _=>true) (ops.take n) st=S0 at*;have hdrop:ops.drop n=[⟨none,.entryStore tyS (.tmp tm) (.tmp dX) xo,tyS',pS,aS,none⟩]:=by
    have h1:n<ops.length:=by omega
    rw[List.drop_eq_getElem_cons h1,List.drop_of_length_le (by omega)];rw[List.getElem?_eq_getElem h1]at hS;injection hS with hS;rw[hS]
   have hlist:wpList G.P ops.toArray Q' (ops.drop n) a w:=by
    rw[hdrop];unfold wpList;rw[if_pos (by simp[Region.wanted])];refine .inl ?_;have hmv:=jab hs' (.tmp tm);rw[jhk,hfm]at hmv;have hmv:RepA w (Mo M0 β (S0.mp true d sc kv1)) β (S0.mp true d sc kv1).toks (.mpo d sc kv1) (a.eval (.tmp tm)):=by simpa [AV.setM]using hmv
    obtain⟨b',hb',hme,_⟩:=hmv;rw[hb]at hb';cases hb';have hxv:=jab hs' xo;rw[jhk,hfx]at hxv;have hxe:a.eval xo= .int .i64 x:=Rep.sc_inv hxv;have hse:a.eval (.tmp dX)= .int .i64 s:=hx;obtain⟨es',c',es,c,hh,hrun,hen,hbo⟩:=entryStore_run (t:=tyS) (x:=x) (G:=G) hent hsc;rw[hkv1,jhj]at hen;have hs2:=hs'.setMap htks hb hh hen hbo;unfold Oper.wp execOp;simp only[hme,hxe,hse,Sem.run_bind,hrun,Result.andThen_ok,Sem.run_pure,Oper.upon_skip];unfold wpList;refine hK _ β _ _ hKx ((hs2.put (dst:=none) (av:= .und) (fun _ h=>by cases h) trivial).congr (fun t=> ?_) ?_ ?_)
    ·show(({(S0.mp true d sc kv1)with fr:=jcu d sc (mput kvs ks [x]) (S0.mp true d sc kv1).fr}:St).mp false d sc kv1).get t=(S0.mp true d sc (mput kvs ks [x])).get t;simp only[St.get,St.mp,if_true,if_false,Bool.false_eq_true];rw[jcx,jcx,jcx];cases look S0.fr t with
     | none=>rfl
     | some av=>
      show(av.setM d sc kv1).setM d sc (mput kvs ks [x])=av.setM d sc (mput kvs ks [x]);cases av<;>(try rfl);rename_i d' sc' kvs';show(AV.setM d sc kv1 (.mpo d' sc' kvs')).setM d sc (mput kvs ks [x])=_;by_cases e:d'=d
      ·simp[AV.setM,e]
      ·simp[AV.setM,e]
    ·rfl
    ·rfl
   have hdl:(ops.drop n).length=ops.toArray.size-n:=by simp
   have:=wpAny_of_seq (P:=G.P) (md:= .any) (Q':=Q') (ops.drop n) n listed a w (fun j=>by simp[List.getElem?_drop]) (by rw[hcan,hdl];exact hseq) hlist
   rwa [hdl]at this
  | succ c ih=>
   intro listed a w hc inv hs hst;obtain⟨i0,hi0,hun0,hmin⟩:=jec (by omega:cntB listed n≠0);have hL:∀i,i<n->(listed.getD i true=false↔listed.getD i false=false):=fun i hi=>by
    have:i<listed.size:=by rw[inv.size];omega
    simp[this]
   have hready0:i0∈Region.ready .any ops.toArray listed:=by
    have hil:i0<ops.length:=by rw[<-hsz];omega
    refine mem_ready.2 ⟨(hL i0 hi0).2 hun0,ops[i0],arr i0 _ (List.getElem?_eq_getElem hil),fun e he hb=>hmin _ (hafter' i0 _ (List.getElem?_eq_getElem hil) e he hb)⟩
   have hgoal:(Region.ready .any ops.toArray listed=[]->Q' .normal a w)/\∀i∈Region.ready .any ops.toArray listed,wpOp G.P ops.toArray Q' i (wpAny G.P .any ops.toArray Q' (c+(ops.toArray.size-n)) (listed.setIfInBounds i true)) a w:=by
    refine⟨fun hr=>(by rw[hr]at hready0;cases hready0),fun i hi=> ?_⟩;obtain⟨hun,oi,hoi,hall⟩:=mem_ready.1 hi;have hoi':ops[i]? =some oi:=by simpa using hoi
    have hisz:i<ops.toArray.size:=(Array.getElem?_eq_some_iff.1 hoi).1;have hin:i<n:=by
     rcases Nat.lt_or_ge i n with h' | h'
     ·exact h'
     ·rcases htail with e | ⟨hsink,hchain⟩
      ·omega
      ·exact absurd hi (tail_waits hsink hchain (by omega) inv _ i0 rfl hi0 ((hL i0 hi0).2 hun0) i h')
    have hunf:listed.getD i false=false:=(hL i hin).1 hun;have hwait:∀k,Region.waitsFor .any ops.toArray i k=true->listed.getD k false=true:=fun k hk=>by
     obtain⟨oj,hoj,e,he,hb,hon⟩:=Region.waitsFor_spec hk;rw[hoi]at hoj;cases hoj;rw[<-hon];exact hall e he hb
    have hlate:∀k,Region.waitsFor .any ops.toArray k i=true->listed.getD k false=false:=fun k hk=>by
     obtain⟨ok,hok,e,he,hb,hon⟩:=Region.waitsFor_spec hk;cases hl:listed.getD k false with
     | false=>rfl
     | true=>
      have:=inv.closed k ok hok hl e he hb;rw[hon,hunf]at this;cases this
    have hagree:∀t∈oi.looksAt ops.toArray,(stUp res (fun _=>true) ((ops.take n).take i) st).get t=(stUp res (fun k=>listed.getD k false) (ops.take n) st).get t:=by
     intro t ht;rw[jev];refine jap _ _ _ _ _ _ rfl fun k ok hk hdk=> ?_;obtain⟨hkn,hok⟩:=hlt k ok hk;rcases Nat.lt_trichotomy k i with hki | hki | hki
     ·rcases hpair' k i ok oi hki hin hok hoi' with hw | hap
      ·rw[hwait k hw];simp[hki]
      ·exact absurd ht ((Oper.apart_spec hap).1 t hdk)
     ·subst hki;rw[hunf];simp
     ·rcases hpair' i k oi ok hki hkn hoi' hok with hw | hap
      ·rw[hlate k hw];simp;omega
      ·exact absurd ht ((Oper.apart_spec hap).2.2 t hdk)
    have hq:stepE G d sc kvs ks (stUp res (fun k=>listed.getD k false) (ops.take n) st) oi (res i):=
     stepE_congr hagree (by rw[(ja4 _ _ _ _).1,(ja4 _ _ _ _).1]) (by rw[(ja4 _ _ _ _).2,(ja4 _ _ _ _).2]) (hres i oi (by rw[htake i hin];exact hoi'))
    have hisL:i<listed.size:=by rw[inv.size];exact hisz
    have hcnt:cntB (listed.setIfInBounds i true) n=c:=by
     have:=jeb hisL hunf n;rw[if_pos hin]at this;omega
    have hset:∀k,k≠i->(listed.setIfInBounds i true).getD k false=listed.getD k false:=fun k hk=>getD_set_ne false (Ne.symm hk);have hseti:(listed.setIfInBounds i true).getD i false=true:=by simp[hisL]
    have htks:=htk (listed.getD iE false) (fun k=>listed.getD k false);have next:∀(m:Bool) v w2,m=(listed.setIfInBounds i true).getD iE false->(m=true->(res i).setM d sc kv1=res i)->Sim N w0 M0 β ((stUp res (fun k=>listed.getD k false) (ops.take n) st).mp m d sc kv1) a w2->
      RepA w2 (Mo M0 β ((stUp res (fun k=>listed.getD k false) (ops.take n) st).mp m d sc kv1)) β ((stUp res (fun k=>listed.getD k false) (ops.take n) st).mp m d sc kv1).toks (res i) v->
      ((listed.setIfInBounds i true).getD iE false=true->∃(b s:Nat) (v':Value),β d=some b/\EntOf w2 b sc kv1 ks s/\(a.put oi.dst v).tmps.getD dE undef= .tuple #[v',.int .i64 s]/\((listed.setIfInBounds i true).getD iX false=true->(a.put oi.dst v).tmps.getD dX undef= .int .i64 s))->
      wpAny G.P .any ops.toArray Q' (c+(ops.toArray.size-n)) (listed.setIfInBounds i true) (a.put oi.dst v) w2:=by
     intro m v w2 hm hmr hsx hv hst2;have hs2:=hsx.put (dst:=oi.dst) (hd oi (List.mem_of_getElem? hoi')) hv;refine ih _ _ _ hcnt (inv.set hi hin) ?_ hst2;rw[<-hm];refine hs2.congr (fun t=> ?_) ?_ ?_
     ·rw[jj3];by_cases hdt:oi.dst=some t
      ·rw[hdt,jan];have:=jcf (ops.take n) res (fun k=>(listed.setIfInBounds i true).getD k false) st i oi (by rw[htake i hin];exact hoi') hdt hseti fun k ok hik hk hLk hdk=>by
        obtain⟨hkn,hok⟩:=hlt k ok hk;rw[hset k (by omega)]at hLk;rcases hpair' i k oi ok hik hkn hoi' hok with hw | hap
        ·rw[hlate k hw]at hLk;cases hLk
        ·exact(Oper.apart_spec hap).2.1 t hdt hdk
       rw[this];cases m with
       | false=>rfl
       | true=>rw[if_pos rfl];exact(hmr rfl).symm
      ·rw[jbm hdt,jj3];rw[jap (ops.take n) res (fun k=>listed.getD k false) (fun k=>(listed.setIfInBounds i true).getD k false) st st rfl fun k ok hk hdk=> ?_];have:k≠i:=fun e=>by
        subst e;obtain⟨_,hok⟩:=hlt k ok hk;rw[hoi']at hok;cases hok;exact hdt hdk
       exact(hset k this).symm
     ·rw[show(((stUp res (fun k=>listed.getD k false) (ops.take n) st).mp m d sc kv1).put oi.dst (res i)).rows=((stUp res (fun k=>listed.getD k false) (ops.take n) st).mp m d sc kv1).rows by unfold St.put;split<;>rfl,(jd8 m).1,(jd8 m).1,(ja4 _ _ _ _).1,(ja4 _ _ _ _).1]
     ·rw[show(((stUp res (fun k=>listed.getD k false) (ops.take n) st).mp m d sc kv1).put oi.dst (res i)).toks=((stUp res (fun k=>listed.getD k false) (ops.take n) st).mp m d sc kv1).toks by unfold St.put;split<;>rfl,(jd8 m).2,(jd8 m).2,(ja4 _ _ _ _).2,(ja4 _ _ _ _).2]
    unfold wpOp;rw[hoi];dsimp only;by_cases hiE:i=iE
    ·subst hiE;rw[hE]at hoi';cases hoi';obtain⟨⟨hem,hek⟩,hrs⟩:entAt (stUp res (fun k=>listed.getD k false) (ops.take n) st) d sc kvs ks (.tmp tm) (.tmp tk)/\res i= .und:=hq;rw[if_pos (by simp[Region.wanted])];refine .inl ?_;rw[hunf]at hs htks;have hmv:=jab hs (.tmp tm);have hkv:=jab hs (.tmp tk);rw[show(stUp res (fun i=>listed.getD i false) (ops.take n) st).mp false d sc kv1=stUp res (fun i=>listed.getD i false) (ops.take n) st from rfl]at hmv hkv htks hs;rw[hem]at hmv;obtain⟨b,hb,hme,hcont⟩:=hmv;obtain⟨es,cl,hh,hen,hbo⟩:=hcont htks;have hke:=jie hek hkv;obtain⟨es',c',v,s,hrun,hen',hbo',hent⟩:=mapEntry_run hG.ok hu hkn hsc hz hh hen hbo;rw[<-hkv1]at hen' hent;have hs2:=hs.setMap htks hb hh hen' hbo';unfold Oper.wp execOp;simp only[hme,hke,Sem.run_bind,hrun,Result.andThen_ok,Sem.run_pure,Oper.upon_value];refine next true _ _ hseti.symm (fun _=>by rw[hrs];rfl) (by unfold St.mp;rw[if_pos rfl];exact hs2) (by rw[hrs];trivial) fun _=>⟨b,s,v,hb,hent,?_,fun hl=> ?_⟩
     ·have:dE<a.tmps.size:=by rw[hs.size];exact hdEN
      simp[Act.put,this]
     ·rw[hset iX (Ne.symm hEX)]at hl;obtain⟨oX,hoX,e,he,hb2,hon⟩:=Region.waitsFor_spec hXE;have:=inv.closed iX oX hoX hl e he hb2;rw[hon,hunf]at this;cases this
    by_cases hiX:i=iX
    ·subst hiX;rw[hX]at hoi';cases hoi';have hlE:=hwait iE hXE;have hq:res i= .und:=hq;obtain⟨b,s,v,hb,hent,hdE,_⟩:=hst hlE;rw[if_pos (by simp[Region.wanted])];refine .inl ?_;have hev:a.eval (.tmp dE)= .tuple #[v,.int .i64 s]:=hdE;have hrun:(Instr.extract (.tuple #[v,.int .i64 s]) 1).run G.P w= .ok (.int .i64 s) w:=rfl;unfold Oper.wp execOp;simp only[hev,Sem.run_bind,hrun,Result.andThen_ok,Sem.run_pure,Oper.upon_value];refine next (listed.getD iE false) _ _ (hset iE hEX).symm (fun _=>by rw[hq];rfl) hs (by rw[hq];trivial) fun _=>⟨b,s,v,hb,hent,?_,fun _=> ?_⟩
     ·have:dX≠dE:=Ne.symm hdd;have e1:(a.put (some dX) (.int .i64 s)).tmps.getD dE undef=a.tmps.getD dE undef:=by simp[Act.put,Array.getD_eq_getD_getElem?,Array.getElem?_setIfInBounds_ne this]
      rw[e1];exact hdE
     ·have:dX<a.tmps.size:=by rw[hs.size];exact hdXN
      simp[Act.put,this]
    obtain⟨⟨hg,hpl⟩,hwl,hd1,hd2⟩:=hoth i oi hin hiE hiX hoi';rw[if_pos (by simp[Region.wanted,hg])];have hputE:∀v,(a.put oi.dst v).tmps.getD dE undef=a.tmps.getD dE undef:=fun v=>by
     cases hdst:oi.dst with
     | none=>rfl
     | some t=>
      have:t≠dE:=fun e=>hd1 (by rw[hdst,e]);simp[Act.put,Array.getD_eq_getD_getElem?,Array.getElem?_setIfInBounds_ne this]
    have hputX:∀v,(a.put oi.dst v).tmps.getD dX undef=a.tmps.getD dX undef:=fun v=>by
     cases hdst:oi.dst with
     | none=>rfl
     | some t=>
      have:t≠dX:=fun e=>hd2 (by rw[hdst,e]);simp[Act.put,Array.getD_eq_getD_getElem?,Array.getElem?_setIfInBounds_ne this]
    have hq2:qVal G (stUp res (fun k=>listed.getD k false) (ops.take n) st) oi (res i)/\jf4 (stUp res (fun k=>listed.getD k false) (ops.take n) st) d sc kvs ks oi\/(res i= .und/\∃x y,oi.op= .extract x y)\/∃t m k,oi.op= .mapEntry t m k:=by
     unfold stepE at hq;split at hq
     ·rename_i t m k ho;exact .inr (.inr ⟨t,m,k,ho⟩)
     ·rename_i x y ho;exact .inr (.inl ⟨hq,x,y,ho⟩)
     ·exact .inl hq
    have hkeep:∀w2,Below w.heap.size w w2->∀v,((listed.setIfInBounds i true).getD iE false=true->∃(b s:Nat) (v':Value),β d=some b/\EntOf w2 b sc kv1 ks s/\(a.put oi.dst v).tmps.getD dE undef= .tuple #[v',.int .i64 s]/\((listed.setIfInBounds i true).getD iX false=true->(a.put oi.dst v).tmps.getD dX undef= .int .i64 s)):=fun w2 hb2 v hl=>by
     rw[hset iE (Ne.symm hiE)]at hl;obtain⟨b,s,v',hb,⟨es,cl,j,en,q1,q2,q3,q4,q5,q6⟩,hx1,hx2⟩:=hst hl;refine⟨b,s,v',hb,⟨es,cl,j,en,by rw[hb2.block b (Array.getElem?_eq_some_iff.1 q1).1];exact q1,q2,q3,q4,q5,q6⟩,by rw[hputE];exact hx1,fun hl2=> ?_⟩;rw[hset iX (Ne.symm hiX)]at hl2;rw[hputX];exact hx2 hl2
    cases hmE:listed.getD iE false with
    | false=>
     rw[hmE]at hs;rcases hq2 with ⟨hqv,_⟩ | ⟨_,x,y,ho⟩ | ⟨t,m,k,ho⟩
     ·refine .inl (jb8 hG hs hqv fun v w2 hb2 hv=> ?_);exact next false v w2 (by rw[hset iE (Ne.symm hiE),hmE]) (fun h=>by cases h) (hs.ext hb2) hv (hkeep w2 hb2 v)
     ·unfold jhh at hpl;rw[ho]at hpl;cases hpl
     ·unfold jhh at hpl;rw[ho]at hpl;cases hpl
    | true=>
     rw[hmE]at hs;have hlb:lateB oi=true:=by
      rcases hwl with hw | hl
      ·rw[hlate iE hw]at hmE;cases hmE
      ·exact hl
     rcases hq2 with ⟨hqv,hlo⟩ | ⟨_,x,y,ho⟩ | ⟨t,m,k,ho⟩
     ·have htk0:look (stUp res (fun k=>listed.getD k false) (ops.take n) st).toks d=some (0,0):=by rw[(ja4 _ _ _ _).2];exact htok
      obtain⟨hq3,hq4⟩:=late_val hz hsc htk0 (fun t m k ho=>hlk i t m k hin (by rw[hoi',Option.map_some,ho])) hlb hqv hlo;rw[<-hkv1]at hq3 hq4;refine .inl (jb8 hG hs hq3 fun v w2 hb2 hv=> ?_);exact next true v w2 (by rw[hset iE (Ne.symm hiE),hmE]) (fun _=>hq4) (hs.ext hb2) hv (hkeep w2 hb2 v)
     ·unfold jhh at hpl;rw[ho]at hpl;cases hpl
     ·unfold jhh at hpl;rw[ho]at hpl;cases hpl
   have:c+1+(ops.toArray.size-n)=(c+(ops.toArray.size-n))+1:=by omega
   rw[this];exact hgoal
 refine wp_region_any hG.mixed ?_;have inv0:HeadInv .any ops.toArray n (Array.replicate ops.toArray.size false):=
  ⟨by simp,fun j oj _ hl=>(by rw[getD_replicate_false]at hl;cases hl),fun t _ ht=>getD_in (by simpa using ht) (getD_replicate_false _ _)⟩
 have hc0:∀k,cntB (Array.replicate ops.toArray.size false) k=k:=fun k=>by
  induction k with
  | zero=>rfl
  | succ k ihk=>simp only[cntB,ihk,getD_replicate_false];simp
 have:=main n (Array.replicate ops.toArray.size false) a _ (hc0 n) inv0 (by
  rw[getD_replicate_false];refine h.drew.congr (fun t=> ?_) (ja4 _ _ _ _).1.symm (ja4 _ _ _ _).2.symm;have hf:∀(l:List Oper) (res:Nat->AV) (L:Nat->Bool) (st:St),(∀i,L i=false)->stUp res L l st=st:=by
   intro l
   induction l with
   | nil=>intros;rfl
   | cons o l ih=>
    intro res L st hL;simp only[stUp,hL 0];exact ih _ _ _ fun i=>hL (i+1)
  rw[hf _ _ _ _ fun i=>getD_replicate_false _ _];rfl) (fun hl=>by rw[getD_replicate_false]at hl;cases hl)
 rwa [show n+(ops.toArray.size-n)=ops.toArray.size by omega]at this
end
section
variable{G:Ctx}
def Chk(m:AV)(k:Option (List Int))(d:Nat)(sc:Nat×Bool)(kvs:List (List Int×List Int))(ks:List Int)[K:Hold Prop]:Prop:=(m= .mpo d sc kvs/\k=some ks)/\K.val
theorem Chk_ok(d:Nat)(sc:Nat×Bool)(kvs:List (List Int×List Int))(ks:List Int)(K:Prop): @Chk (.mpo d sc kvs) (some ks) d sc kvs ks ⟨K⟩=K:=propext ⟨fun h=>h.2,fun h=>⟨⟨rfl,rfl⟩,h⟩⟩
def Nums(x y:AV)[K:Hold Prop]:Prop:=(∃a b,x= .im (.sc a)/\y= .im (.sc b))/\K.val
theorem Nums_ok(a b:Value)(K:Prop): @Nums (.im (.sc a)) (.im (.sc b)) ⟨K⟩=K:=propext ⟨fun h=>h.2,fun h=>⟨⟨a,b,rfl,rfl⟩,h⟩⟩
def EndE(m x:AV)(d:Nat)(sc:Nat×Bool)(kvs:List (List Int×List Int))[K:Hold (Int->Prop)]:Prop:=m= .mpo d sc kvs/\∃n,x= .im (.int n)/\K.val n
theorem EndE_ok(d:Nat)(sc:Nat×Bool)(kvs:List (List Int×List Int))(n:Int)(K:Int->Prop): @EndE (.mpo d sc kvs) (.im (.sc (.int .i64 n))) d sc kvs ⟨K⟩=K n:=
 propext ⟨fun⟨_,n',e,h⟩=>by cases e;exact h,fun h=>⟨rfl,n,rfl,h⟩⟩
def jbh(G:Ctx)(d:Nat)(sc:Nat×Bool)(kvs:List (List Int×List Int))(ks:List Int)(K:St->Prop)(tm:Nat)(xo:Operand)(n:Nat)(l:List Oper)(st:St):Prop:=
 jg3 G d sc kvs ks (fun s=>EndE (evO s (.tmp tm)) (evO s xo) d sc kvs (K:=⟨fun x=>K {s with fr:=jcu d sc (mput kvs ks [x]) s.fr}⟩)) (l.take n) st
theorem je1{ops:List Oper}{Q:Exit->St->Prop}{st:St}(n iE iX d:Nat)(kvs:List (List Int×List Int))(ks:List Int){dE dX:Nat}{ty tyS kt e:TypeId}{tm tk:Nat}{xo:Operand}{tyE tyX tyS':TypeId}{pE pX pS:String}{aE aX aS:Array Edge}
  (hE:ops[iE]? =some ⟨some dE,.mapEntry ty (.tmp tm) (.tmp tk),tyE,pE,aE,none⟩) (hX:ops[iX]? =some ⟨some dX,.extract (.tmp dE) 1,tyX,pX,aX,none⟩) (hS:ops[n]? =some ⟨none,.entryStore tyS (.tmp tm) (.tmp dX) xo,tyS',pS,aS,none⟩)
  (hC:entC ops n iE iX dE dX=true) (h0:(G.ti ty).size≠0) (hkd:(G.ti ty).kind= .mp kt e) (hkn:keyN G kt=some ks.length) (hz:zeroE G e=some (.int 0))
  (hlk:(ops.take n).all (fun o=>match o.op with | .lookup t _ _ false=>t==ty | _=>true)=true) (htok:look st.toks d=some (0,0))
  (hA:jbh G d (ks.length,true) kvs ks (Q .normal) tm xo n ops st): @DrawP G ⟨ops⟩ ⟨Q⟩ st:=
 fun _ _ _ _ _ _ id _ hG hd hK hs=>draw_soundE hG id n iE iX dE dX (tk:=tk) hE hX hS hC hd h0 hkd hkn rfl hz (fun i t m k hi ho=>by
  obtain⟨o,ho1,ho2⟩:=Option.map_eq_some_iff.1 ho;have:=List.all_eq_true.1 hlk o (List.mem_of_getElem? (by rw[List.getElem?_take,if_pos hi];exact ho1));rw[ho2]at this;rw[eq_of_beq this];exact hkd) hK hs htok hA
variable{d:Nat}{sc:Nat×Bool}{kvs:List (List Int×List Int)}{ks:List Int}{K:St->Prop}{tm n:Nat}{xo:Operand}{dst:Option Tmp}{ty:TypeId}{pos:String}{af:Array Edge}{gd:Option (Nat×Bool)}{r:List Oper}{st:St}
theorem aheadEN_zero(l:List Oper):jbh G d sc kvs ks K tm xo 0 l st=EndE (evO st (.tmp tm)) (evO st xo) d sc kvs (K:=⟨fun x=>K {st with fr:=jcu d sc (mput kvs ks [x]) st.fr}⟩):=propext ⟨fun h=>h,fun h=>h⟩
theorem aheadEN_mapEntry(t:TypeId)(m k:Operand):jbh G d sc kvs ks K tm xo (n+1) (⟨dst,.mapEntry t m k,ty,pos,af,gd⟩::r) st=Chk (evO st m) (keyI (evO st k)) d sc kvs ks (K:=⟨jbh G d sc kvs ks K tm xo n r (st.put dst .und)⟩):=propext ⟨fun h=>h,fun h=>h⟩
theorem aheadEN_extract(t:Operand)(i:Nat):jbh G d sc kvs ks K tm xo (n+1) (⟨dst,.extract t i,ty,pos,af,gd⟩::r) st=jbh G d sc kvs ks K tm xo n r (st.put dst .und):=propext ⟨fun h=>h,fun h=>h⟩
theorem aheadEN_lookup(t:TypeId)(m k:Operand):jbh G d sc kvs ks K tm xo (n+1) (⟨dst,.lookup t m k false,ty,pos,af,gd⟩::r) st=Chk (evO st m) (keyI (evO st k)) d sc kvs ks (K:=⟨aq G st ⟨dst,.lookup t m k false,ty,pos,af,gd⟩ fun av=>jbh G d sc kvs ks K tm xo n r (st.put dst av)⟩):=propext ⟨fun h=>h,fun h=>h⟩
theorem aheadEN_binOp(op:BinOp)(t:TypeId)(x y:Operand)(rt:TypeId):jbh G d sc kvs ks K tm xo (n+1) (⟨dst,.binOp op t x y rt,ty,pos,af,gd⟩::r) st=Nums (evO st x) (evO st y) (K:=⟨aq G st ⟨dst,.binOp op t x y rt,ty,pos,af,gd⟩ fun av=>jbh G d sc kvs ks K tm xo n r (st.put dst av)⟩):=propext ⟨fun h=>h,fun h=>h⟩
theorem aheadEN_move(x:Operand):jbh G d sc kvs ks K tm xo (n+1) (⟨dst,.move x,ty,pos,af,gd⟩::r) st=aq G st ⟨dst,.move x,ty,pos,af,gd⟩ (fun av=>jbh G d sc kvs ks K tm xo n r (st.put dst av)):=propext ⟨fun h=>h.2,fun h=>⟨trivial,h⟩⟩
theorem aheadEN_load(t:TypeId)(x:Operand):jbh G d sc kvs ks K tm xo (n+1) (⟨dst,.load t x,ty,pos,af,gd⟩::r) st=aq G st ⟨dst,.load t x,ty,pos,af,gd⟩ (fun av=>jbh G d sc kvs ks K tm xo n r (st.put dst av)):=propext ⟨fun h=>h.2,fun h=>⟨trivial,h⟩⟩
theorem aheadEN_fieldAddr(t:TypeId)(x:Operand)(f:Nat):jbh G d sc kvs ks K tm xo (n+1) (⟨dst,.fieldAddr t x f,ty,pos,af,gd⟩::r) st=aq G st ⟨dst,.fieldAddr t x f,ty,pos,af,gd⟩ (fun av=>jbh G d sc kvs ks K tm xo n r (st.put dst av)):=propext ⟨fun h=>h.2,fun h=>⟨trivial,h⟩⟩
theorem aheadEN_build(t:TypeId)(ps:Array (Nat×Operand)):jbh G d sc kvs ks K tm xo (n+1) (⟨dst,.build t ps,ty,pos,af,gd⟩::r) st=aq G st ⟨dst,.build t ps,ty,pos,af,gd⟩ (fun av=>jbh G d sc kvs ks K tm xo n r (st.put dst av)):=propext ⟨fun h=>h.2,fun h=>⟨trivial,h⟩⟩
end
attribute [go_sem ↓] aheadEN_zero aheadEN_mapEntry aheadEN_extract aheadEN_lookup aheadEN_binOp aheadEN_move aheadEN_load aheadEN_fieldAddr aheadEN_build Chk_ok Nums_ok EndE_ok
end
end Go.Abs
namespace Go.Proofs.Ytgnflpkmpoghbaa
section
open Go.RowKit Go.Shelf Go.Maps
attribute [local go_sem] Oper.semAt_some
theorem jhi:∀{L:List MapEntry} {e:MapEntry},(L.map (·.born)).Nodup->e∈L->L.Perm (e::L.filter fun x=> !(x.born==e.born))
 | [],e,_,h=>by cases h
 | a::L,e,hn,h=>by
  rw[List.map_cons,List.nodup_cons]at hn;by_cases hae:a.born=e.born
  ·have ha:a=e:=by
    rcases List.mem_cons.1 h with rfl | h
    ·rfl
    ·exact absurd (List.mem_map.2 ⟨e,h,hae.symm⟩) hn.1
   subst ha;have:(a::L).filter (fun x=> !(x.born==a.born))=L:=by
    rw[List.filter_cons_of_neg (by simp),List.filter_eq_self.2];intro x hx;have:x.born≠a.born:=fun e=>hn.1 (by rw[<-e];exact List.mem_map.2 ⟨x,hx,rfl⟩);simp[this]
   rw[this]
  ·have he:e∈L:=by
    rcases List.mem_cons.1 h with rfl | h
    ·exact absurd rfl hae
    ·exact h
   rw[List.filter_cons_of_pos (by simp[hae])];exact((jhi hn.2 he).cons a).trans (List.Perm.swap _ _ _)
theorem left_push(es:Array MapEntry)(seen:Array Nat)(n:Nat):(leftOf es (seen.push n)).toList=(leftOf es seen).toList.filter fun x=> !(x.born==n):=by
 unfold leftOf;rw[Array.toList_filter,Array.toList_filter,List.filter_filter];refine List.filter_congr fun x _=> ?_;rw[contains_push];cases seen.contains x.born<;>cases (x.born==n)<;>rfl
theorem left_nodup{es:Array MapEntry}(seen:Array Nat)(h:(es.toList.map (·.born)).Nodup):((leftOf es seen).toList.map (·.born)).Nodup:=by
 unfold leftOf;rw[Array.toList_filter];exact List.Nodup.sublist (List.Sublist.map _ List.filter_sublist) h
def Came(es:Array MapEntry)(seen:Array Nat)(pre:List KeyV):Prop:=(pre.map (fun x=>Value.agg x.enc.toArray)++(leftOf es seen).toList.map (·.key)).Perm (es.toList.map (·.key))
theorem Came.start(es:Array MapEntry):Came es #[] []:=by
 unfold Came leftOf;rw[Array.toList_filter,List.map_nil,List.nil_append,List.filter_eq_self.2 (fun x _=>by simp)]
theorem Came.step{es:Array MapEntry}{seen:Array Nat}{pre:List KeyV}{e:MapEntry}{x:KeyV}(h:Came es seen pre)(hn:(es.toList.map (·.born)).Nodup)(he:e∈(leftOf es seen).toList)(hx:e.key= .agg x.enc.toArray):Came es (seen.push e.born) (pre++[x]):=by
 unfold Came at*;rw[left_push,List.map_append,List.map_cons,List.map_nil,<-hx];refine List.Perm.trans ?_ h;rw[List.append_assoc];refine List.Perm.append_left _ ?_;exact((jhi (left_nodup seen hn) he).map (·.key)).symm
theorem Came.done{es:Array MapEntry}{seen:Array Nat}{pre:List KeyV}(h:Came es seen pre)(h0:(leftOf es seen).size=0):(pre.map (fun x=>Value.agg x.enc.toArray)).Perm (es.toList.map (·.key)):=by
 unfold Came at h;have:(leftOf es seen).toList=[]:=by rw[<-List.length_eq_zero_iff,Array.length_toList];exact h0
 rw[this,List.map_nil,List.append_nil]at h;exact h
theorem Came.len{es:Array MapEntry}{seen:Array Nat}{pre:List KeyV}(h:Came es seen pre){e:MapEntry}(he:e∈(leftOf es seen).toList):pre.length<es.size:=by
 have:=h.length_eq;simp only[List.length_append,List.length_map,Array.length_toList]at this;have h2:0<(leftOf es seen).toList.length:=List.length_pos_of_mem he;rw[Array.length_toList]at h2;omega
def leftN(b r:Nat)(w:World):Nat:=match w.heap[b]?,w.heap[r]? with
 | some (.map es _),some (.mapIter _ _ seen _)=>(leftOf es seen).size
 | _,_=>0
theorem jf3{b r:Nat}{w:World}{es:Array MapEntry}{c s:Nat}{m:Option Nat}{seen:Array Nat}{c':Nat}(h1:w.heap[b]? =some (.map es c))(h2:w.heap[r]? =some (.mapIter m s seen c')):leftN b r w=(leftOf es seen).size:=by
 unfold leftN;rw[h1,h2]
theorem keys1_in(F:Fence)(n:Nat)(hf:F.fn 32)(hro:F.round=none)(hn:1<=n)(l Bm om b clock:Nat)(es:Array MapEntry)(hbn:(es.toList.map (·.born)).Nodup)(hbl:∀e∈es.toList,e.born<clock)(hkey:∀e∈es.toList,∃x:KeyV,e.key= .agg x.enc.toArray)
  (J Jx:List KeyV->World->Prop)
  (hY:∀pre x W,J pre W->pre.length<es.size->YieldAt F (n-1) Try.prog l #[.agg x.enc.toArray] W fun e W'=>(e= .returned (.bool true)/\J (pre++[x]) W'/\KeepsWalks W W')\/(e= .returned (.bool false)/\Jx (pre++[x]) W'))
  (W:World) (hJ:AbidesFrom W.heap.size J) (hm:W.cell? ⟨Bm,om,none⟩=some (.map (some b))) (hb:W.heap[b]? =some (.map es clock)) (h0:J [] W):
  CallsIn F n Try.prog 32 #[.func (.yield l) #[] #[],.pointer (some ⟨Bm,om,none⟩)] W fun e W'=>(∃v,e= .returned v)/\
   ((∃xs,(xs.map (fun x:KeyV=>Value.agg x.enc.toArray)).Perm (es.toList.map (·.key))/\J xs W')\/(∃pre,True/\Jx pre W')):=by
 have hu:Try.prog.underlying 45=some (.map 49 3):=Try.underlying45;have hrange:=run_range_map (P:=Try.prog) W 45 49 3 b es clock hu hb;refine callsIn_of_wp Try.func32 rfl hf ?_ hro;simp only[Try.ntmps32,List.size_toArray,List.length_cons,List.length_nil,Nat.reduceAdd,Nat.reduceSub,Array.replicate_succ,Array.replicate_zero,List.push_toArray,List.append_toArray,List.nil_append,List.cons_append]
 gi_wp2
 obtain⟨w0,hw0⟩:∃w0,w0=W.alloc (.mapIter (some b) clock #[] clock):=⟨_,rfl⟩;have hg0:W.grownBy w0 none:=by rw[hw0];exact World.grownBy_alloc W _ none
 have hr0:w0.heap[W.heap.size]? =some (.mapIter (some b) clock #[] clock):=by rw[hw0];exact World.alloc_heap_new W _
 have hb0:w0.heap[b]? =some (.map es clock):=(hg0.block b (Array.getElem?_eq_some_iff.1 hb).1 (by simp)).trans hb;have hJ0:J [] w0:=hJ [] W w0 none h0 hg0 (fun r e=>by cases e);rw[<-hw0];clear hrange
 gi_loopw [3] (fun _ wr=>∃(seen:Array Nat) (last:Nat) (pre:List KeyV),wr.heap[W.heap.size]? =some (.mapIter (some b) clock seen last)/\clock<=last/\wr.heap[b]? =some (.map es clock)/\Came es seen pre/\J pre wr)
  (fun _ wr=>leftN b W.heap.size wr)
 case atStart=>exact⟨#[],clock,[],hr0,Nat.le_refl _,hb0,Came.start es,hJ0⟩
 case round=>
  obtain⟨seen,last,pre,hr,hlast,hbm,hC,hJs⟩:=hrel;rcases run_next_at (P:=Try.prog) wr 0 W.heap.size b clock last seen es clock hr hbm hbl hlast with ⟨hl0,hrun⟩ | ⟨e,he,w1,hal,hrun⟩
  ·clear hY
   gi_wp2
   go_end0
   exact⟨⟨_,rfl⟩,.inl ⟨pre,hC.done hl0,hJs⟩⟩
  ·have hmem:e∈es.toList:=(mem_left he).1;obtain⟨x,hx⟩:=hkey e hmem;have hpl:=hC.len he;have hC2:=hC.step hbn he hx;have hsz1:w1.heap=wr.heap:=by rcases hal with rfl | rfl<;>rfl
   obtain⟨w2,hw2⟩:∃w2,w2=ChangeMaps.setBlock w1 W.heap.size (Obj.mapIter (some b) clock (seen.push e.born) clock):=⟨_,rfl⟩;have hrlt:W.heap.size<wr.heap.size:=(Array.getElem?_eq_some_iff.1 hr).1;have hrb:W.heap.size≠b:=fun e=>by rw[e,hbm]at hr;cases hr
   have hr2:w2.heap[W.heap.size]? =some (.mapIter (some b) clock (seen.push e.born) clock):=by
    rw[hw2];show(w1.heap.setIfInBounds _ _)[_]? =_;rw[hsz1];simp[hrlt]
   have hg2:wr.grownBy w2 (some W.heap.size):=by
    rw[hw2];refine⟨by rcases hal with rfl | rfl<;>rfl,by rcases hal with rfl | rfl<;>rfl,by rcases hal with rfl | rfl<;>rfl,?_,fun k hk hne=> ?_⟩
    ·show _<=(w1.heap.setIfInBounds _ _).size;rw[hsz1];simp
    ·show(w1.heap.setIfInBounds _ _)[k]? =_;rw[hsz1,Array.getElem?_setIfInBounds_ne (fun e=>hne (by rw[e]))]
   have hbm2:w2.heap[b]? =some (.map es clock):=(hg2.block b (Array.getElem?_eq_some_iff.1 hbm).1 (fun e=>hrb (by cases e;rfl))).trans hbm;have hen:=run_entry_at (P:=Try.prog) w2 W.heap.size b clock seen es clock e hr2 hbm2 hmem hbn;have hJ2:J pre w2:=hJ pre wr w2 (some W.heap.size) hJs hg2 (fun r e=>by cases e;exact⟨Nat.le_refl _,_,hr,rfl⟩);rw[<-hw2,hx]at hrun;rw[hx]at hen;have hm0:leftN b W.heap.size wr=(leftOf es seen).size:=jf3 hbm hr;have hsh:=left_shrinks es seen e he;clear hw2 hal hJs hr hbm hC hx;obtain⟨w3,hw3⟩:∃w3,w3=w2.alloc (Obj.cells #[.int .i64 x.a,.int .i64 x.b,.int .i64 x.c] 49):=⟨_,rfl⟩;have hg3:w2.grownBy w3 none:=by rw[hw3];exact World.grownBy_alloc w2 _ none
   have hJ3:J pre w3:=hJ pre w2 w3 none hJ2 hg3 (fun r e=>by cases e);have hr3:w3.heap[W.heap.size]? =some (.mapIter (some b) clock (seen.push e.born) clock):=(hg3.block _ (Array.getElem?_eq_some_iff.1 hr2).1 (by simp)).trans hr2;have hb3:w3.heap[b]? =some (.map es clock):=(hg3.block b (Array.getElem?_eq_some_iff.1 hbm2).1 (by simp)).trans hbm2;obtain⟨fn,tmps,assign,body,hy,hR⟩:=hY pre x w3 hJ3 hpl;unfold KeyV.enc at hrun hen hy;rw[hw3]at hy
   gi_wp2
   rw[<-hw3];refine hR.mono ?_;rintro e' W4 (⟨rfl,hJ4,hk4⟩ | ⟨rfl,hJx4⟩)
   ·have hr4:=hk4.same _ _ hr3 rfl;have hb4:=hk4.same _ _ hb3 rfl;have hm4:leftN b W.heap.size W4=(leftOf es (seen.push e.born)).size:=jf3 hb4 hr4;clear hy hrun hen
    gi_wp2
    exact⟨⟨_,_,_,_,_,_,_,_,_,⟨seen.push e.born,clock,pre++[x],hr4,Nat.le_refl _,hb4,hC2,hJ4⟩,rfl⟩,by rw[hm4,hm0];exact hsh⟩
   ·clear hy hrun hen
    gi_wp2
    refine bodyPost_ret (results_none rfl _ _ _) rfl ?_;exact⟨⟨_,rfl⟩,.inr ⟨_,trivial,hJx4⟩⟩
theorem keys_stops(F:Fence)(n:Nat)(hf:F.fn 32)(hro:F.round=none)(hn:1<=n)(Bm om b clock:Nat)(es:Array MapEntry)(hbn:(es.toList.map (·.born)).Nodup)(hbl:∀e∈es.toList,e.born<clock)(hkey:∀e∈es.toList,∃x:KeyV,e.key= .agg x.enc.toArray)
  (w:World) (hBm:Bm<w.heap.size) (hm:w.cell? ⟨Bm,om,none⟩=some (.map (some b))) (hb:w.heap[b]? =some (.map es clock)):
  SeqStopsK F n Try.prog 32 #[.pointer (some ⟨Bm,om,none⟩)] (fun x:KeyV=> #[.agg x.enc.toArray]) KeepsWalks (fun xs=>(xs.map (fun x:KeyV=>Value.agg x.enc.toArray)).Perm (es.toList.map (·.key))) (fun _=>True) es.size w:=fun l J Jx W hW hJ _ hY h0=>
 keys1_in F n hf hro hn l Bm om b clock es hbn hbl hkey J Jx hY W hJ ((hW.cell (p:=⟨Bm,om,none⟩) hBm).trans hm) ((hW.block b (Array.getElem?_eq_some_iff.1 hb).1).trans hb) h0
