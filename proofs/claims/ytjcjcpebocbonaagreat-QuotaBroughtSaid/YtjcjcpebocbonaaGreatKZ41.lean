/- A part of the proof. No further condition. -/
import Derived.Test.YtjcjcpebocbonaaGreatKZ40
set_option linter.all false
set_option maxRecDepth 10000000
set_option maxHeartbeats 16000000
namespace Go.Abs
section
open Go.RowKit (Below)
def entAt(st:St)(d:Nat)(sc:Nat×Bool)(kvs:List (List Int×List Int))(ks:List Int)(m k:Operand):Prop:=evO st m= .mpo d sc kvs/\keyI (evO st k)=some ks
def jiz(st:St)(d:Nat)(sc:Nat×Bool)(kvs:List (List Int×List Int))(ks:List Int)(o:Oper):Prop:=
 match o.op with
 | .lookup _ m k false=>entAt st d sc kvs ks m k
 | .binOp _ _ x y _=>∃a b,evO st x= .im (.sc a)/\evO st y= .im (.sc b)
 | _=>True
def lateB(o:Oper):Bool:=
 match o.op with
 | .lookup _ _ _ false=>true
 | .binOp _ _ _ _ _=>true
 | _=>false
def jkg(G:Ctx)(d:Nat)(sc:Nat×Bool)(kvs:List (List Int×List Int))(ks:List Int)(K:St->Prop):List Oper->St->Prop
 | [],st=>K st
 | o::r,st=>match o.op with
  | .mapEntry _ m k=>entAt st d sc kvs ks m k/\jkg G d sc kvs ks K r (st.put o.dst .und)
  | .extract _ _=>jkg G d sc kvs ks K r (st.put o.dst .und)
  | _=>jiz st d sc kvs ks o/\aq G st o fun av=>jkg G d sc kvs ks K r (st.put o.dst av)
def stepE(G:Ctx)(d:Nat)(sc:Nat×Bool)(kvs:List (List Int×List Int))(ks:List Int)(st:St)(o:Oper)(av:AV):Prop:=
 match o.op with
 | .mapEntry _ m k=>entAt st d sc kvs ks m k/\av= .und
 | .extract _ _=>av= .und
 | _=>qVal G st o av/\jiz st d sc kvs ks o
def jn3(o:Oper):Bool:=
 match o.op with
 | .mapEntry _ _ _=>false
 | .extract _ _=>false
 | _=>true
def entC(ops:List Oper)(n iE iX dE dX:Nat):Bool:=
 ops.length==n+1&&(Nat.blt iE n&&(Nat.blt iX n&&(iE !=iX&&(Region.waitsFor .any ops.toArray iX iE&&(drawB ops.toArray n&&(dE !=dX&&
 (List.range n).all fun i=>i==iE || (i==iX || (match ops[i]? with
  | some o=>o.guard.isNone&&jn3 o&&((Region.waitsFor .any ops.toArray iE i || lateB o)&&(o.dst !=some dE&&o.dst !=some dX))
  | none=>false))))))))
section
variable{G:Ctx}{N:Nat}{w0:Base}{w w':World}{M0:Nat->Nat->Prop}{β:Nat->Option Nat}{st st':St}{a:Act}{ops:List Oper}{d:Nat}{sc:Nat×Bool}{kvs:List (List Int×List Int)}{ks:List Int}
theorem jm8{m k:Operand}{o:Oper}(h:∀t∈o.looksAt ops.toArray,st.get t=st'.get t)(hm:m∈o.op.operands)(hk:k∈o.op.operands)(he:entAt st d sc kvs ks m k):entAt st' d sc kvs ks m k:=
 ⟨by rw[<-jds fun t ht=>h t (jbt hm ht)];exact he.1,by rw[<-jds fun t ht=>h t (jbt hk ht)];exact he.2⟩
theorem lateOk_congr{o:Oper}(h:∀t∈o.looksAt ops.toArray,st.get t=st'.get t)(hl:jiz st d sc kvs ks o):jiz st' d sc kvs ks o:=by
 unfold jiz at hl⊢;split
 ·rename_i t m k ho;rw[ho]at hl;exact jm8 h (by rw[ho];simp[Op.operands]) (by rw[ho];simp[Op.operands]) hl
 ·rename_i op t x y rt ho;rw[ho]at hl;obtain⟨a,b,h1,h2⟩:=hl;exact⟨a,b,by rw[<-jds fun t ht=>h t (jbt (by rw[ho];simp[Op.operands]) ht)];exact h1,by rw[<-jds fun t ht=>h t (jbt (by rw[ho];simp[Op.operands]) ht)];exact h2⟩
 ·trivial
theorem stepE_congr{o:Oper}{av:AV}(h:∀t∈o.looksAt ops.toArray,st.get t=st'.get t)(hr:st.rows=st'.rows)(ht:st.toks=st'.toks)(hq:stepE G d sc kvs ks st o av):stepE G d sc kvs ks st' o av:=by
 unfold stepE at hq⊢;split at hq
 ·rename_i t m k ho;exact⟨jm8 h (by rw[ho];simp[Op.operands]) (by rw[ho];simp[Op.operands]) hq.1,hq.2⟩
 ·exact hq
 ·exact⟨jhs h hr ht hq.1,lateOk_congr h hq.2⟩
theorem jno{K:St->Prop}:∀(l:List Oper) (st:St),jkg G d sc kvs ks K l st->
  ∃res:Nat->AV,(∀i o,l[i]? =some o->stepE G d sc kvs ks (stUp res (fun _=>true) (l.take i) st) o (res i))/\K (stUp res (fun _=>true) l st)
 | [],st,h=>⟨fun _=> .und,fun i o hi=>by simp at hi,h⟩
 | o::l,st,h=>by
  have key:∃av,stepE G d sc kvs ks st o av/\jkg G d sc kvs ks K l (st.put o.dst av):=by
   unfold jkg at h;unfold stepE;split at h
   ·exact⟨.und,⟨h.1,rfl⟩,h.2⟩
   ·exact⟨.und,rfl,h⟩
   ·obtain⟨av,h1,h3⟩:=jfv h.2;exact⟨av,⟨h1,h.1⟩,h3⟩
  obtain⟨av,h1,h2⟩:=key;obtain⟨res,h3,h4⟩:=jno l _ h2;refine⟨fun i=>match i with | 0=>av | i+1=>res i,fun i o' hi=> ?_,?_⟩
  ·cases i with
   | zero=>simp at hi;subst hi;exact h1
   | succ i=>
    have:=h3 i o' (by simpa using hi)
    simpa [stUp]using this
  ·simpa [stUp]using h4
def St.mp(st:St)(m:Bool)(d:Nat)(sc:Nat×Bool)(kvs:List (List Int×List Int)):St:=if m=true then{st with fr:=jf7 d sc kvs st.fr}else st
theorem jft(m:Bool):(st.mp m d sc kvs).rows=st.rows/\(st.mp m d sc kvs).toks=st.toks:=by
 unfold St.mp;split<;>exact⟨rfl,rfl⟩
theorem jqg(m:Bool)(t:Nat):(st.mp m d sc kvs).get t=if m=true then(st.get t).setM d sc kvs else st.get t:=by
 unfold St.mp;split
 ·simp only[St.get];rw[jfa];cases look st.fr t<;>rfl
 ·rfl
theorem jn6(x:Operand):evO (st.mp true d sc kvs) x=(evO st x).setM d sc kvs:=by
 cases x with
 | tmp t=>simp only[evO];rw[jqg,zh rfl]
 | const v=>
  simp only[evO];unfold ofV;split<;>first | rfl | (split<;>rfl)
 | global g=>rfl
 | func f=>rfl
theorem keyI_setM{av:AV}{ks:List Int}(h:keyI av=some ks):av.setM d sc kvs=av:=by
 unfold keyI at h;split at h<;>first | rfl | cases h
def v0F(kvs:List (List Int×List Int))(ks:List Int):List Int:=(mget kvs ks).getD [0]
theorem jqf:∀{l:List (List Int×List Int)} {x v:List Int},mget l x=some v->mput l x v=l
 | (k,u)::l,x,v,h=>by
  rw[mget]at h;rw[mput];split at h
  ·rename_i e;cases h;rw[zh e,e]
  ·rename_i e;rw[zl e,jqf h]
theorem jn5:∀{l:List (List Int×List Int)} {x v u:List Int},mput (mput l x v) x u=mput l x u
 | [],x,v,u=>by simp[mput]
 | (k,w)::l,x,v,u=>by
  by_cases e:x=k
  ·simp[mput,e]
  ·rw[mput,zl e,mput,zl e,jn5,mput,zl e]
theorem jqi:∀{l:List (List Int×List Int)} {x v:List Int},mget (mput l x v) x=some v
 | [],x,v=>by simp[mput,mget]
 | (k,w)::l,x,v=>by
  by_cases e:x=k
  ·simp[mput,mget,e]
  ·rw[mput,zl e,mget,zl e,jqi]
theorem late_val{o:Oper}{av:AV}{kt e:TypeId}(hz:zeroE G e=some (.int 0))(a7:sc=(ks.length,true))(a6:look st.toks d=some (0,0))(b0:∀t m k,o.op= .lookup t m k false->(G.ti t).kind= .mp kt e)
  (hb:lateB o=true) (hq:qVal G st o av) (hl:jiz st d sc kvs ks o):qVal G (st.mp true d sc (mput kvs ks (v0F kvs ks))) o av/\av.setM d sc (mput kvs ks (v0F kvs ks))=av:=by
 rcases hq with hy | ⟨c,f,g,caps,xs,r,ho,_⟩ | ⟨c,ho,_⟩;rotate_left
 ·unfold lateB at hb;rw[ho]at hb;cases hb
 ·unfold lateB at hb;rw[ho]at hb;cases hb
 unfold lateB at hb;split at hb
 ·rename_i t m k ho;unfold jiz at hl;rw[ho]at hl;obtain⟨hm,hk⟩:=hl;have b1:=b0 t m k ho;have a1:=hy;unfold yv at a1;rw[ho]at a1;dsimp only at a1;have e1:evO (st.mp true d sc (mput kvs ks (v0F kvs ks))) m= .mpo d sc (mput kvs ks (v0F kvs ks)):=by rw[jn6,hm];simp[AV.setM]
  have e2:evO (st.mp true d sc (mput kvs ks (v0F kvs ks))) k=evO st k:=by rw[jn6];exact keyI_setM hk
  have e3:mapOf (st.mp true d sc (mput kvs ks (v0F kvs ks))) (.mpo d sc (mput kvs ks (v0F kvs ks)))=some (sc,mput kvs ks (v0F kvs ks)):=by
   unfold mapOf;dsimp only;rw[(jft (st:=st) true).2,zh a6]
  have e4:mapOf st (.mpo d sc kvs)=some (sc,kvs):=by
   unfold mapOf;dsimp only;rw[zh a6]
  rw[hm,hk,e4]at a1;have key:∃x:Int,av= .im (.int x)/\jjf G t (some (sc,mput kvs ks (v0F kvs ks))) (some ks) false=some av:=by
   unfold jjf at a1⊢;split at a1
   ·cases a1
   rename_i h0;rw[zl h0];rw[b1]at a1⊢;dsimp only at a1⊢;split at a1
   ·rename_i n hn;split at a1
    ·rename_i hc;rw[zh ⟨hc.1,.inr (by rw[a7,hc.1,joi])⟩,jqi];dsimp only;unfold v0F;split at a1
     ·rename_i v hv;rw[zl (by decide)]at a1⊢;cases a1;rw[hv,a7];exact⟨v.headD 0,rfl,rfl⟩
     ·rename_i hv;rw[hz]at a1;dsimp only at a1;rw[zl (by decide)]at a1⊢;cases a1;rw[hv,a7];exact⟨0,rfl,rfl⟩
    ·cases a1
   ·cases a1
  obtain⟨x,rfl,hx⟩:=key;refine⟨.inl ?_,rfl⟩;unfold yv;rw[ho];dsimp only;rw[e1,e2,e3,hk];exact hx
 ·rename_i op t x y rt ho;unfold jiz at hl;rw[ho]at hl;obtain⟨p,q,h1,h2⟩:=hl;have e1:evO (st.mp true d sc (mput kvs ks (v0F kvs ks))) x= .im (.sc p):=by rw[jn6,h1];rfl
  have e2:evO (st.mp true d sc (mput kvs ks (v0F kvs ks))) y= .im (.sc q):=by rw[jn6,h2];rfl
  unfold yv at hy;rw[ho]at hy;dsimp only at hy;rw[h1,h2]at hy;dsimp only at hy;have a8:∃v,scBin G op t p q=some v/\av= .im (.sc v):=by
   cases hs:scBin G op t p q with
   | none=>rw[hs]at hy;cases hy
   | some v=>rw[hs]at hy;cases hy;exact⟨v,rfl,rfl⟩
  obtain⟨v,hv,rfl⟩:=a8;refine⟨.inl ?_,rfl⟩;unfold yv;rw[ho];dsimp only;rw[e1,e2];dsimp only;rw[hv]
 ·cases hb
def EntOf(w:World)(b:Nat)(sc:Nat×Bool)(kvs:List (List Int×List Int))(ks:List Int)(s:Nat):Prop:=
 ∃es c i en,w.heap[b]? =some (.map es c)/\Ents sc kvs es/\Born es c/\es[i]? =some (en:MapEntry)/\en.born=s/\∃v,mfind kvs ks 0=some (i,v)
theorem jn8:∀{l:List (List Int×List Int)} {x u:List Int} {j:Nat},mfind l x j=none->mfind (l++[(x,u)]) x j=some (j+l.length,u)
 | [],x,u,j,_=>by simp[mfind]
 | (k,w)::l,x,u,j,h=>by
  rw[mfind]at h;split at h
  ·cases h
  ·rename_i e;rw[List.cons_append,mfind,zl e,jn8 h,List.length_cons];congr 2;omega
theorem mapEntry_run(hG:G.Ok){t kt e:TypeId}{b c:Nat}{es:Array MapEntry}(hu:G.P.underlying t=some (.map kt e))(hk:keyN G kt=some ks.length)(b1:sc=(ks.length,true))(hz:zeroE G e=some (.int 0))
  (hb:w.heap[b]? =some (.map es c)) (he:Ents sc kvs es) (b2:Born es c):
  ∃es' c' v s,(Instr.mapEntry t (.map (some b)) (keyV ks)).run G.P w= .ok (.tuple #[v,.int .i64 (s:Nat)]) {w with heap:=w.heap.setIfInBounds b (.map es' c')}/\Ents sc (mput kvs ks (v0F kvs ks)) es'/\Born es' c'/\
   EntOf {w with heap:=w.heap.setIfInBounds b (.map es' c')} b sc (mput kvs ks (v0F kvs ks)) ks s:=by
 have b7:b<w.heap.size:=(zm.1 hb).1;have hg:(getObj b).run G.P w= .ok (.map es c) w:=by simp[getObj,Sem.run,hb]
 have hs:∀o,(setObj b o).run G.P w= .ok () {w with heap:=w.heap.setIfInBounds b o}:=fun o=>by simp[setObj,Sem.run,hb]
 have hf:=run_findKey_rows (w:=w) hG hk rfl (sc:=sc) (kvs:=kvs) (es:=es) (fun _=>by rw[b1]) he;have b9:=run_key_check hG hk rfl false w;have hlen:es.toList.length=kvs.length:=by have:=zS List.length he.2;simpa using this
 have c0:∀(i:Nat),(es.toList[i]?).map (fun e=>(e.key,e.val))=(kvs[i]?).map (fun p=>(keyV p.1,elemV sc.2 p.2)):=fun i=>by
  rw[<-zq,<-zq,he.2]
 have a1:=jg4 kvs ks 0;have a8:∀o,({w with heap:=w.heap.setIfInBounds b o}:World).heap[b]? =some o:=fun o=>by simp[b7]
 unfold Instr.mapEntry;rw[Sem.run_bind,run_underlying hu,Result.andThen_ok];simp only[Sem.run_bind,hg,Result.andThen_ok,b9,hf];cases a6:mfind kvs ks 0 with
 | none=>
  rw[a6]at a1;have a1:mget kvs ks=none:=a1.symm;obtain⟨zv,b5,b6⟩:=jph hG hz w (fun _ _=>False);have b4:zv= .int .i64 0:=Rep.sc_inv b6;subst b4;have e1:mput kvs ks (v0F kvs ks)=kvs++[(ks,[0])]:=by rw[jhv a6];unfold v0F;rw[a1];rfl
  have e2:Ents sc (kvs++[(ks,[0])]) (es.push {key:=keyV ks,val:= .int .i64 0,born:=c}):=by
   refine⟨fun p hp=> ?_,?_⟩
   ·rcases qk.1 hp with hp | hp
    ·exact he.1 p hp
    ·rw[zE]at hp;subst hp;rw[b1]
   ·rw[ve,qv,qv,he.2,b1];rfl
  have e3:=b2.push {key:=keyV ks,val:= .int .i64 0,born:=c} rfl;refine⟨es.push {key:=keyV ks,val:= .int .i64 0,born:=c},c+1,.int .i64 0,c,?_,by rw[e1];exact e2,e3,_,_,es.size,_,a8 _,by rw[e1];exact e2,e3,Array.getElem?_push_size,rfl,[0],?_⟩
  ·simp only[Option.map_none,Sem.run_bind,b5,Result.andThen_ok,hs,Sem.run_pure];rfl
  ·rw[e1,<-Array.length_toList,hlen,jn8 a6,qi]
 | some p=>
  obtain⟨i,v⟩:=p;rw[a6]at a1;have a1:mget kvs ks=some v:=a1.symm;obtain⟨k,h1,h2,h3⟩:=mfind_some (u:=v) a6;rw[qi]at h1;subst h1;have e1:mput kvs ks (v0F kvs ks)=kvs:=by unfold v0F;rw[a1];exact jqf a1
  have b8:i<es.size:=by
   have:=(zr.1 h2).1;rw[<-hlen,Array.length_toList]at this;exact this
  have a7:es[i]? =some es[i]:=qn b8;have b0:(es[i]).key=keyV ks:=by
   have:=c0 i;rw[h2]at this;simp only[zR,a7,Option.map_some,qa,q7]at this;exact this.1
  have e4:es.modify i (fun e=>{e with key:=keyV ks})=es:=by
   refine Array.ext_getElem? fun j=> ?_;rw[y8];by_cases b3:i=j
   ·subst b3;rw[zh rfl,a7,Option.map_some,<-b0]
   ·rw[zl b3]
  refine⟨es,c,elemV sc.2 v,(es[i]).born,?_,by rw[e1];exact he,b2,es,c,i,es[i],a8 _,by rw[e1];exact he,b2,a7,rfl,v,by rw[e1];exact a6⟩;simp only[Option.map_some,Sem.run_bind,a7,Option.getD_some,b0,Instr.keyThatStays,jk6,qA,Sem.run_pure,Result.andThen_ok,e4,hs];rfl
theorem entryStore_run{t:TypeId}{b:Nat}{x:Int}{s:Nat}(h:EntOf w b sc kvs ks s)(b0:sc=(ks.length,true)):
  ∃es' c' es c,w.heap[b]? =some (.map es c)/\(Instr.entryStore t (.map (some b)) (.int .i64 s) (.int .i64 x)).run G.P w= .ok () {w with heap:=w.heap.setIfInBounds b (.map es' c')}/\Ents sc (mput kvs ks [x]) es'/\Born es' c':=by
 obtain⟨es,c,i,en,hb,he,b5,a6,b3,v,hv⟩:=h;have hg:(getObj b).run G.P w= .ok (.map es c) w:=by simp[getObj,Sem.run,hb]
 have hs:∀o,(setObj b o).run G.P w= .ok () {w with heap:=w.heap.setIfInBounds b o}:=fun o=>by simp[setObj,Sem.run,hb]
 obtain⟨k,h1,h2,h3⟩:=mfind_some (u:=[x]) hv;rw[qi]at h1;subst h1;have b7:i<es.size:=(zm.1 a6).1;have b4:es[i]=en:=(zm.1 a6).2;have a8:es.findIdx? (fun e=>(e.born:Int)==(s:Int))=some i:=by
  rw[Array.findIdx?_eq_some_iff_getElem];refine⟨b7,by rw[b4,b3];simp,fun j hj=> ?_⟩;have b2:j<es.size:=by omega
  have b9:(es[j]).born≠s:=fun e=>by
   have hn:=b5.1;have a1:(es.toList.map (·.born))[j]? =some s:=by rw[zq,zR,qn b2,Option.map_some,e]
   have a2:(es.toList.map (·.born))[i]? =some s:=by rw[zq,zR,a6,Option.map_some,b3]
   have:=(List.getElem?_inj (by simpa using b2) hn).1 (a1.trans a2.symm);omega
  simp;omega
 have hlen:es.toList.length=kvs.length:=by have:=zS List.length he.2;simpa using this
 have b6:∀(i:Nat),(es.toList[i]?).map (fun e=>(e.key,e.val))=(kvs[i]?).map (fun p=>(keyV p.1,elemV sc.2 p.2)):=fun i=>by
  rw[<-zq,<-zq,he.2]
 have b1:en.key=keyV ks:=by
  have:=b6 i;rw[h2,zR,a6]at this;simp only[Option.map_some,qa,q7]at this;exact this.1
 refine⟨es.modify i fun e=>{e with val:= .int .i64 x},c,es,c,hb,?_,⟨?_,?_⟩,b5.modify i _ fun _=>rfl⟩
 ·unfold Instr.entryStore;simp only[Sem.run_bind,hg,Result.andThen_ok,asInt,asIntOf,Sem.run_pure,a8,hs]
 ·rw[h3];intro p hp;rcases yy hp with hp | hp
  ·exact he.1 p hp
  ·subst hp;rw[b0]
 ·rw[h3];apply ju;intro j;have hj:=b6 j;rw[zq,zq,zR,y8,jt];rw[zR]at hj;by_cases a7:i=j
  ·subst a7;have b8:i<kvs.length:=(zr.1 h2).1;rw[zh rfl,zh rfl,a6];simp[b8,b1,b0,elemV]
  ·rw[zl a7,zl a7];exact hj
theorem draw_soundE(hG:G.Good)(id n iE iX dE dX:Nat){ty k4 kt e:TypeId}{tm tk:Nat}{xo:Operand}{r9 r8 h9:TypeId}{pE pX pS:String}{aE aX aS:Array Edge}
  (hE:ops[iE]? =some ⟨some dE,.mapEntry ty (.tmp tm) (.tmp tk),r9,pE,aE,none⟩) (hX:ops[iX]? =some ⟨some dX,.extract (.tmp dE) 1,r8,pX,aX,none⟩) (hS:ops[n]? =some ⟨none,.entryStore k4 (.tmp tm) (.tmp dX) xo,h9,pS,aS,none⟩)
  (hC:entC ops n iE iX dE dX=true) (hd:∀o∈ops,∀d,o.dst=some d->d<N) (h0:(G.ti ty).size≠0) (u7:(G.ti ty).kind= .mp kt e) (e3:keyN G kt=some ks.length) (k6:sc=(ks.length,true)) (hz:zeroE G e=some (.int 0))
  (u3:∀i t m k,i<n->(ops[i]?).map (·.op)=some (.lookup t m k false)->(G.ti t).kind= .mp kt e) {K:St->Prop} {Q':Exit->Act->World->Prop}
  (hK:∀st' β' a' w',K st'->Sim N w0 M0 β' st' a' w'->Q' .normal a' w') (h:Sim N w0 M0 β st a w) (k1:look st.toks d=some (0,0))
  (hA:jkg G d sc kvs ks (fun s=>evO s (.tmp tm)= .mpo d sc kvs/\∃x,evO s xo= .im (.int x)/\K {s with fr:=jf7 d sc (mput kvs ks [x]) s.fr}) (ops.take n) st):(Code.region id ops.toArray true).wp G.P Q' a w:=by
 unfold entC at hC;simp only[zn,yB,Nat.blt_eq,qh,ne_eq]at hC;obtain⟨hlen,hEn,hXn,r7,r6,hB,hdd,n1⟩:=hC;simp only[drawB,zn,zO,qt,yB]at hB;obtain⟨⟨⟨⟨hn,h8⟩,l1⟩,k5⟩,o5⟩:=hB;obtain⟨res,o6,p7⟩:=jno _ _ hA;have hu:=hG.ok.mp h0 u7;have p0:∀i o,i<n->i≠iE->i≠iX->ops[i]? =some o->(o.guard=none/\jn3 o=true)/\(Region.waitsFor .any ops.toArray iE i=true\/lateB o=true)/\o.dst≠some dE/\o.dst≠some dX:=fun i o hi h1 h2 ho=>by
  have:=List.all_eq_true.1 n1 i (qx.2 hi);simp only[qt,yB,ho,zn,qh,ne_eq,Option.isNone_iff_eq_none]at this;rcases this with e | e | e
  ·exact absurd e h1
  ·exact absurd e h2
  ·exact⟨e.1,e.2.1,e.2.2.1,e.2.2.2⟩
 have o2:ops.toArray.size=ops.length:=by simp
 have c8:∀i,i<n->(ops.take n)[i]? =ops[i]? :=fun i hi=>by rw[qy,zh hi]
 have h4:∀i o,(ops.take n)[i]? =some o->i<n/\ops[i]? =some o:=fun i o hi=>by
  rw[qy]at hi;split at hi
  ·exact⟨‹_›,hi⟩
  ·cases hi
 have arr:∀(i:Nat) (o:Oper),ops[i]? =some o->ops.toArray[i]? =some o:=fun i o h=>by simpa using h
 have b5:∀i j oi oj,i<j->j<n->ops[i]? =some oi->ops[j]? =some oj->Region.waitsFor .any ops.toArray j i=true\/oi.apart ops.toArray oj=true:=by
  intro i j oi oj hij hj h1 h2;have:=List.all_eq_true.1 (List.all_eq_true.1 l1 j (qx.2 hj)) i (qx.2 hij);rw[arr i oi h1,arr j oj h2]at this
  simpa using this
 have e8:∀(j:Nat) oj,ops[j]? =some oj->∀e∈oj.after,Region.binds .any e=true->e.on<j:=by
  intro j oj hj e he hb;have u9:j<ops.toArray.size:=by rw[o2];exact(zr.1 hj).1
  have:=List.all_eq_true.1 h8 j (qx.2 u9);rw[arr j oj hj]at this;have:=jQ.1 this e he
  simpa [hb]using this
 obtain⟨a6,hkv1⟩:∃a6,a6=mput kvs ks (v0F kvs ks):=⟨_,rfl⟩;have r0:dE<N:=hd _ (zk hE) dE rfl;have p9:dX<N:=hd _ (zk hX) dX rfl;have o1:∀(m:Bool) (L:Nat->Bool),look ((stUp res L (ops.take n) st).mp m d sc a6).toks d=some (0,0):=fun m L=>by
  rw[(jft m).2,(jaa _ _ _ _).2];exact k1
 have main:∀c (a1:Array Bool) (a:Act) (w:World),cntB a1 n=c->HeadInv .any ops.toArray n a1->
   Sim N w0 M0 β ((stUp res (fun i=>a1.getD i false) (ops.take n) st).mp (a1.getD iE false) d sc a6) a w->
   (a1.getD iE false=true->∃(b s:Nat) (v:Value),β d=some b/\EntOf w b sc a6 ks s/\a.tmps.getD dE undef= .tuple #[v,.int .i64 s]/\(a1.getD iX false=true->a.tmps.getD dX undef= .int .i64 s))->
   wpAny G.P .any ops.toArray Q' (c+(ops.toArray.size-n)) a1 a w:=by
  intro c
  induction c with
  | zero=>
   intro a1 a w hc inv hs e9;rw[qi];have b4:=jfh hc;have r3:a1=jen n ops.toArray.size:=by
    apply Array.ext
    ·rw[inv.size];simp[jen]
    ·intro i h1 h2;have l4:i<ops.length:=by rw[inv.size]at h1;simpa using h1
     by_cases b1:i<n
     ·have:=b4 i b1;have e1:a1[i]=true:=by simpa [h1]using this
      rw[e1];simp[jen,b1]
     ·have:=inv.tail i (by omega) (by rw[inv.size]at h1;exact h1);have e1:a1[i]=false:=by simpa [h1]using this
      rw[e1];simp[jen,b1]
   have h5:=b4 iE hEn;have u5:=b4 iX hXn;obtain⟨b,s,v,hb,b3,_,hx⟩:=e9 h5;have hx:=hx u5;rw[h5]at hs;have p6:∀t,(stUp res (fun i=>a1.getD i false) (ops.take n) st).get t=(stUp res (fun _=>true) (ops.take n) st).get t:=fun t=>jbz _ _ _ _ _ _ rfl fun i o hi _=>b4 i (h4 i o hi).1;have k7:Sim N w0 M0 β ((stUp res (fun _=>true) (ops.take n) st).mp true d sc a6) a w:=by
    refine hs.congr (fun t=> ?_) ?_ ?_
    ·rw[jqg,jqg,p6]
    ·rw[(jft true).1,(jft true).1,(jaa _ _ _ _).1,(jaa _ _ _ _).1]
    ·rw[(jft true).2,(jft true).2,(jaa _ _ _ _).2,(jaa _ _ _ _).2]
   obtain⟨hfm,x,hfx,hKx⟩:=p7;have b2:=o1 true (fun _=>true);generalize hS0:stUp res (fun _=>true) (ops.take n) st=S0 at*;have l8:ops.drop n=[⟨none,.entryStore k4 (.tmp tm) (.tmp dX) xo,h9,pS,aS,none⟩]:=by
    have h1:n<ops.length:=by omega
    rw[qR h1,zZ (by omega)];rw[zw h1]at hS;injection hS with hS;rw[hS]
   have l3:wpList G.P ops.toArray Q' (ops.drop n) a w:=by
    rw[l8];unfold wpList;rw[zh (by simp[Region.wanted])];refine .inl ?_;have c3:=jb6 k7 (.tmp tm);rw[jn6,hfm]at c3;have c3:RepA w (Mo M0 β (S0.mp true d sc a6)) β (S0.mp true d sc a6).toks (.mpo d sc a6) (a.eval (.tmp tm)):=by simpa [AV.setM]using c3
    obtain⟨b',r5,l2,_⟩:=c3;rw[hb]at r5;cases r5;have n9:=jb6 k7 xo;rw[jn6,hfx]at n9;have s3:a.eval xo= .int .i64 x:=Rep.sc_inv n9;have s9:a.eval (.tmp dX)= .int .i64 s:=hx;obtain⟨es',c',es,c,hh,b9,h6,n0⟩:=entryStore_run (t:=k4) (x:=x) (G:=G) b3 k6;rw[hkv1,jn5]at h6;have e0:=k7.setMap b2 hb hh h6 n0;unfold Oper.wp execOp;simp only[l2,s3,s9,Sem.run_bind,b9,Result.andThen_ok,Sem.run_pure,Oper.upon_skip];unfold wpList;refine hK _ β _ _ hKx ((e0.put (dst:=none) (av:= .und) (fun _ h=>by cases h) trivial).congr (fun t=> ?_) ?_ ?_)
    ·show(({(S0.mp true d sc a6)with fr:=jf7 d sc (mput kvs ks [x]) (S0.mp true d sc a6).fr}:St).mp false d sc a6).get t=(S0.mp true d sc (mput kvs ks [x])).get t;simp only[St.get,St.mp,qA,qp,ya];rw[jfa,jfa,jfa];cases look S0.fr t with
     | none=>rfl
     | some av=>
      show(av.setM d sc a6).setM d sc (mput kvs ks [x])=av.setM d sc (mput kvs ks [x]);cases av<;>(try rfl);rename_i d' s0 n3;show(AV.setM d sc a6 (.mpo d' s0 n3)).setM d sc (mput kvs ks [x])=_;by_cases e:d'=d
      ·simp[AV.setM,e]
      ·simp[AV.setM,e]
    ·rfl
    ·rfl
   have p8:(ops.drop n).length=ops.toArray.size-n:=by simp
   have:=wpAny_of_seq (P:=G.P) (md:= .any) (Q':=Q') (ops.drop n) n a1 a w (fun j=>by simp[qQ]) (by rw[r3,p8];exact o5) l3
   rwa [p8]at this
  | succ c ih=>
   intro a1 a w hc inv hs e9;obtain⟨i0,l6,k0,p2⟩:=jhz (by omega:cntB a1 n≠0);have hL:∀i,i<n->(a1.getD i true=false↔a1.getD i false=false):=fun i hi=>by
    have:i<a1.size:=by rw[inv.size];omega
    simp[this]
   have c0:i0∈Region.ready .any ops.toArray a1:=by
    have l4:i0<ops.length:=by rw[<-o2];omega
    refine mem_ready.2 ⟨(hL i0 l6).2 k0,ops[i0],arr i0 _ (zw l4),fun e he hb=>p2 _ (e8 i0 _ (zw l4) e he hb)⟩
   have l7:(Region.ready .any ops.toArray a1=[]->Q' .normal a w)/\∀i∈Region.ready .any ops.toArray a1,wpOp G.P ops.toArray Q' i (wpAny G.P .any ops.toArray Q' (c+(ops.toArray.size-n)) (a1.setIfInBounds i true)) a w:=by
    refine⟨fun hr=>(by rw[hr]at c0;cases c0),fun i hi=> ?_⟩;obtain⟨s7,oi,h3,b4⟩:=mem_ready.1 hi;have a7:ops[i]? =some oi:=by simpa using h3
    have p5:i<ops.toArray.size:=(zm.1 h3).1;have b1:i<n:=by
     rcases zT i n with h' | h'
     ·exact h'
     ·rcases k5 with e | ⟨hsink,hchain⟩
      ·omega
      ·exact absurd hi (tail_waits hsink hchain (by omega) inv _ i0 rfl l6 ((hL i0 l6).2 k0) i h')
    have b8:a1.getD i false=false:=(hL i b1).1 s7;have c7:∀k,Region.waitsFor .any ops.toArray i k=true->a1.getD k false=true:=fun k hk=>by
     obtain⟨oj,p1,e,he,hb,e2⟩:=Region.waitsFor_spec hk;rw[h3]at p1;cases p1;rw[<-e2];exact b4 e he hb
    have c4:∀k,Region.waitsFor .any ops.toArray k i=true->a1.getD k false=false:=fun k hk=>by
     obtain⟨ok,b6,e,he,hb,e2⟩:=Region.waitsFor_spec hk;cases hl:a1.getD k false with
     | false=>rfl
     | true=>
      have:=inv.closed k ok b6 hl e he hb;rw[e2,b8]at this;cases this
    have h7:∀t∈oi.looksAt ops.toArray,(stUp res (fun _=>true) ((ops.take n).take i) st).get t=(stUp res (fun k=>a1.getD k false) (ops.take n) st).get t:=by
     intro t ht;rw[jin];refine jbz _ _ _ _ _ _ rfl fun k ok hk c6=> ?_;obtain⟨e3,b6⟩:=h4 k ok hk;rcases qS k i with hki | hki | hki
     ·rcases b5 k i ok oi hki b1 b6 a7 with hw | hap
      ·rw[c7 k hw];simp[hki]
      ·exact absurd ht ((Oper.apart_spec hap).1 t c6)
     ·subst hki;rw[b8];simp
     ·rcases b5 i k oi ok hki e3 a7 b6 with hw | hap
      ·rw[c4 k hw];simp;omega
      ·exact absurd ht ((Oper.apart_spec hap).2.2 t c6)
    have hq:stepE G d sc kvs ks (stUp res (fun k=>a1.getD k false) (ops.take n) st) oi (res i):=
     stepE_congr h7 (by rw[(jaa _ _ _ _).1,(jaa _ _ _ _).1]) (by rw[(jaa _ _ _ _).2,(jaa _ _ _ _).2]) (o6 i oi (by rw[c8 i b1];exact a7))
    have k2:i<a1.size:=by rw[inv.size];exact p5
    have r2:cntB (a1.setIfInBounds i true) n=c:=by
     have:=jhy k2 b8 n;rw[zh b1]at this;omega
    have a8:∀k,k≠i->(a1.setIfInBounds i true).getD k false=a1.getD k false:=fun k hk=>getD_set_ne false (zH hk);have c9:(a1.setIfInBounds i true).getD i false=true:=by simp[k2]
    have b2:=o1 (a1.getD iE false) (fun k=>a1.getD k false);have next:∀(m:Bool) v w2,m=(a1.setIfInBounds i true).getD iE false->(m=true->(res i).setM d sc a6=res i)->Sim N w0 M0 β ((stUp res (fun k=>a1.getD k false) (ops.take n) st).mp m d sc a6) a w2->
      RepA w2 (Mo M0 β ((stUp res (fun k=>a1.getD k false) (ops.take n) st).mp m d sc a6)) β ((stUp res (fun k=>a1.getD k false) (ops.take n) st).mp m d sc a6).toks (res i) v->
      ((a1.setIfInBounds i true).getD iE false=true->∃(b s:Nat) (v':Value),β d=some b/\EntOf w2 b sc a6 ks s/\(a.put oi.dst v).tmps.getD dE undef= .tuple #[v',.int .i64 s]/\((a1.setIfInBounds i true).getD iX false=true->(a.put oi.dst v).tmps.getD dX undef= .int .i64 s))->
      wpAny G.P .any ops.toArray Q' (c+(ops.toArray.size-n)) (a1.setIfInBounds i true) (a.put oi.dst v) w2:=by
     intro m v w2 hm u1 s8 hv o3;have e0:=s8.put (dst:=oi.dst) (hd oi (zk a7)) hv;refine ih _ _ _ r2 (inv.set hi b1) ?_ o3;rw[<-hm];refine e0.congr (fun t=> ?_) ?_ ?_
     ·rw[jqg];by_cases e6:oi.dst=some t
      ·rw[e6,jby];have:=jej (ops.take n) res (fun k=>(a1.setIfInBounds i true).getD k false) st i oi (by rw[c8 i b1];exact a7) e6 c9 fun k ok hik hk n2 c6=>by
        obtain⟨e3,b6⟩:=h4 k ok hk;rw[a8 k (by omega)]at n2;rcases b5 i k oi ok hik e3 a7 b6 with hw | hap
        ·rw[c4 k hw]at n2;cases n2
        ·exact(Oper.apart_spec hap).2.1 t e6 c6
       rw[this];cases m with
       | false=>rfl
       | true=>rw[zh rfl];exact(u1 rfl).symm
      ·rw[jdl e6,jqg];rw[jbz (ops.take n) res (fun k=>a1.getD k false) (fun k=>(a1.setIfInBounds i true).getD k false) st st rfl fun k ok hk c6=> ?_];have:k≠i:=fun e=>by
        subst e;obtain⟨_,b6⟩:=h4 k ok hk;rw[a7]at b6;cases b6;exact e6 c6
       exact(a8 k this).symm
     ·rw[show(((stUp res (fun k=>a1.getD k false) (ops.take n) st).mp m d sc a6).put oi.dst (res i)).rows=((stUp res (fun k=>a1.getD k false) (ops.take n) st).mp m d sc a6).rows by unfold St.put;split<;>rfl,(jft m).1,(jft m).1,(jaa _ _ _ _).1,(jaa _ _ _ _).1]
     ·rw[show(((stUp res (fun k=>a1.getD k false) (ops.take n) st).mp m d sc a6).put oi.dst (res i)).toks=((stUp res (fun k=>a1.getD k false) (ops.take n) st).mp m d sc a6).toks by unfold St.put;split<;>rfl,(jft m).2,(jft m).2,(jaa _ _ _ _).2,(jaa _ _ _ _).2]
    unfold wpOp;rw[h3];dsimp only;by_cases e5:i=iE
    ·subst e5;rw[hE]at a7;cases a7;obtain⟨⟨hem,hek⟩,hrs⟩:entAt (stUp res (fun k=>a1.getD k false) (ops.take n) st) d sc kvs ks (.tmp tm) (.tmp tk)/\res i= .und:=hq;rw[zh (by simp[Region.wanted])];refine .inl ?_;rw[b8]at hs b2;have c3:=jb6 hs (.tmp tm);have p4:=jb6 hs (.tmp tk);rw[show(stUp res (fun i=>a1.getD i false) (ops.take n) st).mp false d sc a6=stUp res (fun i=>a1.getD i false) (ops.take n) st from rfl]at c3 p4 b2 hs;rw[hem]at c3;obtain⟨b,hb,l2,l9⟩:=c3;obtain⟨es,cl,hh,h6,n0⟩:=l9 b2;have u6:=joq hek p4;obtain⟨es',c',v,s,b9,k3,r4,b3⟩:=mapEntry_run hG.ok hu e3 k6 hz hh h6 n0;rw[<-hkv1]at k3 b3;have e0:=hs.setMap b2 hb hh k3 r4;unfold Oper.wp execOp;simp only[l2,u6,Sem.run_bind,b9,Result.andThen_ok,Sem.run_pure,Oper.upon_value];refine next true _ _ c9.symm (fun _=>by rw[hrs];rfl) (by unfold St.mp;rw[zh rfl];exact e0) (by rw[hrs];trivial) fun _=>⟨b,s,v,hb,b3,?_,fun hl=> ?_⟩
     ·have:dE<a.tmps.size:=by rw[hs.size];exact r0
      simp[Act.put,this]
     ·rw[a8 iX (zH r7)]at hl;obtain⟨oX,u0,e,he,b7,e2⟩:=Region.waitsFor_spec r6;have:=inv.closed iX oX u0 hl e he b7;rw[e2,b8]at this;cases this
    by_cases l5:i=iX
    ·subst l5;rw[hX]at a7;cases a7;have h5:=c7 iE r6;have hq:res i= .und:=hq;obtain⟨b,s,v,hb,b3,r1,_⟩:=e9 h5;rw[zh (by simp[Region.wanted])];refine .inl ?_;have hev:a.eval (.tmp dE)= .tuple #[v,.int .i64 s]:=r1;have b9:(Instr.extract (.tuple #[v,.int .i64 s]) 1).run G.P w= .ok (.int .i64 s) w:=rfl;unfold Oper.wp execOp;simp only[hev,Sem.run_bind,b9,Result.andThen_ok,Sem.run_pure,Oper.upon_value];refine next (a1.getD iE false) _ _ (a8 iE r7).symm (fun _=>by rw[hq];rfl) hs (by rw[hq];trivial) fun _=>⟨b,s,v,hb,b3,?_,fun _=> ?_⟩
     ·have:dX≠dE:=zH hdd;have e1:(a.put (some dX) (.int .i64 s)).tmps.getD dE undef=a.tmps.getD dE undef:=by simp[Act.put,yX,ql this]
      rw[e1];exact r1
     ·have:dX<a.tmps.size:=by rw[hs.size];exact p9
      simp[Act.put,this]
    obtain⟨⟨hg,b0⟩,s6,hd1,hd2⟩:=p0 i oi b1 e5 l5 a7;rw[zh (by simp[Region.wanted,hg])];have l0:∀v,(a.put oi.dst v).tmps.getD dE undef=a.tmps.getD dE undef:=fun v=>by
     cases e7:oi.dst with
     | none=>rfl
     | some t=>
      have:t≠dE:=fun e=>hd1 (by rw[e7,e]);simp[Act.put,yX,ql this]
    have k9:∀v,(a.put oi.dst v).tmps.getD dX undef=a.tmps.getD dX undef:=fun v=>by
     cases e7:oi.dst with
     | none=>rfl
     | some t=>
      have:t≠dX:=fun e=>hd2 (by rw[e7,e]);simp[Act.put,yX,ql this]
    have o9:qVal G (stUp res (fun k=>a1.getD k false) (ops.take n) st) oi (res i)/\jiz (stUp res (fun k=>a1.getD k false) (ops.take n) st) d sc kvs ks oi\/(res i= .und/\∃x y,oi.op= .extract x y)\/∃t m k,oi.op= .mapEntry t m k:=by
     unfold stepE at hq;split at hq
     ·rename_i t m k ho;exact .inr (.inr ⟨t,m,k,ho⟩)
     ·rename_i x y ho;exact .inr (.inl ⟨hq,x,y,ho⟩)
     ·exact .inl hq
    have e4:∀w2,Below w.heap.size w w2->∀v,((a1.setIfInBounds i true).getD iE false=true->∃(b s:Nat) (v':Value),β d=some b/\EntOf w2 b sc a6 ks s/\(a.put oi.dst v).tmps.getD dE undef= .tuple #[v',.int .i64 s]/\((a1.setIfInBounds i true).getD iX false=true->(a.put oi.dst v).tmps.getD dX undef= .int .i64 s)):=fun w2 b7 v hl=>by
     rw[a8 iE (zH e5)]at hl;obtain⟨b,s,v',hb,⟨es,cl,j,en,q1,q2,q3,q4,q5,q6⟩,s5,s4⟩:=e9 hl;refine⟨b,s,v',hb,⟨es,cl,j,en,by rw[b7.block b (zm.1 q1).1];exact q1,q2,q3,q4,q5,q6⟩,by rw[l0];exact s5,fun p3=> ?_⟩;rw[a8 iX (zH l5)]at p3;rw[k9];exact s4 p3
    cases c5:a1.getD iE false with
    | false=>
     rw[c5]at hs;rcases o9 with ⟨k8,_⟩ | ⟨_,x,y,ho⟩ | ⟨t,m,k,ho⟩
     ·refine .inl (jcs hG hs k8 fun v w2 b7 hv=> ?_);exact next false v w2 (by rw[a8 iE (zH e5),c5]) (fun h=>by cases h) (hs.ext b7) hv (e4 w2 b7 v)
     ·unfold jn3 at b0;rw[ho]at b0;cases b0
     ·unfold jn3 at b0;rw[ho]at b0;cases b0
    | true=>
     rw[c5]at hs;have u4:lateB oi=true:=by
      rcases s6 with hw | hl
      ·rw[c4 iE hw]at c5;cases c5
      ·exact hl
     rcases o9 with ⟨k8,u2⟩ | ⟨_,x,y,ho⟩ | ⟨t,m,k,ho⟩
     ·have o0:look (stUp res (fun k=>a1.getD k false) (ops.take n) st).toks d=some (0,0):=by rw[(jaa _ _ _ _).2];exact k1
      obtain⟨o8,o7⟩:=late_val hz k6 o0 (fun t m k ho=>u3 i t m k b1 (by rw[a7,Option.map_some,ho])) u4 k8 u2;rw[<-hkv1]at o8 o7;refine .inl (jcs hG hs o8 fun v w2 b7 hv=> ?_);exact next true v w2 (by rw[a8 iE (zH e5),c5]) (fun _=>o7) (hs.ext b7) hv (e4 w2 b7 v)
     ·unfold jn3 at b0;rw[ho]at b0;cases b0
     ·unfold jn3 at b0;rw[ho]at b0;cases b0
   have:c+1+(ops.toArray.size-n)=(c+(ops.toArray.size-n))+1:=by omega
   rw[this];exact l7
 refine wp_region_any hG.mixed ?_;have n4:HeadInv .any ops.toArray n (Array.replicate ops.toArray.size false):=
  ⟨by simp,fun j oj _ hl=>(by rw[getD_replicate_false]at hl;cases hl),fun t _ ht=>getD_in (by simpa using ht) (getD_replicate_false _ _)⟩
 have hc0:∀k,cntB (Array.replicate ops.toArray.size false) k=k:=fun k=>by
  induction k with
  | zero=>rfl
  | succ k ihk=>simp only[cntB,ihk,getD_replicate_false];simp
 have:=main n (Array.replicate ops.toArray.size false) a _ (hc0 n) n4 (by
  rw[getD_replicate_false];refine h.drew.congr (fun t=> ?_) (jaa _ _ _ _).1.symm (jaa _ _ _ _).2.symm;have hf:∀(l:List Oper) (res:Nat->AV) (L:Nat->Bool) (st:St),(∀i,L i=false)->stUp res L l st=st:=by
   intro l
   induction l with
   | nil=>intros;rfl
   | cons o l ih=>
    intro res L st hL;simp only[stUp,hL 0];exact ih _ _ _ fun i=>hL (i+1)
  rw[hf _ _ _ _ fun i=>getD_replicate_false _ _];rfl) (fun hl=>by rw[getD_replicate_false]at hl;cases hl)
 rwa [show n+(ops.toArray.size-n)=ops.toArray.size by omega]at this
end
section
variable{G:Ctx}
def Chk(m:AV)(k:Option (List Int))(d:Nat)(sc:Nat×Bool)(kvs:List (List Int×List Int))(ks:List Int)[K:Hold Prop]:Prop:=(m= .mpo d sc kvs/\k=some ks)/\K.val
theorem Chk_ok(d:Nat)(sc:Nat×Bool)(kvs:List (List Int×List Int))(ks:List Int)(K:Prop): @Chk (.mpo d sc kvs) (some ks) d sc kvs ks ⟨K⟩=K:=propext ⟨fun h=>h.2,fun h=>⟨⟨rfl,rfl⟩,h⟩⟩
def Nums(x y:AV)[K:Hold Prop]:Prop:=(∃a b,x= .im (.sc a)/\y= .im (.sc b))/\K.val
theorem Nums_ok(a b:Value)(K:Prop): @Nums (.im (.sc a)) (.im (.sc b)) ⟨K⟩=K:=propext ⟨fun h=>h.2,fun h=>⟨⟨a,b,rfl,rfl⟩,h⟩⟩
def EndE(m x:AV)(d:Nat)(sc:Nat×Bool)(kvs:List (List Int×List Int))[K:Hold (Int->Prop)]:Prop:=m= .mpo d sc kvs/\∃n,x= .im (.int n)/\K.val n
theorem EndE_ok(d:Nat)(sc:Nat×Bool)(kvs:List (List Int×List Int))(n:Int)(K:Int->Prop): @EndE (.mpo d sc kvs) (.im (.sc (.int .i64 n))) d sc kvs ⟨K⟩=K n:=
 propext ⟨fun⟨_,n',e,h⟩=>by cases e;exact h,fun h=>⟨rfl,n,rfl,h⟩⟩
def jd8(G:Ctx)(d:Nat)(sc:Nat×Bool)(kvs:List (List Int×List Int))(ks:List Int)(K:St->Prop)(tm:Nat)(xo:Operand)(n:Nat)(l:List Oper)(st:St):Prop:=
 jkg G d sc kvs ks (fun s=>EndE (evO s (.tmp tm)) (evO s xo) d sc kvs (K:=⟨fun x=>K {s with fr:=jf7 d sc (mput kvs ks [x]) s.fr}⟩)) (l.take n) st
theorem jhl{ops:List Oper}{Q:Exit->St->Prop}{st:St}(n iE iX d:Nat)(kvs:List (List Int×List Int))(ks:List Int){dE dX:Nat}{ty b0 kt e:TypeId}{tm tk:Nat}{xo:Operand}{b1 a8 a1:TypeId}{pE pX pS:String}{aE aX aS:Array Edge}
  (hE:ops[iE]? =some ⟨some dE,.mapEntry ty (.tmp tm) (.tmp tk),b1,pE,aE,none⟩) (hX:ops[iX]? =some ⟨some dX,.extract (.tmp dE) 1,a8,pX,aX,none⟩) (hS:ops[n]? =some ⟨none,.entryStore b0 (.tmp tm) (.tmp dX) xo,a1,pS,aS,none⟩)
  (hC:entC ops n iE iX dE dX=true) (h0:(G.ti ty).size≠0) (a7:(G.ti ty).kind= .mp kt e) (b5:keyN G kt=some ks.length) (hz:zeroE G e=some (.int 0))
  (b4:(ops.take n).all (fun o=>match o.op with | .lookup t _ _ false=>t==ty | _=>true)=true) (a6:look st.toks d=some (0,0))
  (hA:jd8 G d (ks.length,true) kvs ks (Q .normal) tm xo n ops st): @DrawP G ⟨ops⟩ ⟨Q⟩ st:=
 fun _ _ _ _ _ _ id _ hG hd hK hs=>draw_soundE hG id n iE iX dE dX (tk:=tk) hE hX hS hC hd h0 a7 b5 rfl hz (fun i t m k hi ho=>by
  obtain⟨o,b3,b2⟩:=qz.1 ho;have:=List.all_eq_true.1 b4 o (zk (by rw[qy,zh hi];exact b3));rw[b2]at this;rw[eq_of_beq this];exact a7) hK hs a6 hA
variable{d:Nat}{sc:Nat×Bool}{kvs:List (List Int×List Int)}{ks:List Int}{K:St->Prop}{tm n:Nat}{xo:Operand}{dst:Option Tmp}{ty:TypeId}{pos:String}{af:Array Edge}{gd:Option (Nat×Bool)}{r:List Oper}{st:St}
theorem aheadEN_zero(l:List Oper):jd8 G d sc kvs ks K tm xo 0 l st=EndE (evO st (.tmp tm)) (evO st xo) d sc kvs (K:=⟨fun x=>K {st with fr:=jf7 d sc (mput kvs ks [x]) st.fr}⟩):=propext ⟨fun h=>h,fun h=>h⟩
theorem aheadEN_mapEntry(t:TypeId)(m k:Operand):jd8 G d sc kvs ks K tm xo (n+1) (⟨dst,.mapEntry t m k,ty,pos,af,gd⟩::r) st=Chk (evO st m) (keyI (evO st k)) d sc kvs ks (K:=⟨jd8 G d sc kvs ks K tm xo n r (st.put dst .und)⟩):=propext ⟨fun h=>h,fun h=>h⟩
theorem aheadEN_extract(t:Operand)(i:Nat):jd8 G d sc kvs ks K tm xo (n+1) (⟨dst,.extract t i,ty,pos,af,gd⟩::r) st=jd8 G d sc kvs ks K tm xo n r (st.put dst .und):=propext ⟨fun h=>h,fun h=>h⟩
theorem aheadEN_lookup(t:TypeId)(m k:Operand):jd8 G d sc kvs ks K tm xo (n+1) (⟨dst,.lookup t m k false,ty,pos,af,gd⟩::r) st=Chk (evO st m) (keyI (evO st k)) d sc kvs ks (K:=⟨aq G st ⟨dst,.lookup t m k false,ty,pos,af,gd⟩ fun av=>jd8 G d sc kvs ks K tm xo n r (st.put dst av)⟩):=propext ⟨fun h=>h,fun h=>h⟩
theorem aheadEN_binOp(op:BinOp)(t:TypeId)(x y:Operand)(rt:TypeId):jd8 G d sc kvs ks K tm xo (n+1) (⟨dst,.binOp op t x y rt,ty,pos,af,gd⟩::r) st=Nums (evO st x) (evO st y) (K:=⟨aq G st ⟨dst,.binOp op t x y rt,ty,pos,af,gd⟩ fun av=>jd8 G d sc kvs ks K tm xo n r (st.put dst av)⟩):=propext ⟨fun h=>h,fun h=>h⟩
theorem aheadEN_move(x:Operand):jd8 G d sc kvs ks K tm xo (n+1) (⟨dst,.move x,ty,pos,af,gd⟩::r) st=aq G st ⟨dst,.move x,ty,pos,af,gd⟩ (fun av=>jd8 G d sc kvs ks K tm xo n r (st.put dst av)):=propext ⟨fun h=>h.2,fun h=>⟨trivial,h⟩⟩
theorem aheadEN_load(t:TypeId)(x:Operand):jd8 G d sc kvs ks K tm xo (n+1) (⟨dst,.load t x,ty,pos,af,gd⟩::r) st=aq G st ⟨dst,.load t x,ty,pos,af,gd⟩ (fun av=>jd8 G d sc kvs ks K tm xo n r (st.put dst av)):=propext ⟨fun h=>h.2,fun h=>⟨trivial,h⟩⟩
theorem aheadEN_fieldAddr(t:TypeId)(x:Operand)(f:Nat):jd8 G d sc kvs ks K tm xo (n+1) (⟨dst,.fieldAddr t x f,ty,pos,af,gd⟩::r) st=aq G st ⟨dst,.fieldAddr t x f,ty,pos,af,gd⟩ (fun av=>jd8 G d sc kvs ks K tm xo n r (st.put dst av)):=propext ⟨fun h=>h.2,fun h=>⟨trivial,h⟩⟩
theorem aheadEN_build(t:TypeId)(ps:Array (Nat×Operand)):jd8 G d sc kvs ks K tm xo (n+1) (⟨dst,.build t ps,ty,pos,af,gd⟩::r) st=aq G st ⟨dst,.build t ps,ty,pos,af,gd⟩ (fun av=>jd8 G d sc kvs ks K tm xo n r (st.put dst av)):=propext ⟨fun h=>h.2,fun h=>⟨trivial,h⟩⟩
end
attribute [go_sem ↓] aheadEN_zero aheadEN_mapEntry aheadEN_extract aheadEN_lookup aheadEN_binOp aheadEN_move aheadEN_load aheadEN_fieldAddr aheadEN_build Chk_ok Nums_ok EndE_ok
end
end Go.Abs
namespace Go.LQ
section
open Go.Abs (mget mput)
theorem gD{α:Type}{l:List α}{i:Nat}(d:α)(h:i<l.length):l.getD i d=l[i]:=by rw[zX,zw h];rfl
def cmpL:List Int->List Int->Int
 | [],[]=>0
 | [],_::_=> -1
 | _::_,[]=>1
 | x::a,y::b=>if x<y then-1 else if y<x then 1 else cmpL a b
theorem cmpL_refl:∀a,cmpL a a=0
 | []=>rfl
 | x::a=>by
  rw[cmpL,zl (jI x),zl (jI x)];exact cmpL_refl a
theorem cmpL_flip:∀a b,cmpL b a= -cmpL a b
 | [],[]=>rfl
 | [],_::_=>rfl
 | _::_,[]=>rfl
 | x::a,y::b=>by
  rw[cmpL,cmpL];by_cases h1:x<y
  ·rw[zh h1,iNo,zh h1];rfl
  ·by_cases h2:y<x
   ·rw[zh h2,zl h1,zh h2]
   ·rw[zl h2,zl h1,zl h1,zl h2];exact cmpL_flip a b
theorem cmpL_eq:∀{a b},cmpL a b=0->a=b
 | [],[],_=>rfl
 | [],_::_,h=>by simp[cmpL]at h
 | _::_,[],h=>by simp[cmpL]at h
 | x::a,y::b,h=>by
  rw[cmpL]at h;split at h
  ·exact absurd h (by decide)
  ·split at h
   ·exact absurd h (by decide)
   ·rw[cmpL_eq h,show x=y by omega]
theorem cmpL_trans:∀{a b c},cmpL a b<0->cmpL b c<0->cmpL a c<0
 | [],[],_,h,_=>by simp[cmpL]at h
 | [],_::_,[],_,h=>by simp[cmpL]at h
 | [],_::_,_::_,_,_=>by simp[cmpL]
 | _::_,[],_,h,_=>by simp[cmpL]at h
 | _::_,_::_,[],_,h=>by simp[cmpL]at h
 | x::a,y::b,z::c,h1,h2=>by
  rw[cmpL]at h1 h2⊢;by_cases a8:x<y
  ·by_cases a6:y<z
   ·rw[iPo];decide
   ·rw[zl a6]at h2;by_cases a1:z<y
    ·rw[zh a1]at h2;exact absurd h2 (by decide)
    ·rw[iPo];decide
  ·rw[zl a8]at h1;by_cases a7:y<x
   ·rw[zh a7]at h1;exact absurd h1 (by decide)
   ·rw[zl a7]at h1;have b0:x=y:=by omega
    subst b0;by_cases a6:x<z
    ·rw[zh a6];decide
    ·rw[zl a6]at h2⊢;by_cases a1:z<x
     ·rw[zh a1]at h2;exact absurd h2 (by decide)
     ·rw[zl a1]at h2⊢;exact cmpL_trans h1 h2
theorem cmpL_ne{a b:List Int}(h:cmpL a b<0):a≠b:=fun e=>by rw[e,cmpL_refl]at h;exact absurd h (by decide)
theorem cmpL_cases(a b:List Int):cmpL a b= -1\/cmpL a b=0\/cmpL a b=1:=by
 induction a generalizing b with
 | nil=>cases b<;>simp[cmpL]
 | cons x a ih=>
  cases b with
  | nil=>simp[cmpL]
  | cons y b=>
   rw[cmpL];split
   ·exact .inl rfl
   ·split
    ·exact .inr (.inr rfl)
    ·exact ih b
abbrev Tab:=List (List Int×List Int)
def vof(t:Tab)(k:List Int):Int:=match mget t k with
 | some v=>v.headD 0
 | none=>0
def Dist(t:Tab):Prop:=(t.map (·.1)).Nodup
def Shape(n:Nat)(t:Tab):Prop:=∀p∈t,p.1.length=n/\p.2.length=1
theorem mget_none:∀{t:Tab} {k:List Int},mget t k=none↔k∉t.map (·.1)
 | [],k=>by simp[mget]
 | (u,v)::t,k=>by
  rw[mget,zt,zL];by_cases h:k=u
  ·rw[zh h];simp[h]
  ·rw[zl h,mget_none];simp[h]
theorem jqh:∀{t:Tab} {k v:List Int},mget t k=some v->(k,v)∈t
 | [],k,v,h=>by cases h
 | (u,w)::t,k,v,h=>by
  rw[mget]at h;split at h
  ·rename_i e;cases h;rw[e];exact zU
  ·exact zW _ (jqh h)
theorem jon:∀{t:Tab} {k v:List Int},Dist t->(k,v)∈t->mget t k=some v
 | [],k,v,_,h=>by cases h
 | (u,w)::t,k,v,hd,h=>by
  rw[Dist,zt,qJ]at hd;rw[mget];rcases zL.1 h with e | h
  ·cases e;rw[zh rfl]
  ·rw[zl (fun e=>hd.1 (by rw[<-e];exact z8.2 ⟨_,h,rfl⟩))];exact jon hd.2 h
theorem jlh:∀(t:Tab) (k v:List Int),(mput t k v).map (·.1)=if k∈t.map (·.1)then t.map (·.1)else t.map (·.1)++[k]
 | [],k,v=>by simp[mput]
 | (u,w)::t,k,v=>by
  rw[mput];by_cases h:k=u
  ·subst h;simp
  ·rw[zl h];have ih:=jlh t k v;rw[zt,ih];by_cases h2:k∈t.map (·.1)
   ·rw[zh h2,zh (by rw[zt];exact zW _ h2)];rfl
   ·rw[zl h2,zl (by rw[zt,zL];rintro(e | e);exact h e;exact h2 e)];rfl
theorem jli{t:Tab}(h:Dist t)(k v:List Int):Dist (mput t k v):=by
 unfold Dist at*;rw[jlh];split
 ·exact h
 ·rename_i h2;exact js.2 ⟨h,by simp,fun x hx y hy=>by simp at hy;subst hy;exact fun e=>h2 (e▸hx)⟩
theorem jsm:∀{t:Tab} {k v:List Int} {p:List Int×List Int},p∈mput t k v->p=(k,v)\/p∈t
 | [],k,v,p,h=>by simpa [mput]using h
 | (u,w)::t,k,v,p,h=>by
  rw[mput]at h;split at h
  ·rcases zL.1 h with e | h
   ·exact .inl e
   ·exact .inr (zW _ h)
  ·rcases zL.1 h with e | h
   ·exact .inr (by rw[e];exact zU)
   ·exact(jsm h).imp id (zW _)
theorem jg3{n:Nat}{t:Tab}(h:Shape n t){k v:List Int}(hk:k.length=n)(hv:v.length=1):Shape n (mput t k v):=fun p hp=>by
 rcases jsm hp with rfl | hp
 ·exact⟨hk,hv⟩
 ·exact h p hp
theorem jok(t:Tab)(k v:List Int):(mput t k v).length<=t.length+1:=by
 have:=zS List.length (jlh t k v);rw[za]at this;rw[this];split<;>simp
theorem mput_new{t:Tab}{k v:List Int}(h:k∉t.map (·.1)):mput t k v=t++[(k,v)]:=by
 induction t with
 | nil=>rfl
 | cons p t ih=>
  obtain⟨u,w⟩:=p;rw[zt,zL]at h;rw[mput,zl (fun e=>h (.inl e)),ih (fun e=>h (.inr e))];rfl
theorem jom:∀(l:Tab) (x v y:List Int),mget (mput l x v) y=if y=x then some v else mget l y
 | [],x,v,y=>by
  rw[mput,mget];rfl
 | (k,u)::l,x,v,y=>by
  rw[mput];by_cases h:x=k
  ·subst h;rw[zh rfl,mget,mget];split<;>rfl
  ·rw[zl h,mget,mget,jom];by_cases h2:y=k
   ·subst h2;rw[zh rfl,zl (fun e=>h e.symm),zh rfl]
   ·rw[zl h2,zl h2]
theorem jjh(t:Tab)(k k':List Int)(v:Int):vof (mput t k [v]) k'=if k'=k then v else vof t k':=by
 unfold vof;rw[jom];by_cases h:k'=k
 ·rw[zh h,zh h];rfl
 ·rw[zl h,zl h]
theorem jnw{t:Tab}{k:List Int}(h:k∉t.map (·.1)):vof t k=0:=by unfold vof;rw[mget_none.2 h]
theorem vof_mem{t:Tab}(hd:Dist t){k:List Int}{v:Int}(h:(k,[v])∈t):vof t k=v:=by unfold vof;rw[jon hd h];rfl
def nz(t:Tab):Tab:=t.filter fun p=> !decide (p.2.headD 0=0)
theorem nz_dist{t:Tab}(h:Dist t):Dist (nz t):=vT (wd _ vJ) h
theorem nz_shape{n:Nat}{t:Tab}(h:Shape n t):Shape n (nz t):=fun p hp=>h p (jL.1 hp).1
structure Quo where
 com:Int
 dep:Int
 day:Int
 kg:Int
 deriving DecidableEq
def Quo.k(q:Quo):List Int:=[q.dep,q.day,q.com]
def Quo.kv(q:Quo):List Int×List Int:=(q.k,[q.kg])
def Asc(l:List Quo):Prop:=l.Pairwise fun a b=>cmpL a.k b.k<0
def tabL(l:List Quo):Tab:=l.map Quo.kv
theorem jh1(l:List Quo):(tabL l).map (·.1)=l.map Quo.k:=by unfold tabL;rw[qN];rfl
theorem Asc.nodup{l:List Quo}(h:Asc l):(l.map Quo.k).Nodup:=by
 refine jr.2 (h.imp fun h=>cmpL_ne h)
theorem Asc.dist{l:List Quo}(h:Asc l):Dist (tabL l):=by unfold Dist;rw[jh1];exact h.nodup
theorem jcr(l:List Quo):Shape 3 (tabL l):=fun p hp=>by
 obtain⟨q,_,rfl⟩:=z8.1 hp;exact⟨rfl,rfl⟩
theorem jr5{l:List Quo}(h:Asc l){q:Quo}(hq:q∈l):vof (tabL l) q.k=q.kg:=vof_mem h.dist (z8.2 ⟨q,hq,rfl⟩)
theorem js1{l:List Quo}(h:Asc l):∀i,i<=l.length->(l.take i).foldl (fun t q=>mput t q.k [q.kg]) []=tabL (l.take i)
 | 0,_=>by simp[tabL]
 | i+1,hi=>by
  have hx:l[i]? =some l[i]:=zw (by omega);have ht:l.take (i+1)=l.take i++[l[i]]:=by rw[yo,hx];rfl
  rw[ht,jU,js1 h i (by omega)];show mput (tabL (l.take i)) (l[i]).k [(l[i]).kg]=_;rw[mput_new]
  ·unfold tabL;rw[qv];rfl
  ·rw[jh1];have hn:=h.nodup;have h2:((l.take (i+1)).map Quo.k).Nodup:=vT (wd _ (List.take_sublist _ _)) hn;rw[ht,qv]at h2;intro hm;exact(js.1 h2).2.2 _ hm _ zU rfl
def insQ(a:Quo):List Quo->List Quo
 | []=>[a]
 | b::l=>if cmpL a.k b.k<0 then a::b::l else b::insQ a l
def sortQ:List Quo->List Quo
 | []=>[]
 | a::l=>insQ a (sortQ l)
theorem jlr(a:Quo):∀l,(insQ a l).Perm (a::l)
 | []=>yQ _
 | b::l=>by
  rw[insQ];split
  ·exact yQ _
  ·exact((jlr a l).cons b).trans (List.Perm.swap _ _ _)
theorem jjl:∀l,(sortQ l).Perm l
 | []=>yQ _
 | a::l=>(jlr a _).trans ((jjl l).cons a)
theorem jsx{a:Quo}:∀{l:List Quo},Asc l->a.k∉l.map Quo.k->Asc (insQ a l)
 | [],_,_=>by simp[insQ,Asc]
 | b::l,h,hn=>by
  rw[insQ];rw[zt,zL]at hn;have h':=qF.1 h;split
  ·rename_i hl;exact qF.2 ⟨fun x hx=>by
    rcases zL.1 hx with rfl | hx
    ·exact hl
    ·exact cmpL_trans hl (h'.1 x hx),h⟩
  ·rename_i hl;have a1:cmpL b.k a.k<0:=by
    have h1:=cmpL_flip a.k b.k;rcases cmpL_cases a.k b.k with e | e | e
    ·omega
    ·exact absurd (cmpL_eq e) fun e=>hn (.inl e)
    ·omega
   refine qF.2 ⟨fun x hx=> ?_,jsx h'.2 fun h=>hn (.inr h)⟩;rcases zL.1 ((jlr a l).mem_iff.1 hx)with rfl | hx
   ·exact a1
   ·exact h'.1 x hx
theorem jpy:∀{l:List Quo},(l.map Quo.k).Nodup->Asc (sortQ l)
 | [],_=>List.Pairwise.nil
 | a::l,h=>by
  rw[zt,qJ]at h;refine jsx (jpy h.2) fun hm=>h.1 ?_;exact((jjl l).map Quo.k).mem_iff.1 hm
theorem jtf:∀{l m:List Quo},l.Perm m->Asc l->Asc m->l=m
 | [],m,h,_,_=>h.nil_eq
 | a::l,[],h,_,_=>absurd h.length_eq (by simp)
 | a::l,b::m,h,h1,h2=>by
  have a6:=qF.1 h1;have a1:=qF.1 h2;have ha:a∈b::m:=h.mem_iff.1 zU;have hb:b∈a::l:=h.mem_iff.2 zU;have e:a=b:=by
   rcases zL.1 ha with e | ha
   ·exact e
   ·rcases zL.1 hb with e | hb
    ·exact e.symm
    ·have:=cmpL_trans (a6.1 b hb) (a1.1 a ha);rw[cmpL_refl]at this;exact absurd this (by decide)
  subst e;rw[jtf ((List.perm_cons a).1 h) a6.2 a1.2]
def toQ(p:List Int×List Int):Quo:=⟨p.1.getD 2 0,p.1.getD 0 0,p.1.getD 1 0,p.2.headD 0⟩
def quoL(t:Tab):List Quo:=sortQ (t.map toQ)
theorem toQ_k{p:List Int×List Int}(h:p.1.length=3):(toQ p).k=p.1:=by
 obtain⟨k,v⟩:=p
 match k,h with
 | [a,b,c],_=>rfl
theorem toQ_kv{p:List Int×List Int}(h:p.1.length=3)(hv:p.2.length=1):(toQ p).kv=p:=by
 obtain⟨k,v⟩:=p
 match k,v,h,hv with
 | [a,b,c],[d],_,_=>rfl
theorem quoL_keys{t:Tab}(h:Shape 3 t):(t.map toQ).map Quo.k=t.map (·.1):=by
 rw[qN];exact qV fun p hp=>toQ_k (h p hp).1
theorem quoL_asc{t:Tab}(h:Shape 3 t)(hd:Dist t):Asc (quoL t):=jpy (by rw[quoL_keys h];exact hd)
theorem jl9(t:Tab):(quoL t).Perm (t.map toQ):=jjl _
theorem quoL_len(t:Tab):(quoL t).length=t.length:=by rw[(jl9 t).length_eq,za]
theorem quoL_mem{t:Tab}(h:Shape 3 t){q:Quo}:q∈quoL t↔(q.k,[q.kg])∈t:=by
 rw[(jl9 t).mem_iff,z8];constructor
 ·rintro⟨p,hp,rfl⟩;have:=toQ_kv (h p hp).1 (h p hp).2;rw[Quo.kv]at this;rw[this];exact hp
 ·intro hm;exact⟨_,hm,rfl⟩
