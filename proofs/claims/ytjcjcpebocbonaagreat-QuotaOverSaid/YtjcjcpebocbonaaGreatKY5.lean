/- A part of the proof. No further condition. -/
import Derived.Test.YtjcjcpebocbonaaGreatKY4
set_option linter.all false
set_option maxRecDepth 10000000
set_option maxHeartbeats 16000000
namespace Go.Abs
section
open Go.RowKit (Below)
def jkn(P:Program)(f:FuncId):Bool:=
 match P.funcs[f]? with
 | some fn=>fn.name != "runtime.NumGoroutine" &&fn.body.isSome
 | none=>false
structure Ctx.Good(G:Ctx):Prop where
 ok:G.Ok
 fn:∀f,(3<=f/\f<G.fns)->jkn G.P f=true
 mixed:G.P.follows .mixedOrders=true
def St.newRow(st:St)(d s:Nat)(es:List (List IV)):St:=
 ⟨(d,.loc d s 0 0)::(st.fresh d).fr,(d,s,es)::(st.fresh d).rows,(st.fresh d).toks⟩
def St.newArr(st:St)(d e s:Nat)(es:List (List IV)):St:=
 ⟨(d,.gsl d e s es.length)::(st.fresh d).fr,(d,s,es)::(st.fresh d).rows,(st.fresh d).toks⟩
def St.addH(st:St)(b s:Nat)(es:List (List IV))(d:Nat)(av:AV):St:=⟨(d,av)::st.fr,(hp b,s,es)::st.rows,st.toks⟩
def NewH(K:St->Prop)(st:St)(s:Nat)(es:List (List IV))(d:Nat)(av:Nat->AV):Prop:=∀b,look st.rows (hp b)=none->K (st.addH b s es d (av b))
def jcc:AV:= .im (.sc undef)
def jfg(st:St)(x:AV):Option (List (List IV)):=match x.soft with
 | .osl d s i n=>match look st.rows d with
  | some (s',es)=>if s'=s/\i+n<=es.length then some ((es.drop i).take n)else none
  | none=>none
 | x=>jcy x
def jtl(st:St)(e s dst:Nat):AV->Option (Nat×List (List IV))
 | .sx es=>some (dst,es)
 | .vec d e' s' es=>if e'=e/\s'=s/\look st.toks d=some (s,es.length)/\(d=dst\/look st.rows d=none)then some (d,es)else none
 | _=>none
def ji8(st:St)(e s:Nat):AV->Option (Nat×Nat×List (List IV))
 | .im (.ref b e' s' n)=>match look st.rows (hp b)with
  | some (s2,es)=>if e'=e/\s'=s/\s2=s then some (b,n,es)else none
  | none=>none
 | _=>none
def GrowH(K:St->Prop)(st:St)(b s:Nat)(es:List (List IV))(d e n:Nat):Prop:=
 ∀X,look (del st.rows (hp b)) (hp X)=none->K ((jdu st (hp b) X s es).put (some d) (.im (.ref X e s n)))
def isEmp:AV->Bool
 | .sx []=>true
 | .im .emp=>true
 | _=>false
def jmh(G:Ctx)(K:St->Prop)(st:St)(dst:Option Nat)(ts:List TypeId)(args:List Operand):Prop:=
 match dst,ts,args with
 | some d,[t,t'],[s,x]=>
  match(G.ti t).kind with
  | .sl e=>
   match ji8 st e (G.ti e).size (evO st s)with
   | some (b,n,es)=>(match jcy (evO st x)with
    | some xs=>t=t'/\(G.ti t).size≠0/\(G.ti e).size≠0/\(G.ti e).bytes≠0/\(∀c∈xs,c.length=(G.ti e).size)/\n<=es.length/\(n+xs.length)*(G.ti e).bytes<=140737488355328/\
     GrowH K st b (G.ti e).size (es.take n++xs) d e (n+xs.length)
    | none=>False)
   | none=>if G.perm.contains d=true/\isEmp (evO st s)=true then(match jfg st (evO st x)with
    | some xs=>t=t'/\(G.ti t).size≠0/\(G.ti e).size≠0/\(G.ti e).bytes≠0/\(∀c∈xs,c.length=(G.ti e).size)/\xs.length*(G.ti e).bytes<=140737488355328/\xs≠[]/\
     NewH K st (G.ti e).size xs d (fun b=> .im (.ref b e (G.ti e).size xs.length))
    | none=>False)else
   match jtl st e (G.ti e).size d (evO st s),jfg st (evO st x)with
   | some (src,es),some xs=>
    t=t'/\(G.ti t).size≠0/\(G.ti e).size≠0/\(G.ti e).bytes≠0/\(∀c∈es,c.length=(G.ti e).size)/\(∀c∈xs,c.length=(G.ti e).size)/\
    (es.length+xs.length)*(G.ti e).bytes<=140737488355328/\
    K ((tokSt st src d (G.ti e).size (es.length+xs.length)).put (some d) (.vec d e (G.ti e).size (es++xs)))
   | _,_=>False
  | _=>False
 | _,_,_=>False
def CtrV(P:Program)(f:FuncId)(args:List IV)(e:TypeId)(s:Nat)(es:List (List IV)):Prop:=
 ∀(w:World) (M:Nat->Nat->Prop) (vs:List Value),(∀b o,M b o->b<w.heap.size)->RepL w M args vs->
  Calls P f vs.toArray w fun en w'=>∃v,en= .returned v/\Below w.heap.size w w'/\(Rep w' M (.sl es) v/\(∃ad,v= .slice ad es.length es.length)\/
   ∃b cap cur,w.heap.size<=b/\b<w'.heap.size/\Rep w' (fun b' o=>M b' o\/(b'=b/\es.length*s<=o)) (.sl es) v/\v= .slice (some ⟨b,0,none⟩) es.length cap/\w'.heap[b]? =some (.cells cur e (0,0))/\es.length<=cap/\cap<=maxLen/\cur.size=cap*s)
def CtrO(P:Program)(f:FuncId)(args:List IV)(sc:Nat×Bool)(kvs:List (List Int×List Int)):Prop:=
 ∀(w:World) (M:Nat->Nat->Prop) (vs:List Value),(∀b o,M b o->b<w.heap.size)->RepL w M args vs->
  Calls P f vs.toArray w fun en w'=>∃b es c,en= .returned (.map (some b))/\Below w.heap.size w w'/\w.heap.size<=b/\w'.heap[b]? =some (.map es c)/\Ents sc kvs es/\Born es c
def aCallO(G:Ctx)(K:St->Prop)(st:St)(dst:Option Nat)(g:Nat)(xs:List IV):Prop:=
 ∃d sc kvs,dst=some d/\CtrO G.P g xs sc kvs/\K ((tokSt st d d 0 0).put (some d) (.mpo d sc kvs))
def jmg(G:Ctx)(K:St->Prop)(st:St)(dst:Option Nat)(g:Nat)(args:List AV):Prop:=
 ∃L φ,HandsH st L/\CtrH G.P g (args.map AV.toH) L φ/\
  ∀r L',φ r L'->(∀k,(look L' k).isSome->(look L k).isSome\/look st.rows k=none)->
   ∃R',(∀k x,look R' k=some x->look L' k=some x\/(look L k=none/\look st.rows k=some x))/\K ((⟨st.fr,R',st.toks⟩:St).put dst r)
def isHa:AV->Bool
 | .loc d _ _ _=>decide (100000<=d)
 | .osl d _ _ _=>decide (100000<=d)
 | .gsl d _ _ _=>decide (100000<=d)
 | .im (.ref _ _ _ _)=>true
 | .im (.pr _ _ _ _)=>true
 | _=>false
def isFrz(G:Ctx):Option Nat->Bool
 | some d=>G.frz.contains d
 | none=>false
def jkf(G:Ctx)(K:St->Prop)(st:St)(dst:Option Nat)(f:Operand)(args:List Operand):Prop:=
 if(args.any fun x=>isHa (evO st x))=true then(match evO st f with
  | .im (.clo g caps)=>(3<=g/\g<G.fns)/\jmg G K st dst g (args.map (evO st)++caps.map .im)
  | _=>False)else
 match evO st f,ivsOf (args.map (evO (st.lendOs args)))with
 | .im (.clo g caps),some xs=>
  (3<=g/\g<G.fns)/\((∃φ:IV->Prop,Ctr G.P g (xs++caps) φ/\∀r,φ r->K ((if flatB r=true then st else st.lendOs args).put dst (.im r)))\/
   (∃d e s es,dst=some d/\CtrV G.P g (xs++caps) e s es/\(∀c∈es,c.length=s)/\K ((tokSt (st.lendOs args) d d s es.length).put (some d) (.vec d e s es)))\/
   (aCallO G K (st.lendOs args) dst g (xs++caps)\/jmg G K st dst g (args.map (evO st)++caps.map .im)))
 | _,_=>False
def aCall(G:Ctx)(K:St->Prop)(st:St)(dst:Option Nat)(f:Operand)(args:List Operand):Prop:=
 if isFrz G dst=true then jkf G K (st.frzOs args) dst f args else jkf G K st dst f args
def ivE(G:Ctx):AV->Option IV
 | .im x=>some x
 | .sx es=>if(isFrz G (some 999999)&&es.isEmpty)=true then some .emp else some (.sl es)
 | .vec _ _ _ es=>some (.sl es)
 | _=>none
theorem ivE_rep{G:Ctx}{w M β toks av v x}(h:RepA w M β toks av v)(hx:ivE G av=some x):Rep w M x v:=by
 cases av with
 | sx es=>
  simp only[ivE]at hx;split at hx
  ·rename_i hc;have he:es=[]:=List.isEmpty_iff.1 (Bool.and_eq_true_iff.1 hc).2;subst he;cases hx;obtain⟨_,a,rfl⟩:=h;exact Rep.emp a
  ·exact jfl h hx
 | im _=>exact jfl h hx
 | vec _ _ _ _=>exact jfl h hx
 | _=>cases hx
def jnm(G:Ctx)(K:St->Prop)(st:St)(dst:Option Nat)(t:TypeId)(p x:Operand):Prop:=
 match ivE G (evO st x),(evO st p).dp with
 | some y,.loc d s i j=>match look st.rows d with
  | some (s',es)=>match es[i]? with
   | some c=>s'=s/\(G.ti t).size≠0/\(cellsOf y).length=(G.ti t).size/\(cellsOf y).all IV.one=true/\j+(G.ti t).size<=c.length/\
     K (St.put {st with rows:=setRow st.rows d s (es.set i (jbn c j (cellsOf y)))} dst jcc)
   | none=>False
  | none=>False
 | _,_=>False
def aMake(G:Ctx)(K:St->Prop)(st:St)(dst:Option Nat)(t:TypeId)(l c:AV):Prop:=
 match dst,l,c with
 | some d,.im (.sc (.int _ n)),.im (.sc (.int _ m))=>match(G.ti t).kind with
  | .sl e=>match jd1 G e with
   | some z=>(G.ti t).size≠0/\n=m/\0<=n/\n*(G.ti e).bytes<=140737488355328/\(G.ti e).bytes≠0/\
     (if G.perm.contains d=true then NewH K st (G.ti e).size (List.replicate n.toNat z) d (fun b=> .im (.ref b e (G.ti e).size (List.replicate n.toNat z).length))else K (st.newArr d e (G.ti e).size (List.replicate n.toNat z)))
   | none=>False
  | _=>False
 | _,_,_=>False
def aVal(G:Ctx)(K:St->Prop)(st:St)(o:Oper):Prop:=
 match yv G st o with
 | some av=>K (st.put o.dst av)
 | none=>False
def isSl:TK->Bool
 | .sl _=>true
 | _=>false
def jsx:AV->Bool
 | .im (.ref _ _ _ _)=>true
 | .gsl _ _ _ _=>true
 | _=>false
def aNil(G:Ctx)(K:St->Prop)(st:St)(dst:Option Nat)(op:BinOp)(t:TypeId)(x:Operand):Prop:=
 if jsx (evO st x)=true then(match op with
  | .eql=>(G.ti t).size≠0/\isSl (G.ti t).kind=true/\K (st.put dst (.im (.sc (.bool false))))
  | .neq=>(G.ti t).size≠0/\isSl (G.ti t).kind=true/\K (st.put dst (.im (.sc (.bool true))))
  | _=>False)
 else match jcy (evO st x),op with
 | some es,.eql=>(G.ti t).size≠0/\isSl (G.ti t).kind=true/\∀b:Bool,(b=true->es=[])->K (st.put dst (.im (.sc (.bool b))))
 | some es,.neq=>(G.ti t).size≠0/\isSl (G.ti t).kind=true/\∀b:Bool,(b=true->es=[])->K (st.put dst (.im (.sc (.bool !b))))
 | _,_=>False
def aBin(G:Ctx)(K:St->Prop)(st:St)(o:Oper)(op:BinOp)(t:TypeId)(x y:Operand):Prop:=
 match y with
 | .const (.slice none 0 0)=>aNil G K st o.dst op t x
 | _=>aVal G K st o
def aop(G:Ctx)(o:Oper)(K:St->Prop)(st:St):Prop:=
 match o.op with
 | .box _ x=>match o.dst,ivOf (evO (st.lendO x) x)with
  | some d,some y=>(cellsOf y).all IV.one=true/\
   (if G.perm.contains d=true then NewH K (st.lendO x) (cellsOf y).length [cellsOf y] d (fun b=> .loc (hp b) (cellsOf y).length 0 0)else K ((st.lendO x).newRow d (cellsOf y).length [cellsOf y]))
  | _,_=>False
 | .alloc t=>match o.dst,jd1 G t with
  | some d,some z=>if G.perm.contains d=true then NewH K st z.length [z] d (fun b=> .loc (hp b) z.length 0 0)else K (st.newRow d z.length [z])
  | _,_=>False
 | .store t p x=>jnm G K (st.lendO x) o.dst t p x
 | .makeSlice t l c=>aMake G K st o.dst t (evO st l) (evO st c)
 | .makeFunc _ _ caps=>aVal G K (st.lendOs caps.toList) o
 | .binOp op t x y _=>aBin G K st o op t x y
 | .call c=>match c.callee with
  | .value f=>aCall G K st o.dst f c.args.toList
  | .builtin b=>match b with
   | .append=>jmh G K st o.dst c.argTypes.toList c.args.toList
   | .copy=>aCopy G K st o.dst c.argTypes.toList c.args.toList
   | _=>aVal G K st o
  | _=>False
 | .makeMap t none=>jkq G K st o.dst t
 | .mapUpdate t m k x=>jqu G K st o.dst t (evO st m) (evO st k) (evO st x)
 | _=>aVal G K st o
section
variable{G:Ctx}{N:Nat}{w0:Base}{w w':World}{M M' M0:Nat->Nat->Prop}{β β':Nat->Option Nat}{st:St}{a:Act}{toks toks':List (Nat×Nat×Nat)}{av:AV}{v:Value}
theorem Sim.newRowPut(h:Sim N w0 M0 β st a w){d s:Nat}{es:List (List IV)}{cells:Array Value}{T:TypeId}(hd:d<N)(a1:∀e∈es,e.length=s)
  (hr:∀(i:Nat) e (j:Nat) x,es[i]? =some e->e[j]? =some x->x.one=true/\∃u,cells[i*s+j]? =some u/\Rep w (Mo M0 β st) x u):
  Sim N w0 M0 (upd β d (some w.heap.size)) (st.newRow d s es) (a.put (some d) (.pointer (some ⟨w.heap.size,0,none⟩))) (w.alloc (.cells cells T)):=by
 have h1:=(h.fresh d).newRow (T:=T) hd (jgo st d) a1 (fun i e j x hi hj=>by
  obtain⟨h1,u,h2,h3⟩:=hr i e j x hi hj;exact⟨h1,u,h2,h3.less fun b o hm=>jkr hm⟩)
 exact h1.put (dst:=some d) (av:= .loc d s 0 0) (fun d' e=>by cases e;exact hd) ⟨w.heap.size,jau _ _ _,by simp⟩
theorem Sim.newArrPut(h:Sim N w0 M0 β st a w){d s:Nat}{es:List (List IV)}{cells:Array Value}{T:TypeId}(hd:d<N)(a7:∀e∈es,e.length=s)(a1:cells.size=es.length*s)(a6:es.length<=maxLen)
  (hr:∀(i:Nat) e (j:Nat) x,es[i]? =some e->e[j]? =some x->x.one=true/\∃u,cells[i*s+j]? =some u/\Rep w (Mo M0 β st) x u):
  Sim N w0 M0 (upd β d (some w.heap.size)) (st.newArr d T s es) (a.put (some d) (.slice (some ⟨w.heap.size,0,none⟩) es.length es.length)) (w.alloc (.cells cells T)):=by
 have h1:=(h.fresh d).newRow (T:=T) hd (jgo st d) a7 (fun i e j x hi hj=>by
  obtain⟨h1,u,h2,h3⟩:=hr i e j x hi hj;exact⟨h1,u,h2,h3.less fun b o hm=>jkr hm⟩)
 exact h1.put (dst:=some d) (av:= .gsl d T s es.length) (fun d' e=>by cases e;exact hd) ⟨w.heap.size,es.length,cells,jau _ _ _,rfl,heap_alloc_new w _,zu _,a6,a1⟩
theorem Sim.newRowHPut(h:Sim N w0 M0 β st a w){d s:Nat}{es:List (List IV)}{cells:Array Value}{T:TypeId}(hd:d<N)(a1:∀e∈es,e.length=s)
  (hr:∀(i:Nat) e (j:Nat) x,es[i]? =some e->e[j]? =some x->x.one=true/\∃u,cells[i*s+j]? =some u/\Rep w (Mo M0 β st) x u):
  Sim N w0 M0 β (st.addH w.heap.size s es d (.loc (hp w.heap.size) s 0 0)) (a.put (some d) (.pointer (some ⟨w.heap.size,0,none⟩))) (w.alloc (.cells cells T)):=by
 have h1:=h.newRowH (T:=T) a1 hr;exact h1.put (dst:=some d) (av:= .loc (hp w.heap.size) s 0 0) (fun d' e=>by cases e;exact hd) ⟨w.heap.size,h.perm _,by simp⟩
theorem Sim.newArrHPut(h:Sim N w0 M0 β st a w){d s n cap:Nat}{es:List (List IV)}{cells:Array Value}{T:TypeId}(hd:d<N)(a8:∀e∈es,e.length=s)(a1:cells.size=cap*s)(a6:n<=cap)(a7:cap<=maxLen)
  (hr:∀(i:Nat) e (j:Nat) x,es[i]? =some e->e[j]? =some x->x.one=true/\∃u,cells[i*s+j]? =some u/\Rep w (Mo M0 β st) x u):
  Sim N w0 M0 β (st.addH w.heap.size s es d (.im (.ref w.heap.size T s n))) (a.put (some d) (.slice (some ⟨w.heap.size,0,none⟩) n cap)) (w.alloc (.cells cells T)):=by
 have h1:=h.newRowH (T:=T) a8 hr;exact h1.put (dst:=some d) (av:= .im (.ref w.heap.size T s n)) (fun d' e=>by cases e;exact hd) (Rep.ref _ T s n cap cells (heap_alloc_new w _) a6 a7 a1)
theorem appendO_run(hG:G.Ok)(h:Sim N w0 M0 β st a w){t e ty:TypeId}{xv:Value}{xs:List (List IV)}{d:Nat}{ad:Option Addr}(hd:d<N)
  (h0:(G.ti t).size≠0) (hk:(G.ti t).kind= .sl e) (h1:(G.ti e).size≠0) (e4:(G.ti e).bytes≠0) (b5:∀c∈xs,c.length=(G.ti e).size) (hbound:xs.length*(G.ti e).bytes<=140737488355328)
  (b7:xs≠[]) (hx:∃ad c g,xv= .slice ad xs.length c/\(xs≠[]->∃b o,ad=some ⟨b,o,none⟩/\jjy w (Mo M0 β st) ⟨b,o,none⟩ xs.flatten g)):
  ∃v' w',(Builtin.append_ #[t,t] ty #[.slice ad 0 0,xv]).run G.P w= .ok v' w'/\Sim N w0 M0 β (st.addH w.heap.size (G.ti e).size xs d (.im (.ref w.heap.size e (G.ti e).size xs.length))) (a.put (some d) v') w':=by
 have hu:=hG.sl h0 hk;obtain⟨i,z,hi,c5,c0,hz,_,c3⟩:=hG.info h1;obtain⟨e6,xc,gx,rfl,c4⟩:=hx;obtain⟨xb,xo,rfl,a6⟩:=c4 b7;generalize hS:(G.ti e).size=S at*;have b1:xs.flatten.length=xs.length*S:=jd0 b5;have b4:0<xs.length:=qG.2 b7;have e5:xs.length<=140737488355328:=qI (jh _ (jO e4)) hbound;have a8:∀j u,((List.range xs.flatten.length).map gx)[j]? =some u->w.cell? ((⟨xb,xo,none⟩:Addr).add j)=some u:=jf5 a6;have b6:((List.range xs.flatten.length).map gx).length=xs.length*i.size:=by simp[b1,c5]
 have b8:xs.length<=maxLen:=by unfold maxLen;omega
 have a7:∃cells:Array Value,∃cap,(Builtin.append_ #[t,t] ty #[.slice ad 0 0,.slice (some ⟨xb,xo,none⟩) xs.length xc]).run G.P w= .ok (.slice (some ⟨w.heap.size,0,none⟩) xs.length cap) (w.drew.alloc (.cells cells e))/\
   xs.length<=cap/\cap<=maxLen/\cells.size=cap*S/\∀k,k<xs.length*S->cells[k]? =some (gx k):=by
  have b0:=grownCap_ge w xs.length 0 e;have b3:=grownCap_le_maxLen w xs.length 0 e b8;have a1:∀c:Array Value,c=((List.range xs.flatten.length).map gx).toArray++Builtin.zeroCells z.cells (grownCap w xs.length 0 e-xs.length)->c.size=grownCap w xs.length 0 e*S/\∀k,k<xs.length*S->c[k]? =some (gx k):=by
   rintro c rfl;refine⟨?_,fun k c7=> ?_⟩
   ·simp only[jd,qP,zw,q9,b1,size_zeroCells,c3];rw[<-qE];congr 1;omega
   ·rw[yl (by simp[b1];omega)];simp[b1,c7]
  cases ad with
  | none=>
   have hr:=run_append_nil (P:=G.P) w t ty e i z hu hi hz ⟨xb,xo,none⟩ xs.length xc _ b6 a8 b4 (by omega) (by rw[c0];omega);exact⟨_,_,hr,b0,b3,(a1 _ rfl).1,(a1 _ rfl).2⟩
  | some ad=>
   have hr:=run_append_grow (P:=G.P) w t ty e i z hu hi hz ad 0 0 [] (by simp) (by simp) ⟨xb,xo,none⟩ xs.length xc _ b6 a8 (by omega) (by omega) (growslice_fits (by omega) (by rw[c0,qi];exact hbound));simp only[qi]at hr;have c6:(Builtin.append_ #[t,t] ty #[.slice (some ad) 0 0,.slice (some ⟨xb,xo,none⟩) xs.length xc]).run G.P w= .ok (.slice (some ⟨w.heap.size,0,none⟩) xs.length (grownCap w xs.length 0 e)) (w.drew.alloc (.cells (((List.range xs.flatten.length).map gx).toArray++Builtin.zeroCells z.cells (grownCap w xs.length 0 e-xs.length)) e)):=by
    rw[hr];simp
   exact⟨_,_,c6,b0,b3,(a1 _ rfl).1,(a1 _ rfl).2⟩
 obtain⟨cells,cap,a7,e3,e2,e1,e0⟩:=a7;have c9:=h.ext (w':=w.drew) ⟨rfl,rfl,rfl,zu _,fun _ _=>rfl⟩;have b2:∀(i':Nat) c (j:Nat) x,xs[i']? =some c->c[j]? =some x->x.one=true/\∃u,cells[i'*S+j]? =some u/\Rep w.drew (Mo M0 β st) x u:=fun i' c j x c8 hj=>by
  have b9:=jdj b5 c8 hj;obtain⟨g1,_,g2⟩:=a6 _ x b9;have e7:=(zr.1 b9).1;exact⟨g1,_,e0 _ (by omega),g2.kept (Below.kept (M:=Mo M0 β st) (w':=w.drew) ⟨rfl,rfl,rfl,zu _,fun _ _=>rfl⟩)⟩
 exact⟨_,_,a7,c9.newArrHPut hd b5 e1 e3 e2 b2⟩
theorem one_row{w:World}{M}{y:IV}{yv:Value}(hy:Rep w M y yv)(ho:(cellsOf y).all IV.one=true):
  ∀(i:Nat) e (j:Nat) x,[cellsOf y][i]? =some e->e[j]? =some x->x.one=true/\∃u,yv.cells[i*(cellsOf y).length+j]? =some u/\Rep w M x u:=by
 intro i e j x hi hj;obtain⟨hr,_⟩:=jib hy ho;cases i with
 | succ i=>simp at hi
 | zero=>
  simp at hi;subst hi;have a1:j<yv.cells.toList.length:=by rw[<-hr.1];exact(zr.1 hj).1
  have hu:=za a1;refine⟨List.all_eq_true.1 ho x (zk hj),_,?_,hr.2 j x _ hj hu⟩;rw[vZ,qi,<-zS];exact hu
theorem jfp{P:Program}{f:FuncId}(hf:jkn P f=true)(args:Array Value)(w:World):(callFunc f args).run P w= .ok (.enter f args) w:=by
 unfold jkn at hf;split at hf
 ·rename_i fn a1;simp only[zn,qh,ne_eq,zD]at hf;obtain⟨hn,c,hc⟩:=hf;simp[callFunc,a1,hn,hc]
 ·cases hf
theorem osl_cells(h:Sim N w0 M0 β st a w){d s i n:Nat}{es:List (List IV)}(hs:s≠0)(hd:look st.rows d=some (s,es))(b6:i+n<=es.length)(hv:RepA w (Mo M0 β st) β st.toks (.osl d s i n) v):
  ∃ad c g,v= .slice ad ((es.drop i).take n).length c/\((es.drop i).take n≠[]->∃b o,ad=some ⟨b,o,none⟩/\jjy w (Mo M0 β st) ⟨b,o,none⟩ ((es.drop i).take n).flatten g):=by
 obtain⟨ad,c,hc,rfl,b4⟩:=hv;have hlen:((es.drop i).take n).length=n:=by simp;omega
 obtain⟨b',b0,_,cur,T,a8,b1,a1⟩:=h.rows d s es hd;refine⟨ad,c,fun k=>cur.getD (i*s+k) undef,by rw[hlen],fun b2=> ?_⟩;have b3:n≠0:=fun e=>b2 (by subst e;simp);obtain⟨b,hb,rfl⟩:=b4 b3;rw[hb]at b0;cases b0;refine⟨_,i*s,rfl,fun k x hk=> ?_⟩;have a6:∀e∈(es.drop i).take n,e.length=s:=fun e he=>b1 e (yq (yz he));obtain⟨e,h1,h2⟩:=je3 hs a6 hk;have b5:es[i+k/s]? =some e:=by
  rw[qy]at h1;split at h1
  ·rwa [qQ]at h1
  ·cases h1
 obtain⟨ho,u,hu,hr⟩:=a1 _ e _ x b5 h2;have a7:(i+k/s)*s+k % s=i*s+k:=by rw[qE];have:=jL k s;rw[jx]at this;omega
 rw[a7]at hu;have hg:cur.getD (i*s+k) undef=u:=by simp[hu]
 refine⟨ho,?_,by show Rep w _ x (cur.getD (i*s+k) undef);rw[hg];exact hr⟩;show _=some (cur.getD (i*s+k) undef);rw[hg,Addr.add_lit,cell_of_row w _ _ cur T _ a8,hu]
theorem jj0(h:Sim N w0 M0 β st a w){x:AV}{xs:List (List IV)}{s:Nat}(hs:s≠0)(hx:jfg st x=some xs)(hl:∀c∈xs,c.length=s)(hv:RepA w (Mo M0 β st) β st.toks x v)(a1:∀d s' i n,x.soft= .osl d s' i n->s'=s\/xs=[]):
  ∃ad c g,v= .slice ad xs.length c/\(xs≠[]->∃b o,ad=some ⟨b,o,none⟩/\jjy w (Mo M0 β st) ⟨b,o,none⟩ xs.flatten g):=by
 unfold jfg at hx;replace hv:=hv.soft h.perm;generalize x.soft=x at hx hv a1;split at hx
 ·rename_i d s' i n;split at hx
  ·rename_i s2 es hd;split at hx
   ·rename_i hc;obtain⟨rfl,a7⟩:=hc;cases hx;rcases a1 d s2 i n rfl with e | e
    ·subst e;exact osl_cells h hs hd a7 hv
    ·obtain⟨ad,c,hc,rfl,a8⟩:=hv;have hlen:((es.drop i).take n).length=n:=by simp;omega
     exact⟨ad,c,fun _=>undef,by rw[hlen],fun a6=>absurd e a6⟩
   ·cases hx
  ·cases hx
 ·obtain⟨ad,c,g,h1,_,h3⟩:=jij hs (jcw hv hx) hl;exact⟨ad,c,g,h1,h3⟩
theorem elemsOf_of{st:St}{av:AV}{xs:List (List IV)}(h:jcy av=some xs):jfg st av=some xs:=by
 unfold jfg;cases av with
 | im x=>cases x<;>first | exact h | (cases h;done)
 | _=>first | exact h | (cases h;done)
theorem jnf(h:Sim N w0 M0 β st a w){x:AV}{xs:List (List IV)}{s:Nat}(a1:jfg st x=some xs)(b2:∀c∈xs,c.length=s):∀d' s' i n,x.soft= .osl d' s' i n->s'=s\/xs=[]:=by
 intro d' s' i n hx;unfold jfg at a1;rw[hx]at a1;dsimp only at a1;split at a1
 ·rename_i s2 b1 a7;split at a1
  ·rename_i b3;obtain⟨rfl,b4⟩:=b3;cases a1;by_cases a6:(b1.drop i).take n=[]
   ·exact .inr a6
   ·left;obtain⟨c0,a8⟩:=List.exists_mem_of_ne_nil _ a6;obtain⟨_,_,_,_,_,_,b0,_⟩:=h.rows d' s2 b1 a7;rw[<-b2 c0 a8,b0 c0 (yq (yz a8))]
  ·cases a1
 ·cases a1
theorem jhw(hG:G.Good)(h:Sim N w0 M0 β st a w){o:Oper}{K:St->Prop}(hd:∀d,o.dst=some d->d<N)(hA:aVal G K st o){K':Act->World->Prop}{Q':Exit->Act->World->Prop}
  (hK:∀st' β' a' w',K st'->Sim N w0 M0 β' st' a' w'->K' a' w'):o.wp G.P a w K' Q':=by
 unfold aVal at hA;split at hA
 ·rename_i av hy;obtain⟨v,w',hr,hb,hv⟩:=yv_run hG.ok h hy;unfold Oper.wp;rw[hr];exact hK _ β _ _ hA ((h.ext hb).put hd hv)
 ·exact hA.elim
theorem jhd(hG:G.Good)(h:Sim N w0 M0 β st a w){o:Oper}{c:Call}{f:Operand}{K:St->Prop}(ho:o.op= .call c)(hc:c.callee= .value f)(hd:∀d,o.dst=some d->d<N){g:FuncId}{caps:List IV}(hf:evO st f= .im (.clo g caps))(hg:3<=g/\g<G.fns)
  (hA:jmg G K st o.dst g (c.args.toList.map (evO st)++caps.map .im)) {K':Act->World->Prop} {Q':Exit->Act->World->Prop} (hK:∀st' β' a' w',K st'->Sim N w0 M0 β' st' a' w'->K' a' w'):o.wp G.P a w K' Q':=by
 obtain⟨L,φ,H,b2,b5⟩:=hA;have b1:=jb7 h f;rw[hf]at b1;obtain⟨vs,b4,a6⟩:=Rep.clo_inv b1;have b0:(execOp a.eval o).run G.P w= .ok (.enter g (c.args.map a.eval++vs)) w:=by
  unfold execOp;rw[ho];simp only[resolve,hc,b4,Deferred.ofValue,Sem.run_bind,Sem.run_pure,Result.andThen_ok,vc,invoke,jfp (hG.fn g hg)]
 obtain⟨p1,p2⟩:=h.handH H;have a1:=b2 w _ ((c.args.map a.eval)++vs).toList p1 p2 (by
  have h2:=a6.1;simp at h2;simp[h2]) (fun i av v hi hv=>by
  rw[qx,qN,qN]at hi;rw[yU,vo]at hv;by_cases hk:i<c.args.toList.length
  ·rw[zK (by simpa using hk),zq]at hi;rw[zK (by simpa using hk),zq]at hv;obtain⟨x,hx,h2⟩:=qq.1 hi;rw[hx]at hv;simp only[Option.map_some,qa]at hv;subst hv;rw[<-h2];exact RepA.handH h H (jb7 h x)
  ·rw[zP (by simpa using hk),zq]at hi;rw[zP (by simpa using hk)]at hv;obtain⟨x,hx,h2⟩:=qq.1 hi;simp only[zw]at hx hv;rw[<-h2];exact RepA.handH h H (av:= .im x) (a6.2 _ x v hx hv))
 unfold Oper.wp;rw[b0,Oper.upon_enter];rw[Array.toArray_toList]at a1;refine a1.mono fun en w' ⟨r,v,L',h1,h2,h3,h4,h5,h6⟩=> ?_;subst h2;obtain⟨R',hR,b3⟩:=b5 r L' h1 (fun k hk=>by
  obtain⟨⟨s,es⟩,hl⟩:=zD.1 hk;obtain⟨b,rfl,h7,_⟩:=h5 k s es hl;exact h7.imp id fun h7=>(h.none_at h7).1)
 obtain⟨a8,a7⟩:=h.afterH H h4 h5 hR;exact hK _ _ _ _ b3 (a8.put hd (h6.backH h.perm h3 a7))
theorem Sim.newOut(hl:Sim N w0 M0 β st a w)(hb:Below w.heap.size w w'){d s n:Nat}{X:Option Nat}(hd:d<100000)(hX:∀b,X=some b->w.heap.size<=b/\b<w'.heap.size):Sim N w0 M0 (upd β d X) (tokSt st d d s n) a w':=by
 refine hl.newTok (w':=w') (src:=d) (dst:=d) (s:=s) (n:=n) (X:=X) ?_ (hl.below.step hb) (Shp.of hb) hb.size ?_ ?_ (.inl rfl) hd
 ·suffices hsuf:∀b o,b<w.heap.size->¬Mo M0 β st b o->¬Mo M0 (upd β d X) (tokSt st d d s n) b o from
   ⟨fun b o u hc hm=>have a6:=World.block_lt_of_cell? (a:=⟨b,o,none⟩) w hc;⟨by rw[<-hc];exact hb.cell a6,hsuf b o a6 hm⟩,
    fun b b2 c2 hc hm=>have a6:=(zm.1 hc).1;⟨by rw[hb.block b a6];exact hc,hsuf b 0 a6 hm⟩,Shp.of hb⟩
  intro b o a6 hm;rintro(hm' | ⟨d',s',es',hd',a1⟩ | ⟨d',s',n',hd',a1,ho'⟩)
  ·exact hm (.inl hm')
  ·have a7:d'≠d:=fun e=>by subst e;simp[tokSt,jab]at hd'
   rw[jav _ _ a7]at a1;simp only[tokSt,jaa _ a7]at hd';exact hm (.inr (.inl ⟨d',s',es',hd',a1⟩))
  ·by_cases a7:d'=d
   ·subst a7;rw[jau]at a1;have:=(hX b a1).1;omega
   ·rw[jav _ _ a7]at a1;exact hm (.inr (.inr ⟨d',s',n',(jce a7 hd').2,a1,ho'⟩))
 ·intro k b hk b0;have a6:b<w.heap.size:=by
   rcases b0 with h1 | ⟨h1,_⟩
   ·obtain⟨⟨s',es'⟩,hx⟩:=zD.1 h1;obtain⟨b',a1,_,cur,T,a8,_⟩:=hl.rows k s' es' hx;rw[hk]at a1;cases a1;exact(zm.1 a8).1
   ·obtain⟨⟨s',n'⟩,hx⟩:=zD.1 h1;exact(hl.toks k s' n' hx b hk).2
  exact hb.block b a6
 ·intro b b1;obtain⟨h1,h2⟩:=hX b b1;refine⟨fun hp=>absurd (qv (w0.lt _ hp) hl.below.size) (by omega),h2,fun k _ _ b0 hk=> ?_⟩;rcases b0 with h3 | h3
  ·obtain⟨⟨s',es'⟩,hx⟩:=zD.1 h3;obtain⟨b',a1,_,cur,T,a8,_⟩:=hl.rows k s' es' hx;rw[hk]at a1;cases a1;have:=(zm.1 a8).1;omega
  ·obtain⟨⟨s',n'⟩,hx⟩:=zD.1 h3;have:=(hl.toks k s' n' hx b hk).2;omega
theorem jke(hG:G.Good)(h:Sim N w0 M0 β st a w){o:Oper}{c:Call}{f:Operand}{K:St->Prop}(ho:o.op= .call c)(hc:c.callee= .value f)(hd:∀d,o.dst=some d->d<N)
  (hA:jkf G K st o.dst f c.args.toList) {K':Act->World->Prop} {Q':Exit->Act->World->Prop} (hK:∀st' β' a' w',K st'->Sim N w0 M0 β' st' a' w'->K' a' w'):o.wp G.P a w K' Q':=by
 unfold jkf at hA;split at hA
 ·split at hA
  ·rename_i g caps hf;exact jhd hG h ho hc hd hf hA.1 hA.2 hK
  ·exact hA.elim
 split at hA
 ·rename_i g caps xs hf c0;obtain⟨hg,hA⟩:=hA;have hl:=h.lendOs c.args.toList;have a8:=jh5 hl c0;have b9:=jb7 h f;rw[hf]at b9;obtain⟨vs,c4,b6⟩:=Rep.clo_inv b9;have c3:∀b o,Mo M0 β (st.lendOs c.args.toList) b o->Mo M0 β st b o:=by
   have:∀(xs:List Operand) (s:St),∀b o,Mo M0 β (s.lendOs xs) b o->Mo M0 β s b o:=by
    intro xs
    induction xs with
    | nil=>intro s b o hm;exact hm
    | cons x xs ih=>
     intro s b o hm;have h1:=ih (s.lendO x) b o hm;unfold St.lendO at h1;split at h1
     ·unfold St.lend at h1;split at h1
      ·exact jqy h1
      ·exact h1
     ·unfold St.lend at h1;split at h1
      ·exact jqy h1
      ·exact h1
     ·unfold St.lend at h1;split at h1
      ·exact jqy h1
      ·exact h1
     ·unfold St.lendM at h1;split at h1
      ·exact Mo_delT h1
      ·exact h1
     ·exact h1
   exact this _ _
  have b0:RepL w (Mo M0 β (st.lendOs c.args.toList)) caps vs.toList:=b6.kept (Kept.less w c3);have b4:RepL w (Mo M0 β (st.lendOs c.args.toList)) (xs++caps) ((c.args.map a.eval)++vs).toList:=by
   refine⟨?_,fun k x v hx hv=> ?_⟩
   ·have h1:=a8.1;have h2:=b0.1;simp at h1 h2;simp[h1,h2]
   ·rw[yU,vo]at hv;have h1:=a8.1;by_cases hk:k<xs.length
    ·rw[zK hk]at hx;rw[zK (by omega)]at hv;exact a8.2 k x v hx hv
    ·rw[zP (by omega)]at hx;rw[zP (by omega),<-h1]at hv;exact b0.2 _ x v hx hv
  have b3:(execOp a.eval o).run G.P w= .ok (.enter g (c.args.map a.eval++vs)) w:=by
   unfold execOp;rw[ho];simp only[resolve,hc,c4,Deferred.ofValue,Sem.run_bind,Sem.run_pure,Result.andThen_ok,vc,invoke,jfp (hG.fn g hg)]
  rcases hA with ⟨φ,a7,hKφ⟩ | ⟨d,e,s,es,a6,a7,hes,hKv⟩ | hAO | hAH
  case inr.inr.inr=>exact jhd hG h ho hc hd hf hg hAH hK
  case inr.inr.inl=>
   obtain⟨d,sc,kvs,a6,a7,c8⟩:=hAO;have a1:=a7 w (Mo M0 β (st.lendOs c.args.toList)) _ (fun b o hm=>hl.mlt hm) b4;unfold Oper.wp;rw[b3,Oper.upon_enter];rw[Array.toArray_toList]at a1;refine a1.mono fun en w' ⟨b,es,cl,he,hb,c7,hh,c5,c6⟩=> ?_;subst he;have b2:=hl.newOut (s:=0) (n:=0) (X:=some b) hb (qv (hd d a6) hl.np) (fun b' e=>by cases e;exact⟨c7,(zm.1 hh).1⟩);rw[a6];exact hK _ _ _ _ c8 (b2.put (fun d' e'=>by cases e';exact hd d a6) ⟨b,jau _ _ _,rfl,fun _=>⟨es,cl,hh,c5,c6⟩⟩)
  ·have a1:=a7 w (Mo M0 β (st.lendOs c.args.toList)) _ (fun b o hm=>hl.mlt hm) b4;unfold Oper.wp;rw[b3,Oper.upon_enter];rw[Array.toArray_toList]at a1;refine a1.mono fun e w' ⟨r,v,hr,he,hv,hb⟩=> ?_;subst he;have:=hKφ r hr;by_cases b5:flatB r=true
   ·rw[ze b5]at this;exact hK _ β _ _ this ((h.ext hb).put hd (Rep.flat hv (flatB_flat b5)))
   ·rw[zl b5]at this;exact hK _ β _ _ this ((hl.ext hb).put hd hv)
  ·have a1:=a7 w (Mo M0 β (st.lendOs c.args.toList)) _ (fun b o hm=>hl.mlt hm) b4;unfold Oper.wp;rw[b3,Oper.upon_enter];rw[Array.toArray_toList]at a1;refine a1.mono fun en w' ⟨v,he,hb,hv⟩=> ?_;subst he;have key:∃X:Option Nat,(∀b,X=some b->w.heap.size<=b/\b<w'.heap.size)/\RepA w' (Mo M0 (upd β d X) (tokSt (st.lendOs c.args.toList) d d s es.length)) (upd β d X) ((d,s,es.length)::del (del (st.lendOs c.args.toList).toks d) d) (.vec d e s es) v:=by
    have b8:∀X b o,Mo M0 (upd β d X) (tokSt (st.lendOs c.args.toList) d d s es.length) b o->Mo M0 β (st.lendOs c.args.toList) b o\/(X=some b/\es.length*s<=o):=by
     rintro X b o (hm | ⟨d',s',es',hd',hb'⟩ | ⟨d',s',n',hd',hb',ho'⟩)
     ·exact .inl (.inl hm)
     ·have b1:d'≠d:=fun e=>by subst e;simp[tokSt,jab]at hd'
      rw[jav _ _ b1]at hb';simp only[tokSt,jaa _ b1]at hd';exact .inl (.inr (.inl ⟨d',s',es',hd',hb'⟩))
     ·by_cases b1:d'=d
      ·subst b1;rw[jau]at hb';simp only[tokSt,ja2,qa,q7]at hd';obtain⟨rfl,rfl⟩:=hd';exact .inr ⟨hb',ho'⟩
      ·rw[jav _ _ b1]at hb';have:=(jce b1 hd').2;exact .inl (.inr (.inr ⟨d',s',n',this,hb',ho'⟩))
    rcases hv with ⟨hr,hc⟩ | ⟨b,cap,cur,h1,h2,h3,h4,h5,h6,h7,h8⟩
    ·refine⟨none,(by simp),hr.less fun b o hm=> ?_,hes,fun _=> .inl hc⟩;rcases b8 none b o hm with hm | ⟨e,_⟩
     ·exact hm
     ·cases e
    ·refine⟨some b,(fun b' e=>by cases e;exact⟨h1,h2⟩),h3.less fun b' o hm=> ?_,hes,fun _=> .inr ⟨b,cap,cur,jau _ _ _,h4,h5,h6,h7,h8⟩⟩;rcases b8 _ b' o hm with hm | ⟨e,ho⟩
     ·exact .inl hm
     ·cases e;exact .inr ⟨rfl,ho⟩
   obtain⟨X,hX,b7⟩:=key;have b2:=hl.newOut (s:=s) (n:=es.length) hb (qv (hd d a6) hl.np) hX;rw[a6];exact hK _ _ _ _ hKv (b2.put (fun d' e'=>by cases e';exact hd d a6) b7)
 ·exact hA.elim
theorem aCall_sound(hG:G.Good)(h:Sim N w0 M0 β st a w){o:Oper}{c:Call}{f:Operand}{K:St->Prop}(ho:o.op= .call c)(hc:c.callee= .value f)(hd:∀d,o.dst=some d->d<N)
  (hA:aCall G K st o.dst f c.args.toList) {K':Act->World->Prop} {Q':Exit->Act->World->Prop} (hK:∀st' β' a' w',K st'->Sim N w0 M0 β' st' a' w'->K' a' w'):o.wp G.P a w K' Q':=by
 unfold aCall at hA;split at hA
 ·exact jke hG (h.frzOs _) ho hc hd hA hK
 ·exact jke hG h ho hc hd hA hK
theorem jep(hG:G.Good)(h:Sim N w0 M0 β st a w){o:Oper}{K:St->Prop}(hd:∀d,o.dst=some d->d<N)(hA:aop G o K st){K':Act->World->Prop}{Q':Exit->Act->World->Prop}
  (hK:∀st' β' a' w',K st'->Sim N w0 M0 β' st' a' w'->K' a' w'):o.wp G.P a w K' Q':=by
 unfold aop at hA;split at hA
 ·
  rename_i t x ho;split at hA
  ·rename_i d y a1 hy;obtain⟨c5,hA⟩:=hA;have hl:=h.lendO x;have hr:=jfl (jb7 hl x) hy;have a8:=one_row hr c5;unfold Oper.wp execOp;rw[ho];simp only[Instr.box,newVar,newRow,Sem.run_bind,run_newObj,Result.andThen_ok,Sem.run_pure,World.alloc_eq,Oper.upon_value,a1];split at hA
   ·exact hK _ _ _ _ (hA _ (hl.none_at (zu _)).1) (hl.newRowHPut (T:=t) (hd d a1) (es:=[cellsOf y]) (fun e he=>by simp at he;rw[he]) a8)
   ·exact hK _ _ _ _ hA (hl.newRowPut (T:=t) (hd d a1) (es:=[cellsOf y]) (fun e he=>by simp at he;rw[he]) a8)
  ·exact hA.elim
 ·
  rename_i t ho;split at hA
  ·rename_i d z a1 hz;obtain⟨zv,c7,b9,e3,_,h6⟩:=jf2 hG.ok hz w (Mo M0 β st);have a8:∀(i:Nat) e (j:Nat) x,[z][i]? =some e->e[j]? =some x->x.one=true/\∃u,zv.cells[i*z.length+j]? =some u/\Rep w (Mo M0 β st) x u:=by
    intro i e j x hi hj;cases i with
    | succ i=>simp at hi
    | zero=>
     simp at hi;subst hi;have e6:j<zv.cells.toList.length:=by rw[<-b9.1];exact(zr.1 hj).1
     have hu:=za e6;refine⟨e3 x (zk hj),_,?_,b9.2 j x _ hj hu⟩;rw[vZ,qi,<-zS];exact hu
   unfold Oper.wp execOp;rw[ho];simp only[Instr.alloc,Sem.run_bind,c7,Result.andThen_ok,newVar,newRow,run_newObj,Sem.run_pure,World.alloc_eq,Oper.upon_value,a1];split at hA
   ·exact hK _ _ _ _ (hA _ (h.none_at (zu _)).1) (h.newRowHPut (T:=t) (hd d a1) (es:=[z]) (fun e he=>by simp at he;rw[he]) a8)
   ·exact hK _ _ _ _ hA (h.newRowPut (T:=t) (hd d a1) (es:=[z]) (fun e he=>by simp at he;rw[he]) a8)
  ·exact hA.elim
 ·
  rename_i t p x ho;unfold jnm at hA;split at hA
  ·rename_i y d s i j hy hp;split at hA
   ·rename_i s' es a8;split at hA
    ·rename_i c hi;obtain⟨rfl,h0,hl,c5,hj,hA⟩:=hA;have c8:=h.lendO x;have hr:=ivE_rep (jb7 c8 x) hy;have h9:=(jb7 c8 p).dp c8.perm;rw[hp]at h9;obtain⟨w',a7,b2⟩:=jpl hG.ok c8 h0 a8 hi hl c5 hj h9 hr;unfold Oper.wp execOp;rw[ho];simp only[Sem.run_bind,a7,Result.andThen_ok,Sem.run_pure,Oper.upon_skip];exact hK _ _ _ _ hA (b2.put hd (Rep.sc _ rfl))
    ·exact hA.elim
   ·exact hA.elim
  ·exact hA.elim
 ·
  rename_i t l c ho;unfold aMake at hA;split at hA
  ·rename_i d k n k' m a1 hl hc;split at hA
   ·rename_i e hk;split at hA
    ·rename_i z hz;obtain⟨h0,rfl,hn,hb,o1,hA⟩:=hA;obtain⟨zv,c7,b9,e3,h1,h6⟩:=jf2 hG.ok hz w (Mo M0 β st);obtain⟨i,z',hi,e4,n1,h7,_⟩:=hG.ok.info h1;have k7:zv=z':=by
      simp[zeroValue,typeInfo,hi,h7]at c7;exact c7.symm
     subst k7;have hu:=hG.ok.sl h0 hk;have k4:=jb7 h l;rw[hl]at k4;have k5:=jb7 h c;rw[hc]at k5;have o0:n<=140737488355328:=by
      have h2:n*1<=n*((G.ti e).bytes:Int):=qz (by omega) hn;omega
     have l1:=run_make (P:=G.P) w t e i zv hu hi h7 k k' n n hn (yy _) (by rw[n1,qX];omega) (by omega);have c0:z.length=(G.ti e).size:=by have:=b9.1;simp at this;omega
     have a8:∀(i':Nat) e' (j:Nat) x,(List.replicate n.toNat z)[i']? =some e'->e'[j]? =some x->x.one=true/\∃u,(madeCells zv.cells (n.toNat*i.size))[i'*(G.ti e).size+j]? =some u/\Rep w (Mo M0 β st) x u:=by
      intro i' e' j x c9 hj;rw[yh]at c9;split at c9
      ·rename_i e6;cases c9;have e7:j<zv.cells.toList.length:=by rw[<-b9.1];exact(zr.1 hj).1
       have hu:=za e7;have l7:j<(G.ti e).size:=by simp at e7;omega
       refine⟨e3 x (zk hj),_,?_,b9.2 j x _ hj hu⟩;have l8:i'*(G.ti e).size+j<n.toNat*(G.ti e).size:=by
        have:(i'+1)*(G.ti e).size<=n.toNat*(G.ti e).size:=qj _ e6;rw[qE]at this;omega
       have k3:(i'*(G.ti e).size+j) % zv.cells.size=j:=by
        rw[h6,jx,wu];exact jD l7
       have l6:j<zv.cells.size:=by simpa using e7
       simp[madeCells,e4,l8,k3,l6]
      ·cases c9
     have this:=h.newArrPut (T:=e) (hd d a1) (es:=List.replicate n.toNat z) (fun e' he=>by rw[vi he];exact c0) (by simp[madeCells,e4]) (by rw[zR];unfold maxLen;omega) a8;have e2:=h.newArrHPut (T:=e) (n:=n.toNat) (cap:=n.toNat) (hd d a1) (es:=List.replicate n.toNat z) (fun e' he=>by rw[vi he];exact c0) (by simp[madeCells,e4]) (zu _) (by unfold maxLen;omega) a8;rw[zR]at this hA;unfold Oper.wp execOp;rw[ho];simp only[Rep.sc_inv k4,Rep.sc_inv k5,Sem.run_bind,l1,Result.andThen_ok,Sem.run_pure,Oper.upon_value,a1];split at hA
     ·exact hK _ _ _ _ (hA _ (h.none_at (zu _)).1) e2
     ·exact hK _ _ _ _ hA this
    ·exact hA.elim
   ·exact hA.elim
  ·exact hA.elim
 ·
  exact jhw hG (h.lendOs _) hd hA hK
 ·
  rename_i op t x y u ho;unfold aBin at hA;split at hA
  ·have keyV:∀ad l c,a.eval x= .slice ad l c->(G.ti t).size≠0->isSl (G.ti t).kind=true->
     (op= .eql->(execOp a.eval o).run G.P w= .ok (.value (.bool ad.isNone)) w)/\(op= .neq->(execOp a.eval o).run G.P w= .ok (.value (.bool !ad.isNone)) w):=by
    intro ad l c hv h0 hk;unfold isSl at hk;split at hk
    ·rename_i e' l5;have hu:=hG.ok.sl h0 l5;have heq:∀d,(Op.equalIn (d+1) t (.slice ad l c) (.slice none 0 0)).run G.P w= .ok ad.isNone w:=by
      intro d;cases ad<;>simp[Op.equalIn,run_underlying hu]
     have e1:(Op.equal t (.slice ad l c) (.slice none 0 0)).run G.P w= .ok ad.isNone w:=heq _;constructor
     ·intro e;subst e;unfold execOp;rw[ho];dsimp only;have:a.eval (.const (.slice none 0 0))= .slice none 0 0:=rfl;rw[this,hv];simp[eqGuard,binOp,e1]
     ·intro e;subst e;unfold execOp;rw[ho];dsimp only;have:a.eval (.const (.slice none 0 0))= .slice none 0 0:=rfl;rw[this,hv];simp[eqGuard,binOp,e1]
    ·cases hk
   have key:∀es,jcy (evO st x)=some es->(G.ti t).size≠0->isSl (G.ti t).kind=true->∃b:Bool,(b=true->es=[])/\
     (op= .eql->(execOp a.eval o).run G.P w= .ok (.value (.bool b)) w)/\(op= .neq->(execOp a.eval o).run G.P w= .ok (.value (.bool !b)) w):=by
    intro es b0 h0 hk;obtain⟨ad,c,hv,_⟩:=(jcw (jb7 h x) b0).sl_len;refine⟨ad.isNone,fun hn=> ?_,keyV _ _ _ hv h0 hk⟩;have hr:=jcw (jb7 h x) b0;rw[hv]at hr;rcases hr.sl_inv with ⟨rfl,_⟩ | ⟨s',b,o',cap,u',k1,n9,n4,h4,h5,he⟩
    ·rfl
    ·simp only[Value.slice.injEq]at he;rw[he.1]at hn;simp at hn
   unfold aNil at hA;split at hA
   ·rename_i hr;obtain⟨ad,l,c,hv⟩:∃ad l c,a.eval x= .slice (some ad) l c:=by
     have hx:=jb7 h x;unfold jsx at hr;split at hr
     ·rename_i hq;rw[hq]at hx;generalize a.eval x=sv at hx;cases hx with
      | ref b e s n cap cur h1 h2 h3 h4=>exact⟨_,_,_,rfl⟩
     ·rename_i hq;rw[hq]at hx;obtain⟨b,cap,cur,h1,h2,_⟩:=hx;exact⟨_,_,_,h2⟩
     ·cases hr
    split at hA
    ·obtain⟨h0,h1,hA⟩:=hA;unfold Oper.wp;rw[(keyV _ _ _ hv h0 h1).1 rfl];exact hK _ β _ _ hA (h.put hd (Rep.sc _ rfl))
    ·obtain⟨h0,h1,hA⟩:=hA;unfold Oper.wp;rw[(keyV _ _ _ hv h0 h1).2 rfl];exact hK _ β _ _ hA (h.put hd (Rep.sc _ rfl))
    ·exact hA.elim
   split at hA
   ·rename_i es b0;obtain⟨h0,h1,hA⟩:=hA;obtain⟨b,hb,a7,_⟩:=key es b0 h0 h1;unfold Oper.wp;rw[a7 rfl];exact hK _ β _ _ (hA b hb) (h.put hd (Rep.sc _ rfl))
   ·rename_i es b0;obtain⟨h0,h1,hA⟩:=hA;obtain⟨b,hb,_,a7⟩:=key es b0 h0 h1;unfold Oper.wp;rw[a7 rfl];exact hK _ β _ _ (hA b hb) (h.put hd (Rep.sc _ rfl))
   ·exact hA.elim
  ·exact jhw hG h hd hA hK
 ·
  rename_i c ho;split at hA
  ·rename_i f hc;exact aCall_sound hG h ho hc hd hA hK
  ·rename_i b hc;split at hA
   ·
    unfold jmh at hA;split at hA
    ·rename_i d t t' s x a1 c3 has;split at hA
     ·rename_i e hk;split at hA
      ·rename_i b n es a6;split at hA
       case h_2=>exact hA.elim
       rename_i xs b6;obtain⟨rfl,h0,h1,c6,b3,hn,hbound,hA⟩:=hA;have b1:=jb7 h s;have b4:=jcw (jb7 h x) b6;have b5:look st.rows (hp b)=some ((G.ti e).size,es)/\Rep w (Mo M0 β st) (.ref b e (G.ti e).size n) (a.eval s):=by
        unfold ji8 at a6;split at a6
        ·rename_i d' e' s' n' b0;split at a6
         ·rename_i s2 o2 a8;split at a6
          ·rename_i e9;obtain⟨rfl,rfl,rfl⟩:=e9;cases a6;rw[b0]at b1;exact⟨a8,b1⟩
          ·cases a6
         ·cases a6
        ·cases a6
       obtain⟨v',w',X,a7,hX,b2,c4⟩:=appendH_run (ty:=o.type) hG.ok h h0 hk h1 c6 b3 b5.1 hn hbound b5.2 b4;have b7:c.argTypes= #[t,t]:=by apply yO;simpa using c3
       have b8:c.args= #[s,x]:=by apply yO;simpa using has
       unfold Oper.wp execOp;rw[ho];simp only[resolve,hc,b7,b8,invoke,builtin,Sem.run_bind,Sem.run_pure,Result.andThen_ok,jF,zt,zE,a7,Oper.upon_value,a1];exact hK _ _ _ _ (hA X hX) (b2.put (fun d' e'=>by cases e';exact hd d a1) c4)
      split at hA
      ·rename_i k0;split at hA
       case h_2=>exact hA.elim
       rename_i xs b6;obtain⟨rfl,h0,h1,c6,b3,hbound,k1,hA⟩:=hA;have b1:=jb7 h s;have b4:=jj0 h h1 b6 b3 (jb7 h x) (jnf h b6 b3);have b0:∃ad,a.eval s= .slice ad 0 0:=by
        obtain⟨_,he⟩:=k0;unfold isEmp at he;split at he
        ·rename_i hq;rw[hq]at b1;exact b1.2
        ·rename_i hq;rw[hq]at b1;generalize a.eval s=sv at b1;cases b1 with
         | emp ad=>exact⟨ad,rfl⟩
        ·cases he
       obtain⟨ad,b0⟩:=b0;obtain⟨v',w',a7,b2⟩:=appendO_run (ty:=o.type) hG.ok h (hd d a1) h0 hk h1 c6 b3 hbound k1 b4 (ad:=ad);have b7:c.argTypes= #[t,t]:=by apply yO;simpa using c3
       have b8:c.args= #[s,x]:=by apply yO;simpa using has
       unfold Oper.wp execOp;rw[ho];simp only[resolve,hc,b7,b8,b0,invoke,builtin,Sem.run_bind,Sem.run_pure,Result.andThen_ok,jF,zt,zE,a7,Oper.upon_value,a1];exact hK _ _ _ _ (hA _ (h.none_at (zu _)).1) b2
      split at hA
      ·rename_i src es xs a6 b6;obtain⟨rfl,h0,h1,c6,hle,b3,hbound,hA⟩:=hA;have b1:=jb7 h s;have b4:=jb7 h x;have b5:Rep w (Mo M0 β st) (.sl es) (a.eval s)/\Spare w β st e src (G.ti e).size es.length (a.eval s)/\(src=d\/look st.rows src=none):=by
        unfold jtl at a6;split at a6
        ·rename_i es' b0;cases a6;rw[b0]at b1;exact⟨b1.1,.inl b1.2,.inl rfl⟩
        ·rename_i d' e' s' es' b0;split at a6
         ·rename_i e9;obtain⟨rfl,rfl,e0,n0⟩:=e9;cases a6;rw[b0]at b1;refine⟨b1.1,?_,n0⟩;rcases b1.2.2 e0 with hh | hh
          ·exact .inl hh
          ·exact .inr ⟨e0,hh⟩
         ·cases a6
        ·cases a6
       have k9:=jj0 h h1 b6 b3 b4 (jnf h b6 b3);obtain⟨v',w',β',a7,b2,c4⟩:=append_run (ty:=o.type) hG.ok h h0 hk h1 c6 hle b3 hbound b5.1 b5.2.1 b5.2.2 (qv (hd d a1) h.np) k9;have b7:c.argTypes= #[t,t]:=by apply yO;simpa using c3
       have b8:c.args= #[s,x]:=by apply yO;simpa using has
       unfold Oper.wp execOp;rw[ho];simp only[resolve,hc,b7,b8,invoke,builtin,Sem.run_bind,Sem.run_pure,Result.andThen_ok,jF,zt,zE,a7,Oper.upon_value,a1];exact hK _ _ _ _ hA (b2.put (fun d' e'=>by cases e';exact hd d a1) c4)
      ·exact hA.elim
     ·exact hA.elim
    ·exact hA.elim
   ·
    unfold aCopy at hA;split at hA
    ·rename_i t t2 x y c3 has;split at hA
     ·rename_i b e s n xs e' hx hy hk;split at hA
      ·rename_i s' es a8;obtain⟨h0,he,l0,rfl,k8,b3,hA⟩:=hA;have b4:=jb7 h x;rw[hx]at b4;have h8:=jb7 h y;rw[hy]at h8;obtain⟨w',a7,b2⟩:=copyH_run (t2:=t2) (ty:=o.type) hG.ok h h0 hk he l0 a8 k8 b3 b4 h8;have b7:c.argTypes= #[t,t2]:=by apply yO;simpa using c3
       have b8:c.args= #[x,y]:=by apply yO;simpa using has
       unfold Oper.wp execOp;rw[ho];simp only[resolve,hc,b7,b8,invoke,builtin,Sem.run_bind,Sem.run_pure,Result.andThen_ok,jF,zt,zE,a7,Oper.upon_value];exact hK _ _ _ _ hA (b2.put hd (Rep.sc _ rfl))
      ·exact hA.elim
     ·exact hA.elim
    ·exact hA.elim
   ·exact jhw hG h hd hA hK
  ·exact hA.elim
 ·
  rename_i t ho;unfold jkq at hA;split at hA
  ·rename_i d kt e a1 hk;split at hA
   ·rename_i n hn;obtain⟨h0,hA⟩:=hA;have hs:=h.newMap (d:=d) (sc:=(n,intK G e)) (hd d a1);unfold Oper.wp execOp;rw[ho];simp only[Option.map_none,Instr.makeMap,Sem.run_bind,run_newObj,Result.andThen_ok,Sem.run_pure,World.alloc_eq,Oper.upon_value,a1];exact hK _ _ _ _ hA hs
   ·exact hA.elim
  ·exact hA.elim
 ·
  rename_i t m k x ho;unfold jqu at hA;split at hA
  ·rename_i d sc kvs ks b vs hm hk hx;split at hA
   ·rename_i kt e l4;obtain⟨h0,ht,hn,e5,hA⟩:=hA;have k2:=jb7 h m;rw[hm]at k2;have l3:=jok hk (jb7 h k);have b4:=valI_rep hx (jb7 h x);obtain⟨bl,hb,l2,e8⟩:=k2;obtain⟨es,c,hblk,he,n2⟩:=e8 ht;have hu:=hG.ok.mp h0 l4;rw[joc]at hn e5;have n3:sc.2=b:=by rw[e5]
    obtain⟨es',c',a7,l9,k6⟩:=mapUpdate_run (w:=w) hG.ok hu hn rfl (by rw[e5]) hblk he n2 (vs:=vs);rw[n3]at a7;have hs:=h.setMap ht hb hblk l9 k6;unfold Oper.wp execOp;rw[ho];simp only[l2,l3,b4,Sem.run_bind,a7,Result.andThen_ok,Sem.run_pure,Oper.upon_skip];exact hK _ _ _ _ hA (hs.put hd (Rep.sc _ rfl))
   ·exact hA.elim
  ·exact hA.elim
 ·exact jhw hG h hd hA hK
