/- A part of the proof. No further condition. -/
import Derived.Test.YtgnflpkmpoghbaaKU4
import Derived.Laws.CopyRow
set_option linter.all false
set_option maxRecDepth 10000000
set_option maxHeartbeats 16000000
namespace Go.Abs
section
def aCopy(G:Ctx)(K:St->Prop)(st:St)(dst:Option Nat)(ts:List TypeId)(azz:List Operand):Prop:=
 match ts,azz with
 | [t,_],[x,y]=>match evO st x,evO st y,(G.ti t).kind with
  | .im (.ref b e s n),.im (.sl xs),.sl e'=>match look st.rows (hp b)with
   | some (s',es)=>(G.ti t).size≠0/\(G.ti e').size=s/\s≠0/\s'=s/\xs.length=n/\(∀c∈xs,c.length=s)/\K (({st with rows:=Abs.setRow st.rows (hp b) s xs}:St).put dst (.im (.int n)))
   | none=>False
  | _,_,_=>False
 | _,_=>False
theorem run_copyS{P:Program}(w:World)(t t2 ty e:TypeId)(b n cap xc S:Nat)(xad:Option Addr)(cur:Array Value)(T:TypeId)(cs:List Value)(i:TypeInfo)(hu:P.underlying t=some (.slice e))(hi:P.info? e=some i)(hS:i.size=S)
  (hg:w.heap[b]? =some (.cells cur T (0,0))) (hcs:cs.length=n*S) (hsrc:cs≠[]->∃A,xad=some A/\∀j v,cs[j]? =some v->w.cell? (A.add j)=some v) (hn:cs=[]->n=0) (hfit:cs.length<=cur.size) (h1:∀v∈cs,v.oneCell'=true):
  (Builtin.copy_ #[t,t2] ty #[.slice (some ⟨b,0,none⟩) n cap,.slice xad n xc]).run P w= .ok (.int .i64 n) (w.setRow b (cs++cur.toList.drop cs.length).toArray):=by
 have hst:=run_storeCells_at P b 0 T cs 0 cur w hg (by simpa using hfit) h1;simp only[Nat.zero_add,List.take_zero,List.nil_append]at hst;by_cases hc:cs=[]
 ·have hn0:=hn hc;subst hc hn0;have hl:∀A:Addr,(loadCells A 0).run P w= .ok #[] w:=fun A=>rfl;cases xad with
  | none=>simp[Builtin.copy_,run_underlying hu,Builtin.lenOf,Builtin.firstCells,sizeOf,typeInfo,hi,hst,goInt]
  | some A=>simp[Builtin.copy_,run_underlying hu,Builtin.lenOf,Builtin.firstCells,sizeOf,typeInfo,hi,hst,goInt,hl]
 ·obtain⟨A,rfl,hA⟩:=hsrc hc;have hl:=run_loadCells_list (P:=P) w A cs hA;simp[Builtin.copy_,run_underlying hu,Builtin.lenOf,Builtin.firstCells,sizeOf,typeInfo,hi,hS,<-hcs,hl,hst,goInt]
section
variable{G:Ctx}{N:Nat}{w0:Base}{w:World}{M0:Nat->Nat->Prop}{β:Nat->Option Nat}{st:St}{a:Act}
theorem copyH_run(hG:G.Ok)(h:Sim N w0 M0 β st a w){t t2 e ty T:TypeId}{b n s:Nat}{es xs:List (List IV)}{xv yv:Value}(h0:(G.ti t).size≠0)(hk:(G.ti t).kind= .sl e)(he:(G.ti e).size=s)(hs0:s≠0)
  (hrow:look st.rows (hp b)=some (s,es)) (hxl:xs.length=n) (hlx:∀c∈xs,c.length=s) (hx:Rep w (Mo M0 β st) (.ref b T s n) xv) (hy:Rep w (Mo M0 β st) (.sl xs) yv):
  ∃w',(Builtin.copy_ #[t,t2] ty #[xv,yv]).run G.P w= .ok (.int .i64 n) w'/\Sim N w0 M0 β {st with rows:=Abs.setRow st.rows (hp b) s xs} a w':=by
 have hu:=hG.sl h0 hk;obtain⟨i,z,hi,hsz,hbt,hz,_,hzs⟩:=hG.info (t:=e) (by rw[he];exact hs0);obtain⟨xad,xc,gx,rfl,_,hxc⟩:=jex hs0 hy hlx;cases hx with
 | ref _ _ _ _ cap cur hcur hcap hml hcsz=>
  have hfx:xs.flatten.length=n*s:=by rw[jbe hlx,hxl]
  obtain⟨cs,hcs⟩:∃cs,cs=(List.range xs.flatten.length).map gx:=⟨_,rfl⟩;have hcl:cs.length=n*s:=by rw[hcs,List.length_map,List.length_range,hfx]
  have hne:cs≠[]->xs≠[]:=fun h e=>h (by rw[hcs,e];rfl);have h1:∀v∈cs,v.oneCell'=true:=fun v hv=>by
   have hne2:=hne (List.ne_nil_of_mem hv);obtain⟨xb,xo,_,hc⟩:=hxc hne2;rw[hcs]at hv;obtain⟨j,hj,rfl⟩:=List.mem_map.1 hv;obtain⟨x,hx⟩:∃x,xs.flatten[j]? =some x:=⟨_,List.getElem?_eq_getElem (by simpa using hj)⟩;obtain⟨g1,_,g2⟩:=hc j x hx;exact g2.oneCell g1
  have hle:cs.length<=cur.size:=by rw[hcl,hcsz];exact Nat.mul_le_mul_right _ hcap
  have hrun:=run_copyS (P:=G.P) w t t2 ty e b n cap xc s xad cur T cs i hu hi (by rw[hsz,he]) hcur hcl (fun hc=>by
   obtain⟨xb,xo,e1,hcc⟩:=hxc (hne hc);exact⟨_,e1,by rw[hcs];exact jcq hcc⟩) (fun hc=>by
   have:n*s=0:=by rw[<-hcl,hc];rfl
   rcases Nat.mul_eq_zero.1 this with h | h
   ·exact h
   ·exact absurd h hs0) hle h1
  rw[hxl];refine⟨_,hrun,h.setRow hrow (h.perm b) hcur (by simp;omega) hlx fun i c j x hi hj=> ?_⟩;have hfl:=jbn hlx hi hj;have hkl:=(List.getElem?_eq_some_iff.1 hfl).1;have hne2:xs≠[]:=fun e=>by subst e;simp at hi
  obtain⟨xb,xo,_,hcc⟩:=hxc hne2;obtain⟨g1,_,g2⟩:=hcc _ x hfl;refine⟨g1,gx (i*s+j),?_,g2⟩;rw[List.getElem?_toArray,List.getElem?_append_left (by rw[hcl,<-hfx];exact hkl),hcs,List.getElem?_map,List.getElem?_range hkl];rfl
end
end
section
open Go.RowKit (Below)
def jgd(P:Program)(f:FuncId):Bool:=
 match P.funcs[f]? with
 | some fn=>fn.name != "runtime.NumGoroutine" &&fn.body.isSome
 | none=>false
structure Ctx.Good(G:Ctx):Prop where
 ok:G.Ok
 fn:∀f,(3<=f/\f<G.fns)->jgd G.P f=true
 mixed:G.P.follows .mixedOrders=true
def St.newRow(st:St)(d s:Nat)(es:List (List IV)):St:=
 ⟨(d,.loc d s 0 0)::(st.fresh d).fr,(d,s,es)::(st.fresh d).rows,(st.fresh d).toks⟩
def St.newArr(st:St)(d e s:Nat)(es:List (List IV)):St:=
 ⟨(d,.gsl d e s es.length)::(st.fresh d).fr,(d,s,es)::(st.fresh d).rows,(st.fresh d).toks⟩
def St.addH(st:St)(b s:Nat)(es:List (List IV))(d:Nat)(av:AV):St:=⟨(d,av)::st.fr,(hp b,s,es)::st.rows,st.toks⟩
def NewH(K:St->Prop)(st:St)(s:Nat)(es:List (List IV))(d:Nat)(av:Nat->AV):Prop:=∀b,look st.rows (hp b)=none->K (st.addH b s es d (av b))
def jb6:AV:= .im (.sc undef)
def jcz(st:St)(x:AV):Option (List (List IV)):=match x.soft with
 | .osl d s i n=>match look st.rows d with
  | some (s',es)=>if s'=s/\i+n<=es.length then some ((es.drop i).take n)else none
  | none=>none
 | x=>jb5 x
def jkw(st:St)(e s dst:Nat):AV->Option (Nat×List (List IV))
 | .sx es=>some (dst,es)
 | .vec d e' s' es=>if e'=e/\s'=s/\look st.toks d=some (s,es.length)/\(d=dst\/look st.rows d=none)then some (d,es)else none
 | _=>none
def jj8(st:St)(e s:Nat):AV->Option (Nat×Nat×List (List IV))
 | .gsl d e' s' n=>match look st.rows d with
  | some (s2,es)=>if e'=e/\s'=s/\s2=s then some (d,n,es)else none
  | none=>none
 | _=>none
def jep(st:St)(e s:Nat):AV->Option (Nat×Nat×List (List IV))
 | .im (.ref b e' s' n)=>match look st.rows (hp b)with
  | some (s2,es)=>if e'=e/\s'=s/\s2=s then some (b,n,es)else none
  | none=>none
 | _=>none
def GrowH(K:St->Prop)(st:St)(b s:Nat)(es:List (List IV))(d e n:Nat):Prop:=
 ∀X,look (del st.rows (hp b)) (hp X)=none->K ((jc1 st (hp b) X s es).put (some d) (.im (.ref X e s n)))
def isEmp:AV->Bool
 | .sx []=>true
 | .im .emp=>true
 | _=>false
def jh9(G:Ctx)(K:St->Prop)(st:St)(dst:Option Nat)(ts:List TypeId)(args:List Operand):Prop:=
 match dst,ts,args with
 | some d,[t,t'],[s,x]=>
  match(G.ti t).kind with
  | .sl e=>
   match jep st e (G.ti e).size (evO st s)with
   | some (b,n,es)=>(match jb5 (evO st x)with
    | some xs=>t=t'/\(G.ti t).size≠0/\(G.ti e).size≠0/\(G.ti e).bytes≠0/\(∀c∈xs,c.length=(G.ti e).size)/\n<=es.length/\(n+xs.length)*(G.ti e).bytes<=140737488355328/\
     GrowH K st b (G.ti e).size (es.take n++xs) d e (n+xs.length)
    | none=>False)
   | none=>
   match jj8 st e (G.ti e).size (evO st s)with
   | some (src,n,es)=>(match jb5 (evO st x)with
    | some xs=>t=t'/\(G.ti t).size≠0/\(G.ti e).size≠0/\(G.ti e).bytes≠0/\(∀c∈xs,c.length=(G.ti e).size)/\n<=es.length/\(n+xs.length)*(G.ti e).bytes<=140737488355328/\
    K ((jbp st src d (G.ti e).size (es.take n++xs)).put (some d) (.gsl d e (G.ti e).size (n+xs.length)))
    | none=>False)
   | none=>if(G.own=true\/G.perm.contains d=true)/\isEmp (evO st s)=true then(match jcz st (evO st x)with
    | some xs=>t=t'/\(G.ti t).size≠0/\(G.ti e).size≠0/\(G.ti e).bytes≠0/\(∀c∈xs,c.length=(G.ti e).size)/\xs.length*(G.ti e).bytes<=140737488355328/\xs≠[]/\
     (if G.perm.contains d=true then NewH K st (G.ti e).size xs d (fun b=> .im (.ref b e (G.ti e).size xs.length))else K (st.newArr d e (G.ti e).size xs))
    | none=>False)else
   match jkw st e (G.ti e).size d (evO st s),jcz st (evO st x)with
   | some (src,es),some xs=>
    t=t'/\(G.ti t).size≠0/\(G.ti e).size≠0/\(G.ti e).bytes≠0/\(∀c∈es,c.length=(G.ti e).size)/\(∀c∈xs,c.length=(G.ti e).size)/\
    (es.length+xs.length)*(G.ti e).bytes<=140737488355328/\
    K ((tokSt st src d (G.ti e).size (es.length+xs.length)).put (some d) (.vec d e (G.ti e).size (es++xs)))
   | _,_=>False
  | _=>False
 | _,_,_=>False
def CtrV(P:Program)(f:FuncId)(args:List IV)(e:TypeId)(s:Nat)(es:List (List IV)):Prop:=
 ∀(w:World) (M:Nat->Nat->Prop) (vs:List Value),(∀b o,M b o->b<w.heap.size)->RepL w M args vs->
  Calls P f vs.toArray w fun en w'=>∃v,en= .returned v/\Below w.heap.size w w'/\(Rep w' M (.sl es) v/\(∃ad,v= .slice ad es.length es.length)\/
   ∃b cap cur,w.heap.size<=b/\b<w'.heap.size/\Rep w' (fun b' o=>M b' o\/(b'=b/\es.length*s<=o)) (.sl es) v/\v= .slice (some ⟨b,0,none⟩) es.length cap/\w'.heap[b]? =some (.cells cur e (0,0))/\es.length<=cap/\cap<=maxLen/\cur.size=cap*s)
def CtrO(P:Program)(f:FuncId)(args:List IV)(sc:Nat×Bool)(kvs:List (List Int×List Int)):Prop:=
 ∀(w:World) (M:Nat->Nat->Prop) (vs:List Value),(∀b o,M b o->b<w.heap.size)->RepL w M args vs->
  Calls P f vs.toArray w fun en w'=>∃b es c,en= .returned (.map (some b))/\Below w.heap.size w w'/\w.heap.size<=b/\w'.heap[b]? =some (.map es c)/\Ents sc kvs es/\Born es c
def aCallO(G:Ctx)(K:St->Prop)(st:St)(dst:Option Nat)(g:Nat)(xs:List IV):Prop:=
 ∃d sc kvs,dst=some d/\CtrO G.P g xs sc kvs/\K ((tokSt st d d 0 0).put (some d) (.mpo d sc kvs))
def aCallM(G:Ctx)(K:St->Prop)(st:St)(dst:Option Nat)(g:Nat)(args:List AV):Prop:=
 ∃ρ L args' φ,Hands st ρ L/\look L 901=none/\(∀k,(look L k).isSome->dst≠some (rnm ρ k))/\args'.map (AV.rn ρ)=args.map AV.toArg/\CtrM G.P g args' L φ/\
  ∀r Es new,φ r Es new->∃st',jjj st ρ L Es new dst r=some st'/\K st'
def jjl(G:Ctx)(K:St->Prop)(st:St)(dst:Option Nat)(g:Nat)(args:List AV):Prop:=
 ∃L φ,HandsH st L/\CtrH G.P g (args.map AV.toH) L φ/\
  ∀r L',φ r L'->(∀k,(look L' k).isSome->(look L k).isSome\/look st.rows k=none)->
   ∃R',(∀k x,look R' k=some x->look L' k=some x\/(look L k=none/\look st.rows k=some x))/\K ((⟨st.fr,R',st.toks⟩:St).put dst r)
def isHa:AV->Bool
 | .loc d _ _ _=>decide (100000<=d)
 | .osl d _ _ _=>decide (100000<=d)
 | .gsl d _ _ _=>decide (100000<=d)
 | .im (.ref _ _ _ _)=>true
 | .im (.pr _ _ _ _)=>true
 | _=>false
def isFrz(G:Ctx):Option Nat->Bool
 | some d=>G.frz.contains d
 | none=>false
def jg6(G:Ctx)(K:St->Prop)(st:St)(dst:Option Nat)(f:Operand)(args:List Operand):Prop:=
 if(args.any fun x=>isHa (evO st x))=true then(match evO st f with
  | .im (.clo g caps)=>(3<=g/\g<G.fns)/\jjl G K st dst g (args.map (evO st)++caps.map .im)
  | _=>False)else
 match evO st f,ivsOf (args.map (evO (st.lendOs args)))with
 | .im (.clo g caps),some xs=>
  (3<=g/\g<G.fns)/\((∃φ:IV->Prop,Ctr G.P g (xs++caps) φ/\∀r,φ r->K ((if flatB r=true then st else st.lendOs args).put dst (.im r)))\/
   (∃d e s es,dst=some d/\CtrV G.P g (xs++caps) e s es/\(∀c∈es,c.length=s)/\K ((tokSt (st.lendOs args) d d s es.length).put (some d) (.vec d e s es)))\/
   aCallM G K st dst g (args.map (evO st)++caps.map .im)\/(aCallO G K (st.lendOs args) dst g (xs++caps)\/jjl G K st dst g (args.map (evO st)++caps.map .im)))
 | _,_=>False
def aCall(G:Ctx)(K:St->Prop)(st:St)(dst:Option Nat)(f:Operand)(args:List Operand):Prop:=
 if isFrz G dst=true then jg6 G K (st.frzOs args) dst f args else jg6 G K st dst f args
def ivE(G:Ctx):AV->Option IV
 | .im x=>some x
 | .sx es=>if(isFrz G (some 999999)&&es.isEmpty)=true then some .emp else some (.sl es)
 | .vec _ _ _ es=>some (.sl es)
 | _=>none
theorem ivE_rep{G:Ctx}{w M β toks av v x}(h:RepA w M β toks av v)(hx:ivE G av=some x):Rep w M x v:=by
 cases av with
 | sx es=>
  simp only[ivE]at hx;split at hx
  ·rename_i hc;have he:es=[]:=List.isEmpty_iff.1 (Bool.and_eq_true_iff.1 hc).2;subst he;cases hx;obtain⟨_,a,rfl⟩:=h;exact Rep.emp a
  ·exact jd4 h hx
 | im _=>exact jd4 h hx
 | vec _ _ _ _=>exact jd4 h hx
 | _=>cases hx
def jhy(G:Ctx)(K:St->Prop)(st:St)(dst:Option Nat)(t:TypeId)(p x:Operand):Prop:=
 match ivE G (evO st x),(evO st p).dp with
 | some y,.loc d s i j=>match look st.rows d with
  | some (s',es)=>match es[i]? with
   | some c=>s'=s/\(G.ti t).size≠0/\(cellsOf y).length=(G.ti t).size/\(cellsOf y).all IV.one=true/\j+(G.ti t).size<=c.length/\
     K (St.put {st with rows:=setRow st.rows d s (es.set i (jah c j (cellsOf y)))} dst jb6)
   | none=>False
  | none=>False
 | _,_=>False
def aMake(G:Ctx)(K:St->Prop)(st:St)(dst:Option Nat)(t:TypeId)(l c:AV):Prop:=
 match dst,l,c with
 | some d,.im (.sc (.int _ n)),.im (.sc (.int _ m))=>match(G.ti t).kind with
  | .sl e=>match jbi G e with
   | some z=>(G.ti t).size≠0/\n=m/\0<=n/\n*(G.ti e).bytes<=140737488355328/\(G.ti e).bytes≠0/\
     (if G.perm.contains d=true then NewH K st (G.ti e).size (List.replicate n.toNat z) d (fun b=> .im (.ref b e (G.ti e).size (List.replicate n.toNat z).length))else K (st.newArr d e (G.ti e).size (List.replicate n.toNat z)))
   | none=>False
  | _=>False
 | _,_,_=>False
def aVal(G:Ctx)(K:St->Prop)(st:St)(o:Oper):Prop:=
 match yv G st o with
 | some av=>K (st.put o.dst av)
 | none=>False
def isSl:TK->Bool
 | .sl _=>true
 | _=>false
def jkj:AV->Bool
 | .im (.ref _ _ _ _)=>true
 | .gsl _ _ _ _=>true
 | _=>false
def aNil(G:Ctx)(K:St->Prop)(st:St)(dst:Option Nat)(op:BinOp)(t:TypeId)(x:Operand):Prop:=
 if jkj (evO st x)=true then(match op with
  | .eql=>(G.ti t).size≠0/\isSl (G.ti t).kind=true/\K (st.put dst (.im (.sc (.bool false))))
  | .neq=>(G.ti t).size≠0/\isSl (G.ti t).kind=true/\K (st.put dst (.im (.sc (.bool true))))
  | _=>False)
 else match jb5 (evO st x),op with
 | some es,.eql=>(G.ti t).size≠0/\isSl (G.ti t).kind=true/\∀b:Bool,(b=true->es=[])->K (st.put dst (.im (.sc (.bool b))))
 | some es,.neq=>(G.ti t).size≠0/\isSl (G.ti t).kind=true/\∀b:Bool,(b=true->es=[])->K (st.put dst (.im (.sc (.bool !b))))
 | _,_=>False
def aBin(G:Ctx)(K:St->Prop)(st:St)(o:Oper)(op:BinOp)(t:TypeId)(x y:Operand):Prop:=
 match y with
 | .const (.slice none 0 0)=>aNil G K st o.dst op t x
 | _=>aVal G K st o
def aop(G:Ctx)(o:Oper)(K:St->Prop)(st:St):Prop:=
 match o.op with
 | .box _ x=>match o.dst,ivOf (evO (st.lendO x) x)with
  | some d,some y=>(cellsOf y).all IV.one=true/\
   (if G.perm.contains d=true then NewH K (st.lendO x) (cellsOf y).length [cellsOf y] d (fun b=> .loc (hp b) (cellsOf y).length 0 0)else K ((st.lendO x).newRow d (cellsOf y).length [cellsOf y]))
  | _,_=>False
 | .alloc t=>match o.dst,jbi G t with
  | some d,some z=>if G.perm.contains d=true then NewH K st z.length [z] d (fun b=> .loc (hp b) z.length 0 0)else K (st.newRow d z.length [z])
  | _,_=>False
 | .store t p x=>jhy G K (st.lendO x) o.dst t p x
 | .makeSlice t l c=>aMake G K st o.dst t (evO st l) (evO st c)
 | .makeFunc _ _ caps=>aVal G K (st.lendOs caps.toList) o
 | .binOp op t x y _=>aBin G K st o op t x y
 | .call c=>match c.callee with
  | .value f=>aCall G K st o.dst f c.args.toList
  | .builtin b=>match b with
   | .append=>jh9 G K st o.dst c.argTypes.toList c.args.toList
   | .copy=>aCopy G K st o.dst c.argTypes.toList c.args.toList
   | _=>aVal G K st o
  | _=>False
 | .makeMap t none=>jgg G K st o.dst t
 | .mapUpdate t m k x=>jjk G K st o.dst t (evO st m) (evO st k) (evO st x)
 | _=>aVal G K st o
section
variable{G:Ctx}{N:Nat}{w0:Base}{w w':World}{M M' M0:Nat->Nat->Prop}{β β':Nat->Option Nat}{st:St}{a:Act}{toks toks':List (Nat×Nat×Nat)}{av:AV}{v:Value}
theorem Sim.newRowPut(h:Sim N w0 M0 β st a w){d s:Nat}{es:List (List IV)}{cells:Array Value}{T:TypeId}(hd:d<N)(hes:∀e∈es,e.length=s)
  (hr:∀(i:Nat) e (j:Nat) x,es[i]? =some e->e[j]? =some x->x.one=true/\∃u,cells[i*s+j]? =some u/\Rep w (Mo M0 β st) x u):
  Sim N w0 M0 (upd β d (some w.heap.size)) (st.newRow d s es) (a.put (some d) (.pointer (some ⟨w.heap.size,0,none⟩))) (w.alloc (.cells cells T)):=by
 have h1:=(h.fresh d).newRow (T:=T) hd (jc9 st d) hes (fun i e j x hi hj=>by
  obtain⟨h1,u,h2,h3⟩:=hr i e j x hi hj;exact⟨h1,u,h2,h3.less fun b o hm=>jfg hm⟩)
 exact h1.put (dst:=some d) (av:= .loc d s 0 0) (fun d' e=>by cases e;exact hd) ⟨w.heap.size,jaa _ _ _,by simp⟩
theorem Sim.newArrPut(h:Sim N w0 M0 β st a w){d s:Nat}{es:List (List IV)}{cells:Array Value}{T:TypeId}(hd:d<N)(hes:∀e∈es,e.length=s)(hsz:cells.size=es.length*s)(hml:es.length<=maxLen)
  (hr:∀(i:Nat) e (j:Nat) x,es[i]? =some e->e[j]? =some x->x.one=true/\∃u,cells[i*s+j]? =some u/\Rep w (Mo M0 β st) x u):
  Sim N w0 M0 (upd β d (some w.heap.size)) (st.newArr d T s es) (a.put (some d) (.slice (some ⟨w.heap.size,0,none⟩) es.length es.length)) (w.alloc (.cells cells T)):=by
 have h1:=(h.fresh d).newRow (T:=T) hd (jc9 st d) hes (fun i e j x hi hj=>by
  obtain⟨h1,u,h2,h3⟩:=hr i e j x hi hj;exact⟨h1,u,h2,h3.less fun b o hm=>jfg hm⟩)
 exact h1.put (dst:=some d) (av:= .gsl d T s es.length) (fun d' e=>by cases e;exact hd) ⟨w.heap.size,es.length,cells,jaa _ _ _,rfl,heap_alloc_new w _,Nat.le_refl _,hml,hsz⟩
theorem Sim.newRowHPut(h:Sim N w0 M0 β st a w){d s:Nat}{es:List (List IV)}{cells:Array Value}{T:TypeId}(hd:d<N)(hes:∀e∈es,e.length=s)
  (hr:∀(i:Nat) e (j:Nat) x,es[i]? =some e->e[j]? =some x->x.one=true/\∃u,cells[i*s+j]? =some u/\Rep w (Mo M0 β st) x u):
  Sim N w0 M0 β (st.addH w.heap.size s es d (.loc (hp w.heap.size) s 0 0)) (a.put (some d) (.pointer (some ⟨w.heap.size,0,none⟩))) (w.alloc (.cells cells T)):=by
 have h1:=h.newRowH (T:=T) hes hr;exact h1.put (dst:=some d) (av:= .loc (hp w.heap.size) s 0 0) (fun d' e=>by cases e;exact hd) ⟨w.heap.size,h.perm _,by simp⟩
theorem Sim.newArrHPut(h:Sim N w0 M0 β st a w){d s n cap:Nat}{es:List (List IV)}{cells:Array Value}{T:TypeId}(hd:d<N)(hes:∀e∈es,e.length=s)(hsz:cells.size=cap*s)(hnc:n<=cap)(hml:cap<=maxLen)
  (hr:∀(i:Nat) e (j:Nat) x,es[i]? =some e->e[j]? =some x->x.one=true/\∃u,cells[i*s+j]? =some u/\Rep w (Mo M0 β st) x u):
  Sim N w0 M0 β (st.addH w.heap.size s es d (.im (.ref w.heap.size T s n))) (a.put (some d) (.slice (some ⟨w.heap.size,0,none⟩) n cap)) (w.alloc (.cells cells T)):=by
 have h1:=h.newRowH (T:=T) hes hr;exact h1.put (dst:=some d) (av:= .im (.ref w.heap.size T s n)) (fun d' e=>by cases e;exact hd) (Rep.ref _ T s n cap cells (heap_alloc_new w _) hnc hml hsz)
theorem appendO_run(hG:G.Ok)(h:Sim N w0 M0 β st a w){t e ty:TypeId}{xv:Value}{xs:List (List IV)}{d:Nat}{ad:Option Addr}(hd:d<N)
  (h0:(G.ti t).size≠0) (hk:(G.ti t).kind= .sl e) (h1:(G.ti e).size≠0) (hby:(G.ti e).bytes≠0) (hlx:∀c∈xs,c.length=(G.ti e).size) (hbound:xs.length*(G.ti e).bytes<=140737488355328)
  (hne:xs≠[]) (hx:∃ad c g,xv= .slice ad xs.length c/\(xs≠[]->∃b o,ad=some ⟨b,o,none⟩/\jfs w (Mo M0 β st) ⟨b,o,none⟩ xs.flatten g)):
  (∃v' w' β',(Builtin.append_ #[t,t] ty #[.slice ad 0 0,xv]).run G.P w= .ok v' w'/\Sim N w0 M0 β' (st.newArr d e (G.ti e).size xs) (a.put (some d) v') w')/\
  ∃v' w',(Builtin.append_ #[t,t] ty #[.slice ad 0 0,xv]).run G.P w= .ok v' w'/\Sim N w0 M0 β (st.addH w.heap.size (G.ti e).size xs d (.im (.ref w.heap.size e (G.ti e).size xs.length))) (a.put (some d) v') w':=by
 have hu:=hG.sl h0 hk;obtain⟨i,z,hi,hsz,hbt,hz,_,hzs⟩:=hG.info h1;obtain⟨xad,xc,gx,rfl,hxc⟩:=hx;obtain⟨xb,xo,rfl,hxcells⟩:=hxc hne;generalize hS:(G.ti e).size=S at*;have hfx:xs.flatten.length=xs.length*S:=jbe hlx;have hxpos:0<xs.length:=List.length_pos_iff.2 hne;have hmax:xs.length<=140737488355328:=Nat.le_trans (Nat.le_mul_of_pos_right _ (Nat.pos_of_ne_zero hby)) hbound;have hnews:∀j u,((List.range xs.flatten.length).map gx)[j]? =some u->w.cell? ((⟨xb,xo,none⟩:Addr).add j)=some u:=jcq hxcells;have hnl:((List.range xs.flatten.length).map gx).length=xs.length*i.size:=by simp[hfx,hsz]
 have hm63:xs.length<=maxLen:=by unfold maxLen;omega
 have hrun:∃cells:Array Value,∃cap,(Builtin.append_ #[t,t] ty #[.slice ad 0 0,.slice (some ⟨xb,xo,none⟩) xs.length xc]).run G.P w= .ok (.slice (some ⟨w.heap.size,0,none⟩) xs.length cap) (w.drew.alloc (.cells cells e))/\
   xs.length<=cap/\cap<=maxLen/\cells.size=cap*S/\∀k,k<xs.length*S->cells[k]? =some (gx k):=by
  have hcap':=grownCap_ge w xs.length 0 e;have hcm':=grownCap_le_maxLen w xs.length 0 e hm63;have hsize:∀c:Array Value,c=((List.range xs.flatten.length).map gx).toArray++Builtin.zeroCells z.cells (grownCap w xs.length 0 e-xs.length)->c.size=grownCap w xs.length 0 e*S/\∀k,k<xs.length*S->c[k]? =some (gx k):=by
   rintro c rfl;refine⟨?_,fun k hk'=> ?_⟩
   ·simp only[Array.size_append,List.size_toArray,List.length_map,List.length_range,hfx,size_zeroCells,hzs];rw[<-Nat.add_mul];congr 1;omega
   ·rw[Array.getElem?_append_left (by simp[hfx];omega)];simp[hfx,hk']
  cases ad with
  | none=>
   have hr:=run_append_nil (P:=G.P) w t ty e i z hu hi hz ⟨xb,xo,none⟩ xs.length xc _ hnl hnews hxpos (by omega) (by rw[hbt];omega);exact⟨_,_,hr,hcap',hcm',(hsize _ rfl).1,(hsize _ rfl).2⟩
  | some ad=>
   have hr:=run_append_grow (P:=G.P) w t ty e i z hu hi hz ad 0 0 [] (by simp) (by simp) ⟨xb,xo,none⟩ xs.length xc _ hnl hnews (by omega) (by omega) (growslice_fits (by omega) (by rw[hbt,Nat.zero_add];exact hbound));simp only[Nat.zero_add]at hr;have hr':(Builtin.append_ #[t,t] ty #[.slice (some ad) 0 0,.slice (some ⟨xb,xo,none⟩) xs.length xc]).run G.P w= .ok (.slice (some ⟨w.heap.size,0,none⟩) xs.length (grownCap w xs.length 0 e)) (w.drew.alloc (.cells (((List.range xs.flatten.length).map gx).toArray++Builtin.zeroCells z.cells (grownCap w xs.length 0 e-xs.length)) e)):=by
    rw[hr];simp
   exact⟨_,_,hr',hcap',hcm',(hsize _ rfl).1,(hsize _ rfl).2⟩
 obtain⟨cells,cap,hrun,hc1,hc2,hc3,hc4⟩:=hrun;have hdr:=h.ext (w':=w.drew) ⟨rfl,rfl,rfl,Nat.le_refl _,fun _ _=>rfl⟩;have hcells:∀(i':Nat) c (j:Nat) x,xs[i']? =some c->c[j]? =some x->x.one=true/\∃u,cells[i'*S+j]? =some u/\Rep w.drew (Mo M0 β st) x u:=fun i' c j x hi' hj=>by
  have hfl:=jbn hlx hi' hj;obtain⟨g1,_,g2⟩:=hxcells _ x hfl;have hkl:=(List.getElem?_eq_some_iff.1 hfl).1;exact⟨g1,_,hc4 _ (by omega),g2.kept (Below.kept (M:=Mo M0 β st) (w':=w.drew) ⟨rfl,rfl,rfl,Nat.le_refl _,fun _ _=>rfl⟩)⟩
 have h2:=(hdr.fresh d).newRow (T:=e) (cells:=cells) (s:=S) (es:=xs) hd (jc9 st d) hlx (fun i' c j x hi' hj=>by
  obtain⟨g1,u,g2,g3⟩:=hcells i' c j x hi' hj;exact⟨g1,u,g2,g3.less fun b o hm=>jfg hm⟩)
 refine⟨⟨_,_,upd β d (some w.heap.size),hrun,?_⟩,_,_,hrun,hdr.newArrHPut hd hlx hc3 hc1 hc2 hcells⟩;exact h2.put (dst:=some d) (av:= .gsl d e S xs.length) (fun d' e=>by cases e;exact hd) ⟨w.heap.size,cap,cells,jaa _ _ _,rfl,heap_alloc_new w.drew _,hc1,hc2,hc3⟩
theorem one_row{w:World}{M}{y:IV}{yv:Value}(hy:Rep w M y yv)(ho:(cellsOf y).all IV.one=true):
  ∀(i:Nat) e (j:Nat) x,[cellsOf y][i]? =some e->e[j]? =some x->x.one=true/\∃u,yv.cells[i*(cellsOf y).length+j]? =some u/\Rep w M x u:=by
 intro i e j x hi hj;obtain⟨hr,_⟩:=jer hy ho;cases i with
 | succ i=>simp at hi
 | zero=>
  simp at hi;subst hi;have hlt:j<yv.cells.toList.length:=by rw[<-hr.1];exact(List.getElem?_eq_some_iff.1 hj).1
  have hu:=List.getElem?_eq_getElem hlt;refine⟨List.all_eq_true.1 ho x (List.mem_of_getElem? hj),_,?_,hr.2 j x _ hj hu⟩;rw[Nat.zero_mul,Nat.zero_add,<-Array.getElem?_toList];exact hu
theorem jd6{P:Program}{f:FuncId}(hf:jgd P f=true)(args:Array Value)(w:World):(callFunc f args).run P w= .ok (.enter f args) w:=by
 unfold jgd at hf;split at hf
 ·rename_i fn hfn;simp only[Bool.and_eq_true,bne_iff_ne,ne_eq,Option.isSome_iff_exists]at hf;obtain⟨hn,c,hc⟩:=hf;simp[callFunc,hfn,hn,hc]
 ·cases hf
theorem osl_cells(h:Sim N w0 M0 β st a w){d s i n:Nat}{es:List (List IV)}(hs:s≠0)(hd:look st.rows d=some (s,es))(hin:i+n<=es.length)(hv:RepA w (Mo M0 β st) β st.toks (.osl d s i n) v):
  ∃ad c g,v= .slice ad ((es.drop i).take n).length c/\((es.drop i).take n≠[]->∃b o,ad=some ⟨b,o,none⟩/\jfs w (Mo M0 β st) ⟨b,o,none⟩ ((es.drop i).take n).flatten g):=by
 obtain⟨ad,c,hc,rfl,had⟩:=hv;have hlen:((es.drop i).take n).length=n:=by simp;omega
 obtain⟨b',hb',_,cur,T,hcur,hall,hcell⟩:=h.rows d s es hd;refine⟨ad,c,fun k=>cur.getD (i*s+k) undef,by rw[hlen],fun hne=> ?_⟩;have hn0:n≠0:=fun e=>hne (by subst e;simp);obtain⟨b,hb,rfl⟩:=had hn0;rw[hb]at hb';cases hb';refine⟨_,i*s,rfl,fun k x hk=> ?_⟩;have hall':∀e∈(es.drop i).take n,e.length=s:=fun e he=>hall e (List.mem_of_mem_drop (List.mem_of_mem_take he));obtain⟨e,h1,h2⟩:=jc2 hs hall' hk;have h1':es[i+k/s]? =some e:=by
  rw[List.getElem?_take]at h1;split at h1
  ·rwa [List.getElem?_drop]at h1
  ·cases h1
 obtain⟨ho,u,hu,hr⟩:=hcell _ e _ x h1' h2;have hidx:(i+k/s)*s+k % s=i*s+k:=by rw[Nat.add_mul];have:=Nat.div_add_mod k s;rw[Nat.mul_comm]at this;omega
 rw[hidx]at hu;have hg:cur.getD (i*s+k) undef=u:=by simp[hu]
 refine⟨ho,?_,by show Rep w _ x (cur.getD (i*s+k) undef);rw[hg];exact hr⟩;show _=some (cur.getD (i*s+k) undef);rw[hg,Addr.add_lit,cell_of_row w _ _ cur T _ hcur,hu]
theorem jfb(h:Sim N w0 M0 β st a w){x:AV}{xs:List (List IV)}{s:Nat}(hs:s≠0)(hx:jcz st x=some xs)(hl:∀c∈xs,c.length=s)(hv:RepA w (Mo M0 β st) β st.toks x v)(hos:∀d s' i n,x.soft= .osl d s' i n->s'=s\/xs=[]):
  ∃ad c g,v= .slice ad xs.length c/\(xs≠[]->∃b o,ad=some ⟨b,o,none⟩/\jfs w (Mo M0 β st) ⟨b,o,none⟩ xs.flatten g):=by
 unfold jcz at hx;replace hv:=hv.soft h.perm;generalize x.soft=x at hx hv hos;split at hx
 ·rename_i d s' i n;split at hx
  ·rename_i s2 es hd;split at hx
   ·rename_i hc;obtain⟨rfl,hin⟩:=hc;cases hx;rcases hos d s2 i n rfl with e | e
    ·subst e;exact osl_cells h hs hd hin hv
    ·obtain⟨ad,c,hc,rfl,had⟩:=hv;have hlen:((es.drop i).take n).length=n:=by simp;omega
     exact⟨ad,c,fun _=>undef,by rw[hlen],fun hne=>absurd e hne⟩
   ·cases hx
  ·cases hx
 ·obtain⟨ad,c,g,h1,_,h3⟩:=jex hs (jb4 hv hx) hl;exact⟨ad,c,g,h1,h3⟩
theorem elemsOf_of{st:St}{av:AV}{xs:List (List IV)}(h:jb5 av=some xs):jcz st av=some xs:=by
 unfold jcz;cases av with
 | im x=>cases x<;>first | exact h | (cases h;done)
 | _=>first | exact h | (cases h;done)
theorem jhq(h:Sim N w0 M0 β st a w){x:AV}{xs:List (List IV)}{s:Nat}(hxs:jcz st x=some xs)(hlx:∀c∈xs,c.length=s):∀d' s' i n,x.soft= .osl d' s' i n->s'=s\/xs=[]:=by
 intro d' s' i n hx;unfold jcz at hxs;rw[hx]at hxs;dsimp only at hxs;split at hxs
 ·rename_i s2 es2 hrow;split at hxs
  ·rename_i hcc;obtain⟨rfl,hin⟩:=hcc;cases hxs;by_cases hnil:(es2.drop i).take n=[]
   ·exact .inr hnil
   ·left;obtain⟨c0,hc0⟩:=List.exists_mem_of_ne_nil _ hnil;obtain⟨_,_,_,_,_,_,hall,_⟩:=h.rows d' s2 es2 hrow;rw[<-hlx c0 hc0,hall c0 (List.mem_of_mem_drop (List.mem_of_mem_take hc0))]
  ·cases hxs
 ·cases hxs
theorem jef(hG:G.Good)(h:Sim N w0 M0 β st a w){o:Oper}{K:St->Prop}(hd:∀d,o.dst=some d->d<N)(hA:aVal G K st o){K':Act->World->Prop}{Q':Exit->Act->World->Prop}
  (hK:∀st' β' a' w',K st'->Sim N w0 M0 β' st' a' w'->K' a' w'):o.wp G.P a w K' Q':=by
 unfold aVal at hA;split at hA
 ·rename_i av hy;obtain⟨v,w',hr,hb,hv⟩:=yv_run hG.ok h hy;unfold Oper.wp;rw[hr];exact hK _ β _ _ hA ((h.ext hb).put hd hv)
 ·exact hA.elim
theorem jdz(hG:G.Good)(h:Sim N w0 M0 β st a w){o:Oper}{c:Call}{f:Operand}{K:St->Prop}(ho:o.op= .call c)(hc:c.callee= .value f)(hd:∀d,o.dst=some d->d<N){g:FuncId}{caps:List IV}(hf:evO st f= .im (.clo g caps))(hg:3<=g/\g<G.fns)
  (hA:jjl G K st o.dst g (c.args.toList.map (evO st)++caps.map .im)) {K':Act->World->Prop} {Q':Exit->Act->World->Prop} (hK:∀st' β' a' w',K st'->Sim N w0 M0 β' st' a' w'->K' a' w'):o.wp G.P a w K' Q':=by
 obtain⟨L,φ,H,hctr,hKm⟩:=hA;have hfv:=jab h f;rw[hf]at hfv;obtain⟨vs,hfe,hcaps⟩:=Rep.clo_inv hfv;have hrun:(execOp a.eval o).run G.P w= .ok (.enter g (c.args.map a.eval++vs)) w:=by
  unfold execOp;rw[ho];simp only[resolve,hc,hfe,Deferred.ofValue,Sem.run_bind,Sem.run_pure,Result.andThen_ok,Array.empty_append,invoke,jd6 (hG.fn g hg)]
 obtain⟨p1,p2⟩:=h.handH H;have hcalls:=hctr w _ ((c.args.map a.eval)++vs).toList p1 p2 (by
  have h2:=hcaps.1;simp at h2;simp[h2]) (fun i av v hi hv=>by
  rw[List.map_append,List.map_map,List.map_map]at hi;rw[Array.toList_append,Array.toList_map]at hv;by_cases hk:i<c.args.toList.length
  ·rw[List.getElem?_append_left (by simpa using hk),List.getElem?_map]at hi;rw[List.getElem?_append_left (by simpa using hk),List.getElem?_map]at hv;obtain⟨x,hx,h2⟩:=Option.map_eq_some_iff.1 hi;rw[hx]at hv;simp only[Option.map_some,Option.some.injEq]at hv;subst hv;rw[<-h2];exact RepA.handH h H (jab h x)
  ·rw[List.getElem?_append_right (by simpa using hk),List.getElem?_map]at hi;rw[List.getElem?_append_right (by simpa using hk)]at hv;obtain⟨x,hx,h2⟩:=Option.map_eq_some_iff.1 hi;simp only[List.length_map]at hx hv;rw[<-h2];exact RepA.handH h H (av:= .im x) (hcaps.2 _ x v hx hv))
 unfold Oper.wp;rw[hrun,Oper.upon_enter];rw[Array.toArray_toList]at hcalls;refine hcalls.mono fun en w' ⟨r,v,L',h1,h2,h3,h4,h5,h6⟩=> ?_;subst h2;obtain⟨R',hR,hKst⟩:=hKm r L' h1 (fun k hk=>by
  obtain⟨⟨s,es⟩,hl⟩:=Option.isSome_iff_exists.1 hk;obtain⟨b,rfl,h7,_⟩:=h5 k s es hl;exact h7.imp id fun h7=>(h.none_at h7).1)
 obtain⟨hsim,hback⟩:=h.afterH H h4 h5 hR;exact hK _ _ _ _ hKst (hsim.put hd (h6.backH h.perm h3 hback))
theorem Sim.newOut(hl:Sim N w0 M0 β st a w)(hb:Below w.heap.size w w'){d s n:Nat}{X:Option Nat}(hd:d<100000)(hX:∀b,X=some b->w.heap.size<=b/\b<w'.heap.size):Sim N w0 M0 (upd β d X) (tokSt st d d s n) a w':=by
 refine hl.newTok (w':=w') (src:=d) (dst:=d) (s:=s) (n:=n) (X:=X) ?_ (hl.below.step hb) (Shp.of hb) hb.size ?_ ?_ (.inl rfl) hd
 ·suffices hsuf:∀b o,b<w.heap.size->¬Mo M0 β st b o->¬Mo M0 (upd β d X) (tokSt st d d s n) b o from
   ⟨fun b o u hc hm=>have hbl:=World.block_lt_of_cell? (a:=⟨b,o,none⟩) w hc;⟨by rw[<-hc];exact hb.cell hbl,hsuf b o hbl hm⟩,
    fun b es2 c2 hc hm=>have hbl:=(Array.getElem?_eq_some_iff.1 hc).1;⟨by rw[hb.block b hbl];exact hc,hsuf b 0 hbl hm⟩,Shp.of hb⟩
  intro b o hbl hm;rintro(hm' | ⟨d',s',es',hd',hb'⟩ | ⟨d',s',n',hd',hb',ho'⟩)
  ·exact hm (.inl hm')
  ·have hne:d'≠d:=fun e=>by subst e;simp[tokSt,ja2]at hd'
   rw[ja9 _ _ hne]at hb';simp only[tokSt,ja6 _ hne]at hd';exact hm (.inr (.inl ⟨d',s',es',hd',hb'⟩))
  ·by_cases hne:d'=d
   ·subst hne;rw[jaa]at hb';have:=(hX b hb').1;omega
   ·rw[ja9 _ _ hne]at hb';exact hm (.inr (.inr ⟨d',s',n',(jb1 hne hd').2,hb',ho'⟩))
 ·intro k b hk hlk;have hbl:b<w.heap.size:=by
   rcases hlk with h1 | ⟨h1,_⟩
   ·obtain⟨⟨s',es'⟩,hx⟩:=Option.isSome_iff_exists.1 h1;obtain⟨b',hb',_,cur,T,hcur,_⟩:=hl.rows k s' es' hx;rw[hk]at hb';cases hb';exact(Array.getElem?_eq_some_iff.1 hcur).1
   ·obtain⟨⟨s',n'⟩,hx⟩:=Option.isSome_iff_exists.1 h1;exact(hl.toks k s' n' hx b hk).2
  exact hb.block b hbl
 ·intro b hXb;obtain⟨h1,h2⟩:=hX b hXb;refine⟨fun hp=>absurd (Nat.lt_of_lt_of_le (w0.lt _ hp) hl.below.size) (by omega),h2,fun k _ _ hlk hk=> ?_⟩;rcases hlk with h3 | h3
  ·obtain⟨⟨s',es'⟩,hx⟩:=Option.isSome_iff_exists.1 h3;obtain⟨b',hb',_,cur,T,hcur,_⟩:=hl.rows k s' es' hx;rw[hk]at hb';cases hb';have:=(Array.getElem?_eq_some_iff.1 hcur).1;omega
  ·obtain⟨⟨s',n'⟩,hx⟩:=Option.isSome_iff_exists.1 h3;have:=(hl.toks k s' n' hx b hk).2;omega
theorem jg5(hG:G.Good)(h:Sim N w0 M0 β st a w){o:Oper}{c:Call}{f:Operand}{K:St->Prop}(ho:o.op= .call c)(hc:c.callee= .value f)(hd:∀d,o.dst=some d->d<N)
  (hA:jg6 G K st o.dst f c.args.toList) {K':Act->World->Prop} {Q':Exit->Act->World->Prop} (hK:∀st' β' a' w',K st'->Sim N w0 M0 β' st' a' w'->K' a' w'):o.wp G.P a w K' Q':=by
 unfold jg6 at hA;split at hA
 ·split at hA
  ·rename_i g caps hf;exact jdz hG h ho hc hd hf hA.1 hA.2 hK
  ·exact hA.elim
 split at hA
 ·rename_i g caps xs hf hxs;obtain⟨hg,hA⟩:=hA;have hl:=h.lendOs c.args.toList;have hargs:=jdr hl hxs;have hfv:=jab h f;rw[hf]at hfv;obtain⟨vs,hfe,hcaps⟩:=Rep.clo_inv hfv;have hlM:∀b o,Mo M0 β (st.lendOs c.args.toList) b o->Mo M0 β st b o:=by
   have:∀(xs:List Operand) (s:St),∀b o,Mo M0 β (s.lendOs xs) b o->Mo M0 β s b o:=by
    intro xs
    induction xs with
    | nil=>intro s b o hm;exact hm
    | cons x xs ih=>
     intro s b o hm;have h1:=ih (s.lendO x) b o hm;unfold St.lendO at h1;split at h1
     ·unfold St.lend at h1;split at h1
      ·exact jjn h1
      ·exact h1
     ·unfold St.lend at h1;split at h1
      ·exact jjn h1
      ·exact h1
     ·unfold St.lend at h1;split at h1
      ·exact jjn h1
      ·exact h1
     ·unfold St.lendM at h1;split at h1
      ·exact Mo_delT h1
      ·exact h1
     ·exact h1
   exact this _ _
  have hcaps':RepL w (Mo M0 β (st.lendOs c.args.toList)) caps vs.toList:=hcaps.kept (Kept.less w hlM);have hall:RepL w (Mo M0 β (st.lendOs c.args.toList)) (xs++caps) ((c.args.map a.eval)++vs).toList:=by
   refine⟨?_,fun k x v hx hv=> ?_⟩
   ·have h1:=hargs.1;have h2:=hcaps'.1;simp at h1 h2;simp[h1,h2]
   ·rw[Array.toList_append,Array.toList_map]at hv;have h1:=hargs.1;by_cases hk:k<xs.length
    ·rw[List.getElem?_append_left hk]at hx;rw[List.getElem?_append_left (by omega)]at hv;exact hargs.2 k x v hx hv
    ·rw[List.getElem?_append_right (by omega)]at hx;rw[List.getElem?_append_right (by omega),<-h1]at hv;exact hcaps'.2 _ x v hx hv
  have hrun:(execOp a.eval o).run G.P w= .ok (.enter g (c.args.map a.eval++vs)) w:=by
   unfold execOp;rw[ho];simp only[resolve,hc,hfe,Deferred.ofValue,Sem.run_bind,Sem.run_pure,Result.andThen_ok,Array.empty_append,invoke,jd6 (hG.fn g hg)]
  rcases hA with ⟨φ,hctr,hKφ⟩ | ⟨d,e,s,es,hdst,hctr,hes,hKv⟩ | ⟨ρ,L,args',φ,H,hL,hdL,hargs',hctr,hKm⟩ | hAO | hAH
  case inr.inr.inr.inr=>exact jdz hG h ho hc hd hf hg hAH hK
  case inr.inr.inr.inl=>
   obtain⟨d,sc,kvs,hdst,hctr,hKo⟩:=hAO;have hcalls:=hctr w (Mo M0 β (st.lendOs c.args.toList)) _ (fun b o hm=>hl.mlt hm) hall;unfold Oper.wp;rw[hrun,Oper.upon_enter];rw[Array.toArray_toList]at hcalls;refine hcalls.mono fun en w' ⟨b,es,cl,he,hb,hbn,hh,hen,hbo⟩=> ?_;subst he;have hsim:=hl.newOut (s:=0) (n:=0) (X:=some b) hb (Nat.lt_of_lt_of_le (hd d hdst) hl.np) (fun b' e=>by cases e;exact⟨hbn,(Array.getElem?_eq_some_iff.1 hh).1⟩);rw[hdst];exact hK _ _ _ _ hKo (hsim.put (fun d' e'=>by cases e';exact hd d hdst) ⟨b,jaa _ _ _,rfl,fun _=>⟨es,cl,hh,hen,hbo⟩⟩)
  case inr.inr.inl=>
   obtain⟨p1,p2,p3⟩:=h.hand H;have hlen:((c.args.map a.eval)++vs).toList.length=args'.length:=by
    have h1:=congrArg List.length hargs';have h2:=hcaps.1;simp at h1 h2;simp[h1,h2]
   have hcalls:=hctr w _ _ ((c.args.map a.eval)++vs).toList p1 p2 p3 (fun b=>by rw[H.hp,h.perm]) hlen (fun i av v hi hv=>by
    have h1:(args'.map (AV.rn ρ))[i]? =some (av.rn ρ):=by rw[List.getElem?_map,hi];rfl
    rw[hargs',List.map_append,List.map_map,List.map_map]at h1;rw[Array.toList_append,Array.toList_map]at hv;by_cases hk:i<c.args.toList.length
    ·rw[List.getElem?_append_left (by simpa using hk),List.getElem?_map]at h1;rw[List.getElem?_append_left (by simpa using hk),List.getElem?_map]at hv;obtain⟨x,hx,h2⟩:=Option.map_eq_some_iff.1 h1;rw[hx]at hv;simp only[Option.map_some,Option.some.injEq]at hv;subst hv;exact RepA.hand H (jab h x) h2.symm
    ·rw[List.getElem?_append_right (by simpa using hk),List.getElem?_map]at h1;rw[List.getElem?_append_right (by simpa using hk)]at hv;obtain⟨x,hx,h2⟩:=Option.map_eq_some_iff.1 h1;simp only[List.length_map]at hx hv;exact RepA.hand H (av:= .im x) (hcaps.2 _ x v hx hv) h2.symm)
   unfold Oper.wp;rw[hrun,Oper.upon_enter];rw[Array.toArray_toList]at hcalls;refine hcalls.mono fun en w' ⟨r,v,Es,new,β',h1,h2,h3,h4,h5,h6,h7,h8,h9⟩=> ?_;subst h2;obtain⟨st',hst',hKst⟩:=hKm r Es new h1;obtain⟨β2,hsim⟩:=h.after H hd hL hdL h3 h4 h5 h6 h7 h8 h9 hst';exact hK _ _ _ _ hKst hsim
  ·have hcalls:=hctr w (Mo M0 β (st.lendOs c.args.toList)) _ (fun b o hm=>hl.mlt hm) hall;unfold Oper.wp;rw[hrun,Oper.upon_enter];rw[Array.toArray_toList]at hcalls;refine hcalls.mono fun e w' ⟨r,v,hr,he,hv,hb⟩=> ?_;subst he;have:=hKφ r hr;by_cases hfl:flatB r=true
   ·rw[if_pos hfl]at this;exact hK _ β _ _ this ((h.ext hb).put hd (Rep.flat hv (flatB_flat hfl)))
   ·rw[if_neg hfl]at this;exact hK _ β _ _ this ((hl.ext hb).put hd hv)
  ·have hcalls:=hctr w (Mo M0 β (st.lendOs c.args.toList)) _ (fun b o hm=>hl.mlt hm) hall;unfold Oper.wp;rw[hrun,Oper.upon_enter];rw[Array.toArray_toList]at hcalls;refine hcalls.mono fun en w' ⟨v,he,hb,hv⟩=> ?_;subst he;have key:∃X:Option Nat,(∀b,X=some b->w.heap.size<=b/\b<w'.heap.size)/\RepA w' (Mo M0 (upd β d X) (tokSt (st.lendOs c.args.toList) d d s es.length)) (upd β d X) ((d,s,es.length)::del (del (st.lendOs c.args.toList).toks d) d) (.vec d e s es) v:=by
    have hmo:∀X b o,Mo M0 (upd β d X) (tokSt (st.lendOs c.args.toList) d d s es.length) b o->Mo M0 β (st.lendOs c.args.toList) b o\/(X=some b/\es.length*s<=o):=by
     rintro X b o (hm | ⟨d',s',es',hd',hb'⟩ | ⟨d',s',n',hd',hb',ho'⟩)
     ·exact .inl (.inl hm)
     ·have hne:d'≠d:=fun e=>by subst e;simp[tokSt,ja2]at hd'
      rw[ja9 _ _ hne]at hb';simp only[tokSt,ja6 _ hne]at hd';exact .inl (.inr (.inl ⟨d',s',es',hd',hb'⟩))
     ·by_cases hne:d'=d
      ·subst hne;rw[jaa]at hb';simp only[tokSt,ja8,Option.some.injEq,Prod.mk.injEq]at hd';obtain⟨rfl,rfl⟩:=hd';exact .inr ⟨hb',ho'⟩
      ·rw[ja9 _ _ hne]at hb';have:=(jb1 hne hd').2;exact .inl (.inr (.inr ⟨d',s',n',this,hb',ho'⟩))
    rcases hv with ⟨hr,hc⟩ | ⟨b,cap,cur,h1,h2,h3,h4,h5,h6,h7,h8⟩
    ·refine⟨none,(by simp),hr.less fun b o hm=> ?_,hes,fun _=> .inl hc⟩;rcases hmo none b o hm with hm | ⟨e,_⟩
     ·exact hm
     ·cases e
    ·refine⟨some b,(fun b' e=>by cases e;exact⟨h1,h2⟩),h3.less fun b' o hm=> ?_,hes,fun _=> .inr ⟨b,cap,cur,jaa _ _ _,h4,h5,h6,h7,h8⟩⟩;rcases hmo _ b' o hm with hm | ⟨e,ho⟩
     ·exact .inl hm
     ·cases e;exact .inr ⟨rfl,ho⟩
   obtain⟨X,hX,hrep⟩:=key;have hsim:=hl.newOut (s:=s) (n:=es.length) hb (Nat.lt_of_lt_of_le (hd d hdst) hl.np) hX;rw[hdst];exact hK _ _ _ _ hKv (hsim.put (fun d' e'=>by cases e';exact hd d hdst) hrep)
 ·exact hA.elim
theorem aCall_sound(hG:G.Good)(h:Sim N w0 M0 β st a w){o:Oper}{c:Call}{f:Operand}{K:St->Prop}(ho:o.op= .call c)(hc:c.callee= .value f)(hd:∀d,o.dst=some d->d<N)
  (hA:aCall G K st o.dst f c.args.toList) {K':Act->World->Prop} {Q':Exit->Act->World->Prop} (hK:∀st' β' a' w',K st'->Sim N w0 M0 β' st' a' w'->K' a' w'):o.wp G.P a w K' Q':=by
 unfold aCall at hA;split at hA
 ·exact jg5 hG (h.frzOs _) ho hc hd hA hK
 ·exact jg5 hG h ho hc hd hA hK
theorem jdg(hG:G.Good)(h:Sim N w0 M0 β st a w){o:Oper}{K:St->Prop}(hd:∀d,o.dst=some d->d<N)(hA:aop G o K st){K':Act->World->Prop}{Q':Exit->Act->World->Prop}
  (hK:∀st' β' a' w',K st'->Sim N w0 M0 β' st' a' w'->K' a' w'):o.wp G.P a w K' Q':=by
 unfold aop at hA;split at hA
 ·
  rename_i t x ho;split at hA
  ·rename_i d y hdst hy;obtain⟨hone,hA⟩:=hA;have hl:=h.lendO x;have hr:=jd4 (jab hl x) hy;have hrow:=one_row hr hone;unfold Oper.wp execOp;rw[ho];simp only[Instr.box,newVar,newRow,Sem.run_bind,run_newObj,Result.andThen_ok,Sem.run_pure,World.alloc_eq,Oper.upon_value,hdst];split at hA
   ·exact hK _ _ _ _ (hA _ (hl.none_at (Nat.le_refl _)).1) (hl.newRowHPut (T:=t) (hd d hdst) (es:=[cellsOf y]) (fun e he=>by simp at he;rw[he]) hrow)
   ·exact hK _ _ _ _ hA (hl.newRowPut (T:=t) (hd d hdst) (es:=[cellsOf y]) (fun e he=>by simp at he;rw[he]) hrow)
  ·exact hA.elim
 ·
  rename_i t ho;split at hA
  ·rename_i d z hdst hz;obtain⟨zv,hzr,hz1,hz2,_,hzs⟩:=jco hG.ok hz w (Mo M0 β st);have hrow:∀(i:Nat) e (j:Nat) x,[z][i]? =some e->e[j]? =some x->x.one=true/\∃u,zv.cells[i*z.length+j]? =some u/\Rep w (Mo M0 β st) x u:=by
    intro i e j x hi hj;cases i with
    | succ i=>simp at hi
    | zero=>
     simp at hi;subst hi;have hlt:j<zv.cells.toList.length:=by rw[<-hz1.1];exact(List.getElem?_eq_some_iff.1 hj).1
     have hu:=List.getElem?_eq_getElem hlt;refine⟨hz2 x (List.mem_of_getElem? hj),_,?_,hz1.2 j x _ hj hu⟩;rw[Nat.zero_mul,Nat.zero_add,<-Array.getElem?_toList];exact hu
   unfold Oper.wp execOp;rw[ho];simp only[Instr.alloc,Sem.run_bind,hzr,Result.andThen_ok,newVar,newRow,run_newObj,Sem.run_pure,World.alloc_eq,Oper.upon_value,hdst];split at hA
   ·exact hK _ _ _ _ (hA _ (h.none_at (Nat.le_refl _)).1) (h.newRowHPut (T:=t) (hd d hdst) (es:=[z]) (fun e he=>by simp at he;rw[he]) hrow)
   ·exact hK _ _ _ _ hA (h.newRowPut (T:=t) (hd d hdst) (es:=[z]) (fun e he=>by simp at he;rw[he]) hrow)
  ·exact hA.elim
 ·
  rename_i t p x ho;unfold jhy at hA;split at hA
  ·rename_i y d s i j hy hp;split at hA
   ·rename_i s' es hrow;split at hA
    ·rename_i c hi;obtain⟨rfl,h0,hl,hone,hj,hA⟩:=hA;have hls:=h.lendO x;have hr:=ivE_rep (jab hls x) hy;have hpv:=(jab hls p).dp hls.perm;rw[hp]at hpv;obtain⟨w',hrun,hsim⟩:=jip hG.ok hls h0 hrow hi hl hone hj hpv hr;unfold Oper.wp execOp;rw[ho];simp only[Sem.run_bind,hrun,Result.andThen_ok,Sem.run_pure,Oper.upon_skip];exact hK _ _ _ _ hA (hsim.put hd (Rep.sc _ rfl))
    ·exact hA.elim
   ·exact hA.elim
  ·exact hA.elim
 ·
  rename_i t l c ho;unfold aMake at hA;split at hA
  ·rename_i d k n k' m hdst hl hc;split at hA
   ·rename_i e hk;split at hA
    ·rename_i z hz;obtain⟨h0,rfl,hn,hb,hb0,hA⟩:=hA;obtain⟨zv,hzr,hz1,hz2,h1,hzs⟩:=jco hG.ok hz w (Mo M0 β st);obtain⟨i,z',hi,hsz,hbt,hz',_⟩:=hG.ok.info h1;have hzz:zv=z':=by
      simp[zeroValue,typeInfo,hi,hz']at hzr;exact hzr.symm
     subst hzz;have hu:=hG.ok.sl h0 hk;have hlv:=jab h l;rw[hl]at hlv;have hcv:=jab h c;rw[hc]at hcv;have hb1:n<=140737488355328:=by
      have h2:n*1<=n*((G.ti e).bytes:Int):=Int.mul_le_mul_of_nonneg_left (by omega) hn;omega
     have hmk:=run_make (P:=G.P) w t e i zv hu hi hz' k k' n n hn (Int.le_refl _) (by rw[hbt,Int.mul_comm];omega) (by omega);have hzlen:z.length=(G.ti e).size:=by have:=hz1.1;simp at this;omega
     have hrow:∀(i':Nat) e' (j:Nat) x,(List.replicate n.toNat z)[i']? =some e'->e'[j]? =some x->x.one=true/\∃u,(madeCells zv.cells (n.toNat*i.size))[i'*(G.ti e).size+j]? =some u/\Rep w (Mo M0 β st) x u:=by
      intro i' e' j x hi' hj;rw[List.getElem?_replicate]at hi';split at hi'
      ·rename_i hlt;cases hi';have hjl:j<zv.cells.toList.length:=by rw[<-hz1.1];exact(List.getElem?_eq_some_iff.1 hj).1
       have hu:=List.getElem?_eq_getElem hjl;have hjs:j<(G.ti e).size:=by simp at hjl;omega
       refine⟨hz2 x (List.mem_of_getElem? hj),_,?_,hz1.2 j x _ hj hu⟩;have hin:i'*(G.ti e).size+j<n.toNat*(G.ti e).size:=by
        have:(i'+1)*(G.ti e).size<=n.toNat*(G.ti e).size:=Nat.mul_le_mul_right _ hlt;rw[Nat.add_mul]at this;omega
       have hmod:(i'*(G.ti e).size+j) % zv.cells.size=j:=by
        rw[hzs,Nat.mul_comm,Nat.mul_add_mod];exact Nat.mod_eq_of_lt hjs
       have hjz:j<zv.cells.size:=by simpa using hjl
       simp[madeCells,hsz,hin,hmod,hjz]
      ·cases hi'
     have this:=h.newArrPut (T:=e) (hd d hdst) (es:=List.replicate n.toNat z) (fun e' he=>by rw[List.eq_of_mem_replicate he];exact hzlen) (by simp[madeCells,hsz]) (by rw[List.length_replicate];unfold maxLen;omega) hrow;have thisH:=h.newArrHPut (T:=e) (n:=n.toNat) (cap:=n.toNat) (hd d hdst) (es:=List.replicate n.toNat z) (fun e' he=>by rw[List.eq_of_mem_replicate he];exact hzlen) (by simp[madeCells,hsz]) (Nat.le_refl _) (by unfold maxLen;omega) hrow;rw[List.length_replicate]at this hA;unfold Oper.wp execOp;rw[ho];simp only[Rep.sc_inv hlv,Rep.sc_inv hcv,Sem.run_bind,hmk,Result.andThen_ok,Sem.run_pure,Oper.upon_value,hdst];split at hA
     ·exact hK _ _ _ _ (hA _ (h.none_at (Nat.le_refl _)).1) thisH
     ·exact hK _ _ _ _ hA this
    ·exact hA.elim
   ·exact hA.elim
  ·exact hA.elim
 ·
  exact jef hG (h.lendOs _) hd hA hK
 ·
  rename_i op t x y u ho;unfold aBin at hA;split at hA
  ·have keyV:∀ad l c,a.eval x= .slice ad l c->(G.ti t).size≠0->isSl (G.ti t).kind=true->
     (op= .eql->(execOp a.eval o).run G.P w= .ok (.value (.bool ad.isNone)) w)/\(op= .neq->(execOp a.eval o).run G.P w= .ok (.value (.bool !ad.isNone)) w):=by
    intro ad l c hv h0 hk;unfold isSl at hk;split at hk
    ·rename_i e' hk';have hu:=hG.ok.sl h0 hk';have heq:∀d,(Op.equalIn (d+1) t (.slice ad l c) (.slice none 0 0)).run G.P w= .ok ad.isNone w:=by
      intro d;cases ad<;>simp[Op.equalIn,run_underlying hu]
     have heq':(Op.equal t (.slice ad l c) (.slice none 0 0)).run G.P w= .ok ad.isNone w:=heq _;constructor
     ·intro e;subst e;unfold execOp;rw[ho];dsimp only;have:a.eval (.const (.slice none 0 0))= .slice none 0 0:=rfl;rw[this,hv];simp[eqGuard,binOp,heq']
     ·intro e;subst e;unfold execOp;rw[ho];dsimp only;have:a.eval (.const (.slice none 0 0))= .slice none 0 0:=rfl;rw[this,hv];simp[eqGuard,binOp,heq']
    ·cases hk
   have key:∀es,jb5 (evO st x)=some es->(G.ti t).size≠0->isSl (G.ti t).kind=true->∃b:Bool,(b=true->es=[])/\
     (op= .eql->(execOp a.eval o).run G.P w= .ok (.value (.bool b)) w)/\(op= .neq->(execOp a.eval o).run G.P w= .ok (.value (.bool !b)) w):=by
    intro es hes h0 hk;obtain⟨ad,c,hv,_⟩:=(jb4 (jab h x) hes).sl_len;refine⟨ad.isNone,fun hn=> ?_,keyV _ _ _ hv h0 hk⟩;have hr:=jb4 (jab h x) hes;rw[hv]at hr;rcases hr.sl_inv with ⟨rfl,_⟩ | ⟨s',b,o',cap,u',hne,hs',hcap,h4,h5,he⟩
    ·rfl
    ·simp only[Value.slice.injEq]at he;rw[he.1]at hn;simp at hn
   unfold aNil at hA;split at hA
   ·rename_i hr;obtain⟨ad,l,c,hv⟩:∃ad l c,a.eval x= .slice (some ad) l c:=by
     have hx:=jab h x;unfold jkj at hr;split at hr
     ·rename_i hq;rw[hq]at hx;generalize a.eval x=sv at hx;cases hx with
      | ref b e s n cap cur h1 h2 h3 h4=>exact⟨_,_,_,rfl⟩
     ·rename_i hq;rw[hq]at hx;obtain⟨b,cap,cur,h1,h2,_⟩:=hx;exact⟨_,_,_,h2⟩
     ·cases hr
    split at hA
    ·obtain⟨h0,h1,hA⟩:=hA;unfold Oper.wp;rw[(keyV _ _ _ hv h0 h1).1 rfl];exact hK _ β _ _ hA (h.put hd (Rep.sc _ rfl))
    ·obtain⟨h0,h1,hA⟩:=hA;unfold Oper.wp;rw[(keyV _ _ _ hv h0 h1).2 rfl];exact hK _ β _ _ hA (h.put hd (Rep.sc _ rfl))
    ·exact hA.elim
   split at hA
   ·rename_i es hes;obtain⟨h0,h1,hA⟩:=hA;obtain⟨b,hb,hrun,_⟩:=key es hes h0 h1;unfold Oper.wp;rw[hrun rfl];exact hK _ β _ _ (hA b hb) (h.put hd (Rep.sc _ rfl))
   ·rename_i es hes;obtain⟨h0,h1,hA⟩:=hA;obtain⟨b,hb,_,hrun⟩:=key es hes h0 h1;unfold Oper.wp;rw[hrun rfl];exact hK _ β _ _ (hA b hb) (h.put hd (Rep.sc _ rfl))
   ·exact hA.elim
  ·exact jef hG h hd hA hK
 ·
  rename_i c ho;split at hA
  ·rename_i f hc;exact aCall_sound hG h ho hc hd hA hK
  ·rename_i b hc;split at hA
   ·
    unfold jh9 at hA;split at hA
    ·rename_i d t t' s x hdst hts has;split at hA
     ·rename_i e hk;split at hA
      ·rename_i b n es hsrc;split at hA
       case h_2=>exact hA.elim
       rename_i xs hxs;obtain⟨rfl,h0,h1,hby,hlx,hn,hbound,hA⟩:=hA;have hsv:=jab h s;have hxv:=jb4 (jab h x) hxs;have hkey:look st.rows (hp b)=some ((G.ti e).size,es)/\Rep w (Mo M0 β st) (.ref b e (G.ti e).size n) (a.eval s):=by
        unfold jep at hsrc;split at hsrc
        ·rename_i d' e' s' n' hes;split at hsrc
         ·rename_i s2 es2 hrow;split at hsrc
          ·rename_i hcc;obtain⟨rfl,rfl,rfl⟩:=hcc;cases hsrc;rw[hes]at hsv;exact⟨hrow,hsv⟩
          ·cases hsrc
         ·cases hsrc
        ·cases hsrc
       obtain⟨v',w',X,hrun,hX,hsim,hrep⟩:=appendH_run (ty:=o.type) hG.ok h h0 hk h1 hby hlx hkey.1 hn hbound hkey.2 hxv;have hat:c.argTypes= #[t,t]:=by apply Array.ext';simpa using hts
       have haa:c.args= #[s,x]:=by apply Array.ext';simpa using has
       unfold Oper.wp execOp;rw[ho];simp only[resolve,hc,hat,haa,invoke,builtin,Sem.run_bind,Sem.run_pure,Result.andThen_ok,List.map_toArray,List.map_cons,List.map_nil,hrun,Oper.upon_value,hdst];exact hK _ _ _ _ (hA X hX) (hsim.put (fun d' e'=>by cases e';exact hd d hdst) hrep)
      split at hA
      ·rename_i src n es hsrc;split at hA
       case h_2=>exact hA.elim
       rename_i xs hxs;obtain⟨rfl,h0,h1,hby,hlx,hn,hbound,hA⟩:=hA;have hsv:=jab h s;have hxv:=jb4 (jab h x) hxs;have hkey:look st.rows src=some ((G.ti e).size,es)/\RepA w (Mo M0 β st) β st.toks (.gsl src e (G.ti e).size n) (a.eval s):=by
        unfold jj8 at hsrc;split at hsrc
        ·rename_i d' e' s' n' hes;split at hsrc
         ·rename_i s2 es2 hrow;split at hsrc
          ·rename_i hcc;obtain⟨rfl,rfl,rfl⟩:=hcc;cases hsrc;rw[hes]at hsv;exact⟨hrow,hsv⟩
          ·cases hsrc
         ·cases hsrc
        ·cases hsrc
       obtain⟨v',w',β',hrun,hsim,hrep⟩:=appendG_run (ty:=o.type) (dst:=d) hG.ok h (hd d hdst) h0 hk h1 hby hlx hkey.1 hn hbound hkey.2 hxv;have hat:c.argTypes= #[t,t]:=by apply Array.ext';simpa using hts
       have haa:c.args= #[s,x]:=by apply Array.ext';simpa using has
       unfold Oper.wp execOp;rw[ho];simp only[resolve,hc,hat,haa,invoke,builtin,Sem.run_bind,Sem.run_pure,Result.andThen_ok,List.map_toArray,List.map_cons,List.map_nil,hrun,Oper.upon_value,hdst];exact hK _ _ _ _ hA (hsim.put (fun d' e'=>by cases e';exact hd d hdst) hrep)
      split at hA
      ·rename_i hown;split at hA
       case h_2=>exact hA.elim
       rename_i xs hxs;obtain⟨rfl,h0,h1,hby,hlx,hbound,hne,hA⟩:=hA;have hsv:=jab h s;have hxv:=jfb h h1 hxs hlx (jab h x) (jhq h hxs hlx);have hes:∃ad,a.eval s= .slice ad 0 0:=by
        obtain⟨_,he⟩:=hown;unfold isEmp at he;split at he
        ·rename_i hq;rw[hq]at hsv;exact hsv.2
        ·rename_i hq;rw[hq]at hsv;generalize a.eval s=sv at hsv;cases hsv with
         | emp ad=>exact⟨ad,rfl⟩
        ·cases he
       obtain⟨ad,hes⟩:=hes;obtain⟨⟨v',w',β',hrun,hsim⟩,v2,w2,hrun2,hsim2⟩:=appendO_run (ty:=o.type) hG.ok h (hd d hdst) h0 hk h1 hby hlx hbound hne hxv (ad:=ad);rw[hrun]at hrun2;cases hrun2;have hat:c.argTypes= #[t,t]:=by apply Array.ext';simpa using hts
       have haa:c.args= #[s,x]:=by apply Array.ext';simpa using has
       unfold Oper.wp execOp;rw[ho];simp only[resolve,hc,hat,haa,hes,invoke,builtin,Sem.run_bind,Sem.run_pure,Result.andThen_ok,List.map_toArray,List.map_cons,List.map_nil,hrun,Oper.upon_value,hdst];split at hA
       ·exact hK _ _ _ _ (hA _ (h.none_at (Nat.le_refl _)).1) hsim2
       ·exact hK _ _ _ _ hA hsim
      split at hA
      ·rename_i src es xs hsrc hxs;obtain⟨rfl,h0,h1,hby,hle,hlx,hbound,hA⟩:=hA;have hsv:=jab h s;have hxv:=jab h x;have hkey:Rep w (Mo M0 β st) (.sl es) (a.eval s)/\Spare w β st e src (G.ti e).size es.length (a.eval s)/\(src=d\/look st.rows src=none):=by
        unfold jkw at hsrc;split at hsrc
        ·rename_i es' hes;cases hsrc;rw[hes]at hsv;exact⟨hsv.1,.inl hsv.2,.inl rfl⟩
        ·rename_i d' e' s' es' hes;split at hsrc
         ·rename_i hcc;obtain⟨rfl,rfl,htok,hdd⟩:=hcc;cases hsrc;rw[hes]at hsv;refine⟨hsv.1,?_,hdd⟩;rcases hsv.2.2 htok with hh | hh
          ·exact .inl hh
          ·exact .inr ⟨htok,hh⟩
         ·cases hsrc
        ·cases hsrc
       have hxc:=jfb h h1 hxs hlx hxv (jhq h hxs hlx);obtain⟨v',w',β',hrun,hsim,hrep⟩:=append_run (ty:=o.type) hG.ok h h0 hk h1 hby hle hlx hbound hkey.1 hkey.2.1 hkey.2.2 (Nat.lt_of_lt_of_le (hd d hdst) h.np) hxc;have hat:c.argTypes= #[t,t]:=by apply Array.ext';simpa using hts
       have haa:c.args= #[s,x]:=by apply Array.ext';simpa using has
       unfold Oper.wp execOp;rw[ho];simp only[resolve,hc,hat,haa,invoke,builtin,Sem.run_bind,Sem.run_pure,Result.andThen_ok,List.map_toArray,List.map_cons,List.map_nil,hrun,Oper.upon_value,hdst];exact hK _ _ _ _ hA (hsim.put (fun d' e'=>by cases e';exact hd d hdst) hrep)
      ·exact hA.elim
     ·exact hA.elim
    ·exact hA.elim
   ·
    unfold aCopy at hA;split at hA
    ·rename_i t t2 x y hts has;split at hA
     ·rename_i b e s n xs e' hx hy hk;split at hA
      ·rename_i s' es hrow;obtain⟨h0,he,hs0,rfl,hxl,hlx,hA⟩:=hA;have hxv:=jab h x;rw[hx]at hxv;have hyv:=jab h y;rw[hy]at hyv;obtain⟨w',hrun,hsim⟩:=copyH_run (t2:=t2) (ty:=o.type) hG.ok h h0 hk he hs0 hrow hxl hlx hxv hyv;have hat:c.argTypes= #[t,t2]:=by apply Array.ext';simpa using hts
       have haa:c.args= #[x,y]:=by apply Array.ext';simpa using has
       unfold Oper.wp execOp;rw[ho];simp only[resolve,hc,hat,haa,invoke,builtin,Sem.run_bind,Sem.run_pure,Result.andThen_ok,List.map_toArray,List.map_cons,List.map_nil,hrun,Oper.upon_value];exact hK _ _ _ _ hA (hsim.put hd (Rep.sc _ rfl))
      ·exact hA.elim
     ·exact hA.elim
    ·exact hA.elim
   ·exact jef hG h hd hA hK
  ·exact hA.elim
 ·
  rename_i t ho;unfold jgg at hA;split at hA
  ·rename_i d kt e hdst hk;split at hA
   ·rename_i n hn;obtain⟨h0,hA⟩:=hA;have hs:=h.newMap (d:=d) (sc:=(n,intK G e)) (hd d hdst);unfold Oper.wp execOp;rw[ho];simp only[Option.map_none,Instr.makeMap,Sem.run_bind,run_newObj,Result.andThen_ok,Sem.run_pure,World.alloc_eq,Oper.upon_value,hdst];exact hK _ _ _ _ hA hs
   ·exact hA.elim
  ·exact hA.elim
 ·
  rename_i t m k x ho;unfold jjk at hA;split at hA
  ·rename_i d sc kvs ks b vs hm hk hx;split at hA
   ·rename_i kt e hkd;obtain⟨h0,ht,hn,hsc,hA⟩:=hA;have hmv:=jab h m;rw[hm]at hmv;have hkv:=jie hk (jab h k);have hxv:=valI_rep hx (jab h x);obtain⟨bl,hb,hme,hcont⟩:=hmv;obtain⟨es,c,hblk,he,hbn⟩:=hcont ht;have hu:=hG.ok.mp h0 hkd;rw[ji9]at hn hsc;have hb2:sc.2=b:=by rw[hsc]
    obtain⟨es',c',hrun,he',hbn'⟩:=mapUpdate_run (w:=w) hG.ok hu hn rfl (by rw[hsc]) hblk he hbn (vs:=vs);rw[hb2]at hrun;have hs:=h.setMap ht hb hblk he' hbn';unfold Oper.wp execOp;rw[ho];simp only[hme,hkv,hxv,Sem.run_bind,hrun,Result.andThen_ok,Sem.run_pure,Oper.upon_skip];exact hK _ _ _ _ hA (hs.put hd (Rep.sc _ rfl))
   ·exact hA.elim
  ·exact hA.elim
 ·exact jef hG h hd hA hK
