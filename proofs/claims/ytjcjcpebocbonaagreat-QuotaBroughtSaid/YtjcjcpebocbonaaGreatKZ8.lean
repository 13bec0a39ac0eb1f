/- A part of the proof. No further condition. -/
import Derived.Test.YtjcjcpebocbonaaGreatKZ7
set_option linter.all false
set_option maxRecDepth 10000000
set_option maxHeartbeats 16000000
namespace Go.Abs
section
open Go.RowKit (Below)
def spCall(G:Ctx)(fv:AV)(args:List AV)(R:Rows)(T:AV->Rows->Prop):Prop:=
 ∃g caps,fv= .im (.clo g caps)/\(3<=g/\g<G.fns)/\∃L φ,(∀k x,look L k=some x->∃b,k=hp b)/\(∀k x,look L k=some x->look R k=some x)/\CtrH G.P g ((args++caps.map AV.im).map AV.toH) L φ/\
  ∀r L',φ r L'->(∀k,(look L' k).isSome->(look L k).isSome\/look R k=none)->∃R',(∀k x,look R' k=some x->look L' k=some x\/(look L k=none/\look R k=some x))/\T r R'
def spApp(G:Ctx)(d:Nat)(t e:TypeId)(sv:AV)(xo:Option (List (List IV)))(R:Rows)(T:AV->Rows->Prop):Prop:=
 ∃xs,xo=some xs/\(G.ti t).size≠0/\(G.ti e).size≠0/\(G.ti e).bytes≠0/\(∀c∈xs,c.length=(G.ti e).size)/\
  ((∃b n es,sv= .im (.ref b e (G.ti e).size n)/\look R (hp b)=some ((G.ti e).size,es)/\n<=es.length/\(n+xs.length)*(G.ti e).bytes<=140737488355328/\
    ∀X,look (del R (hp b)) (hp X)=none->T (.im (.ref X e (G.ti e).size (n+xs.length))) ((hp X,(G.ti e).size,es.take n++xs)::del R (hp b)))\/
   (isEmp sv=true/\G.perm.contains d=true/\xs≠[]/\xs.length*(G.ti e).bytes<=140737488355328/\
    ∀b,look R (hp b)=none->T (.im (.ref b e (G.ti e).size xs.length)) ((hp b,(G.ti e).size,xs)::R))\/
   (isEmp sv=true/\xs=[]/\T sv R))
def sp(G:Ctx)(st:St)(o:Oper)(T:AV->Rows->Prop):Prop:=
 match o.op with
 | .call c=>match c.callee with
  | .value f=>spCall G (evO st f) (c.args.toList.map (evO st)) st.rows T
  | .builtin b=>match b with
   | .append=>match o.dst,c.argTypes.toList,c.args.toList with
    | some d,[t,t'],[s,x]=>match(G.ti t).kind with
     | .sl e=>t=t'/\spApp G d t e (evO st s) (jd0 (evO st x)) st.rows T
     | _=>False
    | _,_,_=>False
   | _=>False
  | _=>False
 | _=>False
def jgb(G:Ctx)(ops:List Oper)(F:St->Prop):List Bool->List Oper->St->Prop
 | [],_,st=>F st
 | _::_,[],_=>False
 | true::m,_::r,st=>jgb G ops F m r st
 | false::m,o::r,st=>match o.guard with
  | none=>aq G st o fun av=>jgb G ops F m r (st.put o.dst av)
  | some (j,want)=>match jcx st ops j with
   | some (some b)=>(b=want->aq G st o fun av=>jgb G ops F m r (st.put o.dst av))/\(b≠want->jgb G ops F m r (st.put o.dst jcc))
   | some none=>jgb G ops F m r (st.put o.dst jcc)
   | none=>False
def hd(m:List Bool)(i:Nat):Bool:= !(m.getD i false)
section
variable{G:Ctx}{N:Nat}{w0:Base}{w w':World}{M0:Nat->Nat->Prop}{β:Nat->Option Nat}{st st':St}{a:Act}{ops:List Oper}
theorem sp_congr{o:Oper}{T:AV->Rows->Prop}(h:∀t∈o.looksAt ops.toArray,st.get t=st'.get t)(hr:st.rows=st'.rows)(hs:sp G st o T):sp G st' o T:=by
 have hx:∀x∈o.op.operands,evO st x=evO st' x:=fun x hx=>jds fun t ht=>h t (jbt hx ht);unfold sp at hs⊢;cases ho:o.op with
 | call c=>
  rw[ho]at hs hx;dsimp only at hs⊢;have hm:c.args.toList.map (evO st)=c.args.toList.map (evO st'):=qV fun x a6=>hx x (by simp[Op.operands,Call.operands,yF.1 a6]);cases hc:c.callee with
  | value f=>
   rw[hc]at hs;dsimp only at hs⊢;rw[<-hm,<-hr,<-hx f (by simp[Op.operands,Call.operands,hc])];exact hs
  | builtin b=>
   rw[hc]at hs;dsimp only at hs⊢;cases b with
   | append=>
    dsimp only at hs⊢;split at hs
    ·rename_i d t t' s x h1 h2 h3;have a1:∀y,y=s\/y=x->evO st y=evO st' y:=fun y hy=>hx y (by
      have:y∈c.args.toList:=by rw[h3];rcases hy with rfl | rfl<;>simp
      simp[Op.operands,Call.operands,yF.1 this])
     rw[<-a1 s (.inl rfl),<-a1 x (.inr rfl),<-hr];exact hs
    ·exact hs.elim
   | _=>exact hs.elim
  | _=>rw[hc]at hs;exact hs.elim
 | _=>rw[ho]at hs;exact hs.elim
theorem sp_sound(hG:G.Good)(h:Sim N w0 M0 β st a w){o:Oper}{T:AV->Rows->Prop}(hd:∀d,o.dst=some d->d<N)(hA:sp G st o T){K':Act->World->Prop}{Q':Exit->Act->World->Prop}
  (hK:∀av R' β' a' w',T av R'->Sim N w0 M0 β' ((⟨st.fr,R',st.toks⟩:St).put o.dst av) a' w'->K' a' w'):o.wp G.P a w K' Q':=by
 unfold sp at hA;cases ho:o.op with
 | call c=>
  rw[ho]at hA;dsimp only at hA;cases hc:c.callee with
  | value f=>
   rw[hc]at hA;dsimp only at hA;obtain⟨g,caps,hf,hg,L,φ,h1,h2,h3,h4⟩:=hA;refine jhi (K:=fun st'=>∃av R',st'=(⟨st.fr,R',st.toks⟩:St).put o.dst av/\T av R') hG h ho hc hd hf hg ⟨L,φ,⟨h1,h2⟩,h3,fun r L' hφ b7=> ?_⟩ ?_
   ·obtain⟨R',h5,h6⟩:=h4 r L' hφ b7;exact⟨R',h5,r,R',rfl,h6⟩
   ·rintro st' β' a' w' ⟨av,R',rfl,hT⟩ hs;exact hK av R' β' a' w' hT hs
  | builtin b=>
   rw[hc]at hA;dsimp only at hA;cases b with
   | append=>
    dsimp only at hA;split at hA
    ·rename_i d t t' s x h1 h2 h3;split at hA
     ·rename_i e hk;obtain⟨rfl,xs,a7,z1,z2,z3,z4,b0⟩:=hA;by_cases b5:isEmp (evO st s)=true/\xs=[]/\T (evO st s) st.rows
      ·obtain⟨he,rfl,hT⟩:=b5;have a6:=jb6 h s;have hv:∃a',a.eval s= .slice a' 0 0:=by
        generalize evO st s=v at he a6;generalize a.eval s=u at a6;unfold isEmp at he;split at he
        ·exact a6.2
        ·cases a6 with | emp a'=>exact⟨a',rfl⟩
        ·cases he
       obtain⟨a',hv⟩:=hv;have b6:=jcy (jb6 h x) a7;have a8:∃xa xc,a.eval x= .slice xa 0 xc:=by
        rcases b6.sl_inv with ⟨_,xa,xc,e⟩ | ⟨_,_,_,_,_,b1,_⟩
        ·exact⟨xa,xc,e⟩
        ·exact absurd rfl b1
       obtain⟨xa,xc,a8⟩:=a8;have hu:=hG.ok.sl z1 hk;obtain⟨i,z,hi,c3,c4,hz,_,c0⟩:=hG.ok.info z2;have b8:c.argTypes= #[t,t]:=by apply yO;simpa using h2
       have b9:c.args= #[s,x]:=by apply yO;simpa using h3
       have b2:(Builtin.append_ #[t,t] o.type #[.slice a' 0 0,.slice xa 0 xc]).run G.P w= .ok (.slice a' 0 0) w:=by
        cases a'<;>cases xa<;>simp[Builtin.append_,run_underlying hu,sizeOf,typeInfo,hi,Builtin.lenOf,Builtin.firstCells,loadCells,loadCellsFrom,storeCells]
       unfold Oper.wp execOp;rw[ho];simp only[resolve,hc,b8,b9,invoke,builtin,Sem.run_bind,Sem.run_pure,Result.andThen_ok,jF,zt,zF,hv,a8,b2,Oper.upon_value];refine hK (evO st s) st.rows β _ w hT ?_;rw[hv]at a6;exact h.put (dst:=o.dst) hd a6
      have b0:=Or.imp id (fun hh=>Or.resolve_right hh b5) b0;have b4:aop G o (fun st'=>∃av R',st'=(⟨st.fr,R',st.toks⟩:St).put o.dst av/\T av R') st:=by
       unfold aop;rw[ho];dsimp only;rw[hc];dsimp only;unfold jmj;rw[h1,h2,h3];dsimp only;rw[hk];dsimp only;rcases b0 with ⟨b,n,es,a1,hl,z5,z6,hT⟩ | ⟨a1,hp,b1,z6,hT⟩
       ·have hg:jif st e (G.ti e).size (evO st s)=some (b,n,es):=by
         unfold jif;rw[a1];dsimp only;rw[hl];simp
        rw[hg];dsimp only;rw[a7];exact⟨rfl,z1,z2,z3,z4,z5,z6,fun X hX=>⟨_,_,rfl,hT X hX⟩⟩
       ·have b3:evO st s= .sx []\/evO st s= .im .emp:=by
         generalize evO st s=v at a1;unfold isEmp at a1;split at a1
         ·exact .inl rfl
         ·exact .inr rfl
         ·cases a1
        have hg:jif st e (G.ti e).size (evO st s)=none:=by rcases b3 with h | h<;>rw[h]<;>rfl
        have he:isEmp (evO st s)=true:=a1;rw[hg];dsimp only;rw[zh ⟨hp,he⟩,elemsOf_of a7];exact⟨rfl,z1,z2,z3,z4,z6,b1,fun X hX=>⟨_,_,rfl,hT X hX⟩⟩
      refine jeo hG h hd b4 ?_;rintro st' β' a' w' ⟨av,R',rfl,hT⟩ hs;exact hK av R' β' a' w' hT hs
     ·exact hA.elim
    ·exact hA.elim
   | _=>exact hA.elim
  | _=>rw[hc]at hA;exact hA.elim
 | _=>rw[ho]at hA;exact hA.elim
theorem jjv{F:St->Prop}:∀(m:List Bool) (l:List Oper) (st:St),m.length<=l.length->jgb G ops F m l st->
  ∃res:Nat->AV,(∀i o,i<m.length->m.getD i false=false->l[i]? =some o->qStep G ops (stUp res (fun k=>hd m k&&decide (k<i)) l st) o (res i))/\F (stUp res (hd m) (l.take m.length) st)
 | [],l,st,_,h=>⟨fun _=> .und,fun i o hi=>absurd hi (by simp),h⟩
 | b::m,[],st,hl,_=>absurd hl (by simp)
 | true::m,o::l,st,hl,h=>by
  obtain⟨res,h3,h4⟩:=jjv m l st (by simpa using hl) h;refine⟨fun i=>match i with | 0=> .und | i+1=>res i,fun i o' hi hm ho=> ?_,h4⟩;cases i with
  | zero=>simp at hm
  | succ i=>
   have:=h3 i o' (by simpa using hi) (by simpa using hm) (by simpa using ho);rw[show(fun k=>hd m k&&decide (k<i))=fun k=>hd (true::m) (k+1)&&decide (k+1<i+1)by funext k;simp[hd]]at this;exact this
 | false::m,o::l,st,hl,h=>by
  have key:∃av,qStep G ops st o av/\jgb G ops F m l (st.put o.dst av):=by
   unfold jgb at h;unfold qStep;cases hg:o.guard with
   | none=>
    rw[hg]at h;obtain⟨av,h1,h2⟩:=jfv h;exact⟨av,h1,h2⟩
   | some p=>
    obtain⟨j,want⟩:=p;rw[hg]at h;dsimp only at h⊢;cases hy:jcx st ops j with
    | none=>rw[hy]at h;exact h.elim
    | some x=>
     rw[hy]at h;cases x with
     | none=>exact⟨jcc,rfl,h⟩
     | some b=>
      dsimp only at h⊢;by_cases hb:b=want
      ·obtain⟨av,h1,h2⟩:=jfv (h.1 hb);exact⟨av,by rw[zh hb];exact h1,h2⟩
      ·exact⟨jcc,by rw[zl hb],h.2 hb⟩
  obtain⟨av,h1,h2⟩:=key;obtain⟨res,h3,h4⟩:=jjv m l _ (by simpa using hl) h2;refine⟨fun i=>match i with | 0=>av | i+1=>res i,fun i o' hi hm ho=> ?_,h4⟩
  ·cases i with
   | zero=>
    simp at ho;subst ho;have hf:∀(l:List Oper) (res:Nat->AV) (L:Nat->Bool) (st:St),(∀i,L i=false)->stUp res L l st=st:=by
     intro l
     induction l with
     | nil=>intros;rfl
     | cons o l ih=>
      intro res L st hL;simp only[stUp,hL 0];exact ih _ _ _ fun i=>hL (i+1)
    rw[hf _ _ _ _ (fun i=>by simp)];exact h1
   | succ i=>
    have:=h3 i o' (by simpa using hi) (by simpa using hm) (by simpa using ho);rw[show(fun k=>hd m k&&decide (k<i))=fun k=>hd (false::m) (k+1)&&decide (k+1<i+1)by funext k;simp[hd]]at this;exact this
theorem jio{t:Nat}:∀(l:List Oper) (res a1:Nat->AV) (L L':Nat->Bool) (st st':St),st.get t=st'.get t->(∀i o,l[i]? =some o->o.dst=some t->L i=L' i/\(L i=true->res i=a1 i))->
  (stUp res L l st).get t=(stUp a1 L' l st').get t
 | [],_,_,_,_,_,_,h,_=>h
 | o::l,res,a1,L,L',st,st',h,hL=>by
  simp only[stUp];refine jio l _ _ _ _ _ _ ?_ (fun i o' hi ho=>hL (i+1) o' (by simpa using hi) ho);by_cases hd:o.dst=some t
  ·obtain⟨h1,h2⟩:=hL 0 o rfl hd;rw[<-h1];split
   ·rename_i h3;rw[hd,jby,jby];exact h2 h3
   ·exact h
  ·have:∀(s:St) (b:Bool) (x:AV),(if b=true then s.put o.dst x else s).get t=s.get t:=fun s b x=>by
    split
    ·exact jdl hd
    ·rfl
   rw[this,this];exact h
end
end
section
open Go.RowKit (Below)
def St.keep(st:St)(L R:List Nat):St:=
 ⟨L.map fun t=>(t,st.get t),st.rows.filter fun p=>R.contains p.1,st.toks.filter fun p=>R.contains p.1⟩
def St.Le(s s':St):Prop:=∀(N:Nat) (w0:Base) (M0:Nat->Nat->Prop) (β:Nat->Option Nat) (a:Act) (w:World),Sim N w0 M0 β s a w->∃β',Sim N w0 M0 β' s' a w
theorem St.Le.refl(s:St):St.Le s s:=fun _ _ _ β _ _ h=>⟨β,h⟩
theorem St.Le.trans{s s' a1:St}(h:St.Le s s')(h':St.Le s' a1):St.Le s a1:=fun N w0 M0 β a w hs=>let⟨β',h1⟩:=h N w0 M0 β a w hs;h' N w0 M0 β' a w h1
def RegSem(G:Ctx)(ops:List Oper)(K:St->Prop)(st:St):Prop:=
 ∀(N:Nat) (w0:Base) (M0:Nat->Nat->Prop) (β:Nat->Option Nat) (a:Act) (w:World) (id:Nat) (Q':Exit->Act->World->Prop),G.Good->(∀o∈ops,∀d,o.dst=some d->d<N)->
  (∀st' β' a' w',K st'->Sim N w0 M0 β' st' a' w'->Q' .normal a' w')->Sim N w0 M0 β st a w->(Code.region id ops.toArray true).wp G.P Q' a w
def awp(G:Ctx):Code->(Exit->St->Prop)->St->Prop
 | .skip,Q,st=>Q .normal st
 | .seq x y,Q,st=>awp G x (fun e s=>match e with | .normal=>awp G y Q s | e=>Q e s) st
 | .cond c x y,Q,st=>match evO st c with
  | .im (.sc (.bool t))=>(t=true->awp G x Q st)/\(t=false->awp G y Q st)
  | _=>False
 | .block id c,Q,st=>awp G c (fun e s=>match e with | .exit k=>if k=id then Q .normal s else Q (.exit k) s | e=>Q e s) st
 | .loop c,Q,st=>∃(I:Nat->St->Prop) (n:Nat),(∃s0,St.Le st s0/\I n s0)/\
   ∀n s,I n s->awp G c (fun e s'=>match e with | .normal=>∃n',n'<n/\∃s1,St.Le s' s1/\I n' s1 | e=>Q e s') s
 | .exit id,Q,st=>Q (.exit id) st
 | .ret,Q,st=>Q .ret st
 | .region _ ops draw,Q,st=>
  if draw=true then RegSem G ops.toList (Q .normal) st
  else alist G ops.toList (Q .normal) ops.toList st
 | _,_,_=>False
def dstsB(N:Nat)(ops:List Oper):Bool:=ops.all fun o=>match o.dst with
 | some d=>decide (d<N)
 | none=>true
def dstB(N:Nat):Code->Bool
 | .region _ ops _=>dstsB N ops.toList
 | .seq x y=>dstB N x&&dstB N y
 | .cond _ x y=>dstB N x&&dstB N y
 | .block _ c=>dstB N c
 | .loop c=>dstB N c
 | _=>true
def jne:Nat->List IV->List (Nat×AV)
 | _,[]=>[]
 | k,x::xs=>(k,.im x)::jne (k+1) xs
def jci(args:List IV):St:=⟨jne 0 args,[],[]⟩
def resIV(G:Ctx)(st:St):ResultVar->Option IV
 | .tmp t=>ivOf (st.get t)
 | .cell p ty=>match yLoad G st ty (st.get p)with
  | some (.im x)=>some x
  | _=>none
def resL(G:Ctx)(st:St):List ResultVar->Option (List IV)
 | []=>some []
 | r::rs=>match resIV G st r,resL G st rs with
  | some x,some xs=>some (x::xs)
  | _,_=>none
def lendR(st:St):List ResultVar->St
 | []=>st
 | .tmp t::rs=>lendR (st.lendO (.tmp t)) rs
 | .cell _ _::rs=>lendR st rs
def aRet(G:Ctx)(rs:List ResultVar)(φ:IV->Prop)(st:St):Prop:=
 match resL G (lendR st rs) rs with
 | some [x]=>φ x
 | some xs=>φ (.tup xs)
 | none=>False
section
variable{G:Ctx}{N:Nat}{w0:Base}{w w':World}{M0:Nat->Nat->Prop}{β:Nat->Option Nat}{st st':St}{a:Act}
theorem jlm{α:Type}(l:List (Nat×α))(R:List Nat)(d:Nat):look (l.filter fun p=>R.contains p.1) d=if R.contains d=true then look l d else none:=by
 induction l with
 | nil=>simp[look]
 | cons p l ih=>
  obtain⟨j,v⟩:=p;by_cases hj:R.contains j=true
  ·rw[jR (by simpa using hj)];by_cases hd:d=j
   ·subst hd;simp only[look,qA];rw[zh hj]
   ·simp only[look,hd,qp,ih]
  ·rw[jS (by simpa using hj),ih];by_cases hd:d=j
   ·subst hd;rw[zl hj,zl hj]
   ·simp only[look,hd,qp]
theorem jt1(st:St)(L R:List Nat)(t:Nat):(st.keep L R).get t=if t∈L then st.get t else .und:=by
 simp only[St.get,St.keep]
 induction L with
 | nil=>simp[look]
 | cons x L ih=>
  by_cases h:t=x
  ·subst h;simp[look]
  ·simp only[zt,look,h,qp,zL,false_or];exact ih
theorem Sim.keep(h:Sim N w0 M0 β st a w)(L R:List Nat):Sim N w0 M0 β (st.keep L R) a w:=by
 have a7:∀d x,look (st.keep L R).rows d=some x->look st.rows d=some x:=fun d x hx=>by
  simp only[St.keep,jlm]at hx;split at hx
  ·exact hx
  ·cases hx
 have a6:∀d x,look (st.keep L R).toks d=some x->look st.toks d=some x:=fun d x hx=>by
  simp only[St.keep,jlm]at hx;split at hx
  ·exact hx
  ·cases hx
 have hM:∀b o,Mo M0 β (st.keep L R) b o->Mo M0 β st b o:=by
  rintro b o (hm | ⟨d,s,es,hd,hb⟩ | ⟨d,s,n,hd,hb⟩)
  ·exact .inl hm
  ·exact .inr (.inl ⟨d,s,es,a7 _ _ hd,hb⟩)
  ·exact .inr (.inr ⟨d,s,n,a6 _ _ hd,hb⟩)
 have a1:∀{α:Type} {o o':Option α},(∀x,o=some x->o'=some x)->o.isSome->o'.isSome:=fun h ho=>by
  obtain⟨x,hx⟩:=zD.1 ho;rw[h x hx];rfl
 refine⟨h.size,h.defers,h.below,h.m0,fun t=> ?_,fun d s es hd=> ?_,fun d s n hd=>h.toks d s n (a6 _ _ hd),fun d d' b h1 h2=> ?_,fun d hd=> ?_,fun k hN a8 hk=> ?_,h.np,h.perm⟩
 case refine_5=>
  obtain⟨x,hx⟩:=zD.1 hk;exact h.nam k hN a8 (by rw[a7 k x hx];rfl)
 ·rw[jt1];split
  ·exact(h.fr t).move (Kept.less w hM) (fun _ _=>rfl) (fun d s n _ hl=>a6 _ _ hl) (fun _ _ _ _ _=>rfl) (Shp.refl _)
  ·trivial
 ·obtain⟨b,h1,h2,h3⟩:=h.rows d s es (a7 _ _ hd);exact⟨b,h1,h2,h3.move (Kept.less w hM) rfl⟩
 ·exact h.inj d d' b (h1.imp (a1 (a7 d)) (a1 (a6 d))) (h2.imp (a1 (a7 d')) (a1 (a6 d')))
 ·have:=h.excl d (a1 (a7 d) hd);cases hl:look (st.keep L R).toks d with
  | none=>rfl
  | some x=>rw[a6 d x hl]at this;cases this
def liftQ(N:Nat)(w0:Base)(M0:Nat->Nat->Prop)(Q:Exit->St->Prop)(e:Exit)(a:Act)(w:World):Prop:=∃β st,Q e st/\Sim N w0 M0 β st a w
theorem dsts_of{ops:List Oper}(h:dstsB N ops=true):∀o∈ops,∀d,o.dst=some d->d<N:=fun o ho d hd=>by
 have:=List.all_eq_true.1 h o ho;rw[hd]at this
 simpa using this
theorem jhg(hG:G.Good):∀(c:Code) (Q:Exit->St->Prop) (st:St) (β:Nat->Option Nat) (a:Act) (w:World),dstB N c=true->awp G c Q st->Sim N w0 M0 β st a w->
  c.wp G.P (liftQ N w0 M0 Q) a w:=by
 intro c
 induction c with
 | skip=>intro Q st β a w _ hA h;exact wp_skip ⟨β,st,hA,h⟩
 | region id ops draw=>
  intro Q st β a w hd hA h;have a7:=dsts_of hd;unfold awp at hA;cases draw with
  | true=>
   have:=hA N w0 M0 β a w id (liftQ N w0 M0 Q) hG a7 (fun st' β' a' w' hk hs=>⟨β',st',hk,hs⟩) h
   simpa using this
  | false=>
   have:=jfi (ops:=ops.toList) (K:=Q .normal) (Q':=liftQ N w0 M0 Q) hG (fun st' β' a' w' hk hs=>⟨β',st',hk,hs⟩) ops.toList st β a w a7 (by simpa using hA) h;exact wp_region_list (by simpa using this)
 | seq x y ihx ihy=>
  intro Q st β a w hd hA h;simp only[dstB,zn]at hd;refine wp_seq (wp_mono (ihx _ st β a w hd.1 hA h) fun e a' w' hq=> ?_);obtain⟨β',st',hq,hs⟩:=hq;cases e with
  | normal=>exact ihy Q st' β' a' w' hd.2 hq hs
  | _=>exact⟨β',st',hq,hs⟩
 | cond c x y ihx ihy=>
  intro Q st β a w hd hA h;simp only[dstB,zn]at hd;unfold awp at hA;split at hA
  ·rename_i t ht;have hv:=jb6 h c;rw[ht]at hv;have hc:=Rep.sc_inv hv;exact wp_cond_split hc (fun e=>ihx Q st β a w hd.1 (hA.1 e) h) (fun e=>ihy Q st β a w hd.2 (hA.2 e) h)
  ·exact hA.elim
 | block id c ih=>
  intro Q st β a w hd hA h;refine wp_block (wp_mono (ih _ st β a w hd hA h) fun e a' w' hq=> ?_);obtain⟨β',st',hq,hs⟩:=hq;cases e with
  | exit k=>
   dsimp only at hq;show(if k=id then liftQ N w0 M0 Q .normal a' w' else liftQ N w0 M0 Q (.exit k) a' w');by_cases hk:k=id
   ·rw[zh hk]at hq⊢;exact⟨β',st',hq,hs⟩
   ·rw[zl hk]at hq⊢;exact⟨β',st',hq,hs⟩
  | _=>exact⟨β',st',hq,hs⟩
 | loop c ih=>
  intro Q st β a w hd hA h;obtain⟨I,n,⟨s0,hle,h0⟩,a1⟩:=hA;obtain⟨β0,a8⟩:=hle N w0 M0 β a w h;refine wp_loop_ghost (fun n a w=>∃β s,I n s/\Sim N w0 M0 β s a w) n ⟨β0,_,h0,a8⟩ fun n a w ⟨β,s,hI,hs⟩=> ?_;refine wp_mono (ih _ s β a w hd (a1 n s hI) hs) fun e a' w' hq=> ?_;obtain⟨β',st',hq,a6⟩:=hq;cases e with
  | normal=>
   obtain⟨n',b0,s1,hle,b1⟩:=hq;obtain⟨β1,hs1⟩:=hle N w0 M0 β' a' w' a6;exact⟨n',b0,β1,_,b1,hs1⟩
  | _=>exact⟨β',st',hq,a6⟩
 | exit id=>intro Q st β a w _ hA h;exact wp_exit ⟨β,st,hA,h⟩
 | ret=>intro Q st β a w _ hA h;exact wp_ret ⟨β,st,hA,h⟩
 | rangeFunc f ps x y _ _=>intro Q st β a w _ hA h;exact hA.elim
 | scope c _=>intro Q st β a w _ hA h;exact hA.elim
 | label l=>intro Q st β a w _ hA h;exact hA.elim
 | goto l=>intro Q st β a w _ hA h;exact hA.elim
 | refuse s=>intro Q st β a w _ hA h;exact hA.elim
theorem Sim.lendR(h:Sim N w0 M0 β st a w)(rs:List ResultVar):Sim N w0 M0 β (lendR st rs) a w:=by
 induction rs generalizing st with
 | nil=>exact h
 | cons r rs ih=>
  cases r with
  | tmp t=>exact ih (h.lendO _)
  | cell p ty=>exact ih h
def resF(tmps:Array Value):ResultVar->Sem Value
 | .tmp t=>pure (tmps.getD t undef)
 | .cell p t=>do loadVar t (<-asAddr (tmps.getD p undef))
theorem jhr(fn:Func)(tmps:Array Value):results fn tmps=(do let vs<-fn.results.mapM (resF tmps);pure (if h:vs.size=1 then vs[0]else .tuple vs):Sem Value):=rfl
theorem jis(hG:G.Good)(h:Sim N w0 M0 β st a w):∀{rs:List ResultVar} {xs:List IV},resL G st rs=some xs->
  ∃vs,(rs.mapM (resF a.tmps)).run G.P w= .ok vs w/\RepL w (Mo M0 β st) xs vs
 | [],xs,hx=>by cases hx;exact⟨[],rfl,RepL.nil⟩
 | r::rs,xs,hx=>by
  unfold resL at hx;split at hx
  ·rename_i y ys hy a7;cases hx;obtain⟨vs,h1,h2⟩:=jis hG h a7;have key:∃v,(resF a.tmps r).run G.P w= .ok v w/\Rep w (Mo M0 β st) y v:=by
    cases r with
    | tmp t=>exact⟨_,rfl,jfk (h.fr t) hy⟩
    | cell p ty=>
     simp only[resIV]at hy;split at hy
     ·rename_i x hl;cases hy;obtain⟨v,h3,h4⟩:=jpi hG.ok h (h.fr p) hl;have hp:=(h.fr p).dp h.perm;refine⟨v,?_,h4⟩;have a1:∃ad,a.tmps.getD p undef= .pointer (some ad):=by
       unfold yLoad at hl;split at hl
       ·cases hl
       ·split at hl
        ·rename_i c j he;rw[he]at hp;obtain⟨b,o,u,e,_⟩:=jsw hp;exact⟨_,e⟩
        ·rename_i d s i j he;rw[he]at hp;obtain⟨b,_,e⟩:=hp;exact⟨_,e⟩
        ·cases hl
      obtain⟨ad,a6⟩:=a1;rw[a6]at h3;simp only[resF,a6]
      simpa [Instr.loadAt,Instr.sureAddr,asAddr]using h3
     ·cases hy
   obtain⟨v,h5,h6⟩:=key;refine⟨v::vs,?_,RepL.cons h6 h2⟩;rw[List.mapM_cons,Sem.run_bind,h5,Result.andThen_ok,Sem.run_bind,h1,Result.andThen_ok];rfl
  ·cases hx
theorem jng(args:List IV)(k t:Nat):(look (jne k args) t).getD .und=if k<=t then(match args[t-k]? with | some x=> .im x | none=> .und)else .und:=by
 induction args generalizing k with
 | nil=>simp[jne,look]
 | cons x xs ih=>
  simp only[jne,look];by_cases h:t=k
  ·subst h;simp
  ·rw[zl h,ih];by_cases hk:k<=t
   ·rw[zh hk,iPo];have:t-k=(t-(k+1))+1:=by omega
    rw[this];simp
   ·rw[zl hk,iNo]
def dstC(N:Nat)(c:Code):Bool:=Nat.ble N 100000&&dstB N c
theorem joy{N:Nat}{c:Code}(h:dstC N c=true):N<=100000/\dstB N c=true:=by
 rw[dstC,zn]at h;exact⟨ye h.1,h.2⟩
theorem Sim.init{N:Nat}(hN:N<=100000){w:World}{M:Nat->Nat->Prop}{vs:List Value}{args:List IV}(hM:∀b o,M b o->b<w.heap.size)(hr:RepL w M args vs)(hn:args.length<=N):
  Sim N (Base.of w) M pβ (jci args) {tmps:=vs.toArray++Array.replicate (N-vs.toArray.size) undef,defers:=[]} w:=by
 have hl:vs.length=args.length:=hr.1.symm;have a6:∀β b o,Mo M β (jci args) b o->M b o:=by
  rintro β b o (hm | ⟨d,s,es,hd,_⟩ | ⟨d,s,n,hd,_⟩)
  ·exact hm
  ·simp[jci,look]at hd
  ·simp[jci,look]at hd
 refine⟨by simp;omega,rfl,Base.Fr.refl _,hM,fun t=> ?_,fun d s es hd=>by simp[jci,look]at hd,fun d s n hd=>by simp[jci,look]at hd,fun d d' b h1=>by simp[jci,look]at h1,fun d hd=>by simp[jci,look]at hd,fun k _ _ hk=>by simp[jci,look]at hk,hN,pβ_hp⟩;have hg:(jci args).get t=match args[t]? with | some x=> .im x | none=> .und:=by
  have:=jng args 0 t
  simpa [St.get,jci]using this
 rw[hg];cases hx:args[t]? with
 | none=>trivial
 | some x=>
  have a1:t<vs.length:=by rw[hl];exact(zr.1 hx).1
  have hv:(vs.toArray++Array.replicate (N-vs.toArray.size) undef).getD t undef=vs[t]:=by
   simp[vC,a1]
  show Rep _ _ _ _;rw[hv];exact(hr.2 t x _ hx (zw a1)).less (a6 _)
def aRetV(rs:List ResultVar)(e s:Nat)(es:List (List IV))(st:St):Prop:=
 match rs with
 | [.tmp t]=>match st.get t with
  | .sx es'=>es'=es
  | .vec d e' s' es'=>e'=e/\s'=s/\es'=es/\look st.toks d=some (s,es.length)
  | _=>False
 | _=>False
def jk8(t d e s:Nat):List (Nat×AV)->List (Nat×AV)
 | []=>[]
 | (k,v)::r=>(k,if k=t then(match v with | .sx es=> .vec d e s es | _=>v.purge d)else v.purge d)::jk8 t d e s r
def St.prom(st:St)(t d e s:Nat):St:=⟨jk8 t d e s st.fr,del st.rows d,(d,s,match st.get t with | .sx es=>es.length | _=>0)::del (del st.toks d) d⟩
theorem look_promFr(t d e s k:Nat)(l:List (Nat×AV)):look (jk8 t d e s l) k=(look l k).map fun v=>if k=t then(match v with | .sx es=> .vec d e s es | _=>v.purge d)else v.purge d:=by
 induction l with
 | nil=>rfl
 | cons p l ih=>
  obtain⟨j,v⟩:=p;by_cases hk:k=j
  ·subst hk;simp[jk8,look]
  ·simp[jk8,look,hk,ih]
theorem St.le_prom{st:St}{t d e s:Nat}{es:List (List IV)}(b1:d<100000)(hg:st.get t= .sx es)(hl:∀c∈es,c.length=s):St.Le st (st.prom t d e s):=by
 intro N w0 M0 β a w h;refine⟨upd β d none,?_⟩;have a7:∀b o,Mo M0 (upd β d none) (tokSt st d d s es.length) b o->Mo M0 β st b o:=by
  rintro b o (hm | ⟨d',s',es',hd',hb'⟩ | ⟨d',s',n',hd',hb',ho'⟩)
  ·exact .inl hm
  ·have a1:d'≠d:=fun e=>by subst e;simp[tokSt,jab]at hd'
   rw[jav _ _ a1]at hb';simp only[tokSt,ja9 _ a1]at hd';exact .inr (.inl ⟨d',s',es',hd',hb'⟩)
  ·by_cases a1:d'=d
   ·subst a1;rw[jau]at hb';cases hb'
   ·rw[jav _ _ a1]at hb';exact .inr (.inr ⟨d',s',n',(jce a1 hd').2,hb',ho'⟩)
 have h1:=h.newTok (w':=w) (src:=d) (dst:=d) (s:=s) (n:=es.length) (X:=none) (Kept.less w a7) h.below (Shp.refl _) (zu _) (fun _ _ _ _=>rfl) (by simp) (.inl rfl) b1;have a6:st.prom t d e s=⟨jk8 t d e s st.fr,(tokSt st d d s es.length).rows,(tokSt st d d s es.length).toks⟩:=by
  simp only[St.prom,hg];rfl
 rw[a6];refine⟨h1.size,h1.defers,h1.below,h1.m0,fun k=> ?_,h1.rows,h1.toks,h1.inj,h1.excl,h1.nam,h1.np,h1.perm⟩;have b0:St.get ⟨jk8 t d e s st.fr,(tokSt st d d s es.length).rows,(tokSt st d d s es.length).toks⟩ k=if k=t then .vec d e s es else(tokSt st d d s es.length).get k:=by
  rw[jlt];unfold St.get at hg⊢;dsimp only;rw[look_promFr];by_cases hk:k=t
  ·subst hk;cases a8:look st.fr k with
   | none=>rw[a8]at hg;cases hg
   | some v=>rw[a8]at hg;simp only[Option.getD_some]at hg;subst hg;simp
  ·cases look st.fr k with
   | none=>simp[hk];rfl
   | some v=>simp[hk]
 rw[b0];split
 ·rename_i hk;subst hk;have:=h.fr k;rw[hg]at this;exact⟨this.1.less a7,hl,fun _=> .inl this.2⟩
 ·exact h1.fr k
def AV.forget:AV->AV
 | .sx es | .vec _ _ _ es=> .im (.sl es)
 | v=>v
def fgFr(t:Nat):List (Nat×AV)->List (Nat×AV)
 | []=>[]
 | (k,v)::r=>(k,if k=t then v.forget else v)::fgFr t r
def St.forget(st:St)(t:Nat):St:=⟨fgFr t st.fr,st.rows,st.toks⟩
theorem look_fgFr(t k:Nat)(l:List (Nat×AV)):look (fgFr t l) k=(look l k).map fun v=>if k=t then v.forget else v:=by
 induction l with
 | nil=>rfl
 | cons p l ih=>
  obtain⟨j,v⟩:=p;by_cases hk:k=j
  ·subst hk;simp[fgFr,look]
  ·simp[fgFr,look,hk,ih]
theorem RepA.forget{w:World}{M:Nat->Nat->Prop}{β:Nat->Option Nat}{toks:List (Nat×Nat×Nat)}{av:AV}{v:Value}(h:RepA w M β toks av v):RepA w M β toks av.forget v:=by
 cases av with
 | sx es=>exact h.1
 | vec d e s es=>exact h.1
 | _=>exact h
theorem St.le_forget(st:St)(t:Nat):St.Le st (st.forget t):=by
 intro N w0 M0 β a w h;refine⟨β,h.size,h.defers,h.below,h.m0,fun k=> ?_,h.rows,h.toks,h.inj,h.excl,h.nam,h.np,h.perm⟩;have a1:(st.forget t).get k=if k=t then(st.get k).forget else st.get k:=by
  unfold St.get St.forget;dsimp only;rw[look_fgFr];cases look st.fr k with
  | none=>by_cases hk:k=t<;>simp[hk]<;>rfl
  | some v=>by_cases hk:k=t<;>simp[hk]
 rw[a1];split
 ·exact(h.fr k).forget
 ·exact h.fr k
def renFr(t d:Nat):List (Nat×AV)->List (Nat×AV)
 | []=>[]
 | (k,v)::r=>(k,if k=t then(match v with | .vec _ e s es=> .vec d e s es | _=>v.purge d)else v.purge d)::renFr t d r
def St.ren(st:St)(t d:Nat):St:=
 match st.get t with
 | .vec d0 _ s es=>⟨renFr t d st.fr,del st.rows d,(d,s,es.length)::del (del st.toks d0) d⟩
 | _=>st
theorem look_renFr(t d k:Nat)(l:List (Nat×AV)):look (renFr t d l) k=(look l k).map fun v=>if k=t then(match v with | .vec _ e s es=> .vec d e s es | _=>v.purge d)else v.purge d:=by
 induction l with
 | nil=>rfl
 | cons p l ih=>
  obtain⟨j,v⟩:=p;by_cases hk:k=j
  ·subst hk;simp[renFr,look]
  ·simp[renFr,look,hk,ih]
theorem St.le_ren{st:St}{t d d0 e s:Nat}{es:List (List IV)}(b3:d<100000)(hg:st.get t= .vec d0 e s es)(a1:look st.toks d0=some (s,es.length)):St.Le st (st.ren t d):=by
 intro N w0 M0 β a w h;refine⟨upd β d (β d0),?_⟩;have b0:∀b o,Mo M0 (upd β d (β d0)) (tokSt st d0 d s es.length) b o->Mo M0 β st b o:=by
  rintro b o (hm | ⟨d',s',es',hd',hb'⟩ | ⟨d',s',n',hd',hb',ho'⟩)
  ·exact .inl hm
  ·have a6:d'≠d:=fun e=>by subst e;simp[tokSt,jab]at hd'
   rw[jav _ _ a6]at hb';simp only[tokSt,ja9 _ a6]at hd';exact .inr (.inl ⟨d',s',es',hd',hb'⟩)
  ·by_cases a6:d'=d
   ·subst a6;rw[jau]at hb';simp only[tokSt,ja2,qa,q7]at hd';obtain⟨rfl,rfl⟩:=hd';exact .inr (.inr ⟨d0,_,_,a1,hb',ho'⟩)
   ·rw[jav _ _ a6]at hb';exact .inr (.inr ⟨d',s',n',(jce a6 hd').2,hb',ho'⟩)
 have a7:look st.rows d0=none:=by
  cases hl:look st.rows d0 with
  | none=>rfl
  | some x=>have:=h.excl d0 (by simp[hl]);rw[a1]at this;cases this
 have h1:=h.newTok (w':=w) (src:=d0) (dst:=d) (s:=s) (n:=es.length) (X:=β d0) (Kept.less w b0) h.below (Shp.refl _) (zu _) (fun _ _ _ _=>rfl)
  (fun b hb=>⟨(h.toks d0 _ _ a1 b hb).1,(h.toks d0 _ _ a1 b hb).2,fun k h1 h2 h3 h4=>h1 (h.inj k d0 b h3 (.inr (by simp[a1])) h4 hb)⟩) (.inr a7) b3
 have a8:st.ren t d=⟨renFr t d st.fr,(tokSt st d0 d s es.length).rows,(tokSt st d0 d s es.length).toks⟩:=by
  simp only[St.ren,hg];rfl
 rw[a8];refine⟨h1.size,h1.defers,h1.below,h1.m0,fun k=> ?_,h1.rows,h1.toks,h1.inj,h1.excl,h1.nam,h1.np,h1.perm⟩;have b2:St.get ⟨renFr t d st.fr,(tokSt st d0 d s es.length).rows,(tokSt st d0 d s es.length).toks⟩ k=if k=t then .vec d e s es else(tokSt st d0 d s es.length).get k:=by
  rw[jlt];unfold St.get at hg⊢;dsimp only;rw[look_renFr];by_cases hk:k=t
  ·subst hk;cases b1:look st.fr k with
   | none=>rw[b1]at hg;cases hg
   | some v=>rw[b1]at hg;simp only[Option.getD_some]at hg;subst hg;simp
  ·cases look st.fr k with
   | none=>simp[hk];rfl
   | some v=>simp[hk]
 rw[b2];split
 ·rename_i hk;subst hk;have:=h.fr k;rw[hg]at this;refine⟨this.1.less b0,this.2.1,fun _=> ?_⟩;rcases this.2.2 a1 with hh | ⟨b,cap,cur,h2,h3⟩
  ·exact .inl hh
  ·exact .inr ⟨b,cap,cur,by rw[jau];exact h2,h3⟩
 ·exact h1.fr k
theorem jmd(hG:G.Good){f:FuncId}{fn:Func}{c:Code}{args:List IV}{φ:IV->Prop}(hf:G.P.funcs[f]? =some fn)(hb:fn.body=some c)(hd:dstC fn.ntmps c=true)(hn:args.length<=fn.ntmps)(Q:St->Prop)
  (hQ:∀N w0 M0 β st a w,Q st->Sim N w0 M0 β st a w->∃st',aRet G fn.results.toList φ st'/\Sim N w0 M0 β st' a w)
  (h:awp G c (fun e s=>match e with | .normal=>Q s | .ret=>Q s | _=>False) (jci args)):Ctr G.P f args φ:=by
 obtain⟨hN,hd⟩:=joy hd;intro w M vs hM hr;refine calls_of_wp hf hb ?_;have hl:vs.length=args.length:=hr.1.symm;have b2:∀β b o,Mo M β (jci args) b o->M b o:=by
  rintro β b o (hm | ⟨d,s,es,hd,_⟩ | ⟨d,s,n,hd,_⟩)
  ·exact hm
  ·simp[jci,look]at hd
  ·simp[jci,look]at hd
 have a8:Sim fn.ntmps (Base.of w) M pβ (jci args) {tmps:=vs.toArray++Array.replicate (fn.ntmps-vs.toArray.size) undef,defers:=[]} w:=by
  refine⟨by simp;omega,rfl,Base.Fr.refl _,hM,fun t=> ?_,fun d s es hd=>by simp[jci,look]at hd,fun d s n hd=>by simp[jci,look]at hd,fun d d' b h1=>by simp[jci,look]at h1,fun d hd=>by simp[jci,look]at hd,fun k _ _ hk=>by simp[jci,look]at hk,hN,pβ_hp⟩;have hg:(jci args).get t=match args[t]? with | some x=> .im x | none=> .und:=by
   have:=jng args 0 t
   simpa [St.get,jci]using this
  rw[hg];cases hx:args[t]? with
  | none=>trivial
  | some x=>
   have a7:t<vs.length:=by rw[hl];exact(zr.1 hx).1
   have hv:(vs.toArray++Array.replicate (fn.ntmps-vs.toArray.size) undef).getD t undef=vs[t]:=by
    simp[vC,a7]
   show Rep _ _ _ _;rw[hv];exact(hr.2 t x _ hx (zw a7)).less (b2 _)
 refine wp_mono (jhg hG c _ _ _ _ _ hd h a8) fun e a' w' hq=> ?_;obtain⟨β,st,hq,hs⟩:=hq
 suffices hsuff:Q st->a'.defers=[]/\∃v,(results fn a'.tmps).run G.P w'= .ok v w'/\∃r v2,φ r/\Ending.returned v= .returned v2/\Rep w' M r v2/\Below w.heap.size w w' by
  cases e with
  | normal=>obtain⟨h1,v,h2,h3⟩:=hsuff hq;exact⟨h1,v,h2,h3⟩
  | ret=>obtain⟨h1,v,h2,h3⟩:=hsuff hq;exact⟨h1,v,h2,h3⟩
  | _=>exact hq.elim
 intro hq;obtain⟨st,hq,hs⟩:=hQ _ _ _ _ _ _ _ hq hs;have fin:aRet G fn.results.toList φ st->a'.defers=[]/\∃v,(results fn a'.tmps).run G.P w'= .ok v w'/\∃r v2,φ r/\Ending.returned v= .returned v2/\Rep w' M r v2/\Below w.heap.size w w':=by
  intro hq;unfold aRet at hq;have b0:=hs.lendR fn.results.toList;have a6:∀b o,M b o->Mo M β (lendR st fn.results.toList) b o:=fun b o hm=> .inl hm;have a1:∀(vs:List Value),(fn.results.toList.mapM (resF a'.tmps)).run G.P w'= .ok vs w'->
    (results fn a'.tmps).run G.P w'= .ok (if h:vs.toArray.size=1 then vs.toArray[0]else .tuple vs.toArray) w':=fun vs hv=>by
   rw[jhr,Sem.run_bind,jq,Sem.run_map,hv];rfl
  refine⟨hs.defers,?_⟩;split at hq
  ·rename_i x hx;obtain⟨vs,h1,h2⟩:=jis hG b0 hx;obtain⟨v,b3,rfl,h3,h4⟩:=h2.uncons;obtain rfl:=h4.of_nil;exact⟨v,by rw[a1 _ h1];rfl,x,v,hq,rfl,h3.less a6,hs.below.below⟩
  ·rename_i xs b1 hx;obtain⟨vs,h1,h2⟩:=jis hG b0 hx;have hlen:¬vs.toArray.size=1:=fun e=>by
    have h3:xs.length=1:=by rw[h2.1];simpa using e
    match xs,h3 with
    | [y],_=>exact b1 y rfl
   exact⟨.tuple vs.toArray,by rw[a1 _ h1,dif_neg hlen],.tup xs,_,hq,rfl,(RepL.tup (vs:=vs.toArray) (by simpa using h2)).less a6,hs.below.below⟩
  ·exact hq.elim
 exact fin hq
def jie:Nat->List AV->List (Nat×AV)
 | _,[]=>[]
 | k,x::xs=>(k,x)::jie (k+1) xs
def jdo(args:List AV)(L:Rows):St:=⟨jie 0 args,L,[]⟩
theorem get_initFrA(args:List AV)(k t:Nat):(look (jie k args) t).getD .und=if k<=t then(match args[t-k]? with | some x=>x | none=> .und)else .und:=by
 induction args generalizing k with
 | nil=>simp[jie,look]
 | cons x xs ih=>
  simp only[jie,look];by_cases h:t=k
  ·subst h;simp
  ·rw[zl h,ih];by_cases hk:k<=t
   ·rw[zh hk,iPo];have:t-k=(t-(k+1))+1:=by omega
    rw[this];simp
   ·rw[zl hk,iNo]
theorem ctr_of_awp(hG:G.Good){f:FuncId}{fn:Func}{c:Code}{args:List IV}{φ:IV->Prop}(hf:G.P.funcs[f]? =some fn)(hb:fn.body=some c)(hd:dstC fn.ntmps c=true)(hn:args.length<=fn.ntmps)
  (h:awp G c (fun e s=>match e with | .normal=>aRet G fn.results.toList φ s | .ret=>aRet G fn.results.toList φ s | _=>False) (jci args)):Ctr G.P f args φ:=
 jmd hG hf hb hd hn _ (fun _ _ _ _ st _ _ hq hs=>⟨st,hq,hs⟩) h
def aRetF(G:Ctx)(rs:List ResultVar)(φ:IV->Prop)(st:St):Prop:=∃bs:List Nat,aRet G rs φ (bs.foldl St.frz st)
theorem Sim.frzs(h:Sim N w0 M0 β st a w)(bs:List Nat):Sim N w0 M0 β (bs.foldl St.frz st) a w:=by
 induction bs generalizing st with
 | nil=>exact h
 | cons b bs ih=>exact ih (h.frz b)
theorem ctrF_of_awp(hG:G.Good){f:FuncId}{fn:Func}{c:Code}{args:List IV}{φ:IV->Prop}(hf:G.P.funcs[f]? =some fn)(hb:fn.body=some c)(hd:dstC fn.ntmps c=true)(hn:args.length<=fn.ntmps)
  (h:awp G c (fun e s=>match e with | .normal=>aRetF G fn.results.toList φ s | .ret=>aRetF G fn.results.toList φ s | _=>False) (jci args)):Ctr G.P f args φ:=
 jmd hG hf hb hd hn _ (fun _ _ _ _ st _ _ ⟨bs,hq⟩ hs=>⟨_,hq,hs.frzs bs⟩) h
end
end
section
open Go.RowKit (Below)
def jgz(G:Ctx)(rs:List ResultVar)(φ:AV->Prop)(st:St):Prop:=
 match rs with
 | [.tmp t]=>φ (st.get t).toH
 | rs=>match resL G st rs with
  | some [x]=>φ (.im x)
  | some xs=>φ (.im (.tup xs))
  | none=>False
def aRetH(G:Ctx)(rs:List ResultVar)(φ:AV->Rows->Prop)(st:St):Prop:=
 ∃L':Rows,(∀k x,look L' k=some x->100000<=k/\look st.rows k=some x)/\jgz G rs (fun r=>φ r L') st
section
variable{G:Ctx}{N:Nat}{w0:Base}{w w':World}{M M0:Nat->Nat->Prop}{β:Nat->Option Nat}{st st':St}{a:Act}{av:AV}{v:Value}
theorem RepA.toH(hβ:∀b,β (hp b)=some b){toks:List (Nat×Nat×Nat)}{M2:Nat->Nat->Prop}(hM:∀b o,M2 b o->M b o)(hv:RepA w M β toks av v):RepA w M2 pβ [] av.toH v/\av.toH.toArg=av.toH:=by
 have hk:Kept w M w M2:=Kept.less w hM;have hb:∀d b,100000<=d->β d=some b->pβ d=some b:=fun d b hd hb=>by
  rw[hp_of hd,hβ]at hb;rw[<-hb];unfold pβ;rw[zh hd]
 cases av with
 | im x=>exact⟨Rep.kept (w:=w) hv hk,rfl⟩
 | und=>exact⟨trivial,rfl⟩
 | sx es=>exact⟨Rep.kept (w:=w) hv.1 hk,rfl⟩
 | vec d e s es=>exact⟨Rep.kept (w:=w) hv.1 hk,rfl⟩
 | mpo d sc kvs=>exact⟨trivial,rfl⟩
 | osl d s i n=>
  simp only[AV.toH];split
  ·rename_i hd;obtain⟨ad,c,h1,h2,h3⟩:=hv;exact⟨⟨ad,c,h1,h2,fun hn=>let⟨b,h4,h5⟩:=h3 hn;⟨b,hb d b hd h4,h5⟩⟩,rfl⟩
  ·exact⟨trivial,rfl⟩
 | gsl d e s n=>
  simp only[AV.toH];split
  ·rename_i hd;obtain⟨b,cap,cur,h1,h2⟩:=hv;exact⟨⟨b,cap,cur,hb d b hd h1,h2⟩,rfl⟩
  ·exact⟨trivial,rfl⟩
 | loc d s i j=>
  simp only[AV.toH];split
  ·rename_i hd;obtain⟨b,h1,h2⟩:=hv;exact⟨⟨b,hb d b hd h1,h2⟩,rfl⟩
  ·exact⟨trivial,rfl⟩
def SemC(G:Ctx)(N:Nat)(c:Code)(Q:Exit->St->Prop)(st:St):Prop:=∀(w0:Base) (M0:Nat->Nat->Prop) (β:Nat->Option Nat) (a:Act) (w:World),Sim N w0 M0 β st a w->c.wp G.P (liftQ N w0 M0 Q) a w
def endQ(T:St->Prop):Exit->St->Prop
 | .normal,s=>T s
 | .ret,s=>T s
 | _,_=>False
theorem ctrS_of{f:FuncId}{fn:Func}{c:Code}{args:List AV}{L:Rows}{φ:AV->Rows->Prop}(hf:G.P.funcs[f]? =some fn)(hb:fn.body=some c)(hd:dstC fn.ntmps c=true)(hn:args.length<=fn.ntmps)(T:St->Prop)
  (h:SemC G fn.ntmps c (endQ T) (jdo args L))
  (hT:∀(w:World) (M:Nat->Nat->Prop) (β:Nat->Option Nat) (st:St) (a':Act) (w':World),T st->Sim fn.ntmps (Base.exH w L) M β st a' w'->∃v r L',(results fn a'.tmps).run G.P w'= .ok v w'/\φ r L'/\r.toArg=r/\
   (∀k s es,look L' k=some (s,es)->∃b,k=hp b/\((look L k).isSome\/w.heap.size<=b)/\RowRep w' (MoH M L') b s es)/\RepA w' (MoH M L') pβ [] r v):CtrH G.P f args L φ:=by
 obtain⟨hN,hd⟩:=joy hd;intro w M vs hM a1 hlen a7;refine calls_of_wp hf hb ?_;have b1:∀b o,Mo M pβ (jdo args L) b o->MoH M L b o:=by
  rintro b o (hm | ⟨d,s,es,hd,hb⟩ | ⟨d,s,n,hd,_⟩)
  ·exact .inl hm
  ·rw[pβ_of hb]at hd;exact .inr (jc1 (show look L (hp b)=some (s,es)from hd))
  ·simp[jdo,look]at hd
 have b0:Sim fn.ntmps (Base.exH w L) M pβ (jdo args L) {tmps:=vs.toArray++Array.replicate (fn.ntmps-vs.toArray.size) undef,defers:=[]} w:=by
  refine⟨by simp;omega,rfl,Base.Fr.refl _,fun b o hm=>⟨hM b o hm,?_⟩,fun t=> ?_,fun d s es hd=> ?_,fun d s n hd=>by simp[jdo,look]at hd,fun d d' b h1 h2 hb b3=> ?_,fun d _=>rfl,fun k _ hk hr=> ?_,hN,pβ_hp⟩
  ·cases hl:look L (hp b)with
   | none=>rfl
   | some x=>
    obtain⟨s,es⟩:=x;obtain⟨b',h1,h2,_⟩:=a1 _ s es hl;rw[hp_inj]at h1;subst h1;exact absurd hm (h2 o)
  ·have hg:=get_initFrA args 0 t;rw[zh (zG _),Nat.sub_zero]at hg;have b2:(jdo args L).get t=(look (jie 0 args) t).getD .und:=rfl;rw[b2,hg];cases hx:args[t]? with
   | none=>trivial
   | some x=>
    have a8:t<vs.length:=by rw[hlen];exact(zr.1 hx).1
    have hv:(vs.toArray++Array.replicate (fn.ntmps-vs.toArray.size) undef).getD t undef=vs[t]:=by
     simp[vC,a8]
    show RepA _ _ _ _ _ _;rw[hv];exact(a7 t x _ hx (zw a8)).move (Kept.less w b1) (fun _ _=>rfl) (fun _ _ _ _ hl=>hl) (fun _ _ _ _ _=>rfl) (Shp.refl _)
  ·have hd:look L d=some (s,es):=hd;obtain⟨b,rfl,h1,h2⟩:=a1 d s es hd;exact⟨b,pβ_hp b,fun hp=>(by rw[hp.2]at hd;cases hd),h2.move (Kept.less w b1) rfl⟩
  ·rw[pβ_of hb,pβ_of b3]
  ·obtain⟨⟨s,es⟩,hl⟩:=zD.1 hr;obtain⟨b,rfl,_⟩:=a1 k s es hl;unfold hp at hk;omega
 refine wp_mono (h _ _ _ _ _ b0) fun e a' w' hq=> ?_;obtain⟨β,st,hq,hs⟩:=hq;have a6:T st->a'.defers=[]/\∃v,(results fn a'.tmps).run G.P w'= .ok v w'/\∃r v2 L',φ r L'/\Ending.returned v= .returned v2/\r.toArg=r/\(Base.exH w L).Fr w'/\
   (∀k s es,look L' k=some (s,es)->∃b,k=hp b/\((look L k).isSome\/w.heap.size<=b)/\RowRep w' (MoH M L') b s es)/\RepA w' (MoH M L') pβ [] r v2:=fun hq=>by
  obtain⟨v,r,L',h1,h2,h3,h4,h5⟩:=hT w M β st a' w' hq hs;exact⟨hs.defers,v,h1,r,v,L',h2,rfl,h3,hs.below,h4,h5⟩
 cases e with
 | normal=>obtain⟨h1,v,h2,h3⟩:=a6 hq;exact⟨h1,v,h2,h3⟩
 | ret=>obtain⟨h1,v,h2,h3⟩:=a6 hq;exact⟨h1,v,h2,h3⟩
 | _=>exact hq.elim
theorem jgp(hG:G.Good){f:FuncId}{fn:Func}{c:Code}{args:List AV}{L:Rows}{φ:AV->Rows->Prop}(hf:G.P.funcs[f]? =some fn)(hb:fn.body=some c)(hd:dstC fn.ntmps c=true)(hn:args.length<=fn.ntmps)
  (h:SemC G fn.ntmps c (endQ (aRetH G fn.results.toList φ)) (jdo args L)):CtrH G.P f args L φ:=by
 refine ctrS_of hf hb hd hn _ h fun w M β st a' w' hq hs=> ?_;obtain⟨L',b2,hq⟩:=hq;have a6:∀b o,MoH M L' b o->Mo M β st b o:=by
  rintro b o (hm | hm)
  ·exact .inl hm
  ·obtain⟨⟨s,es⟩,hl⟩:=zD.1 hm;exact .inr (.inl ⟨_,s,es,(b2 _ _ hl).2,hs.perm b⟩)
 have a1:∀k s es,look L' k=some (s,es)->∃b,k=hp b/\((look L k).isSome\/w.heap.size<=b)/\RowRep w' (MoH M L') b s es:=fun k s es hk=>by
  obtain⟨h1,h2⟩:=b2 k _ hk;obtain⟨b,h3,h4,h5⟩:=hs.rows k s es h2;have a7:=hp_of h1;rw[a7,hs.perm]at h3;have h3:=jJ h3;rw[h3]at a7;refine⟨b,a7,?_,h5.move (Kept.less w' a6) rfl⟩;rw[a7];cases hl:look L (hp b)with
  | some x=>exact .inl rfl
  | none=>
   refine .inr (Nat.le_of_not_lt fun b5=>h4 ⟨b5,hl⟩)
 have a8:∀(vs:List Value),(fn.results.toList.mapM (resF a'.tmps)).run G.P w'= .ok vs w'->
   (results fn a'.tmps).run G.P w'= .ok (if h:vs.toArray.size=1 then vs.toArray[0]else .tuple vs.toArray) w':=fun vs hv=>by
  rw[jhr,Sem.run_bind,jq,Sem.run_map,hv];rfl
 unfold jgz at hq;split at hq
 ·rename_i t b3;have b1:(results fn a'.tmps).run G.P w'= .ok (a'.tmps.getD t undef) w':=by
   rw[jhr,Sem.run_bind,jq,Sem.run_map,b3];rfl
  obtain⟨h1,h2⟩:=(hs.fr t).toH hs.perm a6;exact⟨_,_,L',b1,hq,h2,a1,h1⟩
 ·split at hq
  ·rename_i x hx;obtain⟨vs,h1,h2⟩:=jis hG hs hx;obtain⟨v,b6,rfl,h3,h4⟩:=h2.uncons;obtain rfl:=h4.of_nil;exact⟨v,.im x,L',by rw[a8 _ h1];rfl,hq,rfl,a1,Rep.less h3 a6⟩
  ·rename_i xs b4 hx;obtain⟨vs,h1,h2⟩:=jis hG hs hx;have b0:¬vs.toArray.size=1:=fun e=>by
    have h3:xs.length=1:=by rw[h2.1];simpa using e
    match xs,h3 with
    | [y],_=>exact b4 y rfl
   exact⟨.tuple vs.toArray,.im (.tup xs),L',by rw[a8 _ h1,dif_neg b0],hq,rfl,a1,Rep.less (RepL.tup (vs:=vs.toArray) (by simpa using h2)) a6⟩
  ·exact hq.elim
theorem SemC.awp{N:Nat}{c:Code}{Q:Exit->St->Prop}{st:St}(hG:G.Good)(hd:dstB N c=true)(h:Go.Abs.awp G c Q st):SemC G N c Q st:=fun w0 M0 β a w hs=>jhg hG c Q st β a w hd h hs
theorem SemC.mono{N:Nat}{c:Code}{Q Q':Exit->St->Prop}{st:St}(h:SemC G N c Q st)(hQ:∀e s,Q e s->Q' e s):SemC G N c Q' st:=fun w0 M0 β a w hs=>
 wp_mono (h w0 M0 β a w hs) fun e _ _ ⟨β',st',hq,a1⟩=>⟨β',st',hQ e st' hq,a1⟩
theorem ctrH_of_awp(hG:G.Good){f:FuncId}{fn:Func}{c:Code}{args:List AV}{L:Rows}{φ:AV->Rows->Prop}(hf:G.P.funcs[f]? =some fn)(hb:fn.body=some c)(hd:dstC fn.ntmps c=true)(hn:args.length<=fn.ntmps)
  (h:awp G c (fun e s=>match e with | .normal=>aRetH G fn.results.toList φ s | .ret=>aRetH G fn.results.toList φ s | _=>False) (jdo args L)):CtrH G.P f args L φ:=
 jgp hG hf hb hd hn ((SemC.awp hG (joy hd).2 h).mono fun e s hq=>by cases e<;>exact hq)
theorem St.le_keep(s:St)(L R:List Nat):St.Le s (s.keep L R):=fun _ _ _ β _ _ h=>⟨β,h.keep L R⟩
structure St.Sub(s s':St):Prop where
 fr:∀t,s'.get t=s.get t\/s'.get t= .und
 rows:∀k x,look s'.rows k=some x->look s.rows k=some x
 toks:∀k x,look s'.toks k=some x->look s.toks k=some x
theorem St.Sub.le{s s':St}(hs:St.Sub s s'):St.Le s s':=by
 intro N w0 M0 β a w h;refine⟨β,?_⟩;have hM:∀b o,Mo M0 β s' b o->Mo M0 β s b o:=by
  rintro b o (hm | ⟨d,n,es,hd,hb⟩ | ⟨d,n,m,hd,hb⟩)
  ·exact .inl hm
  ·exact .inr (.inl ⟨d,n,es,hs.rows _ _ hd,hb⟩)
  ·exact .inr (.inr ⟨d,n,m,hs.toks _ _ hd,hb⟩)
 have a1:∀{α:Type} {o o':Option α},(∀x,o=some x->o'=some x)->o.isSome->o'.isSome:=fun h ho=>by
  obtain⟨x,hx⟩:=zD.1 ho;rw[h x hx];rfl
 refine⟨h.size,h.defers,h.below,h.m0,fun t=> ?_,fun d n es hd=> ?_,fun d n m hd=>h.toks d n m (hs.toks _ _ hd),fun d d' b h1 h2=> ?_,fun d hd=> ?_,fun k hN a6 hk=> ?_,h.np,h.perm⟩
 ·rcases hs.fr t with e | e
  ·rw[e];exact(h.fr t).move (Kept.less w hM) (fun _ _=>rfl) (fun d s n _ hl=>hs.toks _ _ hl) (fun _ _ _ _ _=>rfl) (Shp.refl _)
  ·rw[e];trivial
 ·obtain⟨b,h1,h2,h3⟩:=h.rows d n es (hs.rows _ _ hd);exact⟨b,h1,h2,h3.move (Kept.less w hM) rfl⟩
 ·exact h.inj d d' b (h1.imp (a1 (hs.rows d)) (a1 (hs.toks d))) (h2.imp (a1 (hs.rows d')) (a1 (hs.toks d')))
 ·have:=h.excl d (a1 (hs.rows d) hd);cases hl:look s'.toks d with
  | none=>rfl
  | some x=>rw[hs.toks d x hl]at this;cases this
 ·obtain⟨x,hx⟩:=zD.1 hk;exact h.nam k hN a6 (jc1 (hs.rows k x hx))
theorem St.sub_of{s:St}(L:List Nat){s':St}(hf:L.map (fun t=>(t,s.get t))=s'.fr)(hr:∀k x,look s'.rows k=some x->look s.rows k=some x)(ht:s'.toks=[]):St.Sub s s':=by
 refine⟨fun t=> ?_,hr,fun k x hk=>by rw[ht]at hk;simp[look]at hk⟩;have h1:s'.get t=(s.keep L []).get t:=by
  show(look s'.fr t).getD .und=(look (L.map fun t=>(t,s.get t)) t).getD .und;rw[hf]
 rw[h1,jt1];split
 ·exact .inl rfl
 ·exact .inr rfl
