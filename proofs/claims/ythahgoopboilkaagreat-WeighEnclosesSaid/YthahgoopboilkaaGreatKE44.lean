/- A part of the proof. No further condition. -/
import Derived.Test.YthahgoopboilkaaGreatKE43
import Derived.ProofKit
import Derived.Carry
set_option linter.all false
set_option maxRecDepth 10000000
set_option maxHeartbeats 16000000
namespace Go.Abs
section
open Go.RowKit (Below)
open Go.ChangeShapes Go.WideShapes
def FitsA(G:Ctx)(n:Nat)(t:TypeId)(y:IV):Prop:=
 if aggK (G.ti t).kind=true then ∃xs,y= .agg xs/\Fits G n t xs else Fits G n t [y]
def FitsL(G:Ctx)(n:Nat):List TypeId->List IV->Prop
 | [],[]=>True
 | t::ts,y::ys=>FitsA G n t y/\FitsL G n ts ys
 | _,_=>False
section
variable{G:Ctx}{H:Type}{enc:TypeId×Value->H}{w:World}{base:Nat}{spare:Nat->Bool}{held:Bool}{r:Reach}{b0 n:Nat}
theorem opens_ne{t:TypeId}(h:opens G n t=true):(G.ti t).size≠0:=by
 cases n with
 | zero=>simp[opens]at h
 | succ n=>
  unfold opens at h;simp only[zr,qk,ne_eq]at h;exact h.1
theorem open_arg(hG:G.Ok){t:TypeId}{v:Value}{d:DataW H}{p:List MemPlace}(ho:opens G n t=true)(hv:Value.okWide G.P w r b0 t v)(h:DataW.Trod enc G.P w base spare held t v d p):
  ∃y,Rep w NoM y v/\FitsA G n t y:=by
 obtain⟨m,hm⟩:=h;have h0:=opens_ne ho;obtain⟨xs,h1,h2,h3,h4⟩:=jnk hG n m t _ _ ho hm;have single:v.cells= #[v]->aggK (G.ti t).kind=false->∃y,Rep w NoM y v/\FitsA G n t y:=by
  intro hc hk;rw[hc]at h1;obtain⟨hl,hr⟩:=h1
  match xs,hl with
  | [y],_=>
   refine⟨y,hr 0 y v rfl rfl,?_⟩;unfold FitsA;rw[hk];exact h4
 have ho':=ho;cases n with
 | zero=>simp[opens]at ho
 | succ n=>
  unfold opens at ho';simp only[zr]at ho';obtain⟨_,ho'⟩:=ho';split at ho'
  ·rename_i k hk;obtain⟨i,rfl⟩:=okWide_int (hG.it h0 hk) hv;exact single rfl (by rw[hk];rfl)
  ·rename_i hk;obtain⟨i,rfl⟩:=okWide_bool (hG.bl h0 hk) hv;exact single rfl (by rw[hk];rfl)
  ·rename_i hk;obtain⟨i,rfl⟩:=okWide_string (hG.str h0 hk) hv;exact single rfl (by rw[hk];rfl)
  ·rename_i e hk;obtain⟨a,l,c,rfl⟩:=okWide_slice (hG.sl h0 hk) hv;exact single rfl (by rw[hk];rfl)
  ·rename_i fs hk;obtain⟨gs,hu,_⟩:=hG.st h0 hk;obtain⟨cs,rfl,_⟩:=okWide_struct hu hv;refine⟨.agg xs,RepL.agg (by simpa [Value.cells]using h1) h2,?_⟩;unfold FitsA;rw[zm (by rw[hk];rfl)];exact⟨xs,rfl,h4⟩
  ·cases ho'
theorem jph(hG:G.Ok):∀{ts:List TypeId} {vs:List Value} {ds:List (DataW H)} {p:List MemPlace},(∀t∈ts,opens G n t=true)->
  (∀(j:Nat) t v,ts[j]? =some t->vs[j]? =some v->Value.okWide G.P w r b0 t v)->DataW.TrodAll enc G.P w base spare held ts vs ds p->∃ys,RepL w NoM ys vs/\FitsL G n ts ys
 | [],[],[],_,_,_,_=>⟨[],RepL.nil,trivial⟩
 | t::ts,v::vs,d::ds,_,ho,hv,⟨_,_,h1,h2,_⟩=>by
  obtain⟨y,h3,h4⟩:=open_arg hG (ho t (zN ..)) (hv 0 t v rfl rfl) h1;obtain⟨ys,h5,h6⟩:=jph hG (fun t ht=>ho t (zQ _ ht)) (fun j t v hj hk=>hv (j+1) t v (by simpa using hj) (by simpa using hk)) h2;exact⟨y::ys,RepL.cons h3 h5,h4,h6⟩
theorem jq0{P:Program}(hl:laidOutB P=true){W W':World}(hb:Below W.heap.size W W'):∀{ts:List TypeId} {vs:List Value} {ds:List (DataW H)} {ps:List MemPlace},
  (∀t∈ts,P.readableRec t=true/\t<P.types.size)->DataW.TrodAll enc P W 0 (fun _=>true) true ts vs ds ps->(∀x∈ps,x.block<W.heap.size)->
  DataW.TrodAll enc P W' 0 (fun b=>decide (b<W.heap.size)) true ts vs ds ps
 | [],[],[],_,_,h,_=>h
 | t::ts,v::vs,d::ds,_,ht,⟨p,q,h1,h2,e⟩,hlt=>by
  subst e;obtain⟨h3,h4⟩:=ht t (zN ..);exact⟨p,q,Go.RowKit.Below.trod hl h3 h4 h1 hb (fun x hx=>hlt x (ji _ hx)),
   jq0 hl hb (fun t h=>ht t (zQ _ h)) h2 (fun x hx=>hlt x (va _ hx)),rfl⟩
theorem jkg{P:Program}:∀{ts:List TypeId} {vs:List Value} {ds:List (DataW H)} {ps:List MemPlace},DataW.TrodAll enc P w base spare held ts vs ds ps->ds.length=ts.length
 | [],[],[],_,_=>rfl
 | _::_,_::_,_::_,_,⟨_,_,_,h2,_⟩=>by simp[jkg h2]
theorem law_calls(hG:G.Good)(hl:laidOutB G.P=true){f:FuncId}{fn:Func}{s:ChangeSpec}{tb:TypeId}(n:Nat)(ts:List TypeId)
  (hp:fn.params.toList=ts) (hrt:fn.resultTypes.toList=[tb]) (hsz:fn.resultTypes.size=1) (htb:G.P.underlying tb=some .bool)
  (hts:(ts.all fun t=>opens G n t&&G.P.readableRec t&&decide (t<G.P.types.size))=true)
  (hvars:s.vars=[]) (hspec:∀ds:List (DataW H),ds.length=ts.length->s.fn H ds={results:=[.lit (.bool true)],args:=ds})
  (hc:∀ys,FitsL G n ts ys->Ctr G.P f ys (· = .bool true)) {W:World} {args:Array Value} {ds gs:List (DataW H)} {before:List MemPlace}
  (hval:∀(j:Nat) t v,fn.params[j]? =some t->args[j]? =some v->Value.okWide G.P W .any b0 t v) (hW:DataW.Whole enc G.P fn.params.toList s.vars false W args.toList ds gs before):
  Calls G.P f args W fun e W'=>∃v,e= .returned v/\s.post enc G.P fn false true false false W args v W':=by
 have hts':∀t∈ts,opens G n t=true/\G.P.readableRec t=true/\t<G.P.types.size:=fun t ht=>by
  have:=List.all_eq_true.1 hts t ht;simp only[zr,zK]at this;exact⟨this.1.1,this.1.2,this.2⟩
 have hW0:=hW;obtain⟨p,q,hA,hV,hpq,hfz,hnd⟩:=hW;rw[hvars]at hV;obtain⟨rfl,rfl⟩:=trodVars_none hV;rw[hp]at hA;obtain⟨ys,h1,h2⟩:=jph hG.ok (fun t ht=>(hts' t ht).1) (fun j t v hj hk=>hval j t v (by rw[<-ql,hp];exact hj) (by rw[<-ql];exact hk)) hA;have hcall:=hc ys h2 W NoM args.toList (fun b o h=>h.elim) h1;rw[Array.toArray_toList]at hcall;refine hcall.mono fun e W' ⟨r,v,hr,he,hv,hb⟩=> ?_;subst hr;obtain rfl:=Rep.sc_inv hv;refine⟨_,he,?_⟩;have hsp:=hspec ds (jkg hA);have hlt:∀x∈before,x.block<W.heap.size:=fun x hx=>hW0.lt x hx;refine⟨ds,[],before,[],p,[],hW0,?_,?_,?_,World.keptBut_mono (fun p hp=>⟨hp,?_⟩) (hb.frame (· ∈before)),fun h=>by cases h⟩
 ·rw[hrt,hsz,qr,hsp];exact trodAll_mk1 (Go.RowKit.shut_bool htb _)
 ·rw[qr,hsp,hp];exact jq0 hl hb (fun t ht=>(hts' t ht).2) hA (fun x hx=>hlt x (by rw[hpq];simpa using hx))
 ·rw[qr,hsp,hvars];rfl
 ·rw[hpq,qr]at hp;exact .inr (.inl hp)
end
end
end Go.Abs
namespace Go.Proofs.YthahgoopboilkaaGreat
section
open Go.Abs
theorem jbd{t:TypeId}(hk:(G.ti t).kind= .it .i64):∀{n:Nat} {xs:List IV},Fits G n t xs->∃i,xs=[.int i]
 | 0,_,h=>h.elim
 | n+1,xs,h=>by
  unfold Fits at h;rw[hk]at h;obtain⟨i,rfl,_⟩:=h;exact⟨i,rfl⟩
theorem fits_bool{t:TypeId}(hk:(G.ti t).kind= .bl):∀{n:Nat} {xs:List IV},Fits G n t xs->∃i,xs=[.bool i]
 | 0,_,h=>h.elim
 | n+1,xs,h=>by
  unfold Fits at h;rw[hk]at h;exact h
theorem list_of{α:Type}{f:α->List IV}:∀{es:List (List IV)},(∀c∈es,∃p,c=f p)->∃l:List α,es=l.map f
 | [],_=>⟨[],rfl⟩
 | c::es,h=>by
  obtain⟨p,rfl⟩:=h c (zN ..);obtain⟨l,rfl⟩:=list_of fun c hc=>h c (zQ _ hc);exact⟨p::l,rfl⟩
theorem jdk{α:Type}(f:α->List IV){t e:TypeId}(hk:(G.ti t).kind= .sl e)(hf:∀{n:Nat} (c:List IV),Fits G n e c->∃p,c=f p):∀{n:Nat} {xs:List IV},Fits G n t xs->∃l:List α,xs=[.sl (l.map f)]
 | 0,_,h=>h.elim
 | n+1,xs,h=>by
  unfold Fits at h;rw[hk]at h;obtain⟨es,rfl,_,h⟩:=h;obtain⟨l,rfl⟩:=list_of fun c hc=>hf c (h c hc);exact⟨l,rfl⟩
theorem fits_ints{t e:TypeId}(hk:(G.ti t).kind= .sl e)(he:(G.ti e).kind= .it .i64){n:Nat}{xs:List IV}(h:Fits G n t xs):∃l:List Int,xs=[ints l]:=
 jdk ic hk (fun _ hc=>jbd he hc) h
theorem jny{t:TypeId}{fs:List (Nat×TypeId)}(hk:(G.ti t).kind= .st fs):∀{n:Nat} {xs:List IV},Fits G n t xs->xs.length=(G.ti t).size/\∃m,∀p∈fs,Fits G m p.2 ((xs.drop p.1).take (G.ti p.2).size)
 | 0,_,h=>h.elim
 | n+1,xs,h=>by
  unfold Fits at h;rw[hk]at h;exact⟨h.1,n,h.2⟩
theorem jjw{t:TypeId}{n:Nat}{y:IV}(hk:aggK (G.ti t).kind=true)(h:FitsA G n t y):∃xs,y= .agg xs/\Fits G n t xs:=by
 unfold FitsA at h
 rwa [zm hk]at h
theorem jpp{t:TypeId}{n:Nat}{y:IV}(hk:aggK (G.ti t).kind=false)(h:FitsA G n t y):Fits G n t [y]:=by
 unfold FitsA at h
 rwa [zn (by rw[hk];simp)]at h
theorem of_len2{α:Type}:∀{l:List α},l.length=2->∃x0 x1,l=[x0,x1]
 | [x0,x1],_=>⟨x0,x1,rfl⟩
theorem of_len3{α:Type}:∀{l:List α},l.length=3->∃x0 x1 x2,l=[x0,x1,x2]
 | [x0,x1,x2],_=>⟨x0,x1,x2,rfl⟩
theorem of_len4{α:Type}:∀{l:List α},l.length=4->∃x0 x1 x2 x3,l=[x0,x1,x2,x3]
 | [x0,x1,x2,x3],_=>⟨x0,x1,x2,x3,rfl⟩
theorem jhc{n:Nat}{t:TypeId}{ts:List TypeId}:∀{ys:List IV},FitsL G n (t::ts) ys->∃y ys',ys=y::ys'/\FitsA G n t y/\FitsL G n ts ys'
 | y::ys',h=>⟨y,ys',rfl,h⟩
theorem fitsL_nil{n:Nat}:∀{ys:List IV},FitsL G n [] ys->ys=[]
 | [],_=>rfl
theorem jsa{n:Nat}{xs:List IV}(h:Fits G n 33 xs):∃s l,xs=[.int s,ints l]:=by
 obtain⟨hl,m,hf⟩:=jny (t:=33) (fs:=[(0,3),(1,31)]) rfl h;obtain⟨x0,x1,rfl⟩:=of_len2 (show xs.length=2 from hl);have h0:Fits G m 3 [x0]:=hf (0,3) (by simp);obtain⟨i0,e0⟩:=jbd rfl h0;cases e0;have h1:Fits G m 31 [x1]:=hf (1,31) (by simp);obtain⟨i1,e1⟩:=fits_ints rfl rfl h1;cases e1;exact⟨i0,i1,rfl⟩
theorem fits_Frac{n:Nat}{xs:List IV}(h:Fits G n 35 xs):∃s l t m,xs=[.int s,ints l,.int t,ints m]:=by
 obtain⟨hl,m,hf⟩:=jny (t:=35) (fs:=[(0,33),(2,33)]) rfl h;obtain⟨x0,x1,x2,x3,rfl⟩:=of_len4 (show xs.length=4 from hl);have h0:Fits G m 33 [x0,x1]:=hf (0,33) (by simp);obtain⟨s,l,e0⟩:=jsa h0;cases e0;have h1:Fits G m 33 [x2,x3]:=hf (2,33) (by simp);obtain⟨t,l',e1⟩:=jsa h1;cases e1;exact⟨s,l,t,l',rfl⟩
end
section
open Go.Abs
theorem of_len6{α:Type}:∀{l:List α},l.length=6->∃x0 x1 x2 x3 x4 x5,l=[x0,x1,x2,x3,x4,x5]
 | [x0,x1,x2,x3,x4,x5],_=>⟨x0,x1,x2,x3,x4,x5,rfl⟩
theorem of_len8{α:Type}:∀{l:List α},l.length=8->∃x0 x1 x2 x3 x4 x5 x6 x7,l=[x0,x1,x2,x3,x4,x5,x6,x7]
 | [x0,x1,x2,x3,x4,x5,x6,x7],_=>⟨x0,x1,x2,x3,x4,x5,x6,x7,rfl⟩
theorem fits_Place:∀{n:Nat} {xs:List IV},Fits G n 143 xs->∃p:Place,xs=p.c
 | 0,_,h=>h.elim
 | n+1,xs,h=>by
  unfold Fits at h;have hk:(G.ti 143).kind= .st [(0,3),(1,3),(2,3)]:=rfl;rw[hk]at h;obtain⟨hl,hf⟩:=h;have hl:xs.length=3:=hl;obtain⟨x0,x1,x2,rfl⟩:=of_len3 hl;have h0:Fits G n 3 [x0]:=hf (0,3) (by simp);obtain⟨i0,e0⟩:=jbd rfl h0;cases e0;have h1:Fits G n 3 [x1]:=hf (1,3) (by simp);obtain⟨i1,e1⟩:=jbd rfl h1;cases e1;have h2:Fits G n 3 [x2]:=hf (2,3) (by simp);obtain⟨i2,e2⟩:=jbd rfl h2;cases e2;exact⟨⟨i0,i1,i2⟩,rfl⟩
theorem fits_Move:∀{n:Nat} {xs:List IV},Fits G n 94 xs->∃p:Move,xs=p.c
 | 0,_,h=>h.elim
 | n+1,xs,h=>by
  unfold Fits at h;have hk:(G.ti 94).kind= .st [(0,3),(1,3),(2,3),(3,3),(4,3),(5,4)]:=rfl;rw[hk]at h;obtain⟨hl,hf⟩:=h;have hl:xs.length=6:=hl;obtain⟨x0,x1,x2,x3,x4,x5,rfl⟩:=of_len6 hl;have h0:Fits G n 3 [x0]:=hf (0,3) (by simp);obtain⟨i0,e0⟩:=jbd rfl h0;cases e0;have h1:Fits G n 3 [x1]:=hf (1,3) (by simp);obtain⟨i1,e1⟩:=jbd rfl h1;cases e1;have h2:Fits G n 3 [x2]:=hf (2,3) (by simp);obtain⟨i2,e2⟩:=jbd rfl h2;cases e2;have h3:Fits G n 3 [x3]:=hf (3,3) (by simp);obtain⟨i3,e3⟩:=jbd rfl h3;cases e3;have h4:Fits G n 3 [x4]:=hf (4,3) (by simp);obtain⟨i4,e4⟩:=jbd rfl h4;cases e4;have h5:Fits G n 4 [x5]:=hf (5,4) (by simp);obtain⟨i5,e5⟩:=fits_bool rfl h5;cases e5;exact⟨⟨i0,i1,i2,i3,i4,i5⟩,rfl⟩
theorem fits_Cert:∀{n:Nat} {xs:List IV},Fits G n 145 xs->∃p:Cert,xs=p.c
 | 0,_,h=>h.elim
 | n+1,xs,h=>by
  unfold Fits at h;have hk:(G.ti 145).kind= .st [(0,3),(1,3),(2,3),(3,3),(4,3),(5,3)]:=rfl;rw[hk]at h;obtain⟨hl,hf⟩:=h;have hl:xs.length=6:=hl;obtain⟨x0,x1,x2,x3,x4,x5,rfl⟩:=of_len6 hl;have h0:Fits G n 3 [x0]:=hf (0,3) (by simp);obtain⟨i0,e0⟩:=jbd rfl h0;cases e0;have h1:Fits G n 3 [x1]:=hf (1,3) (by simp);obtain⟨i1,e1⟩:=jbd rfl h1;cases e1;have h2:Fits G n 3 [x2]:=hf (2,3) (by simp);obtain⟨i2,e2⟩:=jbd rfl h2;cases e2;have h3:Fits G n 3 [x3]:=hf (3,3) (by simp);obtain⟨i3,e3⟩:=jbd rfl h3;cases e3;have h4:Fits G n 3 [x4]:=hf (4,3) (by simp);obtain⟨i4,e4⟩:=jbd rfl h4;cases e4;have h5:Fits G n 3 [x5]:=hf (5,3) (by simp);obtain⟨i5,e5⟩:=jbd rfl h5;cases e5;exact⟨⟨i0,i1,i2,i3,i4,i5⟩,rfl⟩
theorem fits_Recall:∀{n:Nat} {xs:List IV},Fits G n 59 xs->∃p:Recall,xs=p.c
 | 0,_,h=>h.elim
 | n+1,xs,h=>by
  unfold Fits at h;have hk:(G.ti 59).kind= .st [(0,3),(1,3)]:=rfl;rw[hk]at h;obtain⟨hl,hf⟩:=h;have hl:xs.length=2:=hl;obtain⟨x0,x1,rfl⟩:=of_len2 hl;have h0:Fits G n 3 [x0]:=hf (0,3) (by simp);obtain⟨i0,e0⟩:=jbd rfl h0;cases e0;have h1:Fits G n 3 [x1]:=hf (1,3) (by simp);obtain⟨i1,e1⟩:=jbd rfl h1;cases e1;exact⟨⟨i0,i1⟩,rfl⟩
theorem fits_Purity:∀{n:Nat} {xs:List IV},Fits G n 153 xs->∃p:Purity,xs=p.c
 | 0,_,h=>h.elim
 | n+1,xs,h=>by
  unfold Fits at h;have hk:(G.ti 153).kind= .st [(0,3),(1,3),(2,3),(3,3)]:=rfl;rw[hk]at h;obtain⟨hl,hf⟩:=h;have hl:xs.length=4:=hl;obtain⟨x0,x1,x2,x3,rfl⟩:=of_len4 hl;have h0:Fits G n 3 [x0]:=hf (0,3) (by simp);obtain⟨i0,e0⟩:=jbd rfl h0;cases e0;have h1:Fits G n 3 [x1]:=hf (1,3) (by simp);obtain⟨i1,e1⟩:=jbd rfl h1;cases e1;have h2:Fits G n 3 [x2]:=hf (2,3) (by simp);obtain⟨i2,e2⟩:=jbd rfl h2;cases e2;have h3:Fits G n 3 [x3]:=hf (3,3) (by simp);obtain⟨i3,e3⟩:=jbd rfl h3;cases e3;exact⟨⟨i0,i1,i2,i3⟩,rfl⟩
theorem fits_Evid:∀{n:Nat} {xs:List IV},Fits G n 28 xs->∃p:Evid,xs=p.c
 | 0,_,h=>h.elim
 | n+1,xs,h=>by
  unfold Fits at h;have hk:(G.ti 28).kind= .st [(0,3),(1,3),(2,3),(3,22),(4,23),(5,24),(6,25),(7,26)]:=rfl;rw[hk]at h;obtain⟨hl,hf⟩:=h;have hl:xs.length=8:=hl;obtain⟨x0,x1,x2,x3,x4,x5,x6,x7,rfl⟩:=of_len8 hl;have h0:Fits G n 3 [x0]:=hf (0,3) (by simp);obtain⟨i0,e0⟩:=jbd rfl h0;cases e0;have h1:Fits G n 3 [x1]:=hf (1,3) (by simp);obtain⟨i1,e1⟩:=jbd rfl h1;cases e1;have h2:Fits G n 3 [x2]:=hf (2,3) (by simp);obtain⟨i2,e2⟩:=jbd rfl h2;cases e2;have h3:Fits G n 22 [x3]:=hf (3,22) (by simp);obtain⟨i3,e3⟩:=jdk Place.c rfl (fun c hc=>fits_Place hc) h3;cases e3;have h4:Fits G n 23 [x4]:=hf (4,23) (by simp);obtain⟨i4,e4⟩:=jdk Move.c rfl (fun c hc=>fits_Move hc) h4;cases e4;have h5:Fits G n 24 [x5]:=hf (5,24) (by simp);obtain⟨i5,e5⟩:=jdk Cert.c rfl (fun c hc=>fits_Cert hc) h5;cases e5;have h6:Fits G n 25 [x6]:=hf (6,25) (by simp);obtain⟨i6,e6⟩:=jdk Recall.c rfl (fun c hc=>fits_Recall hc) h6;cases e6;have h7:Fits G n 26 [x7]:=hf (7,26) (by simp);obtain⟨i7,e7⟩:=jdk Purity.c rfl (fun c hc=>fits_Purity hc) h7;cases e7;exact⟨⟨i0,i1,i2,i3,i4,i5,i6,i7⟩,rfl⟩
theorem fitsA_Evid{n:Nat}{y:IV}(h:FitsA G n 28 y):∃e:Evid,y=e.iv:=by
 obtain⟨_,rfl,g⟩:=jjw rfl h;obtain⟨e,rfl⟩:=fits_Evid g;exact⟨e,rfl⟩
end
section
open Go.Abs
theorem fits_Pick:∀{n:Nat} {xs:List IV},Fits G n 79 xs->∃p:Int×Int,xs=pickC p
 | 0,_,h=>h.elim
 | n+1,xs,h=>by
  unfold Fits at h;have hk:(G.ti 79).kind= .st [(0,3),(1,3)]:=rfl;rw[hk]at h;obtain⟨hl,hf⟩:=h;have hl:xs.length=2:=hl
  match xs,hl with
  | [x0,x1],_=>
   have h0:Fits G n 3 [x0]:=hf (0,3) (by simp);obtain⟨i0,e0⟩:=jbd rfl h0;cases e0;have h1:Fits G n 3 [x1]:=hf (1,3) (by simp);obtain⟨i1,e1⟩:=jbd rfl h1;cases e1;exact⟨(i0,i1),rfl⟩
theorem fitsA_picks{n:Nat}{y:IV}(h:FitsA G n 29 y):∃l:List (Int×Int),y= .sl (l.map pickC):=by
 obtain⟨l,e⟩:=jdk pickC rfl (fun _ hc=>fits_Pick hc) (jpp rfl h);cases e;exact⟨l,rfl⟩
end
section
open Go.Abs
theorem jlc{n:Nat}{xs:List IV}(h:Fits G n 35 xs):∃x:Raw,xs=x.c:=by
 obtain⟨s,l,t,m,rfl⟩:=fits_Frac h;exact⟨⟨s,l,t,m⟩,rfl⟩
theorem fitsA_histH{n:Nat}{y:IV}(h:FitsA G n 30 y):∃l:List (List Raw),y=hist l:=by
 obtain⟨l,e⟩:=jdk rowC rfl (fun c hc=>by
  obtain⟨l,e⟩:=jdk Raw.c rfl (fun _ hc=>jlc hc) hc;exact⟨l,e⟩) (jpp rfl h)
 cases e;exact⟨l,rfl⟩
end
section
open Go.Abs
theorem ol16{α:Type}:∀{l:List α},l.length=16->∃x0 x1 x2 x3 x4 x5 x6 x7 y0 y1 y2 y3 y4 y5 y6 y7,l=[x0,x1,x2,x3,x4,x5,x6,x7,y0,y1,y2,y3,y4,y5,y6,y7]
 | [x0,x1,x2,x3,x4,x5,x6,x7,y0,y1,y2,y3,y4,y5,y6,y7],_=>⟨x0,x1,x2,x3,x4,x5,x6,x7,y0,y1,y2,y3,y4,y5,y6,y7,rfl⟩
theorem jlb{n:Nat}{x:IV}(h:Fits G n 36 [x]):∃l:List Raw,x= .sl (l.map Raw.c):=by
 obtain⟨l,e⟩:=jdk Raw.c rfl (fun _ hc=>jlc hc) h;cases e;exact⟨l,rfl⟩
theorem js9{n:Nat}{xs:List IV}(h:Fits G n 38 xs):∃k v X Y Z,xs=optC k v X Y Z:=by
 obtain⟨hl,m,hf⟩:=jny (t:=38) (fs:=[(0,3),(1,35),(5,36),(6,36),(7,36)]) rfl h;obtain⟨x0,x1,x2,x3,x4,x5,x6,x7,rfl⟩:=of_len8 (show xs.length=8 from hl);have h0:Fits G m 3 [x0]:=hf (0,3) (by simp);obtain⟨i0,e0⟩:=jbd rfl h0;cases e0;have h1:Fits G m 35 [x1,x2,x3,x4]:=hf (1,35) (by simp);obtain⟨i1,e1⟩:=jlc h1;have h2:Fits G m 36 [x5]:=hf (5,36) (by simp);obtain⟨X,rfl⟩:=jlb h2;have h3:Fits G m 36 [x6]:=hf (6,36) (by simp);obtain⟨Y,rfl⟩:=jlb h3;have h4:Fits G m 36 [x7]:=hf (7,36) (by simp);obtain⟨Z,rfl⟩:=jlb h4;refine⟨i0,i1,X,Y,Z,?_⟩;unfold optC;rw[<-e1];rfl
theorem fitsA_range{n:Nat}{y:IV}(h:FitsA G n 40 y):∃o:Rng,y= .agg o.c:=by
 obtain⟨xs,e,h'⟩:=jjw rfl h;subst e;obtain⟨hl,m,hf⟩:=jny (t:=40) (fs:=[(0,38),(8,38)]) rfl h';obtain⟨x0,x1,x2,x3,x4,x5,x6,x7,y0,y1,y2,y3,y4,y5,y6,y7,rfl⟩:=ol16 (show xs.length=16 from hl);have h0:Fits G m 38 [x0,x1,x2,x3,x4,x5,x6,x7]:=hf (0,38) (by simp);obtain⟨k,v,X,Y,Z,e0⟩:=js9 h0;have h1:Fits G m 38 [y0,y1,y2,y3,y4,y5,y6,y7]:=hf (8,38) (by simp);obtain⟨k',v',X',Y',Z',e1⟩:=js9 h1;refine⟨⟨k,v,X,Y,Z,k',v',X',Y',Z'⟩,?_⟩;unfold Rng.c;dsimp only;rw[<-e0,<-e1];rfl
