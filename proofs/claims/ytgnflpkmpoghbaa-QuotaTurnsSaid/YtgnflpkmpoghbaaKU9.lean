/- A part of the proof. No further condition. -/
import Derived.Test.YtgnflpkmpoghbaaKU8
import Derived.Attr
import Derived.Test.YtgnflpkmpoghbaaProg
import Derived.KernelRfl
import Derived.IntWalk
import Derived.Shelf.SlSortCmp.WholeK
import Derived.Shelf.SlSortCmp.NoneTotal
import Derived.Shelf.SlicesG.Cmp
import Derived.Shelf.Small.Bits
set_option linter.all false
set_option maxRecDepth 10000000
set_option maxHeartbeats 16000000
namespace Go.Abs
section
open Go.RowKit (Below)
universe u
class Hold (α:Sort u) where
 val:α
def Two(t:Bool)[A:Hold Prop][B:Hold Prop]:Prop:=(t=true->A.val)/\(t=false->B.val)
theorem Two_true{A B:Prop}: @Two true ⟨A⟩ ⟨B⟩=A:=by simp[Two]
theorem Two_false{A B:Prop}: @Two false ⟨A⟩ ⟨B⟩=B:=by simp[Two]
theorem Two_of{t:Bool}{A B:Prop}(h1:t=true->A)(h2:t=false->B): @Two t ⟨A⟩ ⟨B⟩:=⟨h1,h2⟩
theorem jd3{p:Prop}{i:Decidable p}{A B:Prop}(h1: @decide p i=true->p->A)(h2: @decide p i=false->¬p->B): @Two (@decide p i) ⟨A⟩ ⟨B⟩:=
 ⟨fun h=>h1 h (of_decide_eq_true h),fun h=>h2 h (of_decide_eq_false h)⟩
def Opt{α:Type}(o:Option α)[K:Hold (α->Prop)]:Prop:=
 match o with
 | some x=>K.val x
 | none=>False
theorem Opt_some{α:Type}{x:α}{K:α->Prop}: @Opt α (some x) ⟨K⟩=K x:=propext ⟨fun h=>h,fun h=>h⟩
def asB:AV->Option Bool
 | .im (.sc (.bool t))=>some t
 | _=>none
section
variable{G:Ctx}
def LoopP(G:Ctx)[c:Hold Code][Q:Hold (Exit->St->Prop)](st:St):Prop:=awp G (.loop c.val) Q.val st
def DrawP(G:Ctx)[ops:Hold (List Oper)][Q:Hold (Exit->St->Prop)](st:St):Prop:=
 RegSem G ops.val (Q.val .normal) st
variable(dst:Option Tmp)(ty:TypeId)(pos:String)(af:Array Edge)(gd:Option (Nat×Bool))(st:St)(ops:List Oper)(r:List Oper)
theorem awp_skip(Q:Exit->St->Prop):awp G .skip Q st=Q .normal st:=propext ⟨fun h=>h,fun h=>h⟩
theorem awp_seq(x y:Code)(Q:Exit->St->Prop):
  awp G (.seq x y) Q st=awp G x (fun e s=>match e with | .normal=>awp G y Q s | e=>Q e s) st:=propext ⟨fun h=>h,fun h=>h⟩
theorem awp_cond(c:Operand)(x y:Code)(Q:Exit->St->Prop):
  awp G (.cond c x y) Q st=Opt (asB (evO st c)) (K:=⟨fun t=>Two t (A:=⟨awp G x Q st⟩) (B:=⟨awp G y Q st⟩)⟩):=by
 simp only[awp];generalize evO st c=av;cases av with
 | im x=>cases x with
  | sc v=>cases v<;>rfl
  | _=>rfl
 | _=>rfl
theorem awp_block(id:Nat)(c:Code)(Q:Exit->St->Prop):
  awp G (.block id c) Q st=awp G c (fun e s=>match e with | .exit k=>if k=id then Q .normal s else Q (.exit k) s | e=>Q e s) st:=propext ⟨fun h=>h,fun h=>h⟩
theorem awp_exit(id:Nat)(Q:Exit->St->Prop):awp G (.exit id) Q st=Q (.exit id) st:=propext ⟨fun h=>h,fun h=>h⟩
theorem awp_ret(Q:Exit->St->Prop):awp G .ret Q st=Q .ret st:=propext ⟨fun h=>h,fun h=>h⟩
theorem awp_loop(c:Code)(Q:Exit->St->Prop):awp G (.loop c) Q st=LoopP G (c:=⟨c⟩) (Q:=⟨Q⟩) st:=propext ⟨fun h=>h,fun h=>h⟩
theorem awp_region(id:Nat)(Q:Exit->St->Prop):
  awp G (.region id ops.toArray false) Q st=alist G ops (Q .normal) ops st:=by simp[awp]
theorem awp_draw(id:Nat)(Q:Exit->St->Prop):
  awp G (.region id ops.toArray true) Q st=DrawP G (ops:=⟨ops⟩) (Q:=⟨Q⟩) st:=by simp only[awp,DrawP,if_true]
theorem jjh(ops:List Oper)(K:St->Prop)(st:St):alist G ops K [] st=K st:=propext ⟨fun h=>h,fun h=>h⟩
theorem alist_free(K:St->Prop)(op:Op):
  alist G ops K (⟨dst,op,ty,pos,af,none⟩::r) st=aop G ⟨dst,op,ty,pos,af,none⟩ (alist G ops K r) st:=propext ⟨fun h=>h,fun h=>h⟩
theorem Two_eq(A B:Prop)(b want:Bool):((b=want->A)/\(b≠want->B))=Two (b==want) (A:=⟨A⟩) (B:=⟨B⟩):=by
 cases b<;>cases want<;>simp[Two]
theorem alist_guard(K:St->Prop)(op:Op)(j:Nat)(want:Bool):
  alist G ops K (⟨dst,op,ty,pos,af,some (j,want)⟩::r) st=Opt (jbj st ops j) (K:=⟨fun y=>match y with
   | some b=>Two (b==want) (A:=⟨aop G ⟨dst,op,ty,pos,af,some (j,want)⟩ (alist G ops K r) st⟩) (B:=⟨alist G ops K r (st.put dst jb6)⟩)
   | none=>alist G ops K r (st.put dst jb6)⟩):=by
 conv=>lhs;unfold alist
 simp only[Opt,Two_eq];split<;>rename_i h<;>rw[h]
theorem jji(ops:List Oper)(K:St->Prop)(st:St):ahead G ops K [] st=K st:=propext ⟨fun h=>h,fun h=>h⟩
theorem ahead_free(ops:List Oper)(K:St->Prop)(dst:Option Tmp)(op:Op)(ty:TypeId)(pos:String)(af:Array Edge)(r:List Oper)(st:St):
  ahead G ops K (⟨dst,op,ty,pos,af,none⟩::r) st=aq G st ⟨dst,op,ty,pos,af,none⟩ (fun av=>ahead G ops K r (st.put dst av)):=propext ⟨fun h=>h,fun h=>h⟩
theorem jbq(K:St->Prop)(st:St)(o:Oper):aVal G K st o=Opt (yv G st o) (K:=⟨fun av=>K (st.put o.dst av)⟩):=by
 unfold aVal Opt;split<;>rename_i h<;>simp[h]
def jej(G:Ctx)(ops:List Oper)(K:St->Prop)(n:Nat)(l:List Oper)(st:St):Prop:=ahead G ops (fun s=>alist G ops K (l.drop n) s) (l.take n) st
theorem jbt{ops:List Oper}{Q:Exit->St->Prop}{st:St}(n:Nat)(h:drawB ops.toArray n=true)
  (hA:jej G ops (Q .normal) n ops st): @DrawP G ⟨ops⟩ ⟨Q⟩ st:=fun _ _ _ _ _ _ id _ hG hd hK hs=>draw_sound hG id n h hd hK hs hA
theorem jeg{ops:List Oper}{Q:Exit->St->Prop}{st:St}(h:drawS ops.toArray=true)
  (hA:jav G ops (jgf G (Q .normal) ops) ops (freshAll G ops st)): @DrawP G ⟨ops⟩ ⟨Q⟩ st:=fun _ _ _ _ _ _ id _ hG hd hK hs=>drawS_sound hG id h hd hK hs hA
theorem aheadN_zero(K:St->Prop)(l:List Oper):jej G ops K 0 l st=alist G ops K l st:=by
 simp only[jej,List.take_zero,List.drop_zero,jji]
theorem aheadN_nil(K:St->Prop)(n:Nat):jej G ops K n [] st=K st:=by
 simp only[jej,List.take_nil,List.drop_nil,jji,jjh]
theorem aheadN_free(K:St->Prop)(n:Nat)(op:Op):
  jej G ops K (n+1) (⟨dst,op,ty,pos,af,none⟩::r) st=aq G st ⟨dst,op,ty,pos,af,none⟩ (fun av=>jej G ops K n r (st.put dst av)):=by
 simp only[jej,List.take_succ_cons,List.drop_succ_cons,ahead_free]
theorem aheadS_nil(K:St->Prop):jav G ops K [] st=K st:=propext ⟨fun h=>h,fun h=>h⟩
theorem aheadS_store(K:St->Prop)(t:TypeId)(p x:Operand):
  jav G ops K (⟨none,.store t p x,ty,pos,af,none⟩::r) st=jav G ops K r st:=by
 conv=>lhs;unfold jav
 rw[if_pos (by rfl)]
theorem aStores_nil(K:St->Prop):jca G K [] st=K st:=propext ⟨fun h=>h,fun h=>h⟩
theorem aStores_other(K:St->Prop)(d:Tmp)(op:Op)(g:Option (Nat×Bool)):
  jca G K (⟨some d,op,ty,pos,af,g⟩::r) st=jca G K r st:=by
 conv=>lhs;unfold jca
 rw[if_neg (by unfold jak;split<;>simp)]
theorem aStores_store(K:St->Prop)(t:TypeId)(p x:Operand):
  jca G K (⟨none,.store t p x,ty,pos,af,none⟩::r) st=match ivOf (evO st x),evO st p with
   | some y,.loc d s i j=>match look st.rows d with
    | some (s',es)=>Opt es[i]? (K:=⟨fun c=>s'=s/\(G.ti t).size≠0/\(cellsOf y).length=(G.ti t).size/\(cellsOf y).all IV.one=true/\j+(G.ti t).size<=c.length/\
     jca G K r {st with rows:=setRow st.rows d s (es.set i (jah c j (cellsOf y)))}⟩)
    | none=>False
   | _,_=>False:=by
 conv=>lhs;unfold jca
 rw[if_pos (by rfl)];dsimp only;unfold aStQ;generalize ivOf (evO st x)=oy;generalize evO st p=pv;cases oy with
 | none=>rfl
 | some y=>cases pv with
  | loc d s i j=>
   dsimp only;generalize look st.rows d=o;cases o with
   | none=>rfl
   | some q=>
    obtain⟨s',es⟩:=q;dsimp only;unfold Opt;generalize es[i]? =oc;cases oc<;>rfl
  | _=>rfl
def CallP(G:Ctx)(g:Nat)(xs:List IV)[K:Hold (IV->Prop)][V:Hold (Nat->Nat->List (List IV)->Prop)][W:Hold Prop]:Prop:=
 (3<=g/\g<G.fns)/\((∃φ:IV->Prop,Ctr G.P g xs φ/\∀r,φ r->K.val r)\/(∃e s es,CtrV G.P g xs e s es/\(∀c∈es,c.length=s)/\V.val e s es)\/W.val)
theorem ja5{g:Nat}{xs:List IV}{K:IV->Prop}{V:Nat->Nat->List (List IV)->Prop}{W:Prop}{r:IV}(h:Ctr G.P g xs (· =r))(hg:3<=g/\g<G.fns)(hK:K r): @CallP G g xs ⟨K⟩ ⟨V⟩ ⟨W⟩:=⟨hg,.inl ⟨_,h,fun _ e=>e▸hK⟩⟩
def CallD(G:Ctx)(g:Nat)(xs:List IV)[K:Hold (IV->Prop)]:Prop:=
 (3<=g/\g<G.fns)/\∃r,Ctr G.P g xs (· =r)/\K.val r
theorem jal{g:Nat}{xs:List IV}{K:IV->Prop}{r:IV}(h:Ctr G.P g xs (· =r))(hg:3<=g/\g<G.fns)(hK:K r): @CallD G g xs ⟨K⟩:=⟨hg,r,h,hK⟩
def CallH(G:Ctx)(g:Nat)(st:St)(dst:Option Nat)(args:List AV)[K:Hold (St->Prop)]:Prop:=(3<=g/\g<G.fns)/\jjl G K.val st dst g args
def SubR(R' R:Rows):Prop:=∀k x,look R' k=some x->look R k=some x
theorem SubR.refl(R:Rows):SubR R R:=fun _ _ h=>h
def Behind(R L L' R':Rows):Prop:=∀k x,look R' k=some x->look L' k=some x\/(look L k=none/\look R k=some x)
def blks(L:Rows):Prop:=∀k x,look L k=some x->∃b,k=hp b
theorem CallP_o{g:Nat}{xs xs':List IV}{K':IV->Prop}{V:Nat->Nat->List (List IV)->Prop}{W W':Prop}{st:St}{d:Nat}{K:St->Prop}{sc:Nat×Bool}{kvs:List (List Int×List Int)}(h:CtrO G.P g xs' sc kvs)(hg:3<=g/\g<G.fns)
  (hK:K ((tokSt st d d 0 0).put (some d) (.mpo d sc kvs))): @CallP G g xs ⟨K'⟩ ⟨V⟩ ⟨W\/(aCallO G K st (some d) g xs'\/W')⟩:=
 ⟨hg,.inr (.inr (.inr (.inl ⟨d,sc,kvs,rfl,h,hK⟩)))⟩
theorem DrawSem_of{ops:List Oper}{Q:Exit->St->Prop}{st:St}(h:RegSem G ops (Q .normal) st): @DrawP G ⟨ops⟩ ⟨Q⟩ st:=h
def SpCall(G:Ctx)(fv:AV)(args:List AV)(R:Rows)[T:Hold (AV->Rows->Prop)]:Prop:=spCall G fv args R T.val
theorem jad{g:Nat}{caps:List IV}{args args':List AV}{R:Rows}{T:AV->Rows->Prop}{L:Rows}{φ:AV->Rows->Prop}(h:CtrH G.P g args' L φ)(hg:3<=g/\g<G.fns)(ha:(args++caps.map AV.im).map AV.toH=args')(hL:blks L)(hR:SubR L R)
  (hK:∀r L',φ r L'->(∀k,(look L' k).isSome->(look L k).isSome\/look R k=none)->∃R',Behind R L L' R'/\T r R'): @SpCall G (.im (.clo g caps)) args R ⟨T⟩:=
 ⟨g,caps,rfl,hg,L,φ,hL,hR,by rw[ha];exact h,hK⟩
def GrowX(b s:Nat)(es:List (List IV))(e n:Nat)(R:Rows)[T:Hold (AV->Rows->Prop)]:Prop:=∀X,look (del R (hp b)) (hp X)=none->T.val (.im (.ref X e s n)) ((hp X,s,es)::del R (hp b))
theorem jat{b s:Nat}{es:List (List IV)}{e n:Nat}{R:Rows}{T:AV->Rows->Prop}(h:∀X,look (del R (hp b)) (hp X)=none->T (.im (.ref X e s n)) ((hp X,s,es)::del R (hp b))): @GrowX b s es e n R ⟨T⟩:=h
def NewX(s:Nat)(es:List (List IV))(e n:Nat)(R:Rows)[T:Hold (AV->Rows->Prop)]:Prop:=∀b,look R (hp b)=none->T.val (.im (.ref b e s n)) ((hp b,s,es)::R)
theorem jcb{s:Nat}{es:List (List IV)}{e n:Nat}{R:Rows}{T:AV->Rows->Prop}(h:∀b,look R (hp b)=none->T (.im (.ref b e s n)) ((hp b,s,es)::R)): @NewX s es e n R ⟨T⟩:=h
def SpApp(G:Ctx)(d:Nat)(t e:TypeId)(sv:AV)(xo:Option (List (List IV)))(R:Rows)[T:Hold (AV->Rows->Prop)]:Prop:=spApp G d t e sv xo R T.val
theorem SpApp_ref(d:Nat)(t e:TypeId)(b e' s' n:Nat)(xs:List (List IV))(R:Rows)(T:AV->Rows->Prop): @SpApp G d t e (.im (.ref b e' s' n)) (some xs) R ⟨T⟩=Opt (look R (hp b)) (K:=⟨fun p=>
  (e'=e/\s'=(G.ti e).size/\p.1=(G.ti e).size)/\(G.ti t).size≠0/\(G.ti e).size≠0/\(G.ti e).bytes≠0/\(∀c∈xs,c.length=(G.ti e).size)/\n<=p.2.length/\(n+xs.length)*(G.ti e).bytes<=140737488355328/\
   GrowX b (G.ti e).size (p.2.take n++xs) e (n+xs.length) R (T:=⟨T⟩)⟩):=by
 apply propext;constructor
 ·rintro⟨xs',hx,h1,h2,h3,h4,⟨b',n',es,hs,hl,h5,h6,h7⟩ | ⟨hs,_⟩ | ⟨hs,_⟩⟩
  ·cases hx;cases hs;unfold Opt;rw[hl];exact⟨⟨rfl,rfl,rfl⟩,h1,h2,h3,h4,h5,h6,h7⟩
  ·exact absurd (show false=true from hs) (by decide)
  ·exact absurd (show false=true from hs) (by decide)
 ·intro h;unfold Opt at h;split at h
  ·rename_i p hl;obtain⟨s2,es⟩:=p;obtain⟨⟨rfl,rfl,h0⟩,h1,h2,h3,h4,h5,h6,h7⟩:=h;dsimp only at h0 h5 h7;subst h0;exact⟨xs,rfl,h1,h2,h3,h4,.inl ⟨b,n,es,rfl,hl,h5,h6,h7⟩⟩
  ·exact h.elim
theorem SpApp_sx0(d:Nat)(t e:TypeId)(x:List IV)(xr:List (List IV))(R:Rows)(T:AV->Rows->Prop): @SpApp G d t e (.sx []) (some (x::xr)) R ⟨T⟩=(G.perm.contains d=true/\(G.ti t).size≠0/\(G.ti e).size≠0/\(G.ti e).bytes≠0/\(∀c∈(x::xr),c.length=(G.ti e).size)/\(x::xr)≠[]/\(x::xr).length*(G.ti e).bytes<=140737488355328/\
   NewX (G.ti e).size (x::xr) e (x::xr).length R (T:=⟨T⟩)):=by
 apply propext;constructor
 ·rintro⟨xs',hx,h1,h2,h3,h4,⟨b',n',es,hs,_⟩ | ⟨_,h5,h6,h7,h8⟩ | ⟨_,h0,_⟩⟩
  ·cases hs
  ·cases hx;exact⟨h5,h1,h2,h3,h4,h6,h7,h8⟩
  ·cases hx;cases h0
 ·rintro⟨h5,h1,h2,h3,h4,h6,h7,h8⟩;exact⟨x::xr,rfl,h1,h2,h3,h4,.inr (.inl ⟨rfl,h5,h6,h7,h8⟩)⟩
def NewP(s:Nat)(es:List (List IV))(d:Nat)[K:Hold (St->Prop)][A:Hold (St×(Nat->AV))]:Prop:=NewH K.val A.val.1 s es d A.val.2
theorem SpApp_sx00(d:Nat)(t e:TypeId)(R:Rows)(T:AV->Rows->Prop): @SpApp G d t e (.sx []) (some []) R ⟨T⟩=((G.ti t).size≠0/\(G.ti e).size≠0/\(G.ti e).bytes≠0/\T (.sx []) R):=by
 apply propext;constructor
 ·rintro⟨xs',hx,h1,h2,h3,h4,⟨b',n',es,hs,_⟩ | ⟨_,_,h6,_⟩ | ⟨_,h0,h5⟩⟩
  ·cases hs
  ·cases hx;exact absurd rfl h6
  ·exact⟨h1,h2,h3,h5⟩
 ·rintro⟨h1,h2,h3,h5⟩;exact⟨[],rfl,h1,h2,h3,(fun c hc=>by cases hc),.inr (.inr ⟨rfl,rfl,h5⟩)⟩
def GrowP(b s:Nat)(es:List (List IV))(d e n:Nat)[K:Hold (St->Prop)][A:Hold St]:Prop:=GrowH K.val A.val b s es d e n
theorem aCall_eq(K:St->Prop)(dst:Option Nat)(f:Operand)(args:List Operand):
  aCall G K st dst f args=if isFrz G dst=true then jg6 G K (st.frzOs args) dst f args else jg6 G K st dst f args:=propext ⟨fun h=>h,fun h=>h⟩
theorem aCall0_eq(K:St->Prop)(dst:Option Nat)(f:Operand)(args:List Operand):
  jg6 G K st dst f args=if(args.any fun x=>isHa (evO st x))=true then(match evO st f with
   | .im (.clo g caps)=>CallH G g st dst (args.map (evO st)++caps.map .im) (K:=⟨K⟩)
   | _=>False)else match evO st f,ivsOf (args.map (evO (st.lendOs args)))with
   | .im (.clo g caps),some xs=>CallP G g (xs++caps) (K:=⟨fun r=>K ((if flatB r=true then st else st.lendOs args).put dst (.im r))⟩)
     (V:=⟨fun e s es=>match dst with | some d=>K ((tokSt (st.lendOs args) d d s es.length).put (some d) (.vec d e s es)) | none=>False⟩) (W:=⟨aCallM G K st dst g (args.map (evO st)++caps.map .im)\/(aCallO G K (st.lendOs args) dst g (xs++caps)\/jjl G K st dst g (args.map (evO st)++caps.map .im))⟩)
   | _,_=>False:=by
 unfold jg6 CallP;generalize (args.any fun x=>isHa (evO st x))=hb;generalize evO st f=fv;generalize ivsOf (args.map (evO (st.lendOs args)))=oxs;cases hb with
 | true=>rfl
 | false=>
 simp only[Bool.false_eq_true,if_false];cases fv with
 | im x=>cases x with
  | clo g caps=>cases oxs with
   | none=>rfl
   | some xs=>
    dsimp only;cases dst with
    | none=>simp
    | some d=>simp
  | _=>rfl
 | _=>rfl
def NilP(es:List (List IV))[K:Hold (Bool->Prop)]:Prop:=∀b:Bool,(b=true->es=[])->K.val b
theorem NilP_of{es:List (List IV)}{K:Bool->Prop}(h1:es=[]->K true)(h2:K false): @NilP es ⟨K⟩:=fun b hb=>by
 cases b
 ·exact h2
 ·exact h1 (hb rfl)
theorem aNil_eq(K:St->Prop)(dst:Option Nat)(op:BinOp)(t:TypeId)(x:Operand):aNil G K st dst op t x=if jkj (evO st x)=true then(match op with
  | .eql=>(G.ti t).size≠0/\isSl (G.ti t).kind=true/\K (st.put dst (.im (.sc (.bool false))))
  | .neq=>(G.ti t).size≠0/\isSl (G.ti t).kind=true/\K (st.put dst (.im (.sc (.bool true))))
  | _=>False)
 else match jb5 (evO st x),op with
  | some es,.eql=>(G.ti t).size≠0/\isSl (G.ti t).kind=true/\NilP es (K:=⟨fun b=>K (st.put dst (.im (.sc (.bool b))))⟩)
  | some es,.neq=>(G.ti t).size≠0/\isSl (G.ti t).kind=true/\NilP es (K:=⟨fun b=>K (st.put dst (.im (.sc (.bool !b))))⟩)
  | _,_=>False:=propext ⟨fun h=>h,fun h=>h⟩
theorem aq_eq(st:St)(o:Oper)(K:AV->Prop):aq G st o K=match o.op with
  | .call c=>match c.callee with
   | .value f=>match evO st f,ivsOf (c.args.toList.map (evO st))with
    | .im (.clo g caps),some xs=>CallD G g (xs++caps) (K:=⟨fun r=>K (.im r)⟩)
    | _,_=>False
   | .builtin .append=>appP G st c.argTypes.toList c.args.toList K
   | _=>Opt (yv G st o) (K:=⟨K⟩)
  | _=>Opt (yv G st o) (K:=⟨K⟩):=by
 obtain⟨dst,op,ty,pos,af,gd⟩:=o;unfold aq Opt;cases op<;>dsimp only<;>first
  | (generalize yv G st _=y;cases y<;>rfl)
  | rfl
  | (rename_i c;obtain⟨callee,azz,ts⟩:=c;cases callee<;>first
    | (dsimp only;generalize yv G st _=y;cases y<;>rfl)
    | rfl
    | (rename_i b;cases b<;>dsimp only<;>first | (generalize yv G st _=y;cases y<;>rfl) | rfl))
def isMk:Op->Bool
 | .alloc _=>true
 | _=>false
theorem jfp{o:Oper}(h:isMk o.op=false):jaf G o=none:=by
 obtain⟨dst,op,ty,pos,af,gd⟩:=o;cases op<;>first | (cases h;done) | rfl
theorem jgu{d:Tmp}{op:Op}{ty:TypeId}{pos:String}{af:Array Edge}{g:Option (Nat×Bool)}:jak ⟨some d,op,ty,pos,af,g⟩=false:=by
 unfold jak;split<;>simp
theorem jbw(ops:List Oper)(K:St->Prop)(d:Tmp)(op:Op)(ty:TypeId)(pos:String)(af:Array Edge)(r:List Oper)(st:St)(hm:isMk op=false):
  jav G ops K (⟨some d,op,ty,pos,af,none⟩::r) st=aq G st ⟨some d,op,ty,pos,af,none⟩ (fun av=>jav G ops K r (st.put (some d) av)):=by
 conv=>lhs;unfold jav
 rw[if_neg (by rw[jgu];simp),jfp hm]
theorem aheadS_alloc(K:St->Prop)(d:Tmp)(t:TypeId):
  jav G ops K (⟨some d,.alloc t,ty,pos,af,none⟩::r) st=Opt (jbi G t) (K:=⟨fun z=>jav G ops K r (st.put (some d) (.loc d z.length 0 0))⟩):=by
 conv=>lhs;unfold jav
 rw[if_neg (by rw[jgu];simp)];unfold jaf;dsimp only;generalize hz:jbi G t=oz;cases oz with
 | none=>simp only[aq_eq,yv,Opt]
 | some z=>rfl
theorem freshAll_nil:freshAll G [] st=st:=rfl
theorem jb0(dst:Option Tmp)(op:Op)(ty:TypeId)(pos:String)(af:Array Edge)(g:Option (Nat×Bool))(r:List Oper)(st:St)(hm:isMk op=false):freshAll G (⟨dst,op,ty,pos,af,g⟩::r) st=freshAll G r st:=by
 conv=>lhs;unfold freshAll
 rw[jfp hm]
theorem freshAll_alloc(d:Tmp)(t:TypeId):freshAll G (⟨some d,.alloc t,ty,pos,af,none⟩::r) st=match jbi G t with | some _=>freshAll G r (st.fresh d) | none=>freshAll G r st:=by
 conv=>lhs;unfold freshAll
 unfold jaf;dsimp only;generalize jbi G t=oz;cases oz<;>rfl
theorem mkRows_nil:jar G []=[]:=rfl
theorem jbd(dst:Option Tmp)(op:Op)(ty:TypeId)(pos:String)(af:Array Edge)(g:Option (Nat×Bool))(r:List Oper)(hm:isMk op=false):jar G (⟨dst,op,ty,pos,af,g⟩::r)=jar G r:=by
 conv=>lhs;unfold jar
 rw[jfp hm]
theorem mkRows_alloc(d:Tmp)(t:TypeId):jar G (⟨some d,.alloc t,ty,pos,af,none⟩::r)=match jbi G t with | some z=>(d,z.length,[z])::jar G r | none=>jar G r:=by
 conv=>lhs;unfold jar
 unfold jaf;dsimp only;generalize jbi G t=oz;cases oz<;>rfl
theorem aheadS_move(K:St->Prop)(d:Tmp){x0}:jav G ops K (⟨some d,.move x0,ty,pos,af,none⟩::r) st=aq G st ⟨some d,.move x0,ty,pos,af,none⟩ (fun av=>jav G ops K r (st.put (some d) av)):=jbw _ _ _ _ _ _ _ _ _ rfl
theorem freshAll_move{x0}(g:Option (Nat×Bool)):freshAll G (⟨dst,.move x0,ty,pos,af,g⟩::r) st=freshAll G r st:=jb0 _ _ _ _ _ _ _ _ rfl
theorem mkRows_move{x0}(g:Option (Nat×Bool)):jar G (⟨dst,.move x0,ty,pos,af,g⟩::r)=jar G r:=jbd _ _ _ _ _ _ _ rfl
theorem aheadS_assign(K:St->Prop)(d:Tmp){x0}:jav G ops K (⟨some d,.assign x0,ty,pos,af,none⟩::r) st=aq G st ⟨some d,.assign x0,ty,pos,af,none⟩ (fun av=>jav G ops K r (st.put (some d) av)):=jbw _ _ _ _ _ _ _ _ _ rfl
theorem freshAll_assign{x0}(g:Option (Nat×Bool)):freshAll G (⟨dst,.assign x0,ty,pos,af,g⟩::r) st=freshAll G r st:=jb0 _ _ _ _ _ _ _ _ rfl
theorem mkRows_assign{x0}(g:Option (Nat×Bool)):jar G (⟨dst,.assign x0,ty,pos,af,g⟩::r)=jar G r:=jbd _ _ _ _ _ _ _ rfl
theorem aheadS_buildSlice(K:St->Prop)(d:Tmp){x0 x1 x2}:jav G ops K (⟨some d,.buildSlice x0 x1 x2,ty,pos,af,none⟩::r) st=aq G st ⟨some d,.buildSlice x0 x1 x2,ty,pos,af,none⟩ (fun av=>jav G ops K r (st.put (some d) av)):=jbw _ _ _ _ _ _ _ _ _ rfl
theorem freshAll_buildSlice{x0 x1 x2}(g:Option (Nat×Bool)):freshAll G (⟨dst,.buildSlice x0 x1 x2,ty,pos,af,g⟩::r) st=freshAll G r st:=jb0 _ _ _ _ _ _ _ _ rfl
theorem mkRows_buildSlice{x0 x1 x2}(g:Option (Nat×Bool)):jar G (⟨dst,.buildSlice x0 x1 x2,ty,pos,af,g⟩::r)=jar G r:=jbd _ _ _ _ _ _ _ rfl
theorem aheadS_load(K:St->Prop)(d:Tmp){x0 x1}:jav G ops K (⟨some d,.load x0 x1,ty,pos,af,none⟩::r) st=aq G st ⟨some d,.load x0 x1,ty,pos,af,none⟩ (fun av=>jav G ops K r (st.put (some d) av)):=jbw _ _ _ _ _ _ _ _ _ rfl
theorem freshAll_load{x0 x1}(g:Option (Nat×Bool)):freshAll G (⟨dst,.load x0 x1,ty,pos,af,g⟩::r) st=freshAll G r st:=jb0 _ _ _ _ _ _ _ _ rfl
theorem mkRows_load{x0 x1}(g:Option (Nat×Bool)):jar G (⟨dst,.load x0 x1,ty,pos,af,g⟩::r)=jar G r:=jbd _ _ _ _ _ _ _ rfl
theorem aheadS_slice(K:St->Prop)(d:Tmp){x0 x1 x2 x3 x4}:jav G ops K (⟨some d,.slice x0 x1 x2 x3 x4,ty,pos,af,none⟩::r) st=aq G st ⟨some d,.slice x0 x1 x2 x3 x4,ty,pos,af,none⟩ (fun av=>jav G ops K r (st.put (some d) av)):=jbw _ _ _ _ _ _ _ _ _ rfl
theorem freshAll_slice{x0 x1 x2 x3 x4}(g:Option (Nat×Bool)):freshAll G (⟨dst,.slice x0 x1 x2 x3 x4,ty,pos,af,g⟩::r) st=freshAll G r st:=jb0 _ _ _ _ _ _ _ _ rfl
theorem mkRows_slice{x0 x1 x2 x3 x4}(g:Option (Nat×Bool)):jar G (⟨dst,.slice x0 x1 x2 x3 x4,ty,pos,af,g⟩::r)=jar G r:=jbd _ _ _ _ _ _ _ rfl
theorem aheadS_extract(K:St->Prop)(d:Tmp){x0 x1}:jav G ops K (⟨some d,.extract x0 x1,ty,pos,af,none⟩::r) st=aq G st ⟨some d,.extract x0 x1,ty,pos,af,none⟩ (fun av=>jav G ops K r (st.put (some d) av)):=jbw _ _ _ _ _ _ _ _ _ rfl
theorem freshAll_extract{x0 x1}(g:Option (Nat×Bool)):freshAll G (⟨dst,.extract x0 x1,ty,pos,af,g⟩::r) st=freshAll G r st:=jb0 _ _ _ _ _ _ _ _ rfl
theorem mkRows_extract{x0 x1}(g:Option (Nat×Bool)):jar G (⟨dst,.extract x0 x1,ty,pos,af,g⟩::r)=jar G r:=jbd _ _ _ _ _ _ _ rfl
theorem aheadS_call(K:St->Prop)(d:Tmp){x0}:jav G ops K (⟨some d,.call x0,ty,pos,af,none⟩::r) st=aq G st ⟨some d,.call x0,ty,pos,af,none⟩ (fun av=>jav G ops K r (st.put (some d) av)):=jbw _ _ _ _ _ _ _ _ _ rfl
theorem freshAll_call{x0}(g:Option (Nat×Bool)):freshAll G (⟨dst,.call x0,ty,pos,af,g⟩::r) st=freshAll G r st:=jb0 _ _ _ _ _ _ _ _ rfl
theorem mkRows_call{x0}(g:Option (Nat×Bool)):jar G (⟨dst,.call x0,ty,pos,af,g⟩::r)=jar G r:=jbd _ _ _ _ _ _ _ rfl
theorem freshAll_store{x0 x1 x2}(g:Option (Nat×Bool)):freshAll G (⟨dst,.store x0 x1 x2,ty,pos,af,g⟩::r) st=freshAll G r st:=jb0 _ _ _ _ _ _ _ _ rfl
theorem mkRows_store{x0 x1 x2}(g:Option (Nat×Bool)):jar G (⟨dst,.store x0 x1 x2,ty,pos,af,g⟩::r)=jar G r:=jbd _ _ _ _ _ _ _ rfl
theorem aStores0_eq(K:St->Prop):jgf G K ops st=jca G K ops ⟨st.fr,jar G ops++st.rows,st.toks⟩:=rfl
theorem aStore_eq(K:St->Prop)(dst:Option Nat)(t:TypeId)(p x:Operand):
  jhy G K st dst t p x=match ivE G (evO st x),(evO st p).dp with
   | some y,.loc d s i j=>match look st.rows d with
    | some (s',es)=>Opt es[i]? (K:=⟨fun c=>s'=s/\(G.ti t).size≠0/\(cellsOf y).length=(G.ti t).size/\(cellsOf y).all IV.one=true/\j+(G.ti t).size<=c.length/\
     K (St.put {st with rows:=setRow st.rows d s (es.set i (jah c j (cellsOf y)))} dst jb6)⟩)
    | none=>False
   | _,_=>False:=by
 unfold jhy;generalize ivE G (evO st x)=oy;generalize (evO st p).dp=pv;cases oy with
 | none=>rfl
 | some y=>cases pv with
  | loc d s i j=>
   dsimp only;generalize look st.rows d=o;cases o with
   | none=>rfl
   | some q=>
    obtain⟨s',es⟩:=q;dsimp only;unfold Opt;generalize es[i]? =oc;cases oc<;>rfl
  | _=>rfl
def jjm{α:Type}[LR:Hold (List Nat×List Nat)][S:Hold (α->St)][P:Hold (α->Prop)][M:Hold ((α->Nat)×α)](s:St):Prop:=∃a',P.val a'/\M.val.1 a'<M.val.1 M.val.2/\St.Le s (S.val a')
theorem jae{α:Type}{L R:List Nat}{S:α->St}{P:α->Prop}{μ:α->Nat}{a:α}{s:St}(a':α)(hs:s.keep L R=S a')(hμ:μ a'<μ a)(hP:P a'): @jjm α ⟨(L,R)⟩ ⟨S⟩ ⟨P⟩ ⟨(μ,a)⟩ s:=⟨a',hP,hμ,by show St.Le s (S a');rw[<-hs];exact St.le_keep s L R⟩
def St.prom1(s:St)(t d e k:Nat):St:=
 if k=0 then s.forget t else if d<100000 then(match s.get t with
 | .vec _ _ _ _=>s.ren t d
 | _=>s.prom t d e k)else s.forget t
def St.proms:St->List (Nat×Nat×Nat×Nat)->St
 | s,[]=>s
 | s,(t,d,e,k)::r=>St.proms (s.prom1 t d e k) r
def ji5:St->List (Nat×Nat×Nat×Nat)->Prop
 | _,[]=>True
 | s,(t,d,e,k)::r=>(if k=0 then True else match s.get t with | .sx es=>∀c∈es,c.length=k | .vec d0 _ s' es=>look s.toks d0=some (s',es.length) | _=>False)/\ji5 (s.prom1 t d e k) r
theorem St.le_proms:∀(l:List (Nat×Nat×Nat×Nat)) (s:St),ji5 s l->St.Le s (s.proms l)
 | [],s,_=>St.Le.refl s
 | (t,d,e,k)::r,s,h=>by
  obtain⟨h1,h2⟩:=h;have h3:St.Le s (s.prom1 t d e k):=by
   unfold St.prom1;by_cases hk:k=0
   ·rw[if_pos hk];exact St.le_forget s t
   rw[if_neg hk]at h1⊢;by_cases hdN:d<100000
   case neg=>rw[if_neg hdN];exact St.le_forget s t
   rw[if_pos hdN];split at h1
   ·rename_i es hg;simp only[hg];exact St.le_prom hdN hg h1
   ·rename_i hg;simp only[hg];exact St.le_ren hdN hg h1
   ·exact h1.elim
  exact h3.trans (St.le_proms r _ h2)
theorem LoopP_ofP{α:Type}{c:Code}{Q:Exit->St->Prop}{st:St}(L R:List Nat)(ps:List (Nat×Nat×Nat×Nat))(S:α->St)(P:α->Prop)(μ:α->Nat)(a:α)(hps:ji5 (st.keep L R) ps)(hs:(st.keep L R).proms ps=S a)(hP:P a)
  (h:∀a,P a->awp G c (fun e s=>match e with | .normal=> @jjm α ⟨(L,R)⟩ ⟨S⟩ ⟨P⟩ ⟨(μ,a)⟩ s | e=>Q e s) (S a)): @LoopP G ⟨c⟩ ⟨Q⟩ st:=by
 refine⟨fun n s=>∃a,μ a=n/\P a/\s=S a,μ a,⟨_,(St.le_keep st L R).trans (St.le_proms ps _ hps),a,rfl,hP,hs⟩,fun n s ⟨a,hn,hP,hs⟩=> ?_⟩;subst hn;subst hs;have e:(fun(e:Exit) (s':St)=>match e with | .normal=>∃n',n'<μ a/\∃s1,St.Le s' s1/\∃b,μ b=n'/\P b/\s1=S b | e=>Q e s')=
   (fun e s=>match e with | .normal=> @jjm α ⟨(L,R)⟩ ⟨S⟩ ⟨P⟩ ⟨(μ,a)⟩ s | e=>Q e s):=by
  funext e s;cases e<;>first | rfl | skip;simp only[jjm,eq_iff_iff];exact⟨fun⟨n',h1,s1,h5,b,h2,h3,h4⟩=>⟨b,h3,h2▸h1,h4▸h5⟩,fun⟨b,h3,h1,h4⟩=>⟨_,h1,_,h4,b,rfl,h3,rfl⟩⟩
 refine(congrFun (congrArg (awp G c) e) (S a)).mpr (h a hP)
theorem jbo{α:Type}{c:Code}{Q:Exit->St->Prop}{st:St}(L R:List Nat)(S:α->St)(P:α->Prop)(μ:α->Nat)(a:α)(hs:st.keep L R=S a)(hP:P a)
  (h:∀a,P a->awp G c (fun e s=>match e with | .normal=> @jjm α ⟨(L,R)⟩ ⟨S⟩ ⟨P⟩ ⟨(μ,a)⟩ s | e=>Q e s) (S a)): @LoopP G ⟨c⟩ ⟨Q⟩ st:=by
 exact LoopP_ofP L R [] S P μ a trivial hs hP h
theorem bq_true(b:Bool):(b==true)=b:=by cases b<;>rfl
theorem bq_false(b:Bool):(b==false)= !b:=by cases b<;>rfl
def noZ:ZC->Bool
 | .no=>true
 | _=>false
theorem zeroIV_eq(t:TypeId):jbi G t=if(G.ti t).size=0 then none else if(G.ti t).zero.any noZ=true then none else some ((G.ti t).zero.map (ZC.ivG G.emp)):=by
 have:(G.ti t).zero.contains .no=(G.ti t).zero.any noZ:=by
  induction (G.ti t).zero with
  | nil=>rfl
  | cons x l ih=>rw[List.contains_cons,List.any_cons,ih];cases x<;>rfl
 unfold jbi;rw[this]
theorem oc_int(k:IntKind)(n:Int):(Value.int k n).oneCell'=true:=rfl
theorem oc_bool(b:Bool):(Value.bool b).oneCell'=true:=rfl
theorem oc_string(s:ByteArray):(Value.string s).oneCell'=true:=rfl
theorem jag(hG:G.Good){f:FuncId}{args:List IV}{φ:IV->Prop}(fn:Func)(c:Code)(rs:List ResultVar)(hf:G.P.funcs[f]? =some fn)(hb:fn.body=some c)(hr:fn.results.toList=rs)(hd:dstC fn.ntmps c=true)
  (hn:Nat.ble args.length fn.ntmps=true) (h:awp G c (fun e s=>match e with | .normal=>aRet G rs φ s | .ret=>aRet G rs φ s | _=>False) (jb9 args)):Ctr G.P f args φ:=by
 subst hr;exact ctr_of_awp hG hf hb hd (Nat.le_of_ble_eq_true hn) h
end
end
section
section
variable{G:Ctx}
variable(dst:Option Tmp)(ty:TypeId)(pos:String)(af:Array Edge)(gd:Option (Nat×Bool))(st:St)(ops:List Oper)(r:List Oper)
theorem aop_move(x:Operand)(K:St->Prop):aop G ⟨dst,.move x,ty,pos,af,gd⟩ K st=Opt (yv G st ⟨dst,.move x,ty,pos,af,gd⟩) (K:=⟨fun av=>K (st.put dst av)⟩):=jbq K st ⟨dst,.move x,ty,pos,af,gd⟩
theorem aq_move(x:Operand)(K:AV->Prop):aq G st ⟨dst,.move x,ty,pos,af,gd⟩ K=Opt (yv G st ⟨dst,.move x,ty,pos,af,gd⟩) (K:=⟨K⟩):=by rw[aq_eq]
theorem aop_assign(x:Operand)(K:St->Prop):aop G ⟨dst,.assign x,ty,pos,af,gd⟩ K st=Opt (yv G st ⟨dst,.assign x,ty,pos,af,gd⟩) (K:=⟨fun av=>K (st.put dst av)⟩):=jbq K st ⟨dst,.assign x,ty,pos,af,gd⟩
theorem aq_assign(x:Operand)(K:AV->Prop):aq G st ⟨dst,.assign x,ty,pos,af,gd⟩ K=Opt (yv G st ⟨dst,.assign x,ty,pos,af,gd⟩) (K:=⟨K⟩):=by rw[aq_eq]
theorem aop_pick(c a b:Operand)(K:St->Prop):aop G ⟨dst,.pick c a b,ty,pos,af,gd⟩ K st=Opt (yv G st ⟨dst,.pick c a b,ty,pos,af,gd⟩) (K:=⟨fun av=>K (st.put dst av)⟩):=jbq K st ⟨dst,.pick c a b,ty,pos,af,gd⟩
theorem aop_unOp(u:UnOp)(t:TypeId)(x:Operand)(K:St->Prop):aop G ⟨dst,.unOp u t x,ty,pos,af,gd⟩ K st=Opt (yv G st ⟨dst,.unOp u t x,ty,pos,af,gd⟩) (K:=⟨fun av=>K (st.put dst av)⟩):=jbq K st ⟨dst,.unOp u t x,ty,pos,af,gd⟩
theorem aop_load(t:TypeId)(p:Operand)(K:St->Prop):aop G ⟨dst,.load t p,ty,pos,af,gd⟩ K st=Opt (yv G st ⟨dst,.load t p,ty,pos,af,gd⟩) (K:=⟨fun av=>K (st.put dst av)⟩):=jbq K st ⟨dst,.load t p,ty,pos,af,gd⟩
theorem aq_load(t:TypeId)(p:Operand)(K:AV->Prop):aq G st ⟨dst,.load t p,ty,pos,af,gd⟩ K=Opt (yv G st ⟨dst,.load t p,ty,pos,af,gd⟩) (K:=⟨K⟩):=by rw[aq_eq]
theorem aop_fieldAddr(t:TypeId)(x:Operand)(f:Nat)(K:St->Prop):aop G ⟨dst,.fieldAddr t x f,ty,pos,af,gd⟩ K st=Opt (yv G st ⟨dst,.fieldAddr t x f,ty,pos,af,gd⟩) (K:=⟨fun av=>K (st.put dst av)⟩):=jbq K st ⟨dst,.fieldAddr t x f,ty,pos,af,gd⟩
theorem aq_fieldAddr(t:TypeId)(x:Operand)(f:Nat)(K:AV->Prop):aq G st ⟨dst,.fieldAddr t x f,ty,pos,af,gd⟩ K=Opt (yv G st ⟨dst,.fieldAddr t x f,ty,pos,af,gd⟩) (K:=⟨K⟩):=by rw[aq_eq]
theorem aop_indexAddr(t:TypeId)(x i:Operand)(K:St->Prop):aop G ⟨dst,.indexAddr t x i,ty,pos,af,gd⟩ K st=Opt (yv G st ⟨dst,.indexAddr t x i,ty,pos,af,gd⟩) (K:=⟨fun av=>K (st.put dst av)⟩):=jbq K st ⟨dst,.indexAddr t x i,ty,pos,af,gd⟩
theorem aq_indexAddr(t:TypeId)(x i:Operand)(K:AV->Prop):aq G st ⟨dst,.indexAddr t x i,ty,pos,af,gd⟩ K=Opt (yv G st ⟨dst,.indexAddr t x i,ty,pos,af,gd⟩) (K:=⟨K⟩):=by rw[aq_eq]
theorem aop_extract(x:Operand)(k:Nat)(K:St->Prop):aop G ⟨dst,.extract x k,ty,pos,af,gd⟩ K st=Opt (yv G st ⟨dst,.extract x k,ty,pos,af,gd⟩) (K:=⟨fun av=>K (st.put dst av)⟩):=jbq K st ⟨dst,.extract x k,ty,pos,af,gd⟩
theorem aq_extract(x:Operand)(k:Nat)(K:AV->Prop):aq G st ⟨dst,.extract x k,ty,pos,af,gd⟩ K=Opt (yv G st ⟨dst,.extract x k,ty,pos,af,gd⟩) (K:=⟨K⟩):=by rw[aq_eq]
theorem aop_build(t:TypeId)(ps:Array (Nat×Operand))(K:St->Prop):aop G ⟨dst,.build t ps,ty,pos,af,gd⟩ K st=Opt (yv G st ⟨dst,.build t ps,ty,pos,af,gd⟩) (K:=⟨fun av=>K (st.put dst av)⟩):=jbq K st ⟨dst,.build t ps,ty,pos,af,gd⟩
theorem aq_build(t:TypeId)(ps:Array (Nat×Operand))(K:AV->Prop):aq G st ⟨dst,.build t ps,ty,pos,af,gd⟩ K=Opt (yv G st ⟨dst,.build t ps,ty,pos,af,gd⟩) (K:=⟨K⟩):=by rw[aq_eq]
theorem aop_buildSlice(t:TypeId)(n:Nat)(ps:Array (Nat×Operand))(K:St->Prop):aop G ⟨dst,.buildSlice t n ps,ty,pos,af,gd⟩ K st=Opt (yv G st ⟨dst,.buildSlice t n ps,ty,pos,af,gd⟩) (K:=⟨fun av=>K (st.put dst av)⟩):=jbq K st ⟨dst,.buildSlice t n ps,ty,pos,af,gd⟩
theorem aq_buildSlice(t:TypeId)(n:Nat)(ps:Array (Nat×Operand))(K:AV->Prop):aq G st ⟨dst,.buildSlice t n ps,ty,pos,af,gd⟩ K=Opt (yv G st ⟨dst,.buildSlice t n ps,ty,pos,af,gd⟩) (K:=⟨K⟩):=by rw[aq_eq]
theorem aop_convert(s d:TypeId)(x:Operand)(K:St->Prop):aop G ⟨dst,.convert s d x,ty,pos,af,gd⟩ K st=Opt (yv G st ⟨dst,.convert s d x,ty,pos,af,gd⟩) (K:=⟨fun av=>K (st.put dst av)⟩):=jbq K st ⟨dst,.convert s d x,ty,pos,af,gd⟩
theorem aq_slice(t:TypeId)(x:Operand)(lo hi mx:Option Operand)(K:AV->Prop):aq G st ⟨dst,.slice t x lo hi mx,ty,pos,af,gd⟩ K=Opt (yv G st ⟨dst,.slice t x lo hi mx,ty,pos,af,gd⟩) (K:=⟨K⟩):=by rw[aq_eq]
theorem aop_binOp(b:BinOp)(t:TypeId)(x y:Operand)(u:TypeId)(K:St->Prop):aop G ⟨dst,.binOp b t x y u,ty,pos,af,gd⟩ K st=aBin G K st ⟨dst,.binOp b t x y u,ty,pos,af,gd⟩ b t x y:=propext ⟨fun h=>h,fun h=>h⟩
theorem aq_binOp(b:BinOp)(t:TypeId)(x y:Operand)(u:TypeId)(K:AV->Prop):aq G st ⟨dst,.binOp b t x y u,ty,pos,af,gd⟩ K=Opt (yv G st ⟨dst,.binOp b t x y u,ty,pos,af,gd⟩) (K:=⟨K⟩):=by rw[aq_eq]
theorem aBin_tmp(o:Oper)(b:BinOp)(t:TypeId)(x:Operand)(d:Tmp)(K:St->Prop):aBin G K st o b t x (.tmp d)=Opt (yv G st o) (K:=⟨fun av=>K (st.put o.dst av)⟩):=jbq K st o
theorem aBin_int(o:Oper)(b:BinOp)(t:TypeId)(x:Operand)(k:IntKind)(n:Int)(K:St->Prop):aBin G K st o b t x (.const (.int k n))=Opt (yv G st o) (K:=⟨fun av=>K (st.put o.dst av)⟩):=jbq K st o
theorem aBin_nil(o:Oper)(b:BinOp)(t:TypeId)(x:Operand)(K:St->Prop):aBin G K st o b t x (.const (.slice none 0 0))=aNil G K st o.dst b t x:=propext ⟨fun h=>h,fun h=>h⟩
theorem aop_box(t:TypeId)(x:Operand)(d:Tmp)(K:St->Prop):aop G ⟨some d,.box t x,ty,pos,af,gd⟩ K st=
  Opt (ivOf (evO (st.lendO x) x)) (K:=⟨fun y=>(cellsOf y).all IV.one=true/\(if G.perm.contains d=true then NewP (cellsOf y).length [cellsOf y] d (K:=⟨K⟩) (A:=⟨(st.lendO x,fun b=> .loc (hp b) (cellsOf y).length 0 0)⟩)else K ((st.lendO x).newRow d (cellsOf y).length [cellsOf y]))⟩):=by
 simp only[aop,Opt];split
 ·rename_i d' y h1 h2;cases h1;rw[h2];rfl
 ·rename_i h1;generalize hy:ivOf (evO (st.lendO x) x)=oy;cases oy with
  | none=>rfl
  | some y=>exact(h1 d y rfl hy).elim
theorem aop_alloc(t:TypeId)(d:Tmp)(K:St->Prop):aop G ⟨some d,.alloc t,ty,pos,af,gd⟩ K st=Opt (jbi G t) (K:=⟨fun z=>if G.perm.contains d=true then NewP z.length [z] d (K:=⟨K⟩) (A:=⟨(st,fun b=> .loc (hp b) z.length 0 0)⟩)else K (st.newRow d z.length [z])⟩):=by
 simp only[aop,Opt];split
 ·rename_i d' y h1 h2;cases h1;rw[h2];rfl
 ·rename_i h1;generalize hy:jbi G t=oy;cases oy with
  | none=>rfl
  | some y=>exact(h1 d y rfl hy).elim
theorem aop_store(t:TypeId)(p x:Operand)(K:St->Prop):aop G ⟨dst,.store t p x,ty,pos,af,gd⟩ K st=jhy G K (st.lendO x) dst t p x:=propext ⟨fun h=>h,fun h=>h⟩
theorem aop_makeFunc(f:Fn)(x y:Array Operand)(K:St->Prop):aop G ⟨dst,.makeFunc f x y,ty,pos,af,gd⟩ K st=
  Opt (yv G (st.lendOs y.toList) ⟨dst,.makeFunc f x y,ty,pos,af,gd⟩) (K:=⟨fun av=>K ((st.lendOs y.toList).put dst av)⟩):=jbq K (st.lendOs y.toList) ⟨dst,.makeFunc f x y,ty,pos,af,gd⟩
theorem aop_call(f:Operand)(azz:Array Operand)(ts:Array TypeId)(K:St->Prop):aop G ⟨dst,.call ⟨.value f,azz,ts⟩,ty,pos,af,gd⟩ K st=aCall G K st dst f azz.toList:=propext ⟨fun h=>h,fun h=>h⟩
theorem aq_call(f:Operand)(azz:Array Operand)(ts:Array TypeId)(K:AV->Prop):aq G st ⟨dst,.call ⟨.value f,azz,ts⟩,ty,pos,af,gd⟩ K=
  match evO st f,ivsOf (azz.toList.map (evO st))with
  | .im (.clo g caps),some xs=>CallD G g (xs++caps) (K:=⟨fun r=>K (.im r)⟩)
  | _,_=>False:=(aq_eq st ⟨dst,.call ⟨.value f,azz,ts⟩,ty,pos,af,gd⟩ K).trans (propext ⟨fun h=>h,fun h=>h⟩)
theorem aop_append(azz:Array Operand)(ts:Array TypeId)(K:St->Prop):aop G ⟨dst,.call ⟨.builtin .append,azz,ts⟩,ty,pos,af,gd⟩ K st=jh9 G K st dst ts.toList azz.toList:=propext ⟨fun h=>h,fun h=>h⟩
theorem aop_len(azz:Array Operand)(ts:Array TypeId)(K:St->Prop):aop G ⟨dst,.call ⟨.builtin .len,azz,ts⟩,ty,pos,af,gd⟩ K st=Opt (yv G st ⟨dst,.call ⟨.builtin .len,azz,ts⟩,ty,pos,af,gd⟩) (K:=⟨fun av=>K (st.put dst av)⟩):=jbq K st ⟨dst,.call ⟨.builtin .len,azz,ts⟩,ty,pos,af,gd⟩
theorem aAppend_eq(K:St->Prop)(d:Nat)(t t':TypeId)(x y:Operand):jh9 G K st (some d) [t,t'] [x,y]=
  match(G.ti t).kind with
  | .sl e=>match jep st e (G.ti e).size (evO st x)with
   | some (b,n,es)=>(match jb5 (evO st y)with
    | some xs=>t=t'/\(G.ti t).size≠0/\(G.ti e).size≠0/\(G.ti e).bytes≠0/\(∀c∈xs,c.length=(G.ti e).size)/\n<=es.length/\(n+xs.length)*(G.ti e).bytes<=140737488355328/\
     GrowP b (G.ti e).size (es.take n++xs) d e (n+xs.length) (K:=⟨K⟩) (A:=⟨st⟩)
    | none=>False)
   | none=>match jj8 st e (G.ti e).size (evO st x)with
   | some (src,n,es)=>(match jb5 (evO st y)with
    | some xs=>t=t'/\(G.ti t).size≠0/\(G.ti e).size≠0/\(G.ti e).bytes≠0/\(∀c∈xs,c.length=(G.ti e).size)/\n<=es.length/\(n+xs.length)*(G.ti e).bytes<=140737488355328/\
    K ((jbp st src d (G.ti e).size (es.take n++xs)).put (some d) (.gsl d e (G.ti e).size (n+xs.length)))
    | none=>False)
   | none=>if(G.own=true\/G.perm.contains d=true)/\isEmp (evO st x)=true then(match jcz st (evO st y)with
    | some xs=>t=t'/\(G.ti t).size≠0/\(G.ti e).size≠0/\(G.ti e).bytes≠0/\(∀c∈xs,c.length=(G.ti e).size)/\xs.length*(G.ti e).bytes<=140737488355328/\xs≠[]/\
     (if G.perm.contains d=true then NewP (G.ti e).size xs d (K:=⟨K⟩) (A:=⟨(st,fun b=> .im (.ref b e (G.ti e).size xs.length))⟩)else K (st.newArr d e (G.ti e).size xs))
    | none=>False)else match jkw st e (G.ti e).size d (evO st x),jcz st (evO st y)with
   | some (src,es),some xs=>
    t=t'/\(G.ti t).size≠0/\(G.ti e).size≠0/\(G.ti e).bytes≠0/\(∀c∈es,c.length=(G.ti e).size)/\(∀c∈xs,c.length=(G.ti e).size)/\
    (es.length+xs.length)*(G.ti e).bytes<=140737488355328/\
    K ((tokSt st src d (G.ti e).size (es.length+xs.length)).put (some d) (.vec d e (G.ti e).size (es++xs)))
   | _,_=>False
  | _=>False:=propext ⟨fun h=>h,fun h=>h⟩
theorem aop_lookup(t:TypeId)(m k:Operand)(ok:Bool)(K:St->Prop):aop G ⟨dst,.lookup t m k ok,ty,pos,af,gd⟩ K st=Opt (yv G st ⟨dst,.lookup t m k ok,ty,pos,af,gd⟩) (K:=⟨fun av=>K (st.put dst av)⟩):=jbq K st ⟨dst,.lookup t m k ok,ty,pos,af,gd⟩
theorem aq_lookup(t:TypeId)(m k:Operand)(ok:Bool)(K:AV->Prop):aq G st ⟨dst,.lookup t m k ok,ty,pos,af,gd⟩ K=Opt (yv G st ⟨dst,.lookup t m k ok,ty,pos,af,gd⟩) (K:=⟨K⟩):=by rw[aq_eq]
theorem aop_makeMap(t:TypeId)(d:Tmp)(K:St->Prop):aop G ⟨some d,.makeMap t none,ty,pos,af,gd⟩ K st=
  match(G.ti t).kind with
  | .mp kt e=>match keyN G kt with
   | some n=>(G.ti t).size≠0/\K ((tokSt st d d 0 0).put (some d) (.mpo d (n,intK G e) []))
   | none=>False
  | _=>False:=by
 show jgg G K st (some d) t=_;unfold jgg;generalize (G.ti t).kind=k;cases k<;>rfl
theorem aop_mapUpdate(t:TypeId)(m k x:Operand)(K:St->Prop):aop G ⟨dst,.mapUpdate t m k x,ty,pos,af,gd⟩ K st=jjk G K st dst t (evO st m) (evO st k) (evO st x):=propext ⟨fun h=>h,fun h=>h⟩
theorem aMapUp_eq(K:St->Prop)(dst:Option Nat)(t:TypeId)(d:Nat)(sc:Nat×Bool)(kvs:List (List Int×List Int))(k x:AV):jjk G K st dst t (.mpo d sc kvs) k x=
  match keyI k with
  | some ks=>(match valI x with
   | some bv=>(match(G.ti t).kind with
    | .mp kt e=>(G.ti t).size≠0/\look st.toks d=some (0,0)/\keyN G kt=some (nlen ks)/\sc=(nlen ks,bv.1)/\K (St.put {st with fr:=jcu d sc (mput kvs ks bv.2) st.fr} dst (.im (.sc undef)))
    | _=>False)
   | none=>False)
  | none=>False:=by
 unfold jjk;generalize keyI k=a;generalize valI x=b;cases a with
 | none=>rfl
 | some ks=>cases b with
  | none=>rfl
  | some bv=>rfl
end
theorem hp_lit{n b:Nat}(h:n<100000):(n=hp b)=False:=eq_false (hp_ne h)
theorem hp_lit'{n b:Nat}(h:n<100000):(hp b=n)=False:=eq_false fun e=>hp_ne h e.symm
theorem hp_eq(a b:Nat):(hp a=hp b)=(a=b):=propext hp_inj
theorem hp_bne2(a b:Nat):(hp a !=hp b)=(a !=b):=by
 by_cases h:a=b
 ·subst h;simp
 ·rw[(bne_iff_ne).2 h,bne_iff_ne];exact fun e=>h (hp_inj.1 e)
attribute [go_sem ↓] SpApp_ref SpApp_sx0 SpApp_sx00 aop_lookup aq_lookup aop_makeMap aop_mapUpdate aMapUp_eq awp_skip awp_seq awp_cond awp_block awp_exit awp_ret awp_loop awp_region awp_draw jjh alist_free alist_guard aheadN_zero aheadN_nil aheadN_free aheadS_nil aheadS_store aheadS_alloc aStores0_eq freshAll_nil freshAll_alloc mkRows_nil mkRows_alloc aheadS_move freshAll_move mkRows_move aheadS_assign freshAll_assign mkRows_assign aheadS_buildSlice freshAll_buildSlice mkRows_buildSlice aheadS_load freshAll_load mkRows_load aheadS_slice freshAll_slice mkRows_slice aheadS_extract freshAll_extract mkRows_extract aheadS_call freshAll_call mkRows_call freshAll_store mkRows_store aStores_nil aStores_other aStores_store aCall_eq aCall0_eq aStore_eq aBin_tmp aBin_int aBin_nil aNil_eq aop_box aop_alloc aop_store aop_makeFunc aop_call aq_call aop_append aop_binOp aq_binOp aop_move aq_move aop_assign aq_assign aop_pick aop_unOp aop_load aq_load aop_fieldAddr aq_fieldAddr aop_indexAddr aq_indexAddr aop_extract aq_extract aop_build aq_build aop_buildSlice aq_buildSlice aop_convert aq_slice aop_len jbj zeroIV_eq List.getElem?_cons_succ List.getElem?_cons_zero
attribute [go_sem] mapOf keyI intsI valI ivs elemI_true elemI_false nlen jfh yLenM isMp AV.setM jcu AV.froz St.lendM Prod.mk.injEq or_true true_or isEmp jck jeo aRetM aRet1M esOf AV.rn rnm jbc AV.toArg jbp jj8 AV.soft AV.soft2 jb9 IV.int IV.bool jhm isSl aRetV St.proms St.prom1 AV.forget fgFr St.forget St.ren renFr St.prom jfz ji5 Opt_some Two_true Two_false asB yv evO ofV jcg St.get St.put look del jb6 Go.undef scBin scUn jhx jdv jis jit jgl scs jdn aggK jah fillA jb5 ivOf ivsOf jcj jeq je2 jhb yLoad noZ List.any_cons List.any_nil jct jjz jdh bnd jjx yLen jjy cellsOf IV.one flatB ZC.iv St.fresh AV.purge AV.lend St.lend St.lendO St.lendOs St.newRow St.newArr setRow tokSt jcz jkw St.keep List.getElem?_nil List.length_cons List.length_nil List.map_cons List.map_nil List.foldl_cons List.foldl_nil List.all_cons List.all_nil List.cons_append List.nil_append List.drop_succ_cons List.drop_zero List.take_succ_cons List.take_zero List.set_cons_zero List.set_cons_succ List.filter_cons List.filter_nil List.contains_cons List.contains_nil List.replicate_succ List.replicate_zero List.append_nil Int.natCast_nonneg Int.cast_ofNat_Int Option.getD_some Option.getD_none Option.isSome_some Option.isSome_none Option.map_some Option.map_none Bool.false_eq_true Bool.true_eq_false Bool.not_true Bool.not_false Bool.and_true Bool.true_and Bool.and_false Bool.false_and Bool.or_true Bool.true_or Bool.or_false Bool.false_or beq_self_eq_true bq_true oc_int oc_bool oc_string List.length_map List.size_toArray bq_false aRet resL resIV lendR decide_true decide_false if_true if_false ite_true ite_false ne_eq not_true not_false_iff true_and and_true false_and and_false true_or or_true false_or or_false true_implies forall_const implies_true Nat.zero_add Nat.add_zero Int.toNat_natCast flat1 aAppend_eq
attribute [go_sem] appP nilC jkj isPt jiw
attribute [go_sem] ivE List.isEmpty_nil List.isEmpty_cons Bool.false_and Bool.true_and hp_lit hp_lit' hp_eq hp_bne2 bne_self_eq_false AV.dp jep isHa isFrz ZC.ivG St.addH jc1 St.frzOs frzO St.frz AV.frz frz1 frz2 frz3 AV.toH jg4
attribute [go_sem] Int.reduceNegSucc Nat.reduceAdd Nat.reduceSub Nat.reduceMul Nat.reduceEqDiff Nat.reduceLeDiff Nat.reduceLT Nat.reduceBEq Nat.reduceBNe reduceIte reduceCtorEq Int.reduceToNat Int.reduceAdd Int.reduceSub Int.reduceMul Int.reduceNeg Int.reduceLT Int.reduceLE Int.reduceEq Int.reduceNe
end
end Go.Abs
namespace Go.Proofs.Ytgnflpkmpoghbaa
section
open Go.Abs
def ti:Nat->TI
 | 2=>⟨1,8,[.int .i64],.it .i64,false⟩
 | 3=>⟨1,8,[.int .i64],.it .i64,false⟩
 | 4=>⟨1,1,[.bool],.bl,false⟩
 | 5=>⟨1,1,[.int .u8],.it .u8,false⟩
 | 9=>⟨1,16,[.str],.str,false⟩
 | 12=>⟨1,8,[.int .u64],.it .u64,false⟩
 | 15=>⟨1,8,[.np],.pt,false⟩
 | 16=>⟨1,8,[.np],.pt,false⟩
 | 17=>⟨1,8,[.np],.pt,false⟩
 | 21=>⟨1,4,[.int .i32],.it .i32,false⟩
 | 22=>⟨1,24,[.sl],.sl 3,false⟩
 | 23=>⟨1,24,[.sl],.sl 47,false⟩
 | 24=>⟨4,80,[.int .i64,.sl,.sl,.sl],.st [(0,3),(1,22),(2,23),(3,23)],false⟩
 | 25=>⟨4,80,[.int .i64,.sl,.sl,.sl],.st [(0,3),(1,22),(2,23),(3,23)],false⟩
 | 26=>⟨1,24,[.sl],.sl 35,false⟩
 | 29=>⟨1,8,[.int .i64],.it .i64,false⟩
 | 34=>⟨5,40,[.int .i64,.int .i64,.int .i64,.int .i64,.int .i64],.st [(0,3),(1,3),(2,3),(3,3),(4,3)],false⟩
 | 35=>⟨5,40,[.int .i64,.int .i64,.int .i64,.int .i64,.int .i64],.st [(0,3),(1,3),(2,3),(3,3),(4,3)],true⟩
 | 45=>⟨1,8,[.no],.mp 49 3,false⟩
 | 46=>⟨4,32,[.int .i64,.int .i64,.int .i64,.int .i64],.st [(0,3),(1,3),(2,3),(3,3)],false⟩
 | 47=>⟨4,32,[.int .i64,.int .i64,.int .i64,.int .i64],.st [(0,3),(1,3),(2,3),(3,3)],true⟩
 | 48=>⟨3,24,[.int .i64,.int .i64,.int .i64],.arr 3 3,false⟩
 | 49=>⟨3,24,[.int .i64,.int .i64,.int .i64],.arr 3 3,false⟩
 | 59=>⟨1,24,[.sl],.sl 49,false⟩
 | 73=>⟨1,8,[.int .u64],.it .u64,false⟩
 | 83=>⟨1,4,[.int .u32],.it .u32,false⟩
 | 85=>⟨1,8,[.int .u64],.it .u64,false⟩
 | 90=>⟨1,8,[.np],.pt,false⟩
 | 92=>⟨1,8,[.np],.pt,false⟩
 | 105=>⟨1,8,[.np],.pt,false⟩
 | 108=>⟨11,48,[.int .u64,.int .u64,.int .u32,.int .u8,.int .u8,.int .u8,.int .u8,.no,.np,.int .i32,.int .i32],.st [(0,12),(1,12),(2,83),(3,102),(4,5),(5,5),(6,103),(7,104),(8,105),(9,106),(10,107)],false⟩
 | _=>⟨0,0,[],.no,false⟩
noncomputable def G:Ctx:={P:=Try.prog,ti:=ti,fns:=53}
theorem G_ti(t:Nat):G.ti t=ti t:=rfl
theorem G_fns:G.fns=53:=rfl
theorem G_own:G.own=false:=rfl
noncomputable def GO:Ctx:={G with own:=true}
theorem GO_ti(t:Nat):GO.ti t=ti t:=rfl
theorem GO_fns:GO.fns=53:=rfl
theorem GO_own:GO.own=true:=rfl
theorem G_perm:G.perm=[]:=rfl
theorem G_frz:G.frz=[]:=rfl
theorem G_emp:G.emp=false:=rfl
theorem GO_perm:GO.perm=[]:=rfl
theorem GO_frz:GO.frz=[]:=rfl
theorem GO_emp:GO.emp=false:=rfl
noncomputable def GH(p f:List Nat):Ctx:={G with perm:=p,frz:=f,emp:=true}
theorem GH_ti(p f:List Nat)(t:Nat):(GH p f).ti t=ti t:=rfl
theorem GH_fns(p f:List Nat):(GH p f).fns=53:=rfl
theorem GH_own(p f:List Nat):(GH p f).own=false:=rfl
theorem GH_perm(p f:List Nat):(GH p f).perm=p:=rfl
theorem GH_frz(p f:List Nat):(GH p f).frz=f:=rfl
theorem GH_emp(p f:List Nat):(GH p f).emp=true:=rfl
attribute [go_sem] G_ti G_fns G_own GO_ti GO_fns GO_own ti G_perm G_frz G_emp GO_perm GO_frz GO_emp GH_ti GH_fns GH_own GH_perm GH_frz GH_emp
theorem ti_big(t:Nat)(h:111<=t):ti t=⟨0,0,[],.no,false⟩:=by
 unfold ti;split<;>first | omega | rfl
theorem ti_ok:((List.range 111).all fun t=>(ti t).size==0 || (ti t).okB Try.prog t)=true:=by kernel_rfl
theorem fn_ok:((List.range 53).all fun f=>decide (f<3) || jgd Try.prog f)=true:=by kernel_rfl
theorem jkc:Try.prog.follows .mixedOrders=true:=by kernel_rfl
theorem good:G.Good where
 ok t ht:=by
  rcases Nat.lt_or_ge t 111 with h | h
  ·have:=List.all_eq_true.1 ti_ok t (List.mem_range.2 h);simp only[Bool.or_eq_true,beq_iff_eq]at this;exact this.resolve_left ht
  ·exact absurd (by rw[G_ti,ti_big t h]) ht
 fn f hf:=by
  have:=List.all_eq_true.1 fn_ok f (List.mem_range.2 hf.2);simp only[Bool.or_eq_true,decide_eq_true_eq]at this;exact this.resolve_left (by omega)
 mixed:=jkc
theorem goodH(p f:List Nat):(GH p f).Good where
 ok:=good.ok
 fn:=good.fn
 mixed:=jkc
theorem knG_49:keyN G 49=some 3:=by rfl
attribute [go_sem] knG_49
theorem ikG_3:intK G 3=true:=by rfl
attribute [go_sem] ikG_3
theorem zeG_3:zeroE G 3=some (.sc (.int .i64 0)):=by rfl
attribute [go_sem] zeG_3
end
section
open Go.Abs
def ic(n:Int):List IV:=[.int n]
def ints(l:List Int):IV:= .sl (l.map ic)
theorem jb2{n:Int}(h: -9223372036854775808<=n/\n<=9223372036854775807):IntKind.i64.wrap n=n:=IntWalk.i64_in n h
end
section
open Go.Abs
structure Place where
 (kind house mat:Int)
 deriving DecidableEq,Inhabited
structure Move where
 (day fr to scale reading:Int)
 all:Bool
 deriving DecidableEq,Inhabited
structure Cert where
 (scale fr until' grams perMille drift:Int)
 deriving DecidableEq,Inhabited
structure Recall where
 (scale since:Int)
 deriving DecidableEq,Inhabited
structure Purity where
 (move mat least most:Int)
 deriving DecidableEq,Inhabited
structure Evid where
 (mats houses scales:Int)
 places:List Place
 moves:List Move
 certs:List Cert
 recalls:List Recall
 purs:List Purity
 deriving DecidableEq,Inhabited
structure Sample where
 move:Int
 grams:List Int
 slack:Int
 deriving DecidableEq,Inhabited
structure Recipe where
 (fr to mat least most:Int)
 deriving DecidableEq,Inhabited
def Place.c(p:Place):List IV:=[.int p.kind,.int p.house,.int p.mat]
def Move.c(p:Move):List IV:=[.int p.day,.int p.fr,.int p.to,.int p.scale,.int p.reading,.bool p.all]
def Cert.c(p:Cert):List IV:=[.int p.scale,.int p.fr,.int p.until',.int p.grams,.int p.perMille,.int p.drift]
def Recall.c(p:Recall):List IV:=[.int p.scale,.int p.since]
def Purity.c(p:Purity):List IV:=[.int p.move,.int p.mat,.int p.least,.int p.most]
def Sample.c(p:Sample):List IV:=[.int p.move,ints p.grams,.int p.slack]
def Recipe.c(p:Recipe):List IV:=[.int p.fr,.int p.to,.int p.mat,.int p.least,.int p.most]
def Evid.c(e:Evid):List IV:=[.int e.mats,.int e.houses,.int e.scales,.sl (e.places.map Place.c),.sl (e.moves.map Move.c),.sl (e.certs.map Cert.c),.sl (e.recalls.map Recall.c),.sl (e.purs.map Purity.c)]
def Evid.iv(e:Evid):IV:= .agg e.c
theorem Place.len(p:Place):p.c.length=3:=rfl
theorem Move.len(p:Move):p.c.length=6:=rfl
theorem Cert.len(p:Cert):p.c.length=6:=rfl
theorem Recall.len(p:Recall):p.c.length=2:=rfl
theorem Purity.len(p:Purity):p.c.length=4:=rfl
theorem Sample.len(p:Sample):p.c.length=3:=rfl
theorem Recipe.len(p:Recipe):p.c.length=5:=rfl
end
section
open Go.Shelf Go.RowKit Go.Lib Go.Sort
def sortKeys_ren:Go.Shelf.Ren:=⟨fun | 6=>31 | 15=>36 | 14=>35 | 28=>45 | 29=>46 | 20=>37 | 21=>38 | 22=>39 | 23=>40 | 24=>41 | 25=>42 | 26=>43 | 27=>44 | 46=>47 | 47=>48 | 48=>49 | 49=>50 | 50=>51 | 57=>52 | n=>n,fun | 22=>59 | 24=>49 | 25=>64 | 3=>3 | 39=>73 | 0=>0 | 53=>83 | 55=>85 | 4=>4 | 46=>76 | 45=>75 | 50=>80 | 5=>5 | 9=>9 | 66=>86 | 70=>90 | 76=>92 | 77=>93 | n=>n,fun | n=>n⟩
theorem jk3:Go.Proofs.SlLaysF0.n6 Try.prog sortKeys_ren:={
 mixed:=by kernel_rfl
 f6:=⟨Try.f31.name,by decide,Try.func31.trans (congrArg some (by kernel_rfl))⟩
 f14:=⟨Try.f35.name,by decide,Try.func35.trans (congrArg some (by kernel_rfl))⟩
 f15:=Try.func36.trans (congrArg some (by kernel_rfl))
 f20:=⟨Try.f37.name,by decide,Try.func37.trans (congrArg some (by kernel_rfl))⟩
 f21:=⟨Try.f38.name,by decide,Try.func38.trans (congrArg some (by kernel_rfl))⟩
 f22:=⟨Try.f39.name,by decide,Try.func39.trans (congrArg some (by kernel_rfl))⟩
 f23:=⟨Try.f40.name,by decide,Try.func40.trans (congrArg some (by kernel_rfl))⟩
 f24:=⟨Try.f41.name,by decide,Try.func41.trans (congrArg some (by kernel_rfl))⟩
 f25:=⟨Try.f42.name,by decide,Try.func42.trans (congrArg some (by kernel_rfl))⟩
 f26:=⟨Try.f43.name,by decide,Try.func43.trans (congrArg some (by kernel_rfl))⟩
 f27:=⟨Try.f44.name,by decide,Try.func44.trans (congrArg some (by kernel_rfl))⟩
 f28:=Try.func45.trans (congrArg some (by kernel_rfl))
 f29:=Try.func46.trans (congrArg some (by kernel_rfl))
 f46:=⟨Try.f47.name,by decide,Try.func47.trans (congrArg some (by kernel_rfl))⟩
 f47:=Try.func48.trans (congrArg some (by kernel_rfl))
 f48:=Try.func49.trans (congrArg some (by kernel_rfl))
 f49:=⟨Try.f50.name,by decide,Try.func50.trans (congrArg some (by kernel_rfl))⟩
 f50:=⟨Try.f51.name,by decide,Try.func51.trans (congrArg some (by kernel_rfl))⟩
 f57:=⟨Try.f52.name,by decide,Try.func52.trans (congrArg some (by kernel_rfl))⟩
 t0:=Try.underlying0
 a0:=Try.isAgg0
 z0:=Try.sizeOf0
 v0:=Try.zeroValue0
 t3:=Try.underlying3
 a3:=Try.isAgg3
 z3:=Try.sizeOf3
 v3:=Try.zeroValue3
 t4:=Try.underlying4
 a4:=Try.isAgg4
 z4:=Try.sizeOf4
 v4:=Try.zeroValue4
 t5:=Try.underlying5
 a5:=Try.isAgg5
 z5:=Try.sizeOf5
 v5:=Try.zeroValue5
 t9:=Try.underlying9
 a9:=Try.isAgg9
 z9:=Try.sizeOf9
 v9:=Try.zeroValue9
 t22:=Try.underlying59
 a22:=Try.isAgg59
 z22:=Try.sizeOf59
 v22:=Try.zeroValue59
 t25:=Try.underlying64
 a25:=Try.isAgg64
 z25:=Try.sizeOf64
 v25:=Try.zeroValue64
 t39:=Try.underlying73
 a39:=Try.isAgg73
 z39:=Try.sizeOf73
 v39:=Try.zeroValue73
 t45:=Try.underlying75
 a45:=Try.isAgg75
 z45:=Try.sizeOf75
 v45:=Try.zeroValue75
 t46:=Try.underlying76
 a46:=Try.isAgg76
 z46:=Try.sizeOf76
 v46:=Try.zeroValue76
 t50:=Try.underlying80
 a50:=Try.isAgg80
 z50:=Try.sizeOf80
 v50:=Try.zeroValue80
 t53:=Try.underlying83
 a53:=Try.isAgg83
 z53:=Try.sizeOf83
 v53:=Try.zeroValue83
 t55:=Try.underlying85
 a55:=Try.isAgg85
 z55:=Try.sizeOf85
 v55:=Try.zeroValue85
 t66:=Try.underlying86
 a66:=Try.isAgg86
 z66:=Try.sizeOf86
 v66:=Try.zeroValue86
 t70:=Try.underlying90
 a70:=Try.isAgg90
 z70:=Try.sizeOf90
 v70:=Try.zeroValue90
 t76:=Try.underlying92
 a76:=Try.isAgg92
 z76:=Try.sizeOf92
 v76:=Try.zeroValue92
 t77:=Try.underlying93
 a77:=Try.isAgg93
 z77:=Try.sizeOf93
 v77:=Try.zeroValue93}
def cmpIntsQ_ren:Go.Shelf.Ren:=⟨fun | 5=>29 | 7=>33 | n=>n,fun | 22=>3 | 3=>3 | 4=>4 | n=>n,fun | n=>n⟩
theorem jgc:Go.Proofs.SlLaysC2.n5 Try.prog cmpIntsQ_ren:={
 mixed:=by kernel_rfl
 f5:=⟨Try.f29.name,by decide,Try.func29.trans (congrArg some (by kernel_rfl))⟩
 f7:=⟨Try.f33.name,by decide,Try.func33.trans (congrArg some (by kernel_rfl))⟩
 t3:=Try.underlying3
 a3:=Try.isAgg3
 z3:=Try.sizeOf3
 v3:=Try.zeroValue3
 t4:=Try.underlying4
 a4:=Try.isAgg4
 z4:=Try.sizeOf4
 v4:=Try.zeroValue4
 t22:=Try.underlying3
 a22:=Try.isAgg3
 z22:=Try.sizeOf3
 v22:=Try.zeroValue3}
