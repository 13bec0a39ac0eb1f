/- A part of the proof. No further condition. -/
import Derived.Test.YtjcjcpebocbonaaGreatKZ8
set_option linter.all false
set_option maxRecDepth 10000000
set_option maxHeartbeats 16000000
namespace Go.Abs
section
open Go.RowKit (Below)
universe u
class Hold (α:Sort u) where
 val:α
def Two(t:Bool)[A:Hold Prop][B:Hold Prop]:Prop:=(t=true->A.val)/\(t=false->B.val)
theorem Two_true{A B:Prop}: @Two true ⟨A⟩ ⟨B⟩=A:=by simp[Two]
theorem Two_false{A B:Prop}: @Two false ⟨A⟩ ⟨B⟩=B:=by simp[Two]
theorem Two_not{A B:Prop}{t:Bool}: @Two (!t) ⟨A⟩ ⟨B⟩= @Two t ⟨B⟩ ⟨A⟩:=by cases t<;>simp[Two]
theorem jc5{t:Bool}{A B:Prop}(h1:t=true->A)(h2:t=false->B): @Two t ⟨A⟩ ⟨B⟩:=⟨h1,h2⟩
theorem jbq{p:Prop}{i:Decidable p}{A B:Prop}(h1: @decide p i=true->p->A)(h2: @decide p i=false->¬p->B): @Two (@decide p i) ⟨A⟩ ⟨B⟩:=
 ⟨fun h=>h1 h (zI h),fun h=>h2 h (zJ h)⟩
def Opt{α:Type}(o:Option α)[K:Hold (α->Prop)]:Prop:=
 match o with
 | some x=>K.val x
 | none=>False
theorem Opt_some{α:Type}{x:α}{K:α->Prop}: @Opt α (some x) ⟨K⟩=K x:=propext ⟨fun h=>h,fun h=>h⟩
def asB:AV->Option Bool
 | .im (.sc (.bool t))=>some t
 | _=>none
section
variable{G:Ctx}
def LoopP(G:Ctx)[c:Hold Code][Q:Hold (Exit->St->Prop)](st:St):Prop:=awp G (.loop c.val) Q.val st
def DrawP(G:Ctx)[ops:Hold (List Oper)][Q:Hold (Exit->St->Prop)](st:St):Prop:=
 RegSem G ops.val (Q.val .normal) st
def AnyP(G:Ctx)[ops:Hold (List Oper)][K:Hold (St->Prop)](f:Nat)(a1:Array Bool)(st:St):Prop:=aAny G ops.val K.val f a1 st
variable(dst:Option Tmp)(ty:TypeId)(pos:String)(af:Array Edge)(gd:Option (Nat×Bool))(st:St)(ops:List Oper)(r:List Oper)
theorem awp_skip(Q:Exit->St->Prop):awp G .skip Q st=Q .normal st:=propext ⟨fun h=>h,fun h=>h⟩
theorem awp_seq(x y:Code)(Q:Exit->St->Prop):
  awp G (.seq x y) Q st=awp G x (fun e s=>match e with | .normal=>awp G y Q s | e=>Q e s) st:=propext ⟨fun h=>h,fun h=>h⟩
theorem awp_cond(c:Operand)(x y:Code)(Q:Exit->St->Prop):
  awp G (.cond c x y) Q st=Opt (asB (evO st c)) (K:=⟨fun t=>Two t (A:=⟨awp G x Q st⟩) (B:=⟨awp G y Q st⟩)⟩):=by
 simp only[awp];generalize evO st c=av;cases av with
 | im x=>cases x with
  | sc v=>cases v<;>rfl
  | _=>rfl
 | _=>rfl
theorem awp_block(id:Nat)(c:Code)(Q:Exit->St->Prop):
  awp G (.block id c) Q st=awp G c (fun e s=>match e with | .exit k=>if k=id then Q .normal s else Q (.exit k) s | e=>Q e s) st:=propext ⟨fun h=>h,fun h=>h⟩
theorem awp_exit(id:Nat)(Q:Exit->St->Prop):awp G (.exit id) Q st=Q (.exit id) st:=propext ⟨fun h=>h,fun h=>h⟩
theorem awp_ret(Q:Exit->St->Prop):awp G .ret Q st=Q .ret st:=propext ⟨fun h=>h,fun h=>h⟩
theorem awp_loop(c:Code)(Q:Exit->St->Prop):awp G (.loop c) Q st=LoopP G (c:=⟨c⟩) (Q:=⟨Q⟩) st:=propext ⟨fun h=>h,fun h=>h⟩
theorem awp_region(id:Nat)(Q:Exit->St->Prop):
  awp G (.region id ops.toArray false) Q st=alist G ops (Q .normal) ops st:=by simp[awp]
theorem awp_draw(id:Nat)(Q:Exit->St->Prop):
  awp G (.region id ops.toArray true) Q st=DrawP G (ops:=⟨ops⟩) (Q:=⟨Q⟩) st:=by simp only[awp,DrawP,qA]
theorem jqy(ops:List Oper)(K:St->Prop)(st:St):alist G ops K [] st=K st:=propext ⟨fun h=>h,fun h=>h⟩
theorem alist_free(K:St->Prop)(op:Op):
  alist G ops K (⟨dst,op,ty,pos,af,none⟩::r) st=aop G ⟨dst,op,ty,pos,af,none⟩ (alist G ops K r) st:=propext ⟨fun h=>h,fun h=>h⟩
theorem Two_eq(A B:Prop)(b want:Bool):((b=want->A)/\(b≠want->B))=Two (b==want) (A:=⟨A⟩) (B:=⟨B⟩):=by
 cases b<;>cases want<;>simp[Two]
theorem alist_guard(K:St->Prop)(op:Op)(j:Nat)(want:Bool):
  alist G ops K (⟨dst,op,ty,pos,af,some (j,want)⟩::r) st=Opt (jcx st ops j) (K:=⟨fun y=>match y with
   | some b=>Two (b==want) (A:=⟨aop G ⟨dst,op,ty,pos,af,some (j,want)⟩ (alist G ops K r) st⟩) (B:=⟨alist G ops K r (st.put dst jcc)⟩)
   | none=>alist G ops K r (st.put dst jcc)⟩):=by
 conv=>lhs;unfold alist
 simp only[Opt,Two_eq];split<;>rename_i h<;>rw[h]
theorem jqz(ops:List Oper)(K:St->Prop)(st:St):ahead G ops K [] st=K st:=propext ⟨fun h=>h,fun h=>h⟩
theorem ahead_free(ops:List Oper)(K:St->Prop)(dst:Option Tmp)(op:Op)(ty:TypeId)(pos:String)(af:Array Edge)(r:List Oper)(st:St):
  ahead G ops K (⟨dst,op,ty,pos,af,none⟩::r) st=aq G st ⟨dst,op,ty,pos,af,none⟩ (fun av=>ahead G ops K r (st.put dst av)):=propext ⟨fun h=>h,fun h=>h⟩
theorem ahead_guard(ops:List Oper)(K:St->Prop)(dst:Option Tmp)(op:Op)(ty:TypeId)(pos:String)(af:Array Edge)(j:Nat)(want:Bool)(r:List Oper)(st:St):
  ahead G ops K (⟨dst,op,ty,pos,af,some (j,want)⟩::r) st=Opt (jcx st ops j) (K:=⟨fun y=>match y with
   | some b=>Two (b==want) (A:=⟨aq G st ⟨dst,op,ty,pos,af,some (j,want)⟩ (fun av=>ahead G ops K r (st.put dst av))⟩) (B:=⟨ahead G ops K r (st.put dst jcc)⟩)
   | none=>ahead G ops K r (st.put dst jcc)⟩):=by
 conv=>lhs;unfold ahead
 simp only[Opt,Two_eq];split<;>rename_i h<;>rw[h]
theorem jcv(K:St->Prop)(st:St)(o:Oper):aVal G K st o=Opt (yv G st o) (K:=⟨fun av=>K (st.put o.dst av)⟩):=by
 unfold aVal Opt;split<;>rename_i h<;>simp[h]
def jex(G:Ctx)(ops:List Oper)(K:St->Prop)(n:Nat)(l:List Oper)(st:St):Prop:=ahead G ops (fun s=>alist G ops K (l.drop n) s) (l.take n) st
theorem DrawP_of{ops:List Oper}{Q:Exit->St->Prop}{st:St}(n:Nat)(h:drawB ops.toArray n=true)
  (hA:jex G ops (Q .normal) n ops st): @DrawP G ⟨ops⟩ ⟨Q⟩ st:=fun _ _ _ _ _ _ id _ hG hd hK hs=>draw_sound hG id n h hd hK hs hA
theorem DrawS_of{ops:List Oper}{Q:Exit->St->Prop}{st:St}(h:drawS ops.toArray=true)
  (hA:jbf G ops (jj9 G (Q .normal) ops) ops (freshAll G ops st)): @DrawP G ⟨ops⟩ ⟨Q⟩ st:=fun _ _ _ _ _ _ id _ hG hd hK hs=>drawS_sound hG id h hd hK hs hA
theorem DrawE_of{ops:List Oper}{Q:Exit->St->Prop}{st:St}(hA: @AnyP G ⟨ops⟩ ⟨Q .normal⟩ ops.length (Array.replicate ops.length false) st): @DrawP G ⟨ops⟩ ⟨Q⟩ st:=fun _ _ _ _ _ _ id _ hG hd hK hs=>any_sound hG id hd hK hs hA
theorem jpf{ops:List Oper}{K:St->Prop}{a1:Array Bool}{st:St}(h:(Region.ready .any ops.toArray a1==[])=true)(hA:K st): @AnyP G ⟨ops⟩ ⟨K⟩ 0 a1 st:=⟨eq_of_beq h,hA⟩
theorem jei{ops:List Oper}{K:St->Prop}{f:Nat}{a1:Array Bool}{st:St}(i:Nat){o:Oper}(h:(Region.ready .any ops.toArray a1==[i])=true)(ho:ops[i]? =some o)
  (hA:alist G ops (fun s=> @AnyP G ⟨ops⟩ ⟨K⟩ f (a1.setIfInBounds i true) s) [o] st): @AnyP G ⟨ops⟩ ⟨K⟩ (f+1) a1 st:=by
 have h:=eq_of_beq h;have h0:Region.ready .any ops.toArray a1≠[]:=by rw[h];simp
 refine⟨h0,fun k hk=> ?_⟩;dsimp only at hk;rw[h,zE]at hk;subst hk;exact⟨o,ho,hA⟩
theorem jts{ops:List Oper}{K:St->Prop}{f:Nat}{a1:Array Bool}{st:St}(i j:Nat){o p:Oper}(h:(Region.ready .any ops.toArray a1==[i,j])=true)(ho:ops[i]? =some o)(hp:ops[j]? =some p)
  (hA:alist G ops (fun s=> @AnyP G ⟨ops⟩ ⟨K⟩ f (a1.setIfInBounds i true) s) [o] st) (hB:alist G ops (fun s=> @AnyP G ⟨ops⟩ ⟨K⟩ f (a1.setIfInBounds j true) s) [p] st): @AnyP G ⟨ops⟩ ⟨K⟩ (f+1) a1 st:=by
 have h:=eq_of_beq h;have h0:Region.ready .any ops.toArray a1≠[]:=by rw[h];simp
 refine⟨h0,fun k hk=> ?_⟩;dsimp only at hk;rw[h]at hk;rcases zL.1 hk with rfl | hk
 ·exact⟨o,ho,hA⟩
 ·rw[zE]at hk;subst hk;exact⟨p,hp,hB⟩
theorem aheadN_zero(K:St->Prop)(l:List Oper):jex G ops K 0 l st=alist G ops K l st:=by
 simp only[jex,List.take_zero,yG,jqz]
theorem aheadN_nil(K:St->Prop)(n:Nat):jex G ops K n [] st=K st:=by
 simp only[jex,List.take_nil,List.drop_nil,jqz,jqy]
theorem aheadN_free(K:St->Prop)(n:Nat)(op:Op):
  jex G ops K (n+1) (⟨dst,op,ty,pos,af,none⟩::r) st=aq G st ⟨dst,op,ty,pos,af,none⟩ (fun av=>jex G ops K n r (st.put dst av)):=by
 simp only[jex,List.take_succ_cons,je,ahead_free]
theorem aheadS_nil(K:St->Prop):jbf G ops K [] st=K st:=propext ⟨fun h=>h,fun h=>h⟩
theorem aheadS_store(K:St->Prop)(t:TypeId)(p x:Operand):
  jbf G ops K (⟨none,.store t p x,ty,pos,af,none⟩::r) st=jbf G ops K r st:=by
 conv=>lhs;unfold jbf
 rw[zh (by rfl)]
theorem aStores_nil(K:St->Prop):jed G K [] st=K st:=propext ⟨fun h=>h,fun h=>h⟩
theorem aStores_other(K:St->Prop)(d:Tmp)(op:Op)(g:Option (Nat×Bool)):
  jed G K (⟨some d,op,ty,pos,af,g⟩::r) st=jed G K r st:=by
 conv=>lhs;unfold jed
 rw[zl (by unfold jbw;split<;>simp)]
theorem aStores_store(K:St->Prop)(t:TypeId)(p x:Operand):
  jed G K (⟨none,.store t p x,ty,pos,af,none⟩::r) st=match ivOf (evO st x),evO st p with
   | some y,.loc d s i j=>match look st.rows d with
    | some (s',es)=>Opt es[i]? (K:=⟨fun c=>s'=s/\(G.ti t).size≠0/\(cellsOf y).length=(G.ti t).size/\(cellsOf y).all IV.one=true/\j+(G.ti t).size<=c.length/\
     jed G K r {st with rows:=setRow st.rows d s (es.set i (jbp c j (cellsOf y)))}⟩)
    | none=>False
   | _,_=>False:=by
 conv=>lhs;unfold jed
 rw[zh (by rfl)];dsimp only;unfold aStQ;generalize ivOf (evO st x)=oy;generalize evO st p=pv;cases oy with
 | none=>rfl
 | some y=>cases pv with
  | loc d s i j=>
   dsimp only;generalize look st.rows d=o;cases o with
   | none=>rfl
   | some q=>
    obtain⟨s',es⟩:=q;dsimp only;unfold Opt;generalize es[i]? =oc;cases oc<;>rfl
  | _=>rfl
theorem aheadN_guard(K:St->Prop)(n:Nat)(op:Op)(j:Nat)(want:Bool):
  jex G ops K (n+1) (⟨dst,op,ty,pos,af,some (j,want)⟩::r) st=Opt (jcx st ops j) (K:=⟨fun y=>match y with
   | some b=>Two (b==want) (A:=⟨aq G st ⟨dst,op,ty,pos,af,some (j,want)⟩ (fun av=>jex G ops K n r (st.put dst av))⟩) (B:=⟨jex G ops K n r (st.put dst jcc)⟩)
   | none=>jex G ops K n r (st.put dst jcc)⟩):=by
 unfold jex;rw[List.take_succ_cons,je,ahead_guard]
def CallP(G:Ctx)(g:Nat)(xs:List IV)[K:Hold (IV->Prop)][V:Hold (Nat->Nat->List (List IV)->Prop)][W:Hold Prop]:Prop:=
 (3<=g/\g<G.fns)/\((∃φ:IV->Prop,Ctr G.P g xs φ/\∀r,φ r->K.val r)\/(∃e s es,CtrV G.P g xs e s es/\(∀c∈es,c.length=s)/\V.val e s es)\/W.val)
theorem CallP_of{g:Nat}{xs:List IV}{K:IV->Prop}{V:Nat->Nat->List (List IV)->Prop}{W:Prop}{φ:IV->Prop}(h:Ctr G.P g xs φ)(hg:3<=g/\g<G.fns)(hK:∀r,φ r->K r): @CallP G g xs ⟨K⟩ ⟨V⟩ ⟨W⟩:=⟨hg,.inl ⟨φ,h,hK⟩⟩
theorem jc0{g:Nat}{xs:List IV}{K:IV->Prop}{V:Nat->Nat->List (List IV)->Prop}{W:Prop}{r:IV}(h:Ctr G.P g xs (· =r))(hg:3<=g/\g<G.fns)(hK:K r): @CallP G g xs ⟨K⟩ ⟨V⟩ ⟨W⟩:=⟨hg,.inl ⟨_,h,fun _ e=>e▸hK⟩⟩
def CallD(G:Ctx)(g:Nat)(xs:List IV)[K:Hold (IV->Prop)]:Prop:=
 (3<=g/\g<G.fns)/\∃r,Ctr G.P g xs (· =r)/\K.val r
theorem ja3{g:Nat}{xs:List IV}{K:IV->Prop}{r:IV}(h:Ctr G.P g xs (· =r))(hg:3<=g/\g<G.fns)(hK:K r): @CallD G g xs ⟨K⟩:=⟨hg,r,h,hK⟩
def CallH(G:Ctx)(g:Nat)(st:St)(dst:Option Nat)(args:List AV)[K:Hold (St->Prop)]:Prop:=(3<=g/\g<G.fns)/\jmi G K.val st dst g args
def SubR(R' R:Rows):Prop:=∀k x,look R' k=some x->look R k=some x
theorem SubR.refl(R:Rows):SubR R R:=fun _ _ h=>h
theorem SubR.of_eq{R' R:Rows}(h:R'=R):SubR R' R:=by subst h;exact SubR.refl _
def jfq(R L L' R':Rows):Prop:=∀k x,look R' k=some x->look L' k=some x\/(look L k=none/\look R k=some x)
def blks(L:Rows):Prop:=∀k x,look L k=some x->∃b,k=hp b
theorem jtc{g:Nat}{st:St}{dst:Option Nat}{args a1:List AV}{K:St->Prop}{L:Rows}{φ:AV->Rows->Prop}(h:CtrH G.P g a1 L φ)(ha:args.map AV.toH=a1)(hL:blks L)(hR:SubR L st.rows)
  (hK:∀r L',φ r L'->(∀k,(look L' k).isSome->(look L k).isSome\/look st.rows k=none)->∃R',jfq st.rows L L' R'/\K ((⟨st.fr,R',st.toks⟩:St).put dst r)):jmi G K st dst g args:=by
 subst ha;exact⟨L,φ,⟨hL,hR⟩,h,hK⟩
theorem jaj{g:Nat}{st:St}{dst:Option Nat}{args a1:List AV}{K:St->Prop}{L:Rows}{φ:AV->Rows->Prop}(h:CtrH G.P g a1 L φ)(hg:3<=g/\g<G.fns)(ha:args.map AV.toH=a1)(hL:blks L)(hR:SubR L st.rows)
  (hK:∀r L',φ r L'->(∀k,(look L' k).isSome->(look L k).isSome\/look st.rows k=none)->∃R',jfq st.rows L L' R'/\K ((⟨st.fr,R',st.toks⟩:St).put dst r)): @CallH G g st dst args ⟨K⟩:=
 ⟨hg,jtc h ha hL hR hK⟩
theorem jcw{g:Nat}{xs:List IV}{K':IV->Prop}{V:Nat->Nat->List (List IV)->Prop}{W:Prop}{st:St}{dst:Option Nat}{args a1:List AV}{K:St->Prop}{L:Rows}{φ:AV->Rows->Prop}(h:CtrH G.P g a1 L φ)(hg:3<=g/\g<G.fns)(ha:args.map AV.toH=a1)(hL:blks L)(hR:SubR L st.rows)
  (hK:∀r L',φ r L'->(∀k,(look L' k).isSome->(look L k).isSome\/look st.rows k=none)->∃R',jfq st.rows L L' R'/\K ((⟨st.fr,R',st.toks⟩:St).put dst r)): @CallP G g xs ⟨K'⟩ ⟨V⟩ ⟨W\/jmi G K st dst g args⟩:=
 ⟨hg,.inr (.inr (.inr (jtc h ha hL hR hK)))⟩
theorem CallP_o{g:Nat}{xs a1:List IV}{K':IV->Prop}{V:Nat->Nat->List (List IV)->Prop}{W':Prop}{st:St}{d:Nat}{K:St->Prop}{sc:Nat×Bool}{kvs:List (List Int×List Int)}(h:CtrO G.P g a1 sc kvs)(hg:3<=g/\g<G.fns)
  (hK:K ((tokSt st d d 0 0).put (some d) (.mpo d sc kvs))): @CallP G g xs ⟨K'⟩ ⟨V⟩ ⟨aCallO G K st (some d) g a1\/W'⟩:=
 ⟨hg,.inr (.inr (.inl ⟨d,sc,kvs,rfl,h,hK⟩))⟩
theorem DrawSem_of{ops:List Oper}{Q:Exit->St->Prop}{st:St}(h:RegSem G ops (Q .normal) st): @DrawP G ⟨ops⟩ ⟨Q⟩ st:=h
def SpCall(G:Ctx)(fv:AV)(args:List AV)(R:Rows)[T:Hold (AV->Rows->Prop)]:Prop:=spCall G fv args R T.val
theorem je8{g:Nat}{caps:List IV}{args a1:List AV}{R:Rows}{T:AV->Rows->Prop}{L:Rows}{φ:AV->Rows->Prop}(h:CtrH G.P g a1 L φ)(hg:3<=g/\g<G.fns)(ha:(args++caps.map AV.im).map AV.toH=a1)(hL:blks L)(hR:SubR L R)
  (hK:∀r L',φ r L'->(∀k,(look L' k).isSome->(look L k).isSome\/look R k=none)->∃R',jfq R L L' R'/\T r R'): @SpCall G (.im (.clo g caps)) args R ⟨T⟩:=
 ⟨g,caps,rfl,hg,L,φ,hL,hR,by rw[ha];exact h,hK⟩
def GrowX(b s:Nat)(es:List (List IV))(e n:Nat)(R:Rows)[T:Hold (AV->Rows->Prop)]:Prop:=∀X,look (del R (hp b)) (hp X)=none->T.val (.im (.ref X e s n)) ((hp X,s,es)::del R (hp b))
theorem jgv{b s:Nat}{es:List (List IV)}{e n:Nat}{R:Rows}{T:AV->Rows->Prop}(h:∀X,look (del R (hp b)) (hp X)=none->T (.im (.ref X e s n)) ((hp X,s,es)::del R (hp b))): @GrowX b s es e n R ⟨T⟩:=h
def NewX(s:Nat)(es:List (List IV))(e n:Nat)(R:Rows)[T:Hold (AV->Rows->Prop)]:Prop:=∀b,look R (hp b)=none->T.val (.im (.ref b e s n)) ((hp b,s,es)::R)
theorem jhk{s:Nat}{es:List (List IV)}{e n:Nat}{R:Rows}{T:AV->Rows->Prop}(h:∀b,look R (hp b)=none->T (.im (.ref b e s n)) ((hp b,s,es)::R)): @NewX s es e n R ⟨T⟩:=h
def SpApp(G:Ctx)(d:Nat)(t e:TypeId)(sv:AV)(xo:Option (List (List IV)))(R:Rows)[T:Hold (AV->Rows->Prop)]:Prop:=spApp G d t e sv xo R T.val
theorem SpApp_ref(d:Nat)(t e:TypeId)(b e' s' n:Nat)(xs:List (List IV))(R:Rows)(T:AV->Rows->Prop): @SpApp G d t e (.im (.ref b e' s' n)) (some xs) R ⟨T⟩=Opt (look R (hp b)) (K:=⟨fun p=>
  (e'=e/\s'=(G.ti e).size/\p.1=(G.ti e).size)/\(G.ti t).size≠0/\(G.ti e).size≠0/\(G.ti e).bytes≠0/\(∀c∈xs,c.length=(G.ti e).size)/\n<=p.2.length/\(n+xs.length)*(G.ti e).bytes<=140737488355328/\
   GrowX b (G.ti e).size (p.2.take n++xs) e (n+xs.length) R (T:=⟨T⟩)⟩):=by
 apply propext;constructor
 ·rintro⟨a1,hx,h1,h2,h3,h4,⟨b',n',es,hs,hl,h5,h6,h7⟩ | ⟨hs,_⟩ | ⟨hs,_⟩⟩
  ·cases hx;cases hs;unfold Opt;rw[hl];exact⟨⟨rfl,rfl,rfl⟩,h1,h2,h3,h4,h5,h6,h7⟩
  ·exact absurd (show false=true from hs) (by decide)
  ·exact absurd (show false=true from hs) (by decide)
 ·intro h;unfold Opt at h;split at h
  ·rename_i p hl;obtain⟨s2,es⟩:=p;obtain⟨⟨rfl,rfl,h0⟩,h1,h2,h3,h4,h5,h6,h7⟩:=h;dsimp only at h0 h5 h7;subst h0;exact⟨xs,rfl,h1,h2,h3,h4,.inl ⟨b,n,es,rfl,hl,h5,h6,h7⟩⟩
  ·exact h.elim
theorem SpApp_emp(d:Nat)(t e:TypeId)(x:List IV)(xr:List (List IV))(R:Rows)(T:AV->Rows->Prop): @SpApp G d t e (.im .emp) (some (x::xr)) R ⟨T⟩=(G.perm.contains d=true/\(G.ti t).size≠0/\(G.ti e).size≠0/\(G.ti e).bytes≠0/\(∀c∈(x::xr),c.length=(G.ti e).size)/\(x::xr)≠[]/\(x::xr).length*(G.ti e).bytes<=140737488355328/\
   NewX (G.ti e).size (x::xr) e (x::xr).length R (T:=⟨T⟩)):=by
 apply propext;constructor
 ·rintro⟨a1,hx,h1,h2,h3,h4,⟨b',n',es,hs,_⟩ | ⟨_,h5,h6,h7,h8⟩ | ⟨_,h0,_⟩⟩
  ·cases hs
  ·cases hx;exact⟨h5,h1,h2,h3,h4,h6,h7,h8⟩
  ·cases hx;cases h0
 ·rintro⟨h5,h1,h2,h3,h4,h6,h7,h8⟩;exact⟨x::xr,rfl,h1,h2,h3,h4,.inr (.inl ⟨rfl,h5,h6,h7,h8⟩)⟩
theorem SpApp_sx0(d:Nat)(t e:TypeId)(x:List IV)(xr:List (List IV))(R:Rows)(T:AV->Rows->Prop): @SpApp G d t e (.sx []) (some (x::xr)) R ⟨T⟩=(G.perm.contains d=true/\(G.ti t).size≠0/\(G.ti e).size≠0/\(G.ti e).bytes≠0/\(∀c∈(x::xr),c.length=(G.ti e).size)/\(x::xr)≠[]/\(x::xr).length*(G.ti e).bytes<=140737488355328/\
   NewX (G.ti e).size (x::xr) e (x::xr).length R (T:=⟨T⟩)):=by
 apply propext;constructor
 ·rintro⟨a1,hx,h1,h2,h3,h4,⟨b',n',es,hs,_⟩ | ⟨_,h5,h6,h7,h8⟩ | ⟨_,h0,_⟩⟩
  ·cases hs
  ·cases hx;exact⟨h5,h1,h2,h3,h4,h6,h7,h8⟩
  ·cases hx;cases h0
 ·rintro⟨h5,h1,h2,h3,h4,h6,h7,h8⟩;exact⟨x::xr,rfl,h1,h2,h3,h4,.inr (.inl ⟨rfl,h5,h6,h7,h8⟩)⟩
def NewP(s:Nat)(es:List (List IV))(d:Nat)[K:Hold (St->Prop)][A:Hold (St×(Nat->AV))]:Prop:=NewH K.val A.val.1 s es d A.val.2
theorem SpApp_sx00(d:Nat)(t e:TypeId)(R:Rows)(T:AV->Rows->Prop): @SpApp G d t e (.sx []) (some []) R ⟨T⟩=((G.ti t).size≠0/\(G.ti e).size≠0/\(G.ti e).bytes≠0/\T (.sx []) R):=by
 apply propext;constructor
 ·rintro⟨a1,hx,h1,h2,h3,h4,⟨b',n',es,hs,_⟩ | ⟨_,_,h6,_⟩ | ⟨_,h0,h5⟩⟩
  ·cases hs
  ·cases hx;exact absurd rfl h6
  ·exact⟨h1,h2,h3,h5⟩
 ·rintro⟨h1,h2,h3,h5⟩;exact⟨[],rfl,h1,h2,h3,(fun c hc=>by cases hc),.inr (.inr ⟨rfl,rfl,h5⟩)⟩
theorem jgu{K:St->Prop}{st:St}{s:Nat}{es:List (List IV)}{d:Nat}{av:Nat->AV}(h:∀b,look st.rows (hp b)=none->K (st.addH b s es d (av b))): @NewP s es d ⟨K⟩ ⟨(st,av)⟩:=h
def GrowP(b s:Nat)(es:List (List IV))(d e n:Nat)[K:Hold (St->Prop)][A:Hold St]:Prop:=GrowH K.val A.val b s es d e n
theorem jpc{K:St->Prop}{st:St}{b s:Nat}{es:List (List IV)}{d e n:Nat}(h:∀X,look (del st.rows (hp b)) (hp X)=none->K ((jdw st (hp b) X s es).put (some d) (.im (.ref X e s n)))): @GrowP b s es d e n ⟨K⟩ ⟨st⟩:=h
theorem aCall_eq(K:St->Prop)(dst:Option Nat)(f:Operand)(args:List Operand):
  aCall G K st dst f args=if isFrz G dst=true then jki G K (st.frzOs args) dst f args else jki G K st dst f args:=propext ⟨fun h=>h,fun h=>h⟩
theorem aCall0_eq(K:St->Prop)(dst:Option Nat)(f:Operand)(args:List Operand):
  jki G K st dst f args=if(args.any fun x=>isHa (evO st x))=true then(match evO st f with
   | .im (.clo g caps)=>CallH G g st dst (args.map (evO st)++caps.map .im) (K:=⟨K⟩)
   | _=>False)else match evO st f,ivsOf (args.map (evO (st.lendOs args)))with
   | .im (.clo g caps),some xs=>CallP G g (xs++caps) (K:=⟨fun r=>K ((if flatB r=true then st else st.lendOs args).put dst (.im r))⟩)
     (V:=⟨fun e s es=>match dst with | some d=>K ((tokSt (st.lendOs args) d d s es.length).put (some d) (.vec d e s es)) | none=>False⟩) (W:=⟨aCallO G K (st.lendOs args) dst g (xs++caps)\/jmi G K st dst g (args.map (evO st)++caps.map .im)⟩)
   | _,_=>False:=by
 unfold jki CallP;generalize (args.any fun x=>isHa (evO st x))=hb;generalize evO st f=fv;generalize ivsOf (args.map (evO (st.lendOs args)))=a1;cases hb with
 | true=>rfl
 | false=>
 simp only[ya,qp];cases fv with
 | im x=>cases x with
  | clo g caps=>cases a1 with
   | none=>rfl
   | some xs=>
    dsimp only;cases dst with
    | none=>simp
    | some d=>simp
  | _=>rfl
 | _=>rfl
def NilP(es:List (List IV))[K:Hold (Bool->Prop)]:Prop:=∀b:Bool,(b=true->es=[])->K.val b
theorem jpb{es:List (List IV)}{K:Bool->Prop}(h1:es=[]->K true)(h2:K false): @NilP es ⟨K⟩:=fun b hb=>by
 cases b
 ·exact h2
 ·exact h1 (hb rfl)
theorem aNil_eq(K:St->Prop)(dst:Option Nat)(op:BinOp)(t:TypeId)(x:Operand):aNil G K st dst op t x=if jsv (evO st x)=true then(match op with
  | .eql=>(G.ti t).size≠0/\isSl (G.ti t).kind=true/\K (st.put dst (.im (.sc (.bool false))))
  | .neq=>(G.ti t).size≠0/\isSl (G.ti t).kind=true/\K (st.put dst (.im (.sc (.bool true))))
  | _=>False)
 else match jd0 (evO st x),op with
  | some es,.eql=>(G.ti t).size≠0/\isSl (G.ti t).kind=true/\NilP es (K:=⟨fun b=>K (st.put dst (.im (.sc (.bool b))))⟩)
  | some es,.neq=>(G.ti t).size≠0/\isSl (G.ti t).kind=true/\NilP es (K:=⟨fun b=>K (st.put dst (.im (.sc (.bool !b))))⟩)
  | _,_=>False:=propext ⟨fun h=>h,fun h=>h⟩
theorem aq_eq(st:St)(o:Oper)(K:AV->Prop):aq G st o K=match o.op with
  | .call c=>match c.callee with
   | .value f=>match evO st f,ivsOf (c.args.toList.map (evO st))with
    | .im (.clo g caps),some xs=>CallD G g (xs++caps) (K:=⟨fun r=>K (.im r)⟩)
    | _,_=>False
   | .builtin .append=>appP G st c.argTypes.toList c.args.toList K
   | _=>Opt (yv G st o) (K:=⟨K⟩)
  | _=>Opt (yv G st o) (K:=⟨K⟩):=by
 obtain⟨dst,op,ty,pos,af,gd⟩:=o;unfold aq Opt;cases op<;>dsimp only<;>first
  | (generalize yv G st _=y;cases y<;>rfl)
  | rfl
  | (rename_i c;obtain⟨callee,a1,ts⟩:=c;cases callee<;>first
    | (dsimp only;generalize yv G st _=y;cases y<;>rfl)
    | rfl
    | (rename_i b;cases b<;>dsimp only<;>first | (generalize yv G st _=y;cases y<;>rfl) | rfl))
def isMk:Op->Bool
 | .alloc _=>true
 | _=>false
theorem jju{o:Oper}(h:isMk o.op=false):jbg G o=none:=by
 obtain⟨dst,op,ty,pos,af,gd⟩:=o;cases op<;>first | (cases h;done) | rfl
theorem jlq{d:Tmp}{op:Op}{ty:TypeId}{pos:String}{af:Array Edge}{g:Option (Nat×Bool)}:jbw ⟨some d,op,ty,pos,af,g⟩=false:=by
 unfold jbw;split<;>simp
theorem jc8(ops:List Oper)(K:St->Prop)(d:Tmp)(op:Op)(ty:TypeId)(pos:String)(af:Array Edge)(r:List Oper)(st:St)(hm:isMk op=false):
  jbf G ops K (⟨some d,op,ty,pos,af,none⟩::r) st=aq G st ⟨some d,op,ty,pos,af,none⟩ (fun av=>jbf G ops K r (st.put (some d) av)):=by
 conv=>lhs;unfold jbf
 rw[zl (by rw[jlq];simp),jju hm]
theorem aheadS_alloc(K:St->Prop)(d:Tmp)(t:TypeId):
  jbf G ops K (⟨some d,.alloc t,ty,pos,af,none⟩::r) st=Opt (jd3 G t) (K:=⟨fun z=>jbf G ops K r (st.put (some d) (.loc d z.length 0 0))⟩):=by
 conv=>lhs;unfold jbf
 rw[zl (by rw[jlq];simp)];unfold jbg;dsimp only;generalize hz:jd3 G t=oz;cases oz with
 | none=>simp only[aq_eq,yv,Opt]
 | some z=>rfl
theorem freshAll_nil:freshAll G [] st=st:=rfl
theorem jb8(dst:Option Tmp)(op:Op)(ty:TypeId)(pos:String)(af:Array Edge)(g:Option (Nat×Bool))(r:List Oper)(st:St)(hm:isMk op=false):freshAll G (⟨dst,op,ty,pos,af,g⟩::r) st=freshAll G r st:=by
 conv=>lhs;unfold freshAll
 rw[jju hm]
theorem freshAll_alloc(d:Tmp)(t:TypeId):freshAll G (⟨some d,.alloc t,ty,pos,af,none⟩::r) st=match jd3 G t with | some _=>freshAll G r (st.fresh d) | none=>freshAll G r st:=by
 conv=>lhs;unfold freshAll
 unfold jbg;dsimp only;generalize jd3 G t=oz;cases oz<;>rfl
theorem mkRows_nil:jbd G []=[]:=rfl
theorem jbr(dst:Option Tmp)(op:Op)(ty:TypeId)(pos:String)(af:Array Edge)(g:Option (Nat×Bool))(r:List Oper)(hm:isMk op=false):jbd G (⟨dst,op,ty,pos,af,g⟩::r)=jbd G r:=by
 conv=>lhs;unfold jbd
 rw[jju hm]
theorem mkRows_alloc(d:Tmp)(t:TypeId):jbd G (⟨some d,.alloc t,ty,pos,af,none⟩::r)=match jd3 G t with | some z=>(d,z.length,[z])::jbd G r | none=>jbd G r:=by
 conv=>lhs;unfold jbd
 unfold jbg;dsimp only;generalize jd3 G t=oz;cases oz<;>rfl
theorem aheadS_move(K:St->Prop)(d:Tmp){x0}:jbf G ops K (⟨some d,.move x0,ty,pos,af,none⟩::r) st=aq G st ⟨some d,.move x0,ty,pos,af,none⟩ (fun av=>jbf G ops K r (st.put (some d) av)):=jc8 _ _ _ _ _ _ _ _ _ rfl
theorem freshAll_move{x0}(g:Option (Nat×Bool)):freshAll G (⟨dst,.move x0,ty,pos,af,g⟩::r) st=freshAll G r st:=jb8 _ _ _ _ _ _ _ _ rfl
theorem mkRows_move{x0}(g:Option (Nat×Bool)):jbd G (⟨dst,.move x0,ty,pos,af,g⟩::r)=jbd G r:=jbr _ _ _ _ _ _ _ rfl
theorem aheadS_assign(K:St->Prop)(d:Tmp){x0}:jbf G ops K (⟨some d,.assign x0,ty,pos,af,none⟩::r) st=aq G st ⟨some d,.assign x0,ty,pos,af,none⟩ (fun av=>jbf G ops K r (st.put (some d) av)):=jc8 _ _ _ _ _ _ _ _ _ rfl
theorem freshAll_assign{x0}(g:Option (Nat×Bool)):freshAll G (⟨dst,.assign x0,ty,pos,af,g⟩::r) st=freshAll G r st:=jb8 _ _ _ _ _ _ _ _ rfl
theorem mkRows_assign{x0}(g:Option (Nat×Bool)):jbd G (⟨dst,.assign x0,ty,pos,af,g⟩::r)=jbd G r:=jbr _ _ _ _ _ _ _ rfl
theorem aheadS_build(K:St->Prop)(d:Tmp){x0 x1}:jbf G ops K (⟨some d,.build x0 x1,ty,pos,af,none⟩::r) st=aq G st ⟨some d,.build x0 x1,ty,pos,af,none⟩ (fun av=>jbf G ops K r (st.put (some d) av)):=jc8 _ _ _ _ _ _ _ _ _ rfl
theorem freshAll_build{x0 x1}(g:Option (Nat×Bool)):freshAll G (⟨dst,.build x0 x1,ty,pos,af,g⟩::r) st=freshAll G r st:=jb8 _ _ _ _ _ _ _ _ rfl
theorem mkRows_build{x0 x1}(g:Option (Nat×Bool)):jbd G (⟨dst,.build x0 x1,ty,pos,af,g⟩::r)=jbd G r:=jbr _ _ _ _ _ _ _ rfl
theorem aheadS_buildSlice(K:St->Prop)(d:Tmp){x0 x1 x2}:jbf G ops K (⟨some d,.buildSlice x0 x1 x2,ty,pos,af,none⟩::r) st=aq G st ⟨some d,.buildSlice x0 x1 x2,ty,pos,af,none⟩ (fun av=>jbf G ops K r (st.put (some d) av)):=jc8 _ _ _ _ _ _ _ _ _ rfl
theorem freshAll_buildSlice{x0 x1 x2}(g:Option (Nat×Bool)):freshAll G (⟨dst,.buildSlice x0 x1 x2,ty,pos,af,g⟩::r) st=freshAll G r st:=jb8 _ _ _ _ _ _ _ _ rfl
theorem mkRows_buildSlice{x0 x1 x2}(g:Option (Nat×Bool)):jbd G (⟨dst,.buildSlice x0 x1 x2,ty,pos,af,g⟩::r)=jbd G r:=jbr _ _ _ _ _ _ _ rfl
theorem aheadS_load(K:St->Prop)(d:Tmp){x0 x1}:jbf G ops K (⟨some d,.load x0 x1,ty,pos,af,none⟩::r) st=aq G st ⟨some d,.load x0 x1,ty,pos,af,none⟩ (fun av=>jbf G ops K r (st.put (some d) av)):=jc8 _ _ _ _ _ _ _ _ _ rfl
theorem freshAll_load{x0 x1}(g:Option (Nat×Bool)):freshAll G (⟨dst,.load x0 x1,ty,pos,af,g⟩::r) st=freshAll G r st:=jb8 _ _ _ _ _ _ _ _ rfl
theorem mkRows_load{x0 x1}(g:Option (Nat×Bool)):jbd G (⟨dst,.load x0 x1,ty,pos,af,g⟩::r)=jbd G r:=jbr _ _ _ _ _ _ _ rfl
theorem aheadS_nilCheck(K:St->Prop)(d:Tmp){x0}:jbf G ops K (⟨some d,.nilCheck x0,ty,pos,af,none⟩::r) st=aq G st ⟨some d,.nilCheck x0,ty,pos,af,none⟩ (fun av=>jbf G ops K r (st.put (some d) av)):=jc8 _ _ _ _ _ _ _ _ _ rfl
theorem freshAll_nilCheck{x0}(g:Option (Nat×Bool)):freshAll G (⟨dst,.nilCheck x0,ty,pos,af,g⟩::r) st=freshAll G r st:=jb8 _ _ _ _ _ _ _ _ rfl
theorem mkRows_nilCheck{x0}(g:Option (Nat×Bool)):jbd G (⟨dst,.nilCheck x0,ty,pos,af,g⟩::r)=jbd G r:=jbr _ _ _ _ _ _ _ rfl
theorem aheadS_binOp(K:St->Prop)(d:Tmp){x0 x1 x2 x3 x4}:jbf G ops K (⟨some d,.binOp x0 x1 x2 x3 x4,ty,pos,af,none⟩::r) st=aq G st ⟨some d,.binOp x0 x1 x2 x3 x4,ty,pos,af,none⟩ (fun av=>jbf G ops K r (st.put (some d) av)):=jc8 _ _ _ _ _ _ _ _ _ rfl
theorem freshAll_binOp{x0 x1 x2 x3 x4}(g:Option (Nat×Bool)):freshAll G (⟨dst,.binOp x0 x1 x2 x3 x4,ty,pos,af,g⟩::r) st=freshAll G r st:=jb8 _ _ _ _ _ _ _ _ rfl
theorem mkRows_binOp{x0 x1 x2 x3 x4}(g:Option (Nat×Bool)):jbd G (⟨dst,.binOp x0 x1 x2 x3 x4,ty,pos,af,g⟩::r)=jbd G r:=jbr _ _ _ _ _ _ _ rfl
theorem aheadS_unOp(K:St->Prop)(d:Tmp){x0 x1 x2}:jbf G ops K (⟨some d,.unOp x0 x1 x2,ty,pos,af,none⟩::r) st=aq G st ⟨some d,.unOp x0 x1 x2,ty,pos,af,none⟩ (fun av=>jbf G ops K r (st.put (some d) av)):=jc8 _ _ _ _ _ _ _ _ _ rfl
theorem freshAll_unOp{x0 x1 x2}(g:Option (Nat×Bool)):freshAll G (⟨dst,.unOp x0 x1 x2,ty,pos,af,g⟩::r) st=freshAll G r st:=jb8 _ _ _ _ _ _ _ _ rfl
theorem mkRows_unOp{x0 x1 x2}(g:Option (Nat×Bool)):jbd G (⟨dst,.unOp x0 x1 x2,ty,pos,af,g⟩::r)=jbd G r:=jbr _ _ _ _ _ _ _ rfl
theorem aheadS_fieldAddr(K:St->Prop)(d:Tmp){x0 x1 x2}:jbf G ops K (⟨some d,.fieldAddr x0 x1 x2,ty,pos,af,none⟩::r) st=aq G st ⟨some d,.fieldAddr x0 x1 x2,ty,pos,af,none⟩ (fun av=>jbf G ops K r (st.put (some d) av)):=jc8 _ _ _ _ _ _ _ _ _ rfl
theorem freshAll_fieldAddr{x0 x1 x2}(g:Option (Nat×Bool)):freshAll G (⟨dst,.fieldAddr x0 x1 x2,ty,pos,af,g⟩::r) st=freshAll G r st:=jb8 _ _ _ _ _ _ _ _ rfl
theorem mkRows_fieldAddr{x0 x1 x2}(g:Option (Nat×Bool)):jbd G (⟨dst,.fieldAddr x0 x1 x2,ty,pos,af,g⟩::r)=jbd G r:=jbr _ _ _ _ _ _ _ rfl
theorem aheadS_indexAddr(K:St->Prop)(d:Tmp){x0 x1 x2}:jbf G ops K (⟨some d,.indexAddr x0 x1 x2,ty,pos,af,none⟩::r) st=aq G st ⟨some d,.indexAddr x0 x1 x2,ty,pos,af,none⟩ (fun av=>jbf G ops K r (st.put (some d) av)):=jc8 _ _ _ _ _ _ _ _ _ rfl
theorem freshAll_indexAddr{x0 x1 x2}(g:Option (Nat×Bool)):freshAll G (⟨dst,.indexAddr x0 x1 x2,ty,pos,af,g⟩::r) st=freshAll G r st:=jb8 _ _ _ _ _ _ _ _ rfl
theorem mkRows_indexAddr{x0 x1 x2}(g:Option (Nat×Bool)):jbd G (⟨dst,.indexAddr x0 x1 x2,ty,pos,af,g⟩::r)=jbd G r:=jbr _ _ _ _ _ _ _ rfl
theorem aheadS_extract(K:St->Prop)(d:Tmp){x0 x1}:jbf G ops K (⟨some d,.extract x0 x1,ty,pos,af,none⟩::r) st=aq G st ⟨some d,.extract x0 x1,ty,pos,af,none⟩ (fun av=>jbf G ops K r (st.put (some d) av)):=jc8 _ _ _ _ _ _ _ _ _ rfl
theorem freshAll_extract{x0 x1}(g:Option (Nat×Bool)):freshAll G (⟨dst,.extract x0 x1,ty,pos,af,g⟩::r) st=freshAll G r st:=jb8 _ _ _ _ _ _ _ _ rfl
theorem mkRows_extract{x0 x1}(g:Option (Nat×Bool)):jbd G (⟨dst,.extract x0 x1,ty,pos,af,g⟩::r)=jbd G r:=jbr _ _ _ _ _ _ _ rfl
theorem aheadS_call(K:St->Prop)(d:Tmp){x0}:jbf G ops K (⟨some d,.call x0,ty,pos,af,none⟩::r) st=aq G st ⟨some d,.call x0,ty,pos,af,none⟩ (fun av=>jbf G ops K r (st.put (some d) av)):=jc8 _ _ _ _ _ _ _ _ _ rfl
theorem freshAll_call{x0}(g:Option (Nat×Bool)):freshAll G (⟨dst,.call x0,ty,pos,af,g⟩::r) st=freshAll G r st:=jb8 _ _ _ _ _ _ _ _ rfl
theorem mkRows_call{x0}(g:Option (Nat×Bool)):jbd G (⟨dst,.call x0,ty,pos,af,g⟩::r)=jbd G r:=jbr _ _ _ _ _ _ _ rfl
theorem freshAll_store{x0 x1 x2}(g:Option (Nat×Bool)):freshAll G (⟨dst,.store x0 x1 x2,ty,pos,af,g⟩::r) st=freshAll G r st:=jb8 _ _ _ _ _ _ _ _ rfl
theorem mkRows_store{x0 x1 x2}(g:Option (Nat×Bool)):jbd G (⟨dst,.store x0 x1 x2,ty,pos,af,g⟩::r)=jbd G r:=jbr _ _ _ _ _ _ _ rfl
theorem aStores0_eq(K:St->Prop):jj9 G K ops st=jed G K ops ⟨st.fr,jbd G ops++st.rows,st.toks⟩:=rfl
theorem aStore_eq(K:St->Prop)(dst:Option Nat)(t:TypeId)(p x:Operand):
  jnq G K st dst t p x=match ivE G (evO st x),(evO st p).dp with
   | some y,.loc d s i j=>match look st.rows d with
    | some (s',es)=>Opt es[i]? (K:=⟨fun c=>s'=s/\(G.ti t).size≠0/\(cellsOf y).length=(G.ti t).size/\(cellsOf y).all IV.one=true/\j+(G.ti t).size<=c.length/\
     K (St.put {st with rows:=setRow st.rows d s (es.set i (jbp c j (cellsOf y)))} dst jcc)⟩)
    | none=>False
   | _,_=>False:=by
 unfold jnq;generalize ivE G (evO st x)=oy;generalize (evO st p).dp=pv;cases oy with
 | none=>rfl
 | some y=>cases pv with
  | loc d s i j=>
   dsimp only;generalize look st.rows d=o;cases o with
   | none=>rfl
   | some q=>
    obtain⟨s',es⟩:=q;dsimp only;unfold Opt;generalize es[i]? =oc;cases oc<;>rfl
  | _=>rfl
def jr2{α:Type}[LR:Hold (List Nat×List Nat)][S:Hold (α->St)][P:Hold (α->Prop)][M:Hold ((α->Nat)×α)](s:St):Prop:=∃a',P.val a'/\M.val.1 a'<M.val.1 M.val.2/\St.Le s (S.val a')
theorem ja7{α:Type}{L R:List Nat}{S:α->St}{P:α->Prop}{μ:α->Nat}{a:α}{s:St}(a':α)(hs:s.keep L R=S a')(hμ:μ a'<μ a)(hP:P a'): @jr2 α ⟨(L,R)⟩ ⟨S⟩ ⟨P⟩ ⟨(μ,a)⟩ s:=⟨a',hP,hμ,by show St.Le s (S a');rw[<-hs];exact St.le_keep s L R⟩
def St.prom1(s:St)(t d e k:Nat):St:=
 if k=0 then s.forget t else if d<100000 then(match s.get t with
 | .vec _ _ _ _=>s.ren t d
 | _=>s.prom t d e k)else s.forget t
def St.proms:St->List (Nat×Nat×Nat×Nat)->St
 | s,[]=>s
 | s,(t,d,e,k)::r=>St.proms (s.prom1 t d e k) r
def joc:St->List (Nat×Nat×Nat×Nat)->Prop
 | _,[]=>True
 | s,(t,d,e,k)::r=>(if k=0 then True else match s.get t with | .sx es=>∀c∈es,c.length=k | .vec d0 _ s' es=>look s.toks d0=some (s',es.length) | _=>False)/\joc (s.prom1 t d e k) r
theorem St.le_proms:∀(l:List (Nat×Nat×Nat×Nat)) (s:St),joc s l->St.Le s (s.proms l)
 | [],s,_=>St.Le.refl s
 | (t,d,e,k)::r,s,h=>by
  obtain⟨h1,h2⟩:=h;have h3:St.Le s (s.prom1 t d e k):=by
   unfold St.prom1;by_cases hk:k=0
   ·rw[zh hk];exact St.le_forget s t
   rw[zl hk]at h1⊢;by_cases a1:d<100000
   case neg=>rw[zl a1];exact St.le_forget s t
   rw[zh a1];split at h1
   ·rename_i es hg;simp only[hg];exact St.le_prom a1 hg h1
   ·rename_i hg;simp only[hg];exact St.le_ren a1 hg h1
   ·exact h1.elim
  exact h3.trans (St.le_proms r _ h2)
theorem jdj{α:Type}{c:Code}{Q:Exit->St->Prop}{st:St}(L R:List Nat)(ps:List (Nat×Nat×Nat×Nat))(S:α->St)(P:α->Prop)(μ:α->Nat)(a:α)(a1:joc (st.keep L R) ps)(hs:(st.keep L R).proms ps=S a)(hP:P a)
  (h:∀a,P a->awp G c (fun e s=>match e with | .normal=> @jr2 α ⟨(L,R)⟩ ⟨S⟩ ⟨P⟩ ⟨(μ,a)⟩ s | e=>Q e s) (S a)): @LoopP G ⟨c⟩ ⟨Q⟩ st:=by
 refine⟨fun n s=>∃a,μ a=n/\P a/\s=S a,μ a,⟨_,(St.le_keep st L R).trans (St.le_proms ps _ a1),a,rfl,hP,hs⟩,fun n s ⟨a,hn,hP,hs⟩=> ?_⟩;subst hn;subst hs;have e:(fun(e:Exit) (s':St)=>match e with | .normal=>∃n',n'<μ a/\∃s1,St.Le s' s1/\∃b,μ b=n'/\P b/\s1=S b | e=>Q e s')=
   (fun e s=>match e with | .normal=> @jr2 α ⟨(L,R)⟩ ⟨S⟩ ⟨P⟩ ⟨(μ,a)⟩ s | e=>Q e s):=by
  funext e s;cases e<;>first | rfl | skip;simp only[jr2,eq_iff_iff];exact⟨fun⟨n',h1,s1,h5,b,h2,h3,h4⟩=>⟨b,h3,h2▸h1,h4▸h5⟩,fun⟨b,h3,h1,h4⟩=>⟨_,h1,_,h4,b,rfl,h3,rfl⟩⟩
 refine(congrFun (zS (awp G c) e) (S a)).mpr (h a hP)
theorem jai{α:Type}{c:Code}{Q:Exit->St->Prop}{st:St}(L R:List Nat)(S:α->St)(P:α->Prop)(μ:α->Nat)(a:α)(hs:st.keep L R=S a)(hP:P a)
  (h:∀a,P a->awp G c (fun e s=>match e with | .normal=> @jr2 α ⟨(L,R)⟩ ⟨S⟩ ⟨P⟩ ⟨(μ,a)⟩ s | e=>Q e s) (S a)): @LoopP G ⟨c⟩ ⟨Q⟩ st:=by
 exact jdj L R [] S P μ a trivial hs hP h
theorem bq_true(b:Bool):(b==true)=b:=by cases b<;>rfl
theorem bq_false(b:Bool):(b==false)= !b:=by cases b<;>rfl
def noZ:ZC->Bool
 | .no=>true
 | _=>false
theorem zeroIV_eq(t:TypeId):jd3 G t=if(G.ti t).size=0 then none else if(G.ti t).zero.any noZ=true then none else some ((G.ti t).zero.map (ZC.ivG G.emp)):=by
 have:(G.ti t).zero.contains .no=(G.ti t).zero.any noZ:=by
  induction (G.ti t).zero with
  | nil=>rfl
  | cons x l ih=>rw[List.contains_cons,List.any_cons,ih];cases x<;>rfl
 unfold jd3;rw[this]
theorem oc_int(k:IntKind)(n:Int):(Value.int k n).oneCell'=true:=rfl
theorem oc_bool(b:Bool):(Value.bool b).oneCell'=true:=rfl
theorem oc_string(s:ByteArray):(Value.string s).oneCell'=true:=rfl
theorem ctr_go(hG:G.Good){f:FuncId}{args:List IV}{φ:IV->Prop}(fn:Func)(c:Code)(rs:List ResultVar)(hf:G.P.funcs[f]? =some fn)(hb:fn.body=some c)(hr:fn.results.toList=rs)(hd:dstC fn.ntmps c=true)
  (hn:Nat.ble args.length fn.ntmps=true) (h:awp G c (fun e s=>match e with | .normal=>aRet G rs φ s | .ret=>aRet G rs φ s | _=>False) (jci args)):Ctr G.P f args φ:=by
 subst hr;exact ctr_of_awp hG hf hb hd (ye hn) h
def RetH(G:Ctx)(rs:List ResultVar)(st:St)[φ:Hold (AV->Rows->Prop)]:Prop:=aRetH G rs φ.val st
theorem jgt{rs:List ResultVar}{st:St}{φ:AV->Rows->Prop}(L':Rows)(hL:∀k x,look L' k=some x->100000<=k/\look st.rows k=some x)(h:jgz G rs (fun r=>φ r L') st): @RetH G rs st ⟨φ⟩:=⟨L',hL,h⟩
def RetF(G:Ctx)(rs:List ResultVar)(st:St)[φ:Hold (IV->Prop)]:Prop:=aRetF G rs φ.val st
theorem jhj{rs:List ResultVar}{st:St}{φ:IV->Prop}(bs:List Nat)(h:aRet G rs φ (bs.foldl St.frz st)): @RetF G rs st ⟨φ⟩:=⟨bs,h⟩
theorem ctrh_go(hG:G.Good){f:FuncId}{args:List AV}{L:Rows}{φ:AV->Rows->Prop}(fn:Func)(c:Code)(rs:List ResultVar)(hf:G.P.funcs[f]? =some fn)(hb:fn.body=some c)(hr:fn.results.toList=rs)(hd:dstC fn.ntmps c=true)
  (hn:Nat.ble args.length fn.ntmps=true) (h:awp G c (fun x st=>match x with | .normal=> @RetH G rs st ⟨φ⟩ | .ret=> @RetH G rs st ⟨φ⟩ | _=>False) (jdo args L)):CtrH G.P f args L φ:=by
 subst hr;exact ctrH_of_awp hG hf hb hd (ye hn) h
theorem jp2(hG:G.Good){f:FuncId}{args:List IV}{φ:IV->Prop}(fn:Func)(c:Code)(rs:List ResultVar)(hf:G.P.funcs[f]? =some fn)(hb:fn.body=some c)(hr:fn.results.toList=rs)(hd:dstC fn.ntmps c=true)
  (hn:Nat.ble args.length fn.ntmps=true) (h:awp G c (fun x st=>match x with | .normal=> @RetF G rs st ⟨φ⟩ | .ret=> @RetF G rs st ⟨φ⟩ | _=>False) (jci args)):Ctr G.P f args φ:=by
 subst hr;exact ctrF_of_awp hG hf hb hd (ye hn) h
def jtk{α:Type}(s:St)[L:Hold (List Nat)][S:Hold (α->St)][P:Hold (α->Prop)][M:Hold ((α->Nat)×α)]:Prop:=∃a',P.val a'/\M.val.1 a'<M.val.1 M.val.2/\St.Le s (S.val a')
theorem jac{α:Type}{L:List Nat}{S:α->St}{P:α->Prop}{μ:α->Nat}{a:α}{s:St}(a':α)(hf:L.map (fun t=>(t,s.get t))=(S a').fr)(hr:SubR (S a').rows s.rows)(ht:(S a').toks=[])(hμ:μ a'<μ a)(hP:P a'):
  @jtk α s ⟨L⟩ ⟨S⟩ ⟨P⟩ ⟨(μ,a)⟩:=⟨a',hP,hμ,(St.sub_of L hf hr ht).le⟩
theorem jar{α:Type}{c:Code}{Q:Exit->St->Prop}{st:St}(L:List Nat)(S:α->St)(P:α->Prop)(μ:α->Nat)(a:α)(hf:L.map (fun t=>(t,st.get t))=(S a).fr)(hr:SubR (S a).rows st.rows)(ht:(S a).toks=[])(hP:P a)
  (h:∀a,P a->awp G c (fun e s=>match e with | .normal=> @jtk α s ⟨L⟩ ⟨S⟩ ⟨P⟩ ⟨(μ,a)⟩ | e=>Q e s) (S a)): @LoopP G ⟨c⟩ ⟨Q⟩ st:=by
 refine⟨fun n s=>∃a,μ a=n/\P a/\s=S a,μ a,⟨_,(St.sub_of L hf hr ht).le,a,rfl,hP,rfl⟩,fun n s ⟨a,hn,hP,hs⟩=> ?_⟩;subst hn;subst hs;have e:(fun(e:Exit) (s':St)=>match e with | .normal=>∃n',n'<μ a/\∃s1,St.Le s' s1/\∃b,μ b=n'/\P b/\s1=S b | e=>Q e s')=
   (fun e s=>match e with | .normal=> @jtk α s ⟨L⟩ ⟨S⟩ ⟨P⟩ ⟨(μ,a)⟩ | e=>Q e s):=by
  funext e s;cases e<;>first | rfl | skip;simp only[jtk,eq_iff_iff];exact⟨fun⟨n',h1,s1,h5,b,h2,h3,h4⟩=>⟨b,h3,h2▸h1,h4▸h5⟩,fun⟨b,h3,h1,h4⟩=>⟨_,h1,_,h4,b,rfl,h3,rfl⟩⟩
 refine(congrFun (zS (awp G c) e) (S a)).mpr (h a hP)
end
theorem ja5{R' R:Rows}(h:R'=R:=by exact rfl):SubR R' R:=SubR.of_eq h
theorem jhm{G:Ctx}{g:Nat}{xs:List IV}{K:IV->Prop}{V:Nat->Nat->List (List IV)->Prop}{W:Prop}{φ:IV->Prop}(h:Ctr G.P g xs φ)(hK:∀r,φ r->K r)(hg:3<=g/\g<G.fns:=by decide): @CallP G g xs ⟨K⟩ ⟨V⟩ ⟨W⟩:=CallP_of h hg hK
theorem ja0{G:Ctx}{g:Nat}{xs:List IV}{K:IV->Prop}{V:Nat->Nat->List (List IV)->Prop}{W:Prop}{r:IV}(h:Ctr G.P g xs (· =r))(hK:K r)(hg:3<=g/\g<G.fns:=by decide): @CallP G g xs ⟨K⟩ ⟨V⟩ ⟨W⟩:=jc0 h hg hK
theorem jaf{G:Ctx}{ops:List Oper}{Q:Exit->St->Prop}{st:St}(n:Nat)(hA:jex G ops (Q .normal) n ops st)(h:drawB ops.toArray n=true:=by decide+kernel): @DrawP G ⟨ops⟩ ⟨Q⟩ st:=DrawP_of n h hA
theorem jah{G:Ctx}{ops:List Oper}{Q:Exit->St->Prop}{st:St}(hA:jbf G ops (jj9 G (Q .normal) ops) ops (freshAll G ops st))(h:drawS ops.toArray=true:=by decide+kernel): @DrawP G ⟨ops⟩ ⟨Q⟩ st:=DrawS_of h hA
