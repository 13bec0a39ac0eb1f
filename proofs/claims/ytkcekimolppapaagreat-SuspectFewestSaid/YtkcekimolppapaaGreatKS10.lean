/- A part of the proof. No further condition. -/
import Derived.Test.YtkcekimolppapaaGreatKS9
import Derived.Attr
import Derived.Test.YtkcekimolppapaaGreatProg
import Derived.KernelRfl
import Derived.IntWalk
import Derived.Shelf.SlSortCmp.WholeK
import Derived.Shelf.SlSortCmp.NoneTotal
import Derived.Shelf.SlicesG.Cmp
import Derived.Shelf.Small.Bits
set_option linter.all false
set_option maxRecDepth 10000000
set_option maxHeartbeats 16000000
namespace Go.Abs
section
section
variable{G:Ctx}
variable(dst:Option Tmp)(ty:TypeId)(pos:String)(af:Array Edge)(gd:Option (Nat×Bool))(st:St)(ops:List Oper)(r:List Oper)
theorem aop_move(x:Operand)(K:St->Prop):aop G ⟨dst,.move x,ty,pos,af,gd⟩ K st=Opt (yv G st ⟨dst,.move x,ty,pos,af,gd⟩) (K:=⟨fun av=>K (st.put dst av)⟩):=jd7 K st ⟨dst,.move x,ty,pos,af,gd⟩
theorem aq_move(x:Operand)(K:AV->Prop):aq G st ⟨dst,.move x,ty,pos,af,gd⟩ K=Opt (yv G st ⟨dst,.move x,ty,pos,af,gd⟩) (K:=⟨K⟩):=by rw[aq_eq]
theorem aop_assign(x:Operand)(K:St->Prop):aop G ⟨dst,.assign x,ty,pos,af,gd⟩ K st=Opt (yv G st ⟨dst,.assign x,ty,pos,af,gd⟩) (K:=⟨fun av=>K (st.put dst av)⟩):=jd7 K st ⟨dst,.assign x,ty,pos,af,gd⟩
theorem aq_assign(x:Operand)(K:AV->Prop):aq G st ⟨dst,.assign x,ty,pos,af,gd⟩ K=Opt (yv G st ⟨dst,.assign x,ty,pos,af,gd⟩) (K:=⟨K⟩):=by rw[aq_eq]
theorem aop_pick(c a b:Operand)(K:St->Prop):aop G ⟨dst,.pick c a b,ty,pos,af,gd⟩ K st=Opt (yv G st ⟨dst,.pick c a b,ty,pos,af,gd⟩) (K:=⟨fun av=>K (st.put dst av)⟩):=jd7 K st ⟨dst,.pick c a b,ty,pos,af,gd⟩
theorem aq_pick(c a b:Operand)(K:AV->Prop):aq G st ⟨dst,.pick c a b,ty,pos,af,gd⟩ K=Opt (yv G st ⟨dst,.pick c a b,ty,pos,af,gd⟩) (K:=⟨K⟩):=by rw[aq_eq]
theorem aop_unOp(u:UnOp)(t:TypeId)(x:Operand)(K:St->Prop):aop G ⟨dst,.unOp u t x,ty,pos,af,gd⟩ K st=Opt (yv G st ⟨dst,.unOp u t x,ty,pos,af,gd⟩) (K:=⟨fun av=>K (st.put dst av)⟩):=jd7 K st ⟨dst,.unOp u t x,ty,pos,af,gd⟩
theorem aq_unOp(u:UnOp)(t:TypeId)(x:Operand)(K:AV->Prop):aq G st ⟨dst,.unOp u t x,ty,pos,af,gd⟩ K=Opt (yv G st ⟨dst,.unOp u t x,ty,pos,af,gd⟩) (K:=⟨K⟩):=by rw[aq_eq]
theorem aop_nilCheck(x:Operand)(K:St->Prop):aop G ⟨dst,.nilCheck x,ty,pos,af,gd⟩ K st=Opt (yv G st ⟨dst,.nilCheck x,ty,pos,af,gd⟩) (K:=⟨fun av=>K (st.put dst av)⟩):=jd7 K st ⟨dst,.nilCheck x,ty,pos,af,gd⟩
theorem aq_nilCheck(x:Operand)(K:AV->Prop):aq G st ⟨dst,.nilCheck x,ty,pos,af,gd⟩ K=Opt (yv G st ⟨dst,.nilCheck x,ty,pos,af,gd⟩) (K:=⟨K⟩):=by rw[aq_eq]
theorem aop_load(t:TypeId)(p:Operand)(K:St->Prop):aop G ⟨dst,.load t p,ty,pos,af,gd⟩ K st=Opt (yv G st ⟨dst,.load t p,ty,pos,af,gd⟩) (K:=⟨fun av=>K (st.put dst av)⟩):=jd7 K st ⟨dst,.load t p,ty,pos,af,gd⟩
theorem aq_load(t:TypeId)(p:Operand)(K:AV->Prop):aq G st ⟨dst,.load t p,ty,pos,af,gd⟩ K=Opt (yv G st ⟨dst,.load t p,ty,pos,af,gd⟩) (K:=⟨K⟩):=by rw[aq_eq]
theorem aop_fieldAddr(t:TypeId)(x:Operand)(f:Nat)(K:St->Prop):aop G ⟨dst,.fieldAddr t x f,ty,pos,af,gd⟩ K st=Opt (yv G st ⟨dst,.fieldAddr t x f,ty,pos,af,gd⟩) (K:=⟨fun av=>K (st.put dst av)⟩):=jd7 K st ⟨dst,.fieldAddr t x f,ty,pos,af,gd⟩
theorem aq_fieldAddr(t:TypeId)(x:Operand)(f:Nat)(K:AV->Prop):aq G st ⟨dst,.fieldAddr t x f,ty,pos,af,gd⟩ K=Opt (yv G st ⟨dst,.fieldAddr t x f,ty,pos,af,gd⟩) (K:=⟨K⟩):=by rw[aq_eq]
theorem aop_field(t:TypeId)(x:Operand)(f:Nat)(K:St->Prop):aop G ⟨dst,.field t x f,ty,pos,af,gd⟩ K st=Opt (yv G st ⟨dst,.field t x f,ty,pos,af,gd⟩) (K:=⟨fun av=>K (st.put dst av)⟩):=jd7 K st ⟨dst,.field t x f,ty,pos,af,gd⟩
theorem aop_indexAddr(t:TypeId)(x i:Operand)(K:St->Prop):aop G ⟨dst,.indexAddr t x i,ty,pos,af,gd⟩ K st=Opt (yv G st ⟨dst,.indexAddr t x i,ty,pos,af,gd⟩) (K:=⟨fun av=>K (st.put dst av)⟩):=jd7 K st ⟨dst,.indexAddr t x i,ty,pos,af,gd⟩
theorem aq_indexAddr(t:TypeId)(x i:Operand)(K:AV->Prop):aq G st ⟨dst,.indexAddr t x i,ty,pos,af,gd⟩ K=Opt (yv G st ⟨dst,.indexAddr t x i,ty,pos,af,gd⟩) (K:=⟨K⟩):=by rw[aq_eq]
theorem aop_index(t:TypeId)(x i:Operand)(K:St->Prop):aop G ⟨dst,.index t x i,ty,pos,af,gd⟩ K st=Opt (yv G st ⟨dst,.index t x i,ty,pos,af,gd⟩) (K:=⟨fun av=>K (st.put dst av)⟩):=jd7 K st ⟨dst,.index t x i,ty,pos,af,gd⟩
theorem aop_extract(x:Operand)(k:Nat)(K:St->Prop):aop G ⟨dst,.extract x k,ty,pos,af,gd⟩ K st=Opt (yv G st ⟨dst,.extract x k,ty,pos,af,gd⟩) (K:=⟨fun av=>K (st.put dst av)⟩):=jd7 K st ⟨dst,.extract x k,ty,pos,af,gd⟩
theorem aq_extract(x:Operand)(k:Nat)(K:AV->Prop):aq G st ⟨dst,.extract x k,ty,pos,af,gd⟩ K=Opt (yv G st ⟨dst,.extract x k,ty,pos,af,gd⟩) (K:=⟨K⟩):=by rw[aq_eq]
theorem aop_build(t:TypeId)(ps:Array (Nat×Operand))(K:St->Prop):aop G ⟨dst,.build t ps,ty,pos,af,gd⟩ K st=Opt (yv G st ⟨dst,.build t ps,ty,pos,af,gd⟩) (K:=⟨fun av=>K (st.put dst av)⟩):=jd7 K st ⟨dst,.build t ps,ty,pos,af,gd⟩
theorem aq_build(t:TypeId)(ps:Array (Nat×Operand))(K:AV->Prop):aq G st ⟨dst,.build t ps,ty,pos,af,gd⟩ K=Opt (yv G st ⟨dst,.build t ps,ty,pos,af,gd⟩) (K:=⟨K⟩):=by rw[aq_eq]
theorem aop_buildSlice(t:TypeId)(n:Nat)(ps:Array (Nat×Operand))(K:St->Prop):aop G ⟨dst,.buildSlice t n ps,ty,pos,af,gd⟩ K st=Opt (yv G st ⟨dst,.buildSlice t n ps,ty,pos,af,gd⟩) (K:=⟨fun av=>K (st.put dst av)⟩):=jd7 K st ⟨dst,.buildSlice t n ps,ty,pos,af,gd⟩
theorem aq_buildSlice(t:TypeId)(n:Nat)(ps:Array (Nat×Operand))(K:AV->Prop):aq G st ⟨dst,.buildSlice t n ps,ty,pos,af,gd⟩ K=Opt (yv G st ⟨dst,.buildSlice t n ps,ty,pos,af,gd⟩) (K:=⟨K⟩):=by rw[aq_eq]
theorem aop_convert(s d:TypeId)(x:Operand)(K:St->Prop):aop G ⟨dst,.convert s d x,ty,pos,af,gd⟩ K st=Opt (yv G st ⟨dst,.convert s d x,ty,pos,af,gd⟩) (K:=⟨fun av=>K (st.put dst av)⟩):=jd7 K st ⟨dst,.convert s d x,ty,pos,af,gd⟩
theorem aop_slice(t:TypeId)(x:Operand)(lo hi mx:Option Operand)(K:St->Prop):aop G ⟨dst,.slice t x lo hi mx,ty,pos,af,gd⟩ K st=Opt (yv G st ⟨dst,.slice t x lo hi mx,ty,pos,af,gd⟩) (K:=⟨fun av=>K (st.put dst av)⟩):=jd7 K st ⟨dst,.slice t x lo hi mx,ty,pos,af,gd⟩
theorem aq_slice(t:TypeId)(x:Operand)(lo hi mx:Option Operand)(K:AV->Prop):aq G st ⟨dst,.slice t x lo hi mx,ty,pos,af,gd⟩ K=Opt (yv G st ⟨dst,.slice t x lo hi mx,ty,pos,af,gd⟩) (K:=⟨K⟩):=by rw[aq_eq]
theorem aop_binOp(b:BinOp)(t:TypeId)(x y:Operand)(u:TypeId)(K:St->Prop):aop G ⟨dst,.binOp b t x y u,ty,pos,af,gd⟩ K st=aBin G K st ⟨dst,.binOp b t x y u,ty,pos,af,gd⟩ b t x y:=propext ⟨fun h=>h,fun h=>h⟩
theorem aq_binOp(b:BinOp)(t:TypeId)(x y:Operand)(u:TypeId)(K:AV->Prop):aq G st ⟨dst,.binOp b t x y u,ty,pos,af,gd⟩ K=Opt (yv G st ⟨dst,.binOp b t x y u,ty,pos,af,gd⟩) (K:=⟨K⟩):=by rw[aq_eq]
theorem aBin_tmp(o:Oper)(b:BinOp)(t:TypeId)(x:Operand)(d:Tmp)(K:St->Prop):aBin G K st o b t x (.tmp d)=Opt (yv G st o) (K:=⟨fun av=>K (st.put o.dst av)⟩):=jd7 K st o
theorem aBin_int(o:Oper)(b:BinOp)(t:TypeId)(x:Operand)(k:IntKind)(n:Int)(K:St->Prop):aBin G K st o b t x (.const (.int k n))=Opt (yv G st o) (K:=⟨fun av=>K (st.put o.dst av)⟩):=jd7 K st o
theorem aBin_nil(o:Oper)(b:BinOp)(t:TypeId)(x:Operand)(K:St->Prop):aBin G K st o b t x (.const (.slice none 0 0))=aNil G K st o.dst b t x:=propext ⟨fun h=>h,fun h=>h⟩
theorem aop_box(t:TypeId)(x:Operand)(d:Tmp)(K:St->Prop):aop G ⟨some d,.box t x,ty,pos,af,gd⟩ K st=
  Opt (ivOf (evO (st.lendO x) x)) (K:=⟨fun y=>(cellsOf y).all IV.one=true/\(if G.perm.contains d=true then NewP (cellsOf y).length [cellsOf y] d (K:=⟨K⟩) (A:=⟨(st.lendO x,fun b=> .loc (hp b) (cellsOf y).length 0 0)⟩)else K ((st.lendO x).newRow d (cellsOf y).length [cellsOf y]))⟩):=by
 simp only[aop,Opt];split
 ·rename_i d' y h1 h2;cases h1;rw[h2];rfl
 ·rename_i h1;generalize hy:ivOf (evO (st.lendO x) x)=oy;cases oy with
  | none=>rfl
  | some y=>exact(h1 d y rfl hy).elim
theorem aop_alloc(t:TypeId)(d:Tmp)(K:St->Prop):aop G ⟨some d,.alloc t,ty,pos,af,gd⟩ K st=Opt (jd8 G t) (K:=⟨fun z=>if G.perm.contains d=true then NewP z.length [z] d (K:=⟨K⟩) (A:=⟨(st,fun b=> .loc (hp b) z.length 0 0)⟩)else K (st.newRow d z.length [z])⟩):=by
 simp only[aop,Opt];split
 ·rename_i d' y h1 h2;cases h1;rw[h2];rfl
 ·rename_i h1;generalize hy:jd8 G t=oy;cases oy with
  | none=>rfl
  | some y=>exact(h1 d y rfl hy).elim
theorem aop_store(t:TypeId)(p x:Operand)(K:St->Prop):aop G ⟨dst,.store t p x,ty,pos,af,gd⟩ K st=jnh G K (st.lendO x) dst t p x:=propext ⟨fun h=>h,fun h=>h⟩
theorem aop_makeSlice(t:TypeId)(l c:Operand)(K:St->Prop):aop G ⟨dst,.makeSlice t l c,ty,pos,af,gd⟩ K st=aMake G K st dst t (evO st l) (evO st c):=propext ⟨fun h=>h,fun h=>h⟩
theorem aop_makeFunc(f:Fn)(x y:Array Operand)(K:St->Prop):aop G ⟨dst,.makeFunc f x y,ty,pos,af,gd⟩ K st=
  Opt (yv G (st.lendOs y.toList) ⟨dst,.makeFunc f x y,ty,pos,af,gd⟩) (K:=⟨fun av=>K ((st.lendOs y.toList).put dst av)⟩):=jd7 K (st.lendOs y.toList) ⟨dst,.makeFunc f x y,ty,pos,af,gd⟩
theorem aop_call(f:Operand)(azz:Array Operand)(ts:Array TypeId)(K:St->Prop):aop G ⟨dst,.call ⟨.value f,azz,ts⟩,ty,pos,af,gd⟩ K st=aCall G K st dst f azz.toList:=propext ⟨fun h=>h,fun h=>h⟩
theorem aq_call(f:Operand)(azz:Array Operand)(ts:Array TypeId)(K:AV->Prop):aq G st ⟨dst,.call ⟨.value f,azz,ts⟩,ty,pos,af,gd⟩ K=
  match evO st f,ivsOf (azz.toList.map (evO st))with
  | .im (.clo g caps),some xs=>CallD G g (xs++caps) (K:=⟨fun r=>K (.im r)⟩)
  | _,_=>False:=(aq_eq st ⟨dst,.call ⟨.value f,azz,ts⟩,ty,pos,af,gd⟩ K).trans (propext ⟨fun h=>h,fun h=>h⟩)
theorem aop_append(azz:Array Operand)(ts:Array TypeId)(K:St->Prop):aop G ⟨dst,.call ⟨.builtin .append,azz,ts⟩,ty,pos,af,gd⟩ K st=jmc G K st dst ts.toList azz.toList:=propext ⟨fun h=>h,fun h=>h⟩
theorem aq_append(azz:Array Operand)(ts:Array TypeId)(K:AV->Prop):aq G st ⟨dst,.call ⟨.builtin .append,azz,ts⟩,ty,pos,af,gd⟩ K=appP G st ts.toList azz.toList K:=by rw[aq_eq]
theorem aop_len(azz:Array Operand)(ts:Array TypeId)(K:St->Prop):aop G ⟨dst,.call ⟨.builtin .len,azz,ts⟩,ty,pos,af,gd⟩ K st=Opt (yv G st ⟨dst,.call ⟨.builtin .len,azz,ts⟩,ty,pos,af,gd⟩) (K:=⟨fun av=>K (st.put dst av)⟩):=jd7 K st ⟨dst,.call ⟨.builtin .len,azz,ts⟩,ty,pos,af,gd⟩
theorem aq_len(azz:Array Operand)(ts:Array TypeId)(K:AV->Prop):aq G st ⟨dst,.call ⟨.builtin .len,azz,ts⟩,ty,pos,af,gd⟩ K=Opt (yv G st ⟨dst,.call ⟨.builtin .len,azz,ts⟩,ty,pos,af,gd⟩) (K:=⟨K⟩):=by rw[aq_eq]
theorem aAppend_eq(K:St->Prop)(d:Nat)(t t':TypeId)(x y:Operand):jmc G K st (some d) [t,t'] [x,y]=
  match(G.ti t).kind with
  | .sl e=>match ji6 st e (G.ti e).size (evO st x)with
   | some (b,n,es)=>(match jcl (evO st y)with
    | some xs=>t=t'/\(G.ti t).size≠0/\(G.ti e).size≠0/\(G.ti e).bytes≠0/\(∀c∈xs,c.length=(G.ti e).size)/\n<=es.length/\(n+xs.length)*(G.ti e).bytes<=140737488355328/\
     GrowP b (G.ti e).size (es.take n++xs) d e (n+xs.length) (K:=⟨K⟩) (A:=⟨st⟩)
    | none=>False)
   | none=>match jqg st e (G.ti e).size (evO st x)with
   | some (src,n,es)=>(match jcl (evO st y)with
    | some xs=>t=t'/\(G.ti t).size≠0/\(G.ti e).size≠0/\(G.ti e).bytes≠0/\(∀c∈xs,c.length=(G.ti e).size)/\n<=es.length/\(n+xs.length)*(G.ti e).bytes<=140737488355328/\
    K ((jdo st src d (G.ti e).size (es.take n++xs)).put (some d) (.gsl d e (G.ti e).size (n+xs.length)))
    | none=>False)
   | none=>if(G.own=true\/G.perm.contains d=true)/\isEmp (evO st x)=true then(match jfj st (evO st y)with
    | some xs=>t=t'/\(G.ti t).size≠0/\(G.ti e).size≠0/\(G.ti e).bytes≠0/\(∀c∈xs,c.length=(G.ti e).size)/\xs.length*(G.ti e).bytes<=140737488355328/\xs≠[]/\
     (if G.perm.contains d=true then NewP (G.ti e).size xs d (K:=⟨K⟩) (A:=⟨(st,fun b=> .im (.ref b e (G.ti e).size xs.length))⟩)else K (st.newArr d e (G.ti e).size xs))
    | none=>False)else match jtl st e (G.ti e).size d (evO st x),jfj st (evO st y)with
   | some (src,es),some xs=>
    t=t'/\(G.ti t).size≠0/\(G.ti e).size≠0/\(G.ti e).bytes≠0/\(∀c∈es,c.length=(G.ti e).size)/\(∀c∈xs,c.length=(G.ti e).size)/\
    (es.length+xs.length)*(G.ti e).bytes<=140737488355328/\
    K ((tokSt st src d (G.ti e).size (es.length+xs.length)).put (some d) (.vec d e (G.ti e).size (es++xs)))
   | _,_=>False
  | _=>False:=propext ⟨fun h=>h,fun h=>h⟩
theorem aMake_eq(K:St->Prop)(d:Nat)(t:TypeId)(k k':IntKind)(n m:Int):aMake G K st (some d) t (.im (.sc (.int k n))) (.im (.sc (.int k' m)))=
  match(G.ti t).kind with
  | .sl e=>match jd8 G e with
   | some z=>(G.ti t).size≠0/\n=m/\0<=n/\n*(G.ti e).bytes<=140737488355328/\(G.ti e).bytes≠0/\
     (if G.perm.contains d=true then NewP (G.ti e).size (List.replicate n.toNat z) d (K:=⟨K⟩) (A:=⟨(st,fun b=> .im (.ref b e (G.ti e).size (List.replicate n.toNat z).length))⟩)else K (st.newArr d e (G.ti e).size (List.replicate n.toNat z)))
   | none=>False
  | _=>False:=propext ⟨fun h=>h,fun h=>h⟩
end
theorem hp_lit{n b:Nat}(h:n<100000):(n=hp b)=False:=eq_false (hp_ne h)
theorem hp_lit'{n b:Nat}(h:n<100000):(hp b=n)=False:=eq_false fun e=>hp_ne h e.symm
theorem hp_eq(a b:Nat):(hp a=hp b)=(a=b):=propext hp_inj
theorem hp_ge(b:Nat):(100000<=hp b)=True:=eq_true (by unfold hp;omega)
theorem hp_bne{n b:Nat}(h:n<100000):(hp b !=n)=true:=by
 rw[z7];exact fun e=>hp_ne h e.symm
theorem hp_bne2(a b:Nat):(hp a !=hp b)=(a !=b):=by
 by_cases h:a=b
 ·subst h;simp
 ·rw[(z7).2 h,z7];exact fun e=>h (hp_inj.1 e)
attribute [go_sem ↓] SpApp_ref SpApp_emp SpApp_sx0 SpApp_sx00 aq_append awp_skip awp_seq awp_cond awp_block awp_exit awp_ret awp_loop awp_region awp_draw jqq alist_free alist_guard aheadN_zero aheadN_nil aheadN_free aheadN_guard aheadS_nil aheadS_store aheadS_alloc aStores0_eq freshAll_nil freshAll_alloc mkRows_nil mkRows_alloc aheadS_move freshAll_move mkRows_move aheadS_assign freshAll_assign mkRows_assign aheadS_build freshAll_build mkRows_build aheadS_buildSlice freshAll_buildSlice mkRows_buildSlice aheadS_load freshAll_load mkRows_load aheadS_nilCheck freshAll_nilCheck mkRows_nilCheck aheadS_binOp freshAll_binOp mkRows_binOp aheadS_unOp freshAll_unOp mkRows_unOp aheadS_fieldAddr freshAll_fieldAddr mkRows_fieldAddr aheadS_indexAddr freshAll_indexAddr mkRows_indexAddr aheadS_extract freshAll_extract mkRows_extract aheadS_call freshAll_call mkRows_call freshAll_store mkRows_store aStores_nil aStores_other aStores_store aCall_eq aCall0_eq aStore_eq aBin_tmp aBin_int aBin_nil aNil_eq aop_box aop_alloc aop_store aop_makeSlice aop_makeFunc aop_call aq_call aop_append aop_binOp aq_binOp aop_move aq_move aop_assign aq_assign aop_pick aq_pick aop_unOp aq_unOp aop_nilCheck aq_nilCheck aop_load aq_load aop_fieldAddr aq_fieldAddr aop_field aop_indexAddr aq_indexAddr aop_index aop_extract aq_extract aop_build aq_build aop_buildSlice aq_buildSlice aop_convert aop_slice aq_slice aop_len aq_len jd2 zeroIV_eq List.getElem?_cons_succ List.getElem?_cons_zero
attribute [go_sem] mapOf keyI intsI valI ivs elemI_true elemI_false nlen jnn yLenM isMp AV.setM jin AV.froz St.lendM Prod.mk.injEq or_true true_or isEmp jc9 ji5 aRetM aRet1M esOf AV.rn rnm jd4 AV.toArg jdo jqg AV.soft AV.soft2 jcj IV.int IV.bool jn7 isSl aRetV St.proms St.prom1 AV.forget fgFr St.forget St.ren renFr St.prom jjw jo3 Opt_some Two_true Two_false Two_not asB yv evO ofV jer St.get St.put look del jcp Go.undef scBin scUn jnf jhd jpt jpu jl0 scs jgt aggK jbr fillA jcl ivOf ivsOf jex ji7 jhl jmi yLoad noZ List.any_cons List.any_nil jfe jrt jgf bnd jrr yLen jrs cellsOf IV.one flatB ZC.iv St.fresh AV.purge AV.lend St.lend St.lendO St.lendOs St.newRow St.newArr setRow tokSt jfj jtl St.keep List.getElem?_nil List.length_cons List.length_nil List.map_cons List.map_nil List.foldl_cons List.foldl_nil List.all_cons List.all_nil List.cons_append List.nil_append List.drop_succ_cons List.drop_zero List.take_succ_cons List.take_zero List.set_cons_zero List.set_cons_succ List.filter_cons List.filter_nil List.contains_cons List.contains_nil List.replicate_succ List.replicate_zero List.append_nil Int.natCast_nonneg Int.cast_ofNat_Int Option.getD_some Option.getD_none Option.isSome_some Option.isSome_none Option.map_some Option.map_none Bool.false_eq_true Bool.true_eq_false Bool.not_true Bool.not_false Bool.and_true Bool.true_and Bool.and_false Bool.false_and Bool.or_true Bool.true_or Bool.or_false Bool.false_or beq_self_eq_true bq_true oc_int oc_bool oc_string List.length_map List.size_toArray bq_false aRet resL resIV lendR decide_true decide_false if_true if_false ite_true ite_false ne_eq not_true not_false_iff true_and and_true false_and and_false true_or or_true false_or or_false true_implies forall_const implies_true Nat.zero_add Nat.add_zero Int.toNat_natCast flat1 aAppend_eq aMake_eq
attribute [go_sem] appP nilC jsx isPt jq1
attribute [go_sem] ivE List.isEmpty_nil List.isEmpty_cons Bool.false_and Bool.true_and hp_lit hp_lit' hp_eq hp_ge hp_bne hp_bne2 bne_self_eq_false AV.dp ji6 isHa isFrz ZC.ivG St.addH jdv St.frzOs frzO St.frz AV.frz frz1 frz2 frz3 AV.toH jma
attribute [go_sem] Int.reduceNegSucc Nat.reduceAdd Nat.reduceSub Nat.reduceMul Nat.reduceEqDiff Nat.reduceLeDiff Nat.reduceLT Nat.reduceBEq Nat.reduceBNe reduceIte reduceCtorEq Int.reduceToNat Int.reduceAdd Int.reduceSub Int.reduceMul Int.reduceNeg Int.reduceLT Int.reduceLE Int.reduceEq Int.reduceNe
end
end Go.Abs
namespace Go.Proofs.YtkcekimolppapaaGreat
section
open Go.Abs
def ti:Nat->TI
 | 2=>⟨1,8,[.int .i64],.it .i64,false⟩
 | 3=>⟨1,8,[.int .i64],.it .i64,false⟩
 | 4=>⟨1,1,[.bool],.bl,false⟩
 | 5=>⟨1,1,[.int .u8],.it .u8,false⟩
 | 9=>⟨1,16,[.str],.str,false⟩
 | 12=>⟨1,8,[.int .u64],.it .u64,false⟩
 | 15=>⟨1,8,[.np],.pt,false⟩
 | 16=>⟨1,8,[.np],.pt,false⟩
 | 17=>⟨1,8,[.np],.pt,false⟩
 | 21=>⟨1,4,[.int .i32],.it .i32,false⟩
 | 22=>⟨1,24,[.sl],.sl 67,false⟩
 | 23=>⟨1,24,[.sl],.sl 105,false⟩
 | 24=>⟨1,24,[.sl],.sl 156,false⟩
 | 25=>⟨1,24,[.sl],.sl 86,false⟩
 | 26=>⟨1,24,[.sl],.sl 160,false⟩
 | 27=>⟨8,144,[.int .i64,.int .i64,.int .i64,.sl,.sl,.sl,.sl,.sl],.st [(0,3),(1,3),(2,3),(3,22),(4,23),(5,24),(6,25),(7,26)],false⟩
 | 28=>⟨8,144,[.int .i64,.int .i64,.int .i64,.sl,.sl,.sl,.sl,.sl],.st [(0,3),(1,3),(2,3),(3,22),(4,23),(5,24),(6,25),(7,26)],false⟩
 | 31=>⟨1,24,[.sl],.sl 3,false⟩
 | 32=>⟨2,32,[.int .i64,.sl],.st [(0,3),(1,31)],false⟩
 | 33=>⟨2,32,[.int .i64,.sl],.st [(0,3),(1,31)],false⟩
 | 34=>⟨4,64,[.int .i64,.sl,.int .i64,.sl],.st [(0,33),(2,33)],false⟩
 | 35=>⟨4,64,[.int .i64,.sl,.int .i64,.sl],.st [(0,33),(2,33)],false⟩
 | 36=>⟨1,24,[.sl],.sl 35,false⟩
 | 37=>⟨8,144,[.int .i64,.int .i64,.sl,.int .i64,.sl,.sl,.sl,.sl],.st [(0,3),(1,35),(5,36),(6,36),(7,36)],false⟩
 | 38=>⟨8,144,[.int .i64,.int .i64,.sl,.int .i64,.sl,.sl,.sl,.sl],.st [(0,3),(1,35),(5,36),(6,36),(7,36)],false⟩
 | 39=>⟨16,288,[.int .i64,.int .i64,.sl,.int .i64,.sl,.sl,.sl,.sl,.int .i64,.int .i64,.sl,.int .i64,.sl,.sl,.sl,.sl],.st [(0,38),(8,38)],false⟩
 | 40=>⟨16,288,[.int .i64,.int .i64,.sl,.int .i64,.sl,.sl,.sl,.sl,.int .i64,.int .i64,.sl,.int .i64,.sl,.sl,.sl,.sl],.st [(0,38),(8,38)],false⟩
 | 42=>⟨1,24,[.sl],.sl 83,false⟩
 | 44=>⟨1,24,[.sl],.sl 211,false⟩
 | 45=>⟨2,32,[.int .i64,.sl],.st [(0,3),(1,44)],false⟩
 | 46=>⟨2,32,[.int .i64,.sl],.st [(0,3),(1,44)],false⟩
 | 47=>⟨1,8,[.int .i64],.it .i64,false⟩
 | 50=>⟨1,24,[.sl],.sl 117,false⟩
 | 57=>⟨10,136,[.int .i64,.sl,.int .i64,.sl,.int .i64,.sl,.int .i64,.sl,.bool,.bool],.st [(0,35),(4,35),(8,4),(9,4)],false⟩
 | 58=>⟨10,136,[.int .i64,.sl,.int .i64,.sl,.int .i64,.sl,.int .i64,.sl,.bool,.bool],.st [(0,35),(4,35),(8,4),(9,4)],false⟩
 | 61=>⟨1,24,[.sl],.sl 36,false⟩
 | 66=>⟨3,24,[.int .i64,.int .i64,.int .i64],.st [(0,3),(1,3),(2,3)],false⟩
 | 67=>⟨3,24,[.int .i64,.int .i64,.int .i64],.st [(0,3),(1,3),(2,3)],true⟩
 | 82=>⟨2,16,[.int .i64,.int .i64],.st [(0,3),(1,3)],false⟩
 | 83=>⟨2,16,[.int .i64,.int .i64],.st [(0,3),(1,3)],true⟩
 | 85=>⟨2,16,[.int .i64,.int .i64],.st [(0,3),(1,3)],false⟩
 | 86=>⟨2,16,[.int .i64,.int .i64],.st [(0,3),(1,3)],true⟩
 | 91=>⟨1,24,[.sl],.sl 31,false⟩
 | 99=>⟨1,24,[.sl],.sl 103,false⟩
 | 102=>⟨4,32,[.int .i64,.int .i64,.int .i64,.int .i64],.st [(0,3),(1,3),(2,3),(3,3)],false⟩
 | 103=>⟨4,32,[.int .i64,.int .i64,.int .i64,.int .i64],.st [(0,3),(1,3),(2,3),(3,3)],true⟩
 | 104=>⟨6,48,[.int .i64,.int .i64,.int .i64,.int .i64,.int .i64,.bool],.st [(0,3),(1,3),(2,3),(3,3),(4,3),(5,4)],false⟩
 | 105=>⟨6,48,[.int .i64,.int .i64,.int .i64,.int .i64,.int .i64,.bool],.st [(0,3),(1,3),(2,3),(3,3),(4,3),(5,4)],true⟩
 | 111=>⟨10,192,[.int .i64,.int .i64,.int .i64,.sl,.sl,.sl,.sl,.sl,.sl,.sl],.st [(0,28),(8,44),(9,99)],false⟩
 | 112=>⟨10,192,[.int .i64,.int .i64,.int .i64,.sl,.sl,.sl,.sl,.sl,.sl,.sl],.st [(0,28),(8,44),(9,99)],false⟩
 | 113=>⟨1,8,[.np],.pt,false⟩
 | 116=>⟨5,72,[.int .i64,.int .i64,.sl,.int .i64,.sl],.st [(0,3),(1,35)],false⟩
 | 117=>⟨5,72,[.int .i64,.int .i64,.sl,.int .i64,.sl],.st [(0,3),(1,35)],false⟩
 | 125=>⟨1,8,[.no],.no,false⟩
 | 133=>⟨1,24,[.sl],.sl 36,false⟩
 | 155=>⟨6,48,[.int .i64,.int .i64,.int .i64,.int .i64,.int .i64,.int .i64],.st [(0,3),(1,3),(2,3),(3,3),(4,3),(5,3)],false⟩
 | 156=>⟨6,48,[.int .i64,.int .i64,.int .i64,.int .i64,.int .i64,.int .i64],.st [(0,3),(1,3),(2,3),(3,3),(4,3),(5,3)],true⟩
 | 159=>⟨4,32,[.int .i64,.int .i64,.int .i64,.int .i64],.st [(0,3),(1,3),(2,3),(3,3)],false⟩
 | 160=>⟨4,32,[.int .i64,.int .i64,.int .i64,.int .i64],.st [(0,3),(1,3),(2,3),(3,3)],true⟩
 | 171=>⟨1,8,[.no],.no,false⟩
 | 172=>⟨1,8,[.int .u64],.it .u64,false⟩
 | 173=>⟨1,8,[.int .u64],.it .u64,false⟩
 | 176=>⟨1,8,[.np],.pt,false⟩
 | 198=>⟨2,16,[.int .i64,.int .i64],.arr 2 3,false⟩
 | 199=>⟨1,24,[.sl],.sl 198,false⟩
 | 210=>⟨6,96,[.sl,.int .i64,.int .i64,.sl,.int .i64,.sl],.st [(0,50),(1,3),(2,35)],false⟩
 | 211=>⟨6,96,[.sl,.int .i64,.int .i64,.sl,.int .i64,.sl],.st [(0,50),(1,3),(2,35)],false⟩
 | 212=>⟨1,24,[.sl],.sl 219,false⟩
 | 213=>⟨1,24,[.sl],.sl 248,false⟩
 | 214=>⟨6,128,[.int .i64,.sl,.sl,.sl,.sl,.sl],.st [(0,3),(1,212),(2,36),(3,31),(4,31),(5,213)],false⟩
 | 215=>⟨6,128,[.int .i64,.sl,.sl,.sl,.sl,.sl],.st [(0,3),(1,212),(2,36),(3,31),(4,31),(5,213)],false⟩
 | 218=>⟨5,88,[.int .i64,.sl,.int .i64,.sl,.sl],.st [(0,35),(4,36)],false⟩
 | 219=>⟨5,88,[.int .i64,.sl,.int .i64,.sl,.sl],.st [(0,35),(4,36)],false⟩
 | 245=>⟨1,4,[.int .u32],.it .u32,false⟩
 | 247=>⟨2,16,[.int .i64,.bool],.st [(0,3),(1,4)],false⟩
 | 248=>⟨2,16,[.int .i64,.bool],.st [(0,3),(1,4)],true⟩
 | 249=>⟨1,8,[.np],.pt,false⟩
 | 258=>⟨1,8,[.no],.no,false⟩
 | 274=>⟨1,8,[.np],.pt,false⟩
 | 280=>⟨1,8,[.np],.pt,false⟩
 | 293=>⟨1,8,[.np],.pt,false⟩
 | 296=>⟨11,48,[.int .u64,.int .u64,.int .u32,.int .u8,.int .u8,.int .u8,.int .u8,.no,.np,.int .i32,.int .i32],.st [(0,12),(1,12),(2,245),(3,290),(4,5),(5,5),(6,291),(7,292),(8,293),(9,294),(10,295)],false⟩
 | _=>⟨0,0,[],.no,false⟩
noncomputable def G:Ctx:={P:=Tryz.prog,ti:=ti,fns:=231}
theorem G_ti(t:Nat):G.ti t=ti t:=rfl
theorem G_fns:G.fns=231:=rfl
theorem G_own:G.own=false:=rfl
noncomputable def GO:Ctx:={G with own:=true}
theorem GO_ti(t:Nat):GO.ti t=ti t:=rfl
theorem GO_fns:GO.fns=231:=rfl
theorem GO_own:GO.own=true:=rfl
theorem G_perm:G.perm=[]:=rfl
theorem G_frz:G.frz=[]:=rfl
theorem G_emp:G.emp=false:=rfl
theorem GO_perm:GO.perm=[]:=rfl
theorem GO_frz:GO.frz=[]:=rfl
theorem GO_emp:GO.emp=false:=rfl
noncomputable def GH(p f:List Nat):Ctx:={G with perm:=p,frz:=f,emp:=true}
theorem GH_ti(p f:List Nat)(t:Nat):(GH p f).ti t=ti t:=rfl
theorem GH_fns(p f:List Nat):(GH p f).fns=231:=rfl
theorem GH_own(p f:List Nat):(GH p f).own=false:=rfl
theorem GH_perm(p f:List Nat):(GH p f).perm=p:=rfl
theorem GH_frz(p f:List Nat):(GH p f).frz=f:=rfl
theorem GH_emp(p f:List Nat):(GH p f).emp=true:=rfl
attribute [go_sem] G_ti G_fns G_own GO_ti GO_fns GO_own ti G_perm G_frz G_emp GO_perm GO_frz GO_emp GH_ti GH_fns GH_own GH_perm GH_frz GH_emp
theorem ti_big(t:Nat)(h:299<=t):ti t=⟨0,0,[],.no,false⟩:=by
 unfold ti;split<;>first | omega | rfl
theorem ti_ok:((List.range 299).all fun t=>(ti t).size==0 || (ti t).okB Tryz.prog t)=true:=by kernel_rfl
theorem fn_ok:((List.range 231).all fun f=>decide (f<3) || jkj Tryz.prog f)=true:=by kernel_rfl
theorem jod:Tryz.prog.follows .mixedOrders=true:=by kernel_rfl
theorem good:G.Good where
 ok t ht:=by
  rcases zU t 299 with h | h
  ·have:=List.all_eq_true.1 ti_ok t (qd.2 h);simp only[qR,y6]at this;exact this.resolve_left ht
  ·exact absurd (by rw[G_ti,ti_big t h]) ht
 fn f hf:=by
  have:=List.all_eq_true.1 fn_ok f (qd.2 hf.2);simp only[qR,zW]at this;exact this.resolve_left (by omega)
 mixed:=jod
theorem goodO:GO.Good where
 ok:=good.ok
 fn:=good.fn
 mixed:=jod
theorem goodH(p f:List Nat):(GH p f).Good where
 ok:=good.ok
 fn:=good.fn
 mixed:=jod
theorem ja5{f:FuncId}{args:List IV}{φ:IV->Prop}{fn:Func}{c:Code}(rs:List ResultVar)(hf:G.P.funcs[f]? =some fn)(h:awp G c (fun e s=>match e with | .normal=>aRet G rs φ s | .ret=>aRet G rs φ s | _=>False) (jcj args))(hb:fn.body=some c:=by exact rfl)(hr:fn.results.toList=rs:=by exact rfl)(hd:dstC fn.ntmps c=true:=by decide+kernel)(hn:Nat.ble args.length fn.ntmps=true:=by exact rfl):Ctr G.P f args φ:=ctr_go good fn c rs hf hb hr hd hn h
theorem jao{f:FuncId}{args:List AV}{L:Abs.Rows}{φ:AV->Abs.Rows->Prop}{fn:Func}{c:Code}(p q:List Nat)(rs:List ResultVar)(hf:(GH p q).P.funcs[f]? =some fn)(h:awp (GH p q) c (fun x st=>match x with | .normal=> @RetH (GH p q) rs st ⟨φ⟩ | .ret=> @RetH (GH p q) rs st ⟨φ⟩ | _=>False) (jc9 args L))(hb:fn.body=some c:=by exact rfl)(hr:fn.results.toList=rs:=by exact rfl)(hd:dstC fn.ntmps c=true:=by decide+kernel)(hn:Nat.ble args.length fn.ntmps=true:=by exact rfl):CtrH (GH p q).P f args L φ:=ctrh_go (goodH p q) fn c rs hf hb hr hd hn h
end
section
open Go.Abs
def ic(n:Int):List IV:=[.int n]
def ints(l:List Int):IV:= .sl (l.map ic)
theorem ja7{n:Int}(h: -9223372036854775808<=n/\n<=9223372036854775807):IntKind.i64.wrap n=n:=IntWalk.i64_in n h
end
end Go.Proofs.YtkcekimolppapaaGreat
namespace Go.Abs
section
def val:List Int->Int
 | []=>0
 | d::l=>d+1048576*val l
def OkD(l:List Int):Prop:=∀d∈l,0<=d/\d<1048576
def dgt(l:List Int)(i:Nat):Int:=(l[i]?).getD 0
def dig(n:Nat):List Int:=if h:n=0 then []else((n % 1048576:Nat):Int)::dig (n/1048576)
 termination_by n
 decreasing_by omega
theorem OkD.nil:OkD []:=fun _ h=>by cases h
theorem OkD.cons{d:Int}{l:List Int}(h:0<=d/\d<1048576)(hl:OkD l):OkD (d::l):=fun x hx=>by
 rcases zP.1 hx with rfl | hx
 ·exact h
 ·exact hl x hx
theorem OkD.tail{d:Int}{l:List Int}(h:OkD (d::l)):OkD l:=fun x hx=>h x (qq _ hx)
theorem OkD.head{d:Int}{l:List Int}(h:OkD (d::l)):0<=d/\d<1048576:=h d (zZ ..)
theorem OkD.take{l:List Int}(h:OkD l)(n:Nat):OkD (l.take n):=fun x hx=>h x (qT hx)
theorem OkD.drop{l:List Int}(h:OkD l)(n:Nat):OkD (l.drop n):=fun x hx=>h x (q9 hx)
theorem OkD.append{a b:List Int}(ha:OkD a)(hb:OkD b):OkD (a++b):=fun x hx=>(qj.1 hx).elim (ha x) (hb x)
theorem OkD.dgt{l:List Int}(h:OkD l)(i:Nat):0<=dgt l i/\dgt l i<1048576:=by
 unfold Go.Abs.dgt;cases hi:l[i]? with
 | none=>simp
 | some d=>exact h d (zk hi)
theorem jb3:∀{l:List Int},OkD l->0<=val l
 | [],_=>yq _
 | d::l,h=>by
  have:=jb3 h.tail;have:=h.head;simp only[val];omega
theorem jep:∀{l:List Int},OkD l->val l<1048576^l.length
 | [],_=>by simp[val]
 | d::l,h=>by
  have h1:=jep h.tail;have h2:=h.head;simp only[val,List.length_cons,Int.pow_succ];omega
theorem jbz:dig 0=[]:=by rw[dig];simp
theorem jgs{n:Nat}(h:n≠0):dig n=((n % 1048576:Nat):Int)::dig (n/1048576):=by
 conv=>lhs;rw[dig]
 rw[dif_neg h]
theorem jc4(n:Nat):OkD (dig n):=by
 induction n using Nat.strongRecOn with
 | _ n ih=>
  by_cases h:n=0
  ·subst h;rw[jbz];exact OkD.nil
  ·rw[jgs h];exact OkD.cons (by omega) (ih _ (by omega))
theorem jb5(n:Nat):val (dig n)=n:=by
 induction n using Nat.strongRecOn with
 | _ n ih=>
  by_cases h:n=0
  ·subst h;rw[jbz];rfl
  ·rw[jgs h,val,ih _ (by omega)];omega
theorem dig_nil{n:Nat}:dig n=[]↔n=0:=by
 constructor
 ·intro h;have:=jb5 n;rw[h]at this;simp only[val]at this;omega
 ·intro h;subst h;exact jbz
theorem eq_dig:∀{l:List Int},OkD l->l.getLast? ≠some 0->l=dig (val l).toNat
 | [],_,_=>by simp[val,jbz]
 | d::l,h,hl=>by
  have hd:=h.head;have hv:=jb3 h.tail;cases l with
  | nil=>
   have:d≠0:=fun e=>hl (by simp[e]);simp only[val,yn,yM];rw[jgs (by omega),show d.toNat/1048576=0 by omega,jbz];congr 1;omega
  | cons e l=>
   have hl':(e::l).getLast? ≠some 0:=by rw[List.getLast?_cons_cons]at hl;exact hl
   have ih:=eq_dig h.tail hl';have hne:(val (e::l)).toNat≠0:=fun h0=>by rw[h0,jbz]at ih;cases ih
   generalize hw:e::l=w at*;have hval:val (d::w)=d+1048576*val w:=rfl;rw[jgs (by omega),show(val (d::w)).toNat/1048576=(val w).toNat by omega,<-ih];congr 1;omega
theorem jof(n:Nat):(dig n).getLast? ≠some 0:=by
 induction n using Nat.strongRecOn with
 | _ n ih=>
  by_cases h:n=0
  ·subst h;rw[jbz];simp
  ·rw[jgs h];by_cases h2:n/1048576=0
   ·rw[h2,jbz];simp;omega
   ·have:=ih (n/1048576) (by omega);cases hd:dig (n/1048576)with
    | nil=>rw[dig_nil]at hd;exact absurd hd h2
    | cons e l=>rw[List.getLast?_cons_cons,<-hd];exact this
theorem jf7:∀(a b:List Int),val (a++b)=val a+1048576^a.length*val b
 | [],b=>by simp[val]
 | d::a,b=>by
  simp only[List.cons_append,val,jf7 a b,List.length_cons,Int.pow_succ,qJ,qU];rw[vw (1048576:Int)];omega
theorem jco(l:List Int)(i:Nat):val (l.take (i+1))=val (l.take i)+1048576^i*dgt l i:=by
 rcases zU i l.length with h | h
 ·rw[List.take_succ_eq_append_getElem h,jf7];have:(l.take i).length=i:=by rw[zY];omega
  have hd:dgt l i=l[i]:=by unfold dgt;rw[ze h];rfl
  rw[this,hd];have hs:val [l[i]]=l[i]:=by
   show l[i]+1048576*0=l[i];omega
  rw[hs]
 ·rw[zu (by omega),zu h,show dgt l i=0 by unfold dgt;rw[qG h];rfl,yn,yM]
theorem jde(l:List Int)(i:Nat):val l=val (l.take i)+1048576^i*val (l.drop i):=by
 rcases zU i l.length with h | h
 ·conv=>lhs;rw[<-jm i l]
  rw[jf7];have:(l.take i).length=i:=by rw[zY];omega
  rw[this]
 ·rw[zu h,qy h];simp[val]
theorem jd5(l:List Int)(i:Nat):val (l.drop i)=dgt l i+1048576*val (l.drop (i+1)):=by
 rcases zU i l.length with h | h
 ·rw[qQ h,val];simp[dgt,h]
 ·rw[qy h,qy (by omega)];simp[val,dgt,qG h]
theorem jfw(a b:List Int):∀(n k:Nat),a.length+b.length<=k+n->(∀j,k<=j->dgt a j=dgt b j)->val (a.drop k)=val (b.drop k)
 | 0,k,h,_=>by rw[qy (by omega),qy (by omega)]
 | n+1,k,h,hj=>by
  rw[jd5 a,jd5 b,hj k (zt _),jfw a b n (k+1) (by omega) fun j h=>hj j (by omega)]
theorem jds(i:Nat):(0:Int)<1048576^i:=Int.pow_pos (by omega)
theorem jdt{l:List Int}(h:OkD l)(i:Nat):val (l.take i)<1048576^i:=by
 have h1:=jep (h.take i);have h2:(1048576:Int)^(l.take i).length<=1048576^i:=by
  have hl:(l.take i).length<=i:=by rw[zY];omega
  have h3:(1048576:Nat)^(l.take i).length<=1048576^i:=qS (by omega) hl;have h4:=vn.2 h3;rw[Int.natCast_pow,Int.natCast_pow]at h4;exact h4
 omega
theorem lt_at{a b:List Int}(ha:OkD a)(hb:OkD b)(i:Nat)(h:∀j,i<j->dgt a j=dgt b j)(hlt:dgt a i<dgt b i):val a<val b:=by
 have e:val (a.drop (i+1))=val (b.drop (i+1)):=jfw a b (a.length+b.length) (i+1) (by omega) fun j hj=>h j (by omega);have h1:=jdt ha i;have h2:=jb3 (hb.take i);have hp:=jds i;rw[jde a i,jde b i,jd5 a i,jd5 b i,e];generalize val (b.drop (i+1))=v;generalize (1048576:Int)^i=p at*;have h3:p*(dgt a i+1048576*v)+p<=p*(dgt b i+1048576*v):=by
  have:p*(dgt a i+1048576*v)+p=p*(dgt a i+1+1048576*v):=by rw[qJ,qJ,qJ];omega
  rw[this];exact qg (by omega) (by omega)
 omega
theorem js9{a b:List Int}(h:∀j,dgt a j=dgt b j):val a=val b:=by
 have:=jfw a b (a.length+b.length) 0 (by omega) fun j _=>h j
 simpa using this
theorem dgt_take{l:List Int}{n j:Nat}(h:∀i,n<=i->dgt l i=0):dgt (l.take n) j=dgt l j:=by
 unfold dgt at*;rw[qb];split
 ·rfl
 ·rename_i hj;exact(h j (by omega)).symm
theorem js0{l:List Int}(hl:OkD l){n:Nat}(hn:n<=l.length)(hz:∀i,n<=i->dgt l i=0)(hlast:n=0\/dgt l (n-1)≠0):l.take n=dig (val l).toNat:=by
 have hv:val (l.take n)=val l:=js9 fun j=>dgt_take hz;rw[<-hv];refine eq_dig (hl.take n) fun h=> ?_;rcases hlast with h0 | h0
 ·subst h0;simp at h
 ·have hlen:(l.take n).length=n:=by rw[zY];omega
  rw[jy,hlen]at h;have hn0:0<n:=by
   rcases ye n with e | e
   ·subst e;simp at h
   ·exact e
  rw[qb,zm (by omega)]at h;exact h0 (by simp[dgt,h])
end
section
theorem jnp(d:Int):val [d]=d:=by
 show d+1048576*0=d;omega
theorem jrz(l:List Int)(d:Int):val (l++[d])=val l+1048576^l.length*d:=by rw[jf7,jnp]
theorem jdk(i:Nat):(1048576:Int)^(i+1)=1048576^i*1048576:=Int.pow_succ ..
theorem jc6{l:List Int}{i:Nat}(h:l.length<=i):val (l.take i)=val l:=by rw[zu h]
theorem jfk{l:List Int}(hl:OkD l){i:Nat}(h:val l<1048576^i):val (l.drop i)=0:=by
 have h1:=jde l i;have h2:=jb3 (hl.take i);have h3:=jb3 (hl.drop i);have hp:=jds i;rcases yS 0 (val (l.drop i))with h4 | h4
 ·have:1048576^i*1<=1048576^i*val (l.drop i):=qg (by omega) (by omega);omega
 ·omega
theorem jjb{l:List Int}(hl:OkD l){i:Nat}(h:val l<1048576^i):val (l.take i)=val l:=by
 have h1:=jde l i;rw[jfk hl h,yn]at h1;omega
theorem jc3{n k:Nat}(h:(n:Int)<1048576^k):(dig n).length<=k:=by
 induction k generalizing n with
 | zero=>
  have:n=0:=by simp at h;omega
  subst this;rw[jbz];exact zt _
 | succ k ih=>
  by_cases hn:n=0
  ·subst hn;rw[jbz];exact zH _
  ·rw[jgs hn,List.length_cons];rw[jdk]at h;have:=ih (n:=n/1048576) (by omega);omega
end
end Go.Abs
namespace Go.Proofs.YtkcekimolppapaaGreat
section
open Go.Abs
attribute [local go_sem] ints ic
theorem jqf(l:List Int):∀c∈l.map ic,c.length=1:=fun c hc=>by
 obtain⟨z,_,rfl⟩:=z8.1 hc;rfl
theorem jsz(l:List Int):((l.map ic).all fun c=>c.length==1)=true:=by
 rw[List.all_eq_true];intro c hc;rw[y6];exact jqf l c hc
theorem jb6{l:List Int}{i:Nat}(h:(i:Int)<l.length):l[i]? =some (dgt l i):=by
 have h:i<l.length:=by omega
 unfold dgt;rw[ze h];rfl
theorem dgt_at{l:List Int}{i:Nat}{d:Int}(h:l[i]? =some d):dgt l i=d:=by simp[dgt,h]
theorem jf4{l:List Int}{i:Nat}(h:l.length<=i):dgt l i=0:=by simp[dgt,qG h]
end
section
open Go.Abs
attribute [local go_sem] ints ic
end
end Go.Proofs.YtkcekimolppapaaGreat
namespace Go.Abs
section
theorem jgh:∀(l:List Int) (j:Nat) (v:Int),j<l.length->val (l.set j v)=val l+1048576^j*(v-dgt l j)
 | [],j,v,h=>by simp at h
 | d::l,0,v,_=>by
  have:dgt (d::l) 0=d:=rfl;rw[List.set_cons_zero,this,Int.pow_zero,yT];show v+1048576*val l=d+1048576*val l+(v-d);omega
 | d::l,j+1,v,h=>by
  have ih:=jgh l j v (by simpa using h);have hd:dgt (d::l) (j+1)=dgt l j:=by simp[dgt]
  rw[List.set_cons_succ,hd,jdk];show d+1048576*val (l.set j v)=d+1048576*val l+_;rw[ih,qJ,yF (1048576^j) 1048576,qU];omega
theorem OkD.set{l:List Int}(h:OkD l){j:Nat}{v:Int}(hv:0<=v/\v<1048576):OkD (l.set j v):=fun x hx=>by
 rcases yo hx with h1 | h1
 ·exact h x h1
 ·rw[h1];exact hv
theorem jlb{x y:Int}(hx:0<=x/\x<1048576)(hy:0<=y/\y<1048576):0<=x*y/\x*y<=1048575*1048575:=
 ⟨qZ hx.1 hy.1,vz (by omega) (by omega) hy.1 (by omega)⟩
theorem jmn{out b:List Int}{j i k:Nat}{c n x V:Int}(hj:j=i+k)(hjl:j<out.length)(h:val out+1048576^j*c=V+1048576^i*(x*val (b.take k)))(hn:n=dgt out j+x*dgt b k+c):
  val (out.set j (n % 1048576))+1048576^(j+1)*(n/1048576)=V+1048576^i*(x*val (b.take (k+1))):=by
 rw[jgh out j _ hjl,jco,jdk,qJ x,qJ];have e1:1048576^j*(n % 1048576-dgt out j)+1048576^j*1048576*(n/1048576)=1048576^j*(n-dgt out j):=by
  rw[qU,<-qJ];congr 1;have:=qY n 1048576;omega
 have e2:1048576^j*(n-dgt out j)=1048576^j*c+1048576^j*(x*dgt b k):=by
  rw[<-qJ];congr 1;omega
 have e3:(1048576:Int)^i*(x*(1048576^k*dgt b k))=1048576^j*(x*dgt b k):=by
  rw[hj,Int.pow_add,vw x,qU]
 rw[e3];omega
theorem jdx(n:Nat):val (List.replicate n 0)=0:=by
 induction n with
 | zero=>rfl
 | succ n ih=>rw[List.replicate_succ];show 0+1048576*val (List.replicate n 0)=0;rw[ih];rfl
theorem OkD.replicate(n:Nat):OkD (List.replicate n 0):=fun x hx=>by rw[va hx];omega
end
end Go.Abs
namespace Go.Proofs.YtkcekimolppapaaGreat
section
open Go.Abs
attribute [local go_sem] ints ic
end
section
open Go.Abs
attribute [local go_sem] ints ic
def okd(d:Int):Bool:= !decide (d<0)&& !decide (1048576<=d)
def jeq(s:Int)(l:List Int):Bool:=
 l.all okd&&(!decide (s< -1)&&(!decide (1<s)&&((decide ((l.length:Int)=0)==decide (s=0))&&(decide ((l.length:Int)=0) || !decide (dgt l (l.length-1)=0)))))
theorem okd_iff{d:Int}:okd d=true↔0<=d/\d<1048576:=by simp[okd]
theorem all_okd{l:List Int}:l.all okd=true↔OkD l:=by
 rw[List.all_eq_true];exact⟨fun h d hd=>okd_iff.1 (h d hd),fun h d hd=>okd_iff.2 (h d hd)⟩
theorem all_okd_succ{l:List Int}{i:Nat}(h:(i:Int)<l.length):(l.take (i+1)).all okd=((l.take i).all okd&&okd (dgt l i)):=by
 have hx:=jb6 h;rw[yL,hx,List.all_append];simp
end
section
open Go.Abs
def big(z:Int):IV:= .agg [.int z.sign,ints (dig z.natAbs)]
theorem jl3(z:Int):jeq z.sign (dig z.natAbs)=true:=by
 have h1:(dig z.natAbs).all okd=true:=all_okd.2 (jc4 _);have hs: -1<=z.sign/\z.sign<=1:=by
  rcases q8 z 0 with h | h | h
  ·rw[zR h];omega
  ·subst h;decide
  ·rw[zV h];omega
 have hz:(dig z.natAbs=[])↔z.sign=0:=by
  rw[dig_nil,yp];omega
 simp only[jeq,h1,qu,zD,jw,ql,y6,qR,zW];refine⟨by omega,by omega,?_,?_⟩
 ·rw[yk,<-hz];constructor
  ·intro h;exact qM.1 (by omega)
  ·intro h;rw[h];rfl
 ·by_cases h:dig z.natAbs=[]
  ·left;rw[h];rfl
  ·right;intro h2;have h3:=jof z.natAbs;rw[jy]at h3;have h4:=qh.2 h;have h5:=jb6 (l:=dig z.natAbs) (i:=(dig z.natAbs).length-1) (by omega);rw[h5,h2]at h3;exact h3 rfl
theorem jjc(z:Int): -1<=z.sign/\z.sign<=1:=by
 rcases q8 z 0 with h | h | h
 ·rw[zR h];omega
 ·subst h;decide
 ·rw[zV h];omega
attribute [local go_sem] ints ic big
theorem jlf{a b:Nat}{k m:Nat}(ha:(dig a).length<=k)(hb:(dig b).length<=m):(dig (a*b)).length<=k+m:=by
 refine jc3 ?_;have h1:(a:Int)<1048576^k:=by
  have:=jep (jc4 a);rw[jb5]at this;exact vK this (by
   have h3:=vn.2 (qS (n:=1048576) (by omega) ha);rw[Int.natCast_pow,Int.natCast_pow]at h3;exact h3)
 have h2:(b:Int)<1048576^m:=by
  have:=jep (jc4 b);rw[jb5]at this;exact vK this (by
   have h3:=vn.2 (qS (n:=1048576) (by omega) hb);rw[Int.natCast_pow,Int.natCast_pow]at h3;exact h3)
 have g1:a<1048576^k:=vU.1 (by rw[Int.natCast_pow];exact h1);have g2:b<1048576^m:=vU.1 (by rw[Int.natCast_pow];exact h2);have g3:=vU.2 (Nat.mul_lt_mul'' g1 g2);rw[<-Nat.pow_add,Int.natCast_pow]at g3;exact g3
end
section
open Go.Abs
attribute [local go_sem] ints ic big
theorem take_same{l m:List Int}{i:Nat}(h:l.take i=m.take i)(hl:(i:Int)<l.length)(hm:(i:Int)<m.length)(hd:dgt l i=dgt m i):l.take (i+1)=m.take (i+1):=by
 rw[yL,yL,h,jb6 hl,jb6 hm,hd]
theorem ne_of_dgt{l m:List Int}{i:Nat}(h:dgt l i≠dgt m i):l≠m:=fun e=>h (by rw[e])
def cmpI(a b:Int):Int:=if a<b then-1 else if a=b then 0 else 1
theorem sign_lt{a b:Int}(h:a.sign<b.sign):a<b:=by
 rcases q8 a 0 with h1 | h1 | h1<;>rcases q8 b 0 with h2 | h2 | h2<;>
  simp[zR,zV, *]at h<;>omega
end
section
open Go.Abs
structure Place where
 (kind house mat:Int)
 deriving DecidableEq,Inhabited
structure Move where
 (day fr to scale reading:Int)
 all:Bool
 deriving DecidableEq,Inhabited
structure Cert where
 (scale fr until' grams perMille drift:Int)
 deriving DecidableEq,Inhabited
structure Recall where
 (scale since:Int)
 deriving DecidableEq,Inhabited
structure Purity where
 (move mat least most:Int)
 deriving DecidableEq,Inhabited
structure Evid where
 (mats houses scales:Int)
 places:List Place
 moves:List Move
 certs:List Cert
 recalls:List Recall
 purs:List Purity
 deriving DecidableEq,Inhabited
structure Sample where
 move:Int
 grams:List Int
 slack:Int
 deriving DecidableEq,Inhabited
structure Recipe where
 (fr to mat least most:Int)
 deriving DecidableEq,Inhabited
def Place.c(p:Place):List IV:=[.int p.kind,.int p.house,.int p.mat]
def Move.c(p:Move):List IV:=[.int p.day,.int p.fr,.int p.to,.int p.scale,.int p.reading,.bool p.all]
def Cert.c(p:Cert):List IV:=[.int p.scale,.int p.fr,.int p.until',.int p.grams,.int p.perMille,.int p.drift]
def Recall.c(p:Recall):List IV:=[.int p.scale,.int p.since]
def Purity.c(p:Purity):List IV:=[.int p.move,.int p.mat,.int p.least,.int p.most]
def Sample.c(p:Sample):List IV:=[.int p.move,ints p.grams,.int p.slack]
def Recipe.c(p:Recipe):List IV:=[.int p.fr,.int p.to,.int p.mat,.int p.least,.int p.most]
def Evid.c(e:Evid):List IV:=[.int e.mats,.int e.houses,.int e.scales,.sl (e.places.map Place.c),.sl (e.moves.map Move.c),.sl (e.certs.map Cert.c),.sl (e.recalls.map Recall.c),.sl (e.purs.map Purity.c)]
def Evid.iv(e:Evid):IV:= .agg e.c
theorem Place.len(p:Place):p.c.length=3:=rfl
theorem Move.len(p:Move):p.c.length=6:=rfl
theorem Cert.len(p:Cert):p.c.length=6:=rfl
theorem Recall.len(p:Recall):p.c.length=2:=rfl
theorem Purity.len(p:Purity):p.c.length=4:=rfl
theorem Sample.len(p:Sample):p.c.length=3:=rfl
theorem Recipe.len(p:Recipe):p.c.length=5:=rfl
theorem take_succ{α:Type}{l:List α}{i:Nat}{x:α}(h:l[i]? =some x):l.take (i+1)=l.take i++[x]:=by
 rw[yL,h];rfl
end
section
open Go.Shelf Go.RowKit Go.Lib Go.Sort
def sortTerms_ren:Go.Shelf.Ren:=⟨fun | 6=>105 | 15=>149 | 14=>148 | 28=>186 | 29=>187 | 20=>178 | 21=>179 | 22=>180 | 23=>181 | 24=>182 | 25=>183 | 26=>184 | 27=>185 | 46=>214 | 47=>215 | 48=>216 | 49=>217 | 50=>218 | 57=>229 | n=>n,fun | 22=>50 | 24=>117 | 25=>171 | 3=>3 | 39=>173 | 0=>0 | 53=>245 | 55=>172 | 4=>4 | 46=>239 | 45=>238 | 50=>224 | 5=>5 | 9=>9 | 66=>270 | 70=>274 | 76=>280 | 77=>178 | n=>n,fun | n=>n⟩
theorem jpq:Go.Proofs.SlLaysF0.n6 Tryz.prog sortTerms_ren:={
 mixed:=by kernel_rfl
 f6:=⟨Tryz.f105.name,by decide,Tryz.func105.trans (qx some (by kernel_rfl))⟩
 f14:=⟨Tryz.f148.name,by decide,Tryz.func148.trans (qx some (by kernel_rfl))⟩
 f15:=Tryz.func149.trans (qx some (by kernel_rfl))
 f20:=⟨Tryz.f178.name,by decide,Tryz.func178.trans (qx some (by kernel_rfl))⟩
 f21:=⟨Tryz.f179.name,by decide,Tryz.func179.trans (qx some (by kernel_rfl))⟩
 f22:=⟨Tryz.f180.name,by decide,Tryz.func180.trans (qx some (by kernel_rfl))⟩
 f23:=⟨Tryz.f181.name,by decide,Tryz.func181.trans (qx some (by kernel_rfl))⟩
 f24:=⟨Tryz.f182.name,by decide,Tryz.func182.trans (qx some (by kernel_rfl))⟩
 f25:=⟨Tryz.f183.name,by decide,Tryz.func183.trans (qx some (by kernel_rfl))⟩
 f26:=⟨Tryz.f184.name,by decide,Tryz.func184.trans (qx some (by kernel_rfl))⟩
 f27:=⟨Tryz.f185.name,by decide,Tryz.func185.trans (qx some (by kernel_rfl))⟩
 f28:=Tryz.func186.trans (qx some (by kernel_rfl))
 f29:=Tryz.func187.trans (qx some (by kernel_rfl))
 f46:=⟨Tryz.f214.name,by decide,Tryz.func214.trans (qx some (by kernel_rfl))⟩
 f47:=Tryz.func215.trans (qx some (by kernel_rfl))
 f48:=Tryz.func216.trans (qx some (by kernel_rfl))
 f49:=⟨Tryz.f217.name,by decide,Tryz.func217.trans (qx some (by kernel_rfl))⟩
 f50:=⟨Tryz.f218.name,by decide,Tryz.func218.trans (qx some (by kernel_rfl))⟩
 f57:=⟨Tryz.f229.name,by decide,Tryz.func229.trans (qx some (by kernel_rfl))⟩
 t0:=Tryz.underlying0
 a0:=Tryz.isAgg0
 z0:=Tryz.sizeOf0
 v0:=Tryz.zeroValue0
 t3:=Tryz.underlying3
 a3:=Tryz.isAgg3
 z3:=Tryz.sizeOf3
 v3:=Tryz.zeroValue3
 t4:=Tryz.underlying4
 a4:=Tryz.isAgg4
 z4:=Tryz.sizeOf4
 v4:=Tryz.zeroValue4
 t5:=Tryz.underlying5
 a5:=Tryz.isAgg5
 z5:=Tryz.sizeOf5
 v5:=Tryz.zeroValue5
 t9:=Tryz.underlying9
 a9:=Tryz.isAgg9
 z9:=Tryz.sizeOf9
 v9:=Tryz.zeroValue9
 t22:=Tryz.underlying50
 a22:=Tryz.isAgg50
 z22:=Tryz.sizeOf50
 v22:=Tryz.zeroValue50
 t25:=Tryz.underlying171
 a25:=Tryz.isAgg171
 z25:=Tryz.sizeOf171
 v25:=Tryz.zeroValue171
 t39:=Tryz.underlying173
 a39:=Tryz.isAgg173
 z39:=Tryz.sizeOf173
 v39:=Tryz.zeroValue173
 t45:=Tryz.underlying238
 a45:=Tryz.isAgg238
 z45:=Tryz.sizeOf238
 v45:=Tryz.zeroValue238
 t46:=Tryz.underlying239
 a46:=Tryz.isAgg239
 z46:=Tryz.sizeOf239
 v46:=Tryz.zeroValue239
 t50:=Tryz.underlying224
 a50:=Tryz.isAgg224
 z50:=Tryz.sizeOf224
 v50:=Tryz.zeroValue224
 t53:=Tryz.underlying245
 a53:=Tryz.isAgg245
 z53:=Tryz.sizeOf245
 v53:=Tryz.zeroValue245
 t55:=Tryz.underlying172
 a55:=Tryz.isAgg172
 z55:=Tryz.sizeOf172
 v55:=Tryz.zeroValue172
 t66:=Tryz.underlying270
 a66:=Tryz.isAgg270
 z66:=Tryz.sizeOf270
 v66:=Tryz.zeroValue270
 t70:=Tryz.underlying274
 a70:=Tryz.isAgg274
 z70:=Tryz.sizeOf274
 v70:=Tryz.zeroValue274
 t76:=Tryz.underlying280
 a76:=Tryz.isAgg280
 z76:=Tryz.sizeOf280
 v76:=Tryz.zeroValue280
 t77:=Tryz.underlying178
 a77:=Tryz.isAgg178
 z77:=Tryz.sizeOf178
 v77:=Tryz.zeroValue178}
def cmpInts_ren:Go.Shelf.Ren:=⟨fun | 5=>107 | 7=>150 | n=>n,fun | 22=>3 | 3=>3 | 4=>4 | n=>n,fun | n=>n⟩
theorem cmpInts:Go.Proofs.SlLaysC2.n5 Tryz.prog cmpInts_ren:={
 mixed:=by kernel_rfl
 f5:=⟨Tryz.f107.name,by decide,Tryz.func107.trans (qx some (by kernel_rfl))⟩
 f7:=⟨Tryz.f150.name,by decide,Tryz.func150.trans (qx some (by kernel_rfl))⟩
 t3:=Tryz.underlying3
 a3:=Tryz.isAgg3
 z3:=Tryz.sizeOf3
 v3:=Tryz.zeroValue3
 t4:=Tryz.underlying4
 a4:=Tryz.isAgg4
 z4:=Tryz.sizeOf4
 v4:=Tryz.zeroValue4
 t22:=Tryz.underlying3
 a22:=Tryz.isAgg3
 z22:=Tryz.sizeOf3
 v22:=Tryz.zeroValue3}
structure TermV where
 z:Int
 r:List Value
 len:r.length=4
 one:∀v∈r,v.oneCell'=true
instance:Inhabited TermV:=⟨⟨0,[.int .i64 0,.int .i64 0,.int .i64 0,.int .i64 0],rfl,fun v hv=>by simp at hv;subst hv;rfl⟩⟩
def TermV.enc(x:TermV):List Value:= .int .i64 x.z::x.r
def TermV.cmp(x y:TermV):Int:=Lib.compareInt x.z y.z
theorem TermV.lt(x y:TermV):ltOf TermV.cmp x y=decide (x.z<y.z):=by
 unfold ltOf TermV.cmp Lib.compareInt;by_cases h1:x.z<y.z
 ·simp[h1]
 ·by_cases h2:y.z<x.z<;>simp[h1,h2]
theorem TermV.swo:SWO (ltOf TermV.cmp) where
 irrefl x:=by rw[TermV.lt];simp
 trans x y z h1 h2:=by rw[TermV.lt]at*;simp at*;omega
 ntrans x y z h1 h2:=by rw[TermV.lt]at*;simp at*;omega
theorem sort_closure(x y:TermV)(W:World):Calls Tryz.prog 106 #[.agg x.enc.toArray,.agg y.enc.toArray] W fun e w'=>e= .returned (.int .i64 (TermV.cmp x y))/\∃q os',w'=grow (W.drewN q) os':=by
 have hcon:=fun W'=>AnyG.cmp_Compare_int cmpInts x.z y.z W';change ∀W',Calls Tryz.prog 107 _ _ _ at hcon;obtain⟨a,r,hr,_⟩:=x;obtain⟨b,s,hs,_⟩:=y
 match r,hr,s,hs with
 | [r1,r2,r3,r4],_,[s1,s2,s3,s4],_=>
  unfold TermV.cmp TermV.enc;dsimp only at hcon⊢;generalize Lib.compareInt a b=c at hcon⊢
  go_enter Tryz.func106,Tryz.ntmps106
  go_wp2_with (go_at_call 107;refine(hcon _).mono ?_;rintro e w' ⟨rfl,rfl⟩)
  go_ret
  exact⟨rfl,0,_,by rw[alloc_eq_grow,alloc_eq_grow,grow_grow];rfl⟩
theorem sort_calls(blk off cap:Nat)(d:Array TermV)(w:World)(hH:HoldsK TermV.enc 5 w blk off d)(hblk:blk<w.heap.size)(hsz:d.size<4611686018427387904):
  Calls Tryz.prog 105 #[.slice (some ⟨blk,off,none⟩) d.size cap,.func (.func 106) #[] #[]] w fun e w'=>e= .returned (.tuple #[])/\∃d' n os,PermIn 0 d.size d d'/\SortedIn (ltOf TermV.cmp) 0 d.size d'/\w'=sortWorldK TermV.enc 5 w blk off n d' os:=by
 have eg:∀args w,(callFunc 106 args).run Tryz.prog w= .ok (.enter 106 args) w:=enters_of Tryz.func106 (by kernel_rfl) rfl;exact AnyQ.slices_SortFunc jpq 5 Tryz.isAgg117 Tryz.sizeOf117 TermV.enc (fun x=>by simp[TermV.enc,x.len]) (fun x v hv=>by
  unfold TermV.enc at hv;rcases zP.1 hv with rfl | hv
  ·rfl
  ·exact x.one v hv) TermV.cmp TermV.swo 106 #[] blk off cap d w eg (fun _ _ _ _ x y=>sort_closure x y _) hH hblk hsz
