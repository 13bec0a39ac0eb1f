/- A part of the proof. No further condition. -/
import Derived.Test.YtgncgpfjldefpaaGreatKR9
import Derived.Attr
import Derived.Test.YtgncgpfjldefpaaGreatProg
import Derived.KernelRfl
import Derived.IntWalk
set_option linter.all false
set_option maxRecDepth 10000000
set_option maxHeartbeats 16000000
namespace Go.Abs
section
section
variable{G:Ctx}
variable(dst:Option Tmp)(ty:TypeId)(pos:String)(af:Array Edge)(gd:Option (Nat×Bool))(st:St)(ops:List Oper)(r:List Oper)
theorem aop_move(x:Operand)(K:St->Prop):aop G ⟨dst,.move x,ty,pos,af,gd⟩ K st=Opt (yv G st ⟨dst,.move x,ty,pos,af,gd⟩) (K:=⟨fun av=>K (st.put dst av)⟩):=jd4 K st ⟨dst,.move x,ty,pos,af,gd⟩
theorem aq_move(x:Operand)(K:AV->Prop):aq G st ⟨dst,.move x,ty,pos,af,gd⟩ K=Opt (yv G st ⟨dst,.move x,ty,pos,af,gd⟩) (K:=⟨K⟩):=by rw[aq_eq]
theorem aop_assign(x:Operand)(K:St->Prop):aop G ⟨dst,.assign x,ty,pos,af,gd⟩ K st=Opt (yv G st ⟨dst,.assign x,ty,pos,af,gd⟩) (K:=⟨fun av=>K (st.put dst av)⟩):=jd4 K st ⟨dst,.assign x,ty,pos,af,gd⟩
theorem aq_assign(x:Operand)(K:AV->Prop):aq G st ⟨dst,.assign x,ty,pos,af,gd⟩ K=Opt (yv G st ⟨dst,.assign x,ty,pos,af,gd⟩) (K:=⟨K⟩):=by rw[aq_eq]
theorem aop_pick(c a b:Operand)(K:St->Prop):aop G ⟨dst,.pick c a b,ty,pos,af,gd⟩ K st=Opt (yv G st ⟨dst,.pick c a b,ty,pos,af,gd⟩) (K:=⟨fun av=>K (st.put dst av)⟩):=jd4 K st ⟨dst,.pick c a b,ty,pos,af,gd⟩
theorem aq_pick(c a b:Operand)(K:AV->Prop):aq G st ⟨dst,.pick c a b,ty,pos,af,gd⟩ K=Opt (yv G st ⟨dst,.pick c a b,ty,pos,af,gd⟩) (K:=⟨K⟩):=by rw[aq_eq]
theorem aop_unOp(u:UnOp)(t:TypeId)(x:Operand)(K:St->Prop):aop G ⟨dst,.unOp u t x,ty,pos,af,gd⟩ K st=Opt (yv G st ⟨dst,.unOp u t x,ty,pos,af,gd⟩) (K:=⟨fun av=>K (st.put dst av)⟩):=jd4 K st ⟨dst,.unOp u t x,ty,pos,af,gd⟩
theorem aq_unOp(u:UnOp)(t:TypeId)(x:Operand)(K:AV->Prop):aq G st ⟨dst,.unOp u t x,ty,pos,af,gd⟩ K=Opt (yv G st ⟨dst,.unOp u t x,ty,pos,af,gd⟩) (K:=⟨K⟩):=by rw[aq_eq]
theorem aop_nilCheck(x:Operand)(K:St->Prop):aop G ⟨dst,.nilCheck x,ty,pos,af,gd⟩ K st=Opt (yv G st ⟨dst,.nilCheck x,ty,pos,af,gd⟩) (K:=⟨fun av=>K (st.put dst av)⟩):=jd4 K st ⟨dst,.nilCheck x,ty,pos,af,gd⟩
theorem aq_nilCheck(x:Operand)(K:AV->Prop):aq G st ⟨dst,.nilCheck x,ty,pos,af,gd⟩ K=Opt (yv G st ⟨dst,.nilCheck x,ty,pos,af,gd⟩) (K:=⟨K⟩):=by rw[aq_eq]
theorem aop_load(t:TypeId)(p:Operand)(K:St->Prop):aop G ⟨dst,.load t p,ty,pos,af,gd⟩ K st=Opt (yv G st ⟨dst,.load t p,ty,pos,af,gd⟩) (K:=⟨fun av=>K (st.put dst av)⟩):=jd4 K st ⟨dst,.load t p,ty,pos,af,gd⟩
theorem aq_load(t:TypeId)(p:Operand)(K:AV->Prop):aq G st ⟨dst,.load t p,ty,pos,af,gd⟩ K=Opt (yv G st ⟨dst,.load t p,ty,pos,af,gd⟩) (K:=⟨K⟩):=by rw[aq_eq]
theorem aop_fieldAddr(t:TypeId)(x:Operand)(f:Nat)(K:St->Prop):aop G ⟨dst,.fieldAddr t x f,ty,pos,af,gd⟩ K st=Opt (yv G st ⟨dst,.fieldAddr t x f,ty,pos,af,gd⟩) (K:=⟨fun av=>K (st.put dst av)⟩):=jd4 K st ⟨dst,.fieldAddr t x f,ty,pos,af,gd⟩
theorem aq_fieldAddr(t:TypeId)(x:Operand)(f:Nat)(K:AV->Prop):aq G st ⟨dst,.fieldAddr t x f,ty,pos,af,gd⟩ K=Opt (yv G st ⟨dst,.fieldAddr t x f,ty,pos,af,gd⟩) (K:=⟨K⟩):=by rw[aq_eq]
theorem aop_field(t:TypeId)(x:Operand)(f:Nat)(K:St->Prop):aop G ⟨dst,.field t x f,ty,pos,af,gd⟩ K st=Opt (yv G st ⟨dst,.field t x f,ty,pos,af,gd⟩) (K:=⟨fun av=>K (st.put dst av)⟩):=jd4 K st ⟨dst,.field t x f,ty,pos,af,gd⟩
theorem aop_indexAddr(t:TypeId)(x i:Operand)(K:St->Prop):aop G ⟨dst,.indexAddr t x i,ty,pos,af,gd⟩ K st=Opt (yv G st ⟨dst,.indexAddr t x i,ty,pos,af,gd⟩) (K:=⟨fun av=>K (st.put dst av)⟩):=jd4 K st ⟨dst,.indexAddr t x i,ty,pos,af,gd⟩
theorem aq_indexAddr(t:TypeId)(x i:Operand)(K:AV->Prop):aq G st ⟨dst,.indexAddr t x i,ty,pos,af,gd⟩ K=Opt (yv G st ⟨dst,.indexAddr t x i,ty,pos,af,gd⟩) (K:=⟨K⟩):=by rw[aq_eq]
theorem aop_extract(x:Operand)(k:Nat)(K:St->Prop):aop G ⟨dst,.extract x k,ty,pos,af,gd⟩ K st=Opt (yv G st ⟨dst,.extract x k,ty,pos,af,gd⟩) (K:=⟨fun av=>K (st.put dst av)⟩):=jd4 K st ⟨dst,.extract x k,ty,pos,af,gd⟩
theorem aq_extract(x:Operand)(k:Nat)(K:AV->Prop):aq G st ⟨dst,.extract x k,ty,pos,af,gd⟩ K=Opt (yv G st ⟨dst,.extract x k,ty,pos,af,gd⟩) (K:=⟨K⟩):=by rw[aq_eq]
theorem aop_build(t:TypeId)(ps:Array (Nat×Operand))(K:St->Prop):aop G ⟨dst,.build t ps,ty,pos,af,gd⟩ K st=Opt (yv G st ⟨dst,.build t ps,ty,pos,af,gd⟩) (K:=⟨fun av=>K (st.put dst av)⟩):=jd4 K st ⟨dst,.build t ps,ty,pos,af,gd⟩
theorem aq_build(t:TypeId)(ps:Array (Nat×Operand))(K:AV->Prop):aq G st ⟨dst,.build t ps,ty,pos,af,gd⟩ K=Opt (yv G st ⟨dst,.build t ps,ty,pos,af,gd⟩) (K:=⟨K⟩):=by rw[aq_eq]
theorem aop_buildSlice(t:TypeId)(n:Nat)(ps:Array (Nat×Operand))(K:St->Prop):aop G ⟨dst,.buildSlice t n ps,ty,pos,af,gd⟩ K st=Opt (yv G st ⟨dst,.buildSlice t n ps,ty,pos,af,gd⟩) (K:=⟨fun av=>K (st.put dst av)⟩):=jd4 K st ⟨dst,.buildSlice t n ps,ty,pos,af,gd⟩
theorem aq_buildSlice(t:TypeId)(n:Nat)(ps:Array (Nat×Operand))(K:AV->Prop):aq G st ⟨dst,.buildSlice t n ps,ty,pos,af,gd⟩ K=Opt (yv G st ⟨dst,.buildSlice t n ps,ty,pos,af,gd⟩) (K:=⟨K⟩):=by rw[aq_eq]
theorem aop_convert(s d:TypeId)(x:Operand)(K:St->Prop):aop G ⟨dst,.convert s d x,ty,pos,af,gd⟩ K st=Opt (yv G st ⟨dst,.convert s d x,ty,pos,af,gd⟩) (K:=⟨fun av=>K (st.put dst av)⟩):=jd4 K st ⟨dst,.convert s d x,ty,pos,af,gd⟩
theorem aop_slice(t:TypeId)(x:Operand)(lo hi mx:Option Operand)(K:St->Prop):aop G ⟨dst,.slice t x lo hi mx,ty,pos,af,gd⟩ K st=Opt (yv G st ⟨dst,.slice t x lo hi mx,ty,pos,af,gd⟩) (K:=⟨fun av=>K (st.put dst av)⟩):=jd4 K st ⟨dst,.slice t x lo hi mx,ty,pos,af,gd⟩
theorem aop_binOp(b:BinOp)(t:TypeId)(x y:Operand)(u:TypeId)(K:St->Prop):aop G ⟨dst,.binOp b t x y u,ty,pos,af,gd⟩ K st=aBin G K st ⟨dst,.binOp b t x y u,ty,pos,af,gd⟩ b t x y:=propext ⟨fun h=>h,fun h=>h⟩
theorem aq_binOp(b:BinOp)(t:TypeId)(x y:Operand)(u:TypeId)(K:AV->Prop):aq G st ⟨dst,.binOp b t x y u,ty,pos,af,gd⟩ K=Opt (yv G st ⟨dst,.binOp b t x y u,ty,pos,af,gd⟩) (K:=⟨K⟩):=by rw[aq_eq]
theorem aBin_tmp(o:Oper)(b:BinOp)(t:TypeId)(x:Operand)(d:Tmp)(K:St->Prop):aBin G K st o b t x (.tmp d)=Opt (yv G st o) (K:=⟨fun av=>K (st.put o.dst av)⟩):=jd4 K st o
theorem aBin_int(o:Oper)(b:BinOp)(t:TypeId)(x:Operand)(k:IntKind)(n:Int)(K:St->Prop):aBin G K st o b t x (.const (.int k n))=Opt (yv G st o) (K:=⟨fun av=>K (st.put o.dst av)⟩):=jd4 K st o
theorem aBin_nil(o:Oper)(b:BinOp)(t:TypeId)(x:Operand)(K:St->Prop):aBin G K st o b t x (.const (.slice none 0 0))=aNil G K st o.dst b t x:=propext ⟨fun h=>h,fun h=>h⟩
theorem aop_box(t:TypeId)(x:Operand)(d:Tmp)(K:St->Prop):aop G ⟨some d,.box t x,ty,pos,af,gd⟩ K st=
  Opt (ivOf (evO (st.lendO x) x)) (K:=⟨fun y=>(cellsOf y).all IV.one=true/\(if G.perm.contains d=true then NewP (cellsOf y).length [cellsOf y] d (K:=⟨K⟩) (A:=⟨(st.lendO x,fun b=> .loc (hp b) (cellsOf y).length 0 0)⟩)else K ((st.lendO x).newRow d (cellsOf y).length [cellsOf y]))⟩):=by
 simp only[aop,Opt];split
 ·rename_i d' y h1 h2;cases h1;rw[h2];rfl
 ·rename_i h1;generalize hy:ivOf (evO (st.lendO x) x)=oy;cases oy with
  | none=>rfl
  | some y=>exact(h1 d y rfl hy).elim
theorem aop_alloc(t:TypeId)(d:Tmp)(K:St->Prop):aop G ⟨some d,.alloc t,ty,pos,af,gd⟩ K st=Opt (jcz G t) (K:=⟨fun z=>if G.perm.contains d=true then NewP z.length [z] d (K:=⟨K⟩) (A:=⟨(st,fun b=> .loc (hp b) z.length 0 0)⟩)else K (st.newRow d z.length [z])⟩):=by
 simp only[aop,Opt];split
 ·rename_i d' y h1 h2;cases h1;rw[h2];rfl
 ·rename_i h1;generalize hy:jcz G t=oy;cases oy with
  | none=>rfl
  | some y=>exact(h1 d y rfl hy).elim
theorem aop_store(t:TypeId)(p x:Operand)(K:St->Prop):aop G ⟨dst,.store t p x,ty,pos,af,gd⟩ K st=jmr G K (st.lendO x) dst t p x:=propext ⟨fun h=>h,fun h=>h⟩
theorem aop_makeSlice(t:TypeId)(l c:Operand)(K:St->Prop):aop G ⟨dst,.makeSlice t l c,ty,pos,af,gd⟩ K st=aMake G K st dst t (evO st l) (evO st c):=propext ⟨fun h=>h,fun h=>h⟩
theorem aop_makeFunc(f:Fn)(x y:Array Operand)(K:St->Prop):aop G ⟨dst,.makeFunc f x y,ty,pos,af,gd⟩ K st=
  Opt (yv G (st.lendOs y.toList) ⟨dst,.makeFunc f x y,ty,pos,af,gd⟩) (K:=⟨fun av=>K ((st.lendOs y.toList).put dst av)⟩):=jd4 K (st.lendOs y.toList) ⟨dst,.makeFunc f x y,ty,pos,af,gd⟩
theorem aop_call(f:Operand)(azz:Array Operand)(ts:Array TypeId)(K:St->Prop):aop G ⟨dst,.call ⟨.value f,azz,ts⟩,ty,pos,af,gd⟩ K st=aCall G K st dst f azz.toList:=propext ⟨fun h=>h,fun h=>h⟩
theorem aq_call(f:Operand)(azz:Array Operand)(ts:Array TypeId)(K:AV->Prop):aq G st ⟨dst,.call ⟨.value f,azz,ts⟩,ty,pos,af,gd⟩ K=
  match evO st f,ivsOf (azz.toList.map (evO st))with
  | .im (.clo g caps),some xs=>CallD G g (xs++caps) (K:=⟨fun r=>K (.im r)⟩)
  | _,_=>False:=(aq_eq st ⟨dst,.call ⟨.value f,azz,ts⟩,ty,pos,af,gd⟩ K).trans (propext ⟨fun h=>h,fun h=>h⟩)
theorem aop_append(azz:Array Operand)(ts:Array TypeId)(K:St->Prop):aop G ⟨dst,.call ⟨.builtin .append,azz,ts⟩,ty,pos,af,gd⟩ K st=jlq G K st dst ts.toList azz.toList:=propext ⟨fun h=>h,fun h=>h⟩
theorem aop_copy(azz:Array Operand)(ts:Array TypeId)(K:St->Prop):aop G ⟨dst,.call ⟨.builtin .copy,azz,ts⟩,ty,pos,af,gd⟩ K st=aCopy G K st dst ts.toList azz.toList:=propext ⟨fun h=>h,fun h=>h⟩
theorem aq_append(azz:Array Operand)(ts:Array TypeId)(K:AV->Prop):aq G st ⟨dst,.call ⟨.builtin .append,azz,ts⟩,ty,pos,af,gd⟩ K=appP G st ts.toList azz.toList K:=by rw[aq_eq]
theorem aop_len(azz:Array Operand)(ts:Array TypeId)(K:St->Prop):aop G ⟨dst,.call ⟨.builtin .len,azz,ts⟩,ty,pos,af,gd⟩ K st=Opt (yv G st ⟨dst,.call ⟨.builtin .len,azz,ts⟩,ty,pos,af,gd⟩) (K:=⟨fun av=>K (st.put dst av)⟩):=jd4 K st ⟨dst,.call ⟨.builtin .len,azz,ts⟩,ty,pos,af,gd⟩
theorem aq_len(azz:Array Operand)(ts:Array TypeId)(K:AV->Prop):aq G st ⟨dst,.call ⟨.builtin .len,azz,ts⟩,ty,pos,af,gd⟩ K=Opt (yv G st ⟨dst,.call ⟨.builtin .len,azz,ts⟩,ty,pos,af,gd⟩) (K:=⟨K⟩):=by rw[aq_eq]
theorem aop_max(azz:Array Operand)(ts:Array TypeId)(K:St->Prop):aop G ⟨dst,.call ⟨.builtin .max,azz,ts⟩,ty,pos,af,gd⟩ K st=Opt (yv G st ⟨dst,.call ⟨.builtin .max,azz,ts⟩,ty,pos,af,gd⟩) (K:=⟨fun av=>K (st.put dst av)⟩):=jd4 K st ⟨dst,.call ⟨.builtin .max,azz,ts⟩,ty,pos,af,gd⟩
theorem aCopy_eq(K:St->Prop)(dst:Option Nat)(t t':TypeId)(x y:Operand):aCopy G K st dst [t,t'] [x,y]=
  match evO st x,evO st y,(G.ti t).kind with
  | .im (.ref b e s n),.im (.sl xs),.sl e'=>(match look st.rows (hp b)with
   | some (s',es)=>(G.ti t).size≠0/\(G.ti e').size=s/\s≠0/\s'=s/\xs.length=n/\(∀c∈xs,c.length=s)/\K (({st with rows:=Abs.setRow st.rows (hp b) s xs}:St).put dst (.im (.int n)))
   | none=>False)
  | _,_,_=>False:=propext ⟨fun h=>h,fun h=>h⟩
theorem aAppend_eq(K:St->Prop)(d:Nat)(t t':TypeId)(x y:Operand):jlq G K st (some d) [t,t'] [x,y]=
  match(G.ti t).kind with
  | .sl e=>match jhy st e (G.ti e).size (evO st x)with
   | some (b,n,es)=>(match jch (evO st y)with
    | some xs=>t=t'/\(G.ti t).size≠0/\(G.ti e).size≠0/\(G.ti e).bytes≠0/\(∀c∈xs,c.length=(G.ti e).size)/\n<=es.length/\(n+xs.length)*(G.ti e).bytes<=140737488355328/\
     GrowP b (G.ti e).size (es.take n++xs) d e (n+xs.length) (K:=⟨K⟩) (A:=⟨st⟩)
    | none=>False)
   | none=>match jp8 st e (G.ti e).size (evO st x)with
   | some (src,n,es)=>(match jch (evO st y)with
    | some xs=>t=t'/\(G.ti t).size≠0/\(G.ti e).size≠0/\(G.ti e).bytes≠0/\(∀c∈xs,c.length=(G.ti e).size)/\n<=es.length/\(n+xs.length)*(G.ti e).bytes<=140737488355328/\
    K ((jdm st src d (G.ti e).size (es.take n++xs)).put (some d) (.gsl d e (G.ti e).size (n+xs.length)))
    | none=>False)
   | none=>if(G.own=true\/G.perm.contains d=true)/\isEmp (evO st x)=true then(match jch (evO st y)with
    | some xs=>t=t'/\(G.ti t).size≠0/\(G.ti e).size≠0/\(G.ti e).bytes≠0/\(∀c∈xs,c.length=(G.ti e).size)/\xs.length*(G.ti e).bytes<=140737488355328/\xs≠[]/\
     (if G.perm.contains d=true then NewP (G.ti e).size xs d (K:=⟨K⟩) (A:=⟨(st,fun b=> .im (.ref b e (G.ti e).size xs.length))⟩)else K (st.newArr d e (G.ti e).size xs))
    | none=>False)else match jrz st e (G.ti e).size d (evO st x),jj8 st (evO st y)with
   | some (src,es),some xs=>
    t=t'/\(G.ti t).size≠0/\(G.ti e).size≠0/\(G.ti e).bytes≠0/\(∀c∈es,c.length=(G.ti e).size)/\(∀c∈xs,c.length=(G.ti e).size)/\
    (es.length+xs.length)*(G.ti e).bytes<=140737488355328/\
    K ((tokSt st src d (G.ti e).size (es.length+xs.length)).put (some d) (.vec d e (G.ti e).size (es++xs)))
   | _,_=>False
  | _=>False:=propext ⟨fun h=>h,fun h=>h⟩
theorem aMake_eq(K:St->Prop)(d:Nat)(t:TypeId)(k k':IntKind)(n m:Int):aMake G K st (some d) t (.im (.sc (.int k n))) (.im (.sc (.int k' m)))=
  match(G.ti t).kind with
  | .sl e=>match jcz G e with
   | some z=>(G.ti t).size≠0/\n=m/\0<=n/\n*(G.ti e).bytes<=140737488355328/\(G.ti e).bytes≠0/\
     (if G.perm.contains d=true then NewP (G.ti e).size (List.replicate n.toNat z) d (K:=⟨K⟩) (A:=⟨(st,fun b=> .im (.ref b e (G.ti e).size (List.replicate n.toNat z).length))⟩)else K (st.newArr d e (G.ti e).size (List.replicate n.toNat z)))
   | none=>False
  | _=>False:=propext ⟨fun h=>h,fun h=>h⟩
end
theorem hp_lit{n b:Nat}(h:n<100000):(n=hp b)=False:=eq_false (hp_ne h)
theorem hp_lit'{n b:Nat}(h:n<100000):(hp b=n)=False:=eq_false fun e=>hp_ne h e.symm
theorem hp_eq(a b:Nat):(hp a=hp b)=(a=b):=propext hp_inj
theorem hp_ge(b:Nat):(100000<=hp b)=True:=eq_true (by unfold hp;omega)
theorem hp_bne{n b:Nat}(h:n<100000):(hp b !=n)=true:=by
 rw[qq];exact fun e=>hp_ne h e.symm
theorem hp_bne2(a b:Nat):(hp a !=hp b)=(a !=b):=by
 by_cases h:a=b
 ·subst h;simp
 ·rw[(qq).2 h,qq];exact fun e=>h (hp_inj.1 e)
attribute [go_sem ↓] aop_copy aCopy_eq SpApp_ref SpApp_emp SpApp_sx0 SpApp_sx00 aq_append awp_skip awp_seq awp_cond awp_block awp_exit awp_ret awp_loop awp_region awp_draw jph alist_free alist_guard aheadN_zero aheadN_nil aheadN_free aheadN_guard aheadS_nil aheadS_store aheadS_alloc aStores0_eq freshAll_nil freshAll_alloc mkRows_nil mkRows_alloc aheadS_move freshAll_move mkRows_move aheadS_assign freshAll_assign mkRows_assign aheadS_build freshAll_build mkRows_build aheadS_buildSlice freshAll_buildSlice mkRows_buildSlice aheadS_load freshAll_load mkRows_load aheadS_nilCheck freshAll_nilCheck mkRows_nilCheck aheadS_binOp freshAll_binOp mkRows_binOp aheadS_unOp freshAll_unOp mkRows_unOp aheadS_fieldAddr freshAll_fieldAddr mkRows_fieldAddr aheadS_indexAddr freshAll_indexAddr mkRows_indexAddr aheadS_extract freshAll_extract mkRows_extract aheadS_call freshAll_call mkRows_call freshAll_store mkRows_store aStores_nil aStores_other aStores_store aCall_eq aCall0_eq aStore_eq aBin_tmp aBin_int aBin_nil aNil_eq aop_box aop_alloc aop_store aop_makeSlice aop_makeFunc aop_call aq_call aop_append aop_binOp aq_binOp aop_move aq_move aop_assign aq_assign aop_pick aq_pick aop_unOp aq_unOp aop_nilCheck aq_nilCheck aop_load aq_load aop_fieldAddr aq_fieldAddr aop_field aop_indexAddr aq_indexAddr aop_extract aq_extract aop_build aq_build aop_buildSlice aq_buildSlice aop_convert aop_slice aop_len aq_len aop_max jdl zeroIV_eq List.getElem?_cons_succ List.getElem?_cons_zero
attribute [go_sem] mapOf keyI intsI valI ivs elemI_true elemI_false nlen jmz yLenM isMp AV.setM jib AV.froz St.lendM Prod.mk.injEq or_true true_or isEmp jbg jgi aRetM aRet1M esOf AV.rn rnm jd1 AV.toArg jdm jp8 AV.soft AV.soft2 je6 IV.int IV.bool jmi isSl aRetV St.proms St.prom1 AV.forget fgFr St.forget St.ren renFr St.prom jjn jn9 Opt_some Two_true Two_false Two_not asB yv evO ofV jes St.get St.put look del jd0 Go.undef scBin scUn jmp jh6 jop joq jkl scs jgo aggK jbx fillA jch ivOf ivsOf jeq jhz jhf jlv yLoad noZ List.any_cons List.any_nil jf6 jqe jg7 bnd jqc yLen jqd cellsOf IV.one flatB ZC.iv St.fresh AV.purge AV.lend St.lend St.lendO St.lendOs St.newRow St.newArr setRow tokSt jj8 jrz St.keep List.getElem?_nil List.length_cons List.length_nil List.map_cons List.map_nil List.foldl_cons List.foldl_nil List.all_cons List.all_nil List.cons_append List.nil_append List.drop_succ_cons List.drop_zero List.take_succ_cons List.take_zero List.set_cons_zero List.set_cons_succ List.filter_cons List.filter_nil List.contains_cons List.contains_nil List.replicate_succ List.replicate_zero List.append_nil Int.natCast_nonneg Int.cast_ofNat_Int Option.getD_some Option.getD_none Option.isSome_some Option.isSome_none Option.map_some Option.map_none Bool.false_eq_true Bool.true_eq_false Bool.not_true Bool.not_false Bool.and_true Bool.true_and Bool.and_false Bool.false_and Bool.or_true Bool.true_or Bool.or_false Bool.false_or beq_self_eq_true bq_true oc_int oc_bool oc_string List.length_map List.size_toArray bq_false aRet resL resIV lendR decide_true decide_false if_true if_false ite_true ite_false ne_eq not_true not_false_iff true_and and_true false_and and_false true_or or_true false_or or_false true_implies forall_const implies_true Nat.zero_add Nat.add_zero Int.toNat_natCast flat1 aAppend_eq aMake_eq
attribute [go_sem] appP nilC
attribute [go_sem] ivE List.isEmpty_nil List.isEmpty_cons Bool.false_and Bool.true_and hp_lit hp_lit' hp_eq hp_ge hp_bne hp_bne2 bne_self_eq_false AV.dp jhy isHa isFrz ZC.ivG St.addH jds St.frzOs frzO St.frz AV.frz frz1 frz2 frz3 AV.toH jms
attribute [go_sem] Int.reduceNegSucc Nat.reduceAdd Nat.reduceSub Nat.reduceMul Nat.reduceEqDiff Nat.reduceLeDiff Nat.reduceLT Nat.reduceBEq Nat.reduceBNe reduceIte reduceCtorEq Int.reduceToNat Int.reduceAdd Int.reduceSub Int.reduceMul Int.reduceNeg Int.reduceLT Int.reduceLE Int.reduceEq Int.reduceNe
end
end Go.Abs
namespace Go.Proofs.YtgncgpfjldefpaaGreat
section
open Go.Abs
def ti:Nat->TI
 | 2=>⟨1,8,[.int .i64],.it .i64,false⟩
 | 3=>⟨1,8,[.int .i64],.it .i64,false⟩
 | 4=>⟨1,1,[.bool],.bl,false⟩
 | 5=>⟨1,1,[.int .u8],.it .u8,false⟩
 | 9=>⟨1,16,[.str],.str,false⟩
 | 12=>⟨1,8,[.int .u64],.it .u64,false⟩
 | 15=>⟨1,8,[.no],.no,false⟩
 | 16=>⟨1,8,[.no],.no,false⟩
 | 17=>⟨1,8,[.no],.no,false⟩
 | 21=>⟨1,4,[.int .i32],.it .i32,false⟩
 | 22=>⟨1,24,[.sl],.sl 52,false⟩
 | 23=>⟨1,24,[.sl],.sl 34,false⟩
 | 24=>⟨2,48,[.sl,.sl],.st [(0,22),(1,23)],false⟩
 | 25=>⟨2,48,[.sl,.sl],.st [(0,22),(1,23)],false⟩
 | 26=>⟨1,24,[.sl],.sl 3,false⟩
 | 27=>⟨1,24,[.sl],.sl 30,false⟩
 | 30=>⟨1,2,[.int .u16],.it .u16,false⟩
 | 31=>⟨1,24,[.sl],.sl 4,false⟩
 | 33=>⟨5,32,[.int .i64,.int .i64,.int .i64,.bool,.bool],.st [(0,3),(1,3),(2,3),(3,4),(4,4)],false⟩
 | 34=>⟨5,32,[.int .i64,.int .i64,.int .i64,.bool,.bool],.st [(0,3),(1,3),(2,3),(3,4),(4,4)],true⟩
 | 36=>⟨1,8,[.int .i64],.it .i64,false⟩
 | 43=>⟨1,24,[.sl],.sl 73,false⟩
 | 44=>⟨1,24,[.sl],.sl 75,false⟩
 | 45=>⟨1,24,[.sl],.sl 119,false⟩
 | 46=>⟨1,24,[.sl],.sl 54,false⟩
 | 47=>⟨1,24,[.sl],.sl 56,false⟩
 | 48=>⟨8,144,[.int .i64,.int .i64,.int .i64,.sl,.sl,.sl,.sl,.sl],.st [(0,3),(1,3),(2,3),(3,43),(4,44),(5,45),(6,46),(7,47)],false⟩
 | 49=>⟨8,144,[.int .i64,.int .i64,.int .i64,.sl,.sl,.sl,.sl,.sl],.st [(0,3),(1,3),(2,3),(3,43),(4,44),(5,45),(6,46),(7,47)],false⟩
 | 50=>⟨1,24,[.sl],.sl 91,false⟩
 | 51=>⟨2,32,[.int .i64,.sl],.st [(0,3),(1,26)],false⟩
 | 52=>⟨2,32,[.int .i64,.sl],.st [(0,3),(1,26)],false⟩
 | 53=>⟨2,16,[.int .i64,.int .i64],.st [(0,3),(1,3)],false⟩
 | 54=>⟨2,16,[.int .i64,.int .i64],.st [(0,3),(1,3)],true⟩
 | 55=>⟨4,32,[.int .i64,.int .i64,.int .i64,.int .i64],.st [(0,3),(1,3),(2,3),(3,3)],false⟩
 | 56=>⟨4,32,[.int .i64,.int .i64,.int .i64,.int .i64],.st [(0,3),(1,3),(2,3),(3,3)],true⟩
 | 66=>⟨2,32,[.int .i64,.sl],.st [(0,3),(1,26)],false⟩
 | 67=>⟨2,32,[.int .i64,.sl],.st [(0,3),(1,26)],false⟩
 | 68=>⟨4,64,[.int .i64,.sl,.int .i64,.sl],.st [(0,67),(2,67)],false⟩
 | 69=>⟨4,64,[.int .i64,.sl,.int .i64,.sl],.st [(0,67),(2,67)],false⟩
 | 72=>⟨3,24,[.int .i64,.int .i64,.int .i64],.st [(0,3),(1,3),(2,3)],false⟩
 | 73=>⟨3,24,[.int .i64,.int .i64,.int .i64],.st [(0,3),(1,3),(2,3)],true⟩
 | 74=>⟨6,48,[.int .i64,.int .i64,.int .i64,.int .i64,.int .i64,.bool],.st [(0,3),(1,3),(2,3),(3,3),(4,3),(5,4)],false⟩
 | 75=>⟨6,48,[.int .i64,.int .i64,.int .i64,.int .i64,.int .i64,.bool],.st [(0,3),(1,3),(2,3),(3,3),(4,3),(5,4)],true⟩
 | 85=>⟨1,8,[.no],.no,false⟩
 | 87=>⟨1,8,[.no],.no,false⟩
 | 89=>⟨1,8,[.no],.no,false⟩
 | 90=>⟨1,8,[.no],.no,false⟩
 | 91=>⟨1,24,[.sl],.sl 69,false⟩
 | 94=>⟨1,24,[.sl],.sl 91,false⟩
 | 103=>⟨1,24,[.sl],.sl 105,false⟩
 | 104=>⟨2,16,[.int .i64,.int .i64],.st [(0,3),(1,3)],false⟩
 | 105=>⟨2,16,[.int .i64,.int .i64],.st [(0,3),(1,3)],true⟩
 | 112=>⟨1,8,[.no],.no,false⟩
 | 118=>⟨6,48,[.int .i64,.int .i64,.int .i64,.int .i64,.int .i64,.int .i64],.st [(0,3),(1,3),(2,3),(3,3),(4,3),(5,3)],false⟩
 | 119=>⟨6,48,[.int .i64,.int .i64,.int .i64,.int .i64,.int .i64,.int .i64],.st [(0,3),(1,3),(2,3),(3,3),(4,3),(5,3)],true⟩
 | 132=>⟨8,144,[.int .i64,.int .i64,.sl,.int .i64,.sl,.sl,.sl,.sl],.st [(0,3),(1,69),(5,91),(6,91),(7,91)],false⟩
 | 133=>⟨8,144,[.int .i64,.int .i64,.sl,.int .i64,.sl,.sl,.sl,.sl],.st [(0,3),(1,69),(5,91),(6,91),(7,91)],false⟩
 | 134=>⟨16,288,[.int .i64,.int .i64,.sl,.int .i64,.sl,.sl,.sl,.sl,.int .i64,.int .i64,.sl,.int .i64,.sl,.sl,.sl,.sl],.st [(0,133),(8,133)],false⟩
 | 135=>⟨16,288,[.int .i64,.int .i64,.sl,.int .i64,.sl,.sl,.sl,.sl,.int .i64,.int .i64,.sl,.int .i64,.sl,.sl,.sl,.sl],.st [(0,133),(8,133)],false⟩
 | 138=>⟨10,136,[.int .i64,.sl,.int .i64,.sl,.int .i64,.sl,.int .i64,.sl,.bool,.bool],.st [(0,69),(4,69),(8,4),(9,4)],false⟩
 | 139=>⟨10,136,[.int .i64,.sl,.int .i64,.sl,.int .i64,.sl,.int .i64,.sl,.bool,.bool],.st [(0,69),(4,69),(8,4),(9,4)],false⟩
 | 142=>⟨1,8,[.int .u64],.it .u64,false⟩
 | 145=>⟨2,16,[.int .i64,.int .i64],.arr 2 3,false⟩
 | 146=>⟨1,24,[.sl],.sl 145,false⟩
 | 161=>⟨1,24,[.sl],.sl 183,false⟩
 | 164=>⟨1,24,[.sl],.sl 228,false⟩
 | 165=>⟨2,32,[.int .i64,.sl],.st [(0,3),(1,164)],false⟩
 | 166=>⟨2,32,[.int .i64,.sl],.st [(0,3),(1,164)],false⟩
 | 176=>⟨1,8,[.int .u64],.it .u64,false⟩
 | 180=>⟨1,8,[.no],.no,false⟩
 | 182=>⟨5,72,[.int .i64,.int .i64,.sl,.int .i64,.sl],.st [(0,3),(1,69)],false⟩
 | 183=>⟨5,72,[.int .i64,.int .i64,.sl,.int .i64,.sl],.st [(0,3),(1,69)],false⟩
 | 185=>⟨1,8,[.no],.no,false⟩
 | 186=>⟨1,24,[.sl],.sl 225,false⟩
 | 187=>⟨10,192,[.int .i64,.int .i64,.int .i64,.sl,.sl,.sl,.sl,.sl,.sl,.sl],.st [(0,49),(8,164),(9,186)],false⟩
 | 188=>⟨10,192,[.int .i64,.int .i64,.int .i64,.sl,.sl,.sl,.sl,.sl,.sl,.sl],.st [(0,49),(8,164),(9,186)],false⟩
 | 189=>⟨1,8,[.no],.no,false⟩
 | 204=>⟨1,8,[.no],.no,false⟩
 | 221=>⟨1,4,[.int .u32],.it .u32,false⟩
 | 224=>⟨4,32,[.int .i64,.int .i64,.int .i64,.int .i64],.st [(0,3),(1,3),(2,3),(3,3)],false⟩
 | 225=>⟨4,32,[.int .i64,.int .i64,.int .i64,.int .i64],.st [(0,3),(1,3),(2,3),(3,3)],true⟩
 | 227=>⟨6,96,[.sl,.int .i64,.int .i64,.sl,.int .i64,.sl],.st [(0,161),(1,3),(2,69)],false⟩
 | 228=>⟨6,96,[.sl,.int .i64,.int .i64,.sl,.int .i64,.sl],.st [(0,161),(1,3),(2,69)],false⟩
 | 229=>⟨1,24,[.sl],.sl 235,false⟩
 | 230=>⟨1,24,[.sl],.sl 246,false⟩
 | 231=>⟨6,128,[.int .i64,.sl,.sl,.sl,.sl,.sl],.st [(0,3),(1,229),(2,91),(3,26),(4,26),(5,230)],false⟩
 | 232=>⟨6,128,[.int .i64,.sl,.sl,.sl,.sl,.sl],.st [(0,3),(1,229),(2,91),(3,26),(4,26),(5,230)],false⟩
 | 234=>⟨5,88,[.int .i64,.sl,.int .i64,.sl,.sl],.st [(0,69),(4,91)],false⟩
 | 235=>⟨5,88,[.int .i64,.sl,.int .i64,.sl,.sl],.st [(0,69),(4,91)],false⟩
 | 243=>⟨1,8,[.no],.no,false⟩
 | 245=>⟨2,16,[.int .i64,.bool],.st [(0,3),(1,4)],false⟩
 | 246=>⟨2,16,[.int .i64,.bool],.st [(0,3),(1,4)],true⟩
 | 247=>⟨1,8,[.no],.no,false⟩
 | 252=>⟨1,8,[.no],.no,false⟩
 | 265=>⟨1,8,[.no],.no,false⟩
 | 268=>⟨11,48,[.int .u64,.int .u64,.int .u32,.int .u8,.int .u8,.int .u8,.int .u8,.no,.no,.int .i32,.int .i32],.st [(0,12),(1,12),(2,221),(3,262),(4,5),(5,5),(6,263),(7,264),(8,265),(9,266),(10,267)],false⟩
 | _=>⟨0,0,[],.no,false⟩
noncomputable def G:Ctx:={P:=Tryz.prog,ti:=ti,fns:=205}
theorem G_ti(t:Nat):G.ti t=ti t:=rfl
theorem G_fns:G.fns=205:=rfl
theorem G_own:G.own=false:=rfl
noncomputable def GO:Ctx:={G with own:=true}
theorem GO_ti(t:Nat):GO.ti t=ti t:=rfl
theorem GO_fns:GO.fns=205:=rfl
theorem GO_own:GO.own=true:=rfl
theorem G_perm:G.perm=[]:=rfl
theorem G_frz:G.frz=[]:=rfl
theorem G_emp:G.emp=false:=rfl
theorem GO_perm:GO.perm=[]:=rfl
theorem GO_frz:GO.frz=[]:=rfl
theorem GO_emp:GO.emp=false:=rfl
noncomputable def GH(p f:List Nat):Ctx:={G with perm:=p,frz:=f,emp:=true}
theorem GH_ti(p f:List Nat)(t:Nat):(GH p f).ti t=ti t:=rfl
theorem GH_fns(p f:List Nat):(GH p f).fns=205:=rfl
theorem GH_own(p f:List Nat):(GH p f).own=false:=rfl
theorem GH_perm(p f:List Nat):(GH p f).perm=p:=rfl
theorem GH_frz(p f:List Nat):(GH p f).frz=f:=rfl
theorem GH_emp(p f:List Nat):(GH p f).emp=true:=rfl
attribute [go_sem] G_ti G_fns G_own GO_ti GO_fns GO_own ti G_perm G_frz G_emp GO_perm GO_frz GO_emp GH_ti GH_fns GH_own GH_perm GH_frz GH_emp
theorem ti_big(t:Nat)(h:271<=t):ti t=⟨0,0,[],.no,false⟩:=by
 unfold ti;split<;>first | omega | rfl
theorem ti_ok:((List.range 271).all fun t=>(ti t).size==0 || (ti t).okB Tryz.prog t)=true:=by kernel_rfl
theorem fn_ok:((List.range 205).all fun f=>decide (f<3) || jk5 Tryz.prog f)=true:=by kernel_rfl
theorem jnf:Tryz.prog.follows .mixedOrders=true:=by kernel_rfl
theorem good:G.Good where
 ok t ht:=by
  rcases zX t 271 with h | h
  ·have:=List.all_eq_true.1 ti_ok t (qh.2 h);simp only[qG,yL]at this;exact this.resolve_left ht
  ·exact absurd (by rw[G_ti,ti_big t h]) ht
 fn f hf:=by
  have:=List.all_eq_true.1 fn_ok f (qh.2 hf.2);simp only[qG,zU]at this;exact this.resolve_left (by omega)
 mixed:=jnf
theorem goodO:GO.Good where
 ok:=good.ok
 fn:=good.fn
 mixed:=jnf
theorem goodH(p f:List Nat):(GH p f).Good where
 ok:=good.ok
 fn:=good.fn
 mixed:=jnf
theorem ja4{f:FuncId}{args:List IV}{φ:IV->Prop}{fn:Func}{c:Code}(rs:List ResultVar)(hf:G.P.funcs[f]? =some fn)(h:awp G c (fun e s=>match e with | .normal=>aRet G rs φ s | .ret=>aRet G rs φ s | _=>False) (je6 args))(hb:fn.body=some c:=by exact rfl)(hr:fn.results.toList=rs:=by exact rfl)(hd:dstC fn.ntmps c=true:=by decide+kernel)(hn:Nat.ble args.length fn.ntmps=true:=by exact rfl):Ctr G.P f args φ:=ctr_go good fn c rs hf hb hr hd hn h
theorem jan{f:FuncId}{args:List AV}{L:Abs.Rows}{φ:AV->Abs.Rows->Prop}{fn:Func}{c:Code}(p q:List Nat)(rs:List ResultVar)(hf:(GH p q).P.funcs[f]? =some fn)(h:awp (GH p q) c (fun x st=>match x with | .normal=> @RetH (GH p q) rs st ⟨φ⟩ | .ret=> @RetH (GH p q) rs st ⟨φ⟩ | _=>False) (jbg args L))(hb:fn.body=some c:=by exact rfl)(hr:fn.results.toList=rs:=by exact rfl)(hd:dstC fn.ntmps c=true:=by decide+kernel)(hn:Nat.ble args.length fn.ntmps=true:=by exact rfl):CtrH (GH p q).P f args L φ:=ctrh_go (goodH p q) fn c rs hf hb hr hd hn h
end
section
open Go.Abs
def idx(i n:Int):Bool:=decide (0<=i)&&decide (i<n)
def btw(n a b:Int):Bool:=decide (a<=n)&&decide (n<=b)
theorem jnk{i n:Int}:idx i n=true↔0<=i/\i<n:=by simp[idx]
theorem btw_iff{n a b:Int}:btw n a b=true↔a<=n/\n<=b:=by simp[btw]
theorem c68(n a b:Int):Ctr G.P 91 [.int n,.int a,.int b] (· = .bool (btw n a b)):=by
 unfold btw;refine ja4 [.tmp 6] Tryz.func91 ?_;simp only[go_sem]
 repeat' (refine jde (fun hd hp=> ?_) (fun hd hp=> ?_)<;>simp only[hd,go_sem])
theorem c67(i n:Int):Ctr G.P 90 [.int i,.int n] (· = .bool (idx i n)):=by
 unfold idx;refine ja4 [.tmp 4] Tryz.func90 ?_;simp only[go_sem]
 repeat' (refine jde (fun hd hp=> ?_) (fun hd hp=> ?_)<;>simp only[hd,go_sem])
attribute [irreducible] idx btw
end
section
open Go.Abs
def ic(n:Int):List IV:=[.int n]
def ints(l:List Int):IV:= .sl (l.map ic)
theorem ja9{n:Int}(h: -9223372036854775808<=n/\n<=9223372036854775807):IntKind.i64.wrap n=n:=IntWalk.i64_in n h
end
section
open Go.Abs
structure Bat where
 mat:Int
 mv:List Int
deriving Inhabited
structure Pap where
 bat:Int
 grams:Int
 own:Int
 ret:Bool
 gone:Bool
deriving Inhabited,DecidableEq
structure Led where
 bs:List Bat
 ps:List Pap
deriving Inhabited
def Bat.c(b:Bat):List IV:=[.int b.mat,ints b.mv]
def Pap.c(x:Pap):List IV:=[.int x.bat,.int x.grams,.int x.own,.bool x.ret,.bool x.gone]
def Led.c(p:Led):List IV:=[.sl (p.bs.map Bat.c),.sl (p.ps.map Pap.c)]
def jjm(n:Int):Int->List Int->Bool
 | _,[]=>true
 | last,i::r=>decide (last<i)&&(decide (i<n)&&jjm n i r)
def riseF(l:List Int)(n:Int):Bool:=jjm n (-1) l&&decide (0<l.length)
def overF(a b:Bat):Bool:=decide (a.mat=b.mat)&&a.mv.any fun i=>b.mv.contains i
def Pap.live(x:Pap):Bool:= !x.ret&& !x.gone
def batOk(pre:List Bat)(b:Bat):Bool:=btw b.mat 0 5&&(riseF b.mv 200&& !pre.any fun a=>overF a b)
def jju:List Bat->List Bat->Bool
 | _,[]=>true
 | pre,b::r=>batOk pre b&&jju (pre++[b]) r
def papOk(n:Int)(x:Pap):Bool:=btw x.bat 0 (n-1)&&(btw x.grams 1 1099511627776&&(btw x.own 0 999&& !(x.ret&&x.gone)))
def jbv(p:Led):Bool:=decide (p.bs.length<=40)&&(decide (p.ps.length<=300)&&(jju [] p.bs&&p.ps.all (papOk p.bs.length)))
def sumG(f:Pap->Bool):List Pap->Int
 | []=>0
 | x::r=>(if f x=true then x.grams else 0)+sumG f r
def totF(p:Led)(k:Int):Int:=if jbv p=true then sumG (fun x=>decide (x.bat=k)&& !x.gone) p.ps else 0
def someF(p:Led)(f:Pap->Bool)(is:List Int):Bool:=is.any fun i=>match p.ps[i.toNat]? with
 | some x=>f x
 | none=>false
def jd7(p:Led)(by_:Int)(is:List Int):Int:=
 if jbv p=false then 1 else if(is.any fun i=> !btw i 0 ((p.ps.length:Int)-1))=true then 4 else if someF p (fun x=> !decide (x.own=by_)) is=true then 21 else if someF p (fun x=> !x.live) is=true then 7 else 0
def zL:Led:=⟨[],[]⟩
def setP(p:Led)(i:Int)(f:Pap->Pap):Led:=match p.ps[i.toNat]? with
 | some x=>{p with ps:=p.ps.set i.toNat (f x)}
 | none=>p
def addP(p:Led)(l:List Pap):Led:={p with ps:=p.ps++l}
def fullF(q:Led):Led×Int:=if 300<(q.ps.length:Int)then(zL,6)else(q,0)
def papAt(p:Led)(i:Int):Pap:=p.ps.getD i.toNat ⟨0,0,0,false,false⟩
def goneP(x:Pap):Pap:={x with gone:=true}
def jm3(p:Led)(by_ i n:Int):Led×Int:=
 if jd7 p by_ [i]≠0 then(zL,jd7 p by_ [i])else if btw n 1 ((papAt p i).grams-1)=false then(zL,3)else
  fullF (addP (setP p i goneP) [{papAt p i with grams:=n},{papAt p i with grams:=(papAt p i).grams-n}])
def joinF(p:Led)(by_ i j:Int):Led×Int:=
 if(jbv p&&decide (i=j))=true then(zL,4)else if jd7 p by_ [i,j]≠0 then(zL,jd7 p by_ [i,j])else
 if decide ((papAt p i).bat=(papAt p j).bat)=false then(zL,13)else if 1099511627776<(papAt p i).grams+(papAt p j).grams then(zL,3)else
  fullF (addP (setP (setP p i goneP) j goneP) [{papAt p i with grams:=(papAt p i).grams+(papAt p j).grams}])
def giveF(p:Led)(by_ i to:Int):Led×Int:=
 if btw to 0 999=false then(zL,1)else if jd7 p by_ [i]≠0 then(zL,jd7 p by_ [i])else fullF (setP p i fun x=>{x with own:=to})
def left0(p:Led)(cert:List Int):List Int:=(List.range p.bs.length).map fun k=>if k<cert.length then max 0 (cert.getD k 0)else 0
def subAt(l:List Int)(b g:Int):List Int:=l.set b.toNat (l.getD b.toNat 0-g)
def retGo:List Int->List Pap->List Int
 | l,[]=>l
 | l,x::r=>retGo (if x.ret=true then subAt l x.bat x.grams else l) r
def jjo:List Int->List Pap->List Bool
 | _,[]=>[]
 | l,x::r=>if x.live=true then decide (0<=(subAt l x.bat x.grams).getD x.bat.toNat 0)::jjo (subAt l x.bat x.grams) r else false::jjo l r
def jkf(p:Led)(cert:List Int):List Bool:=if jbv p=true then jjo (retGo (left0 p cert) p.ps) p.ps else []
theorem jcd{p:Led}(h:jbv p=true):p.bs.length<=40/\p.ps.length<=300/\jju [] p.bs=true/\∀x∈p.ps,papOk p.bs.length x=true:=by
 simpa only[jbv,zB,zU,List.all_eq_true]using h
structure KeptL(p q:Led)(i j:Int):Prop where
 right:jbv q=true
 bs:q.bs=p.bs
 len:p.ps.length<=q.ps.length
 tot:∀k,totF q k=totF p k
 pap:∀(k:Nat) (x:Pap),p.ps[k]? =some x->∃y:Pap,q.ps[k]? =some y/\y.bat=x.bat/\y.grams=x.grams/\((k:Int)≠i->(k:Int)≠j->y=x)
theorem step_ok{p:Led}{b:Int}{is:List Int}(h:jd7 p b is=0):jbv p=true/\∀i∈is,∃k:Nat,i=(k:Int)/\∃x,p.ps[k]? =some x/\x.own=b/\x.live=true:=by
 unfold jd7 at h;split at h
 ·cases h
 rename_i h1;split at h
 ·cases h
 rename_i h2;split at h
 ·cases h
 rename_i h3;split at h
 ·cases h
 rename_i h4;refine⟨by simpa using h1,fun i hi=> ?_⟩;simp only[jn,yX,yx,Bool.not_eq_false]at h2;have hb:=btw_iff.1 (h2 i hi);have hlt:i.toNat<p.ps.length:=by omega
 refine⟨i.toNat,by omega,_,ze hlt,?_,?_⟩
 ·simp only[someF,jn,yX]at h3;have:=h3 i hi;rw[ze hlt]at this
  simpa using this
 ·simp only[someF,jn,yX]at h4;have:=h4 i hi;rw[ze hlt]at this
  simpa using this
theorem jnb{p:Led}{k:Nat}{x:Pap}(h:p.ps[k]? =some x):papAt p (k:Int)=x:=by
 unfold papAt;rw[Int.toNat_natCast,zS,h];rfl
theorem jki{p:Led}{k:Nat}{x:Pap}{f:Pap->Pap}(h:p.ps[k]? =some x):setP p (k:Int) f={p with ps:=p.ps.set k (f x)}:=by
 unfold setP;rw[Int.toNat_natCast,h]
end
section
open Go.Abs
theorem papOk_iff{n:Int}{x:Pap}:papOk n x=true↔(0<=x.bat/\x.bat<=n-1)/\(1<=x.grams/\x.grams<=1099511627776)/\(0<=x.own/\x.own<=999)/\¬(x.ret=true/\x.gone=true):=by
 simp only[papOk,zB,btw_iff,yx,Bool.and_eq_false_imp,not_and,jn]
def tk(k:Int)(x:Pap):Bool:=decide (x.bat=k)&& !x.gone
theorem tot_eq{p:Led}(h:jbv p=true)(k:Int):totF p k=sumG (tk k) p.ps:=by unfold totF;rw[zn h];rfl
section
variable{p q:Led}{b i j n:Int}
theorem one_ok(h:jd7 p b [i]=0):jbv p=true/\∃(k:Nat) (x:Pap),i=(k:Int)/\p.ps[k]? =some x/\x.own=b/\x.live=true/\papOk p.bs.length x=true/\papAt p i=x:=by
 obtain⟨h1,h2⟩:=step_ok h;obtain⟨k,rfl,x,hx,h3,h4⟩:=h2 i (by simp);exact⟨h1,k,x,rfl,hx,h3,h4,(jcd h1).2.2.2 x (zl hx),jnb hx⟩
end
end
section
open Go.Abs
def rk(k:Int)(x:Pap):Bool:=x.ret&&decide (x.bat=k)
def InB(n:Nat)(ps:List Pap):Prop:=∀x∈ps,0<=x.bat/\x.bat<(n:Int)/\1<=x.grams/\x.grams<=1099511627776
section
variable{p:Led}{cert:List Int}
theorem jqu(h:jbv p=true):InB p.bs.length p.ps:=fun x hx=>by
 have:=papOk_iff.1 ((jcd h).2.2.2 x hx);omega
theorem left_len:(left0 p cert).length=p.bs.length:=by simp[left0]
theorem left_get{k:Nat}(h:k<p.bs.length):(left0 p cert).getD k 0=if k<cert.length then max 0 (cert.getD k 0)else 0:=by
 unfold left0;rw[zS,zq,y6 h];rfl
end
end
section
open Go.Abs
structure Place where
 (kind house mat:Int)
 deriving DecidableEq,Inhabited
structure Move where
 (day fr to scale reading:Int)
 all:Bool
 deriving DecidableEq,Inhabited
structure Cert where
 (scale fr until' grams perMille drift:Int)
 deriving DecidableEq,Inhabited
structure Recall where
 (scale since:Int)
 deriving DecidableEq,Inhabited
structure Purity where
 (move mat least most:Int)
 deriving DecidableEq,Inhabited
structure Evid where
 (mats houses scales:Int)
 places:List Place
 moves:List Move
 certs:List Cert
 recalls:List Recall
 purs:List Purity
 deriving DecidableEq,Inhabited
structure Sample where
 move:Int
 grams:List Int
 slack:Int
 deriving DecidableEq,Inhabited
structure Recipe where
 (fr to mat least most:Int)
 deriving DecidableEq,Inhabited
def Place.c(p:Place):List IV:=[.int p.kind,.int p.house,.int p.mat]
def Move.c(p:Move):List IV:=[.int p.day,.int p.fr,.int p.to,.int p.scale,.int p.reading,.bool p.all]
def Cert.c(p:Cert):List IV:=[.int p.scale,.int p.fr,.int p.until',.int p.grams,.int p.perMille,.int p.drift]
def Recall.c(p:Recall):List IV:=[.int p.scale,.int p.since]
def Purity.c(p:Purity):List IV:=[.int p.move,.int p.mat,.int p.least,.int p.most]
def Sample.c(p:Sample):List IV:=[.int p.move,ints p.grams,.int p.slack]
def Recipe.c(p:Recipe):List IV:=[.int p.fr,.int p.to,.int p.mat,.int p.least,.int p.most]
def Evid.c(e:Evid):List IV:=[.int e.mats,.int e.houses,.int e.scales,.sl (e.places.map Place.c),.sl (e.moves.map Move.c),.sl (e.certs.map Cert.c),.sl (e.recalls.map Recall.c),.sl (e.purs.map Purity.c)]
def Evid.iv(e:Evid):IV:= .agg e.c
theorem Place.len(p:Place):p.c.length=3:=rfl
theorem Move.len(p:Move):p.c.length=6:=rfl
theorem Cert.len(p:Cert):p.c.length=6:=rfl
theorem Recall.len(p:Recall):p.c.length=2:=rfl
theorem Purity.len(p:Purity):p.c.length=4:=rfl
theorem Sample.len(p:Sample):p.c.length=3:=rfl
theorem Recipe.len(p:Recipe):p.c.length=5:=rfl
theorem take_succ{α:Type}{l:List α}{i:Nat}{x:α}(h:l[i]? =some x):l.take (i+1)=l.take i++[x]:=by
 rw[yV,h];rfl
end
section
open Go.Abs
attribute [local go_sem] Evid.iv Evid.c Place.c Move.c Cert.c Recall.c Purity.c Sample.c Recipe.c ints ic
theorem jcu{α:Type}{l:List α}{f:α->Bool}{i:Nat}{x:α}(h:l[i]? =some x):(l.take (i+1)).all f=((l.take i).all f&&f x):=by
 rw[take_succ h,List.all_append];simp
theorem jfo{α:Type}{l:List α}{f:α->Bool}{i:Nat}{x:α}(h:l[i]? =some x)(hf:f x=false):l.all f=false:=by
 rw[List.all_eq_false];exact⟨x,zl h,by simp[hf]⟩
def jif(e:Evid)(p:Place):Bool:=idx p.kind 7&&(if p.kind=0 then idx p.house e.houses&&idx p.mat e.mats else decide (p.house= -1)&&decide (p.mat= -1))
theorem c47(e:Evid)(hl:e.places.length<=1000):Ctr G.P 57 [e.iv] (· = .bool (e.places.all (jif e))):=by
 refine ja4 [.tmp 2] Tryz.func57 ?_;unfold Evid.iv Evid.c;simp only[go_sem];refine jao [1,6,7,8] [1] (fun i:Nat=>⟨[(1,.loc 1 8 0 0),(6,.im (.sl (e.places.map Place.c))),(7,.im (.int e.places.length)),(8,.im (.int i))],[(1,8,[e.c])],[]⟩)
  (fun i=>i<=e.places.length/\(e.places.take i).all (jif e)=true) (fun i=>e.places.length-i) 0 ?_ ⟨zG _,rfl⟩ ?_
 ·simp only[Evid.c,Int.natCast_zero,go_sem]
 ·intro i ⟨hi,ha⟩;simp only[go_sem];refine jde (fun hd hp=> ?_) (fun hd hp=> ?_)
  ·obtain⟨x,hx⟩:∃x,e.places[i]? =some x:=⟨_,ze (by omega)⟩;have h1:=ja9 (n:=(i:Int)+1) (by omega);have hat:=jcu (f:=jif e) hx;simp only[hd,zq,hx,Place.c,Evid.c,go_sem]
   repeat' (first | (refine jcm (fun hd=> ?_) (fun hd=> ?_)<;>simp only[*,go_sem]) | (refine jbp (c67 _ _) (by first | decide | assumption) ?_;simp only[*,go_sem]) | (refine ja6 (c67 _ _) (by decide) ?_;simp only[*,go_sem]))
   all_goals first
    | (refine jad (i+1) ?_ ?_ ⟨?_,?_⟩
       ·simp only[h1,Evid.c,Int.natCast_add,go_sem]
       ·omega
       ·omega
       ·rw[hat,ha,qx];clear hat ha h1;simp_all[jif]
       done)
    | (rw[jfo hx (by clear hat ha h1;simp_all[jif])];done)
  ·simp only[hd,go_sem];rw[zD (by omega)]at ha;rw[ha]
end
section
open Go.Abs
attribute [local go_sem] Evid.iv Evid.c Place.c Move.c Cert.c Recall.c Purity.c Sample.c Recipe.c ints ic
end
section
open Go.Abs
attribute [local go_sem] Evid.iv Evid.c Place.c Move.c Cert.c Recall.c Purity.c Sample.c Recipe.c ints ic
end
section
open Go.Abs
attribute [local go_sem] Evid.iv Evid.c Place.c Move.c Cert.c Recall.c Purity.c Sample.c Recipe.c ints ic
def pairC(p:Int×Int):List IV:=[.int p.1,.int p.2]
def pairs(e:Evid):List (Int×Int):=[(e.mats,6),(e.houses,100),(e.scales,30),(e.places.length,100),(e.moves.length,200),(e.certs.length,100),(e.recalls.length,30),(e.purs.length,200)]
def fitP(p:Int×Int):Bool:= !decide (p.2<p.1)
theorem c46(e:Evid):Ctr G.P 56 [e.iv] (· = .bool (!(pairs e).all fitP)):=by
 refine ja4 [.tmp 2] Tryz.func56 ?_;unfold Evid.iv Evid.c;simp only[go_sem];refine jao [34,35,36] [] (fun i:Nat=>⟨[(34,.sx ((pairs e).map pairC)),(35,.im (.int 8)),(36,.im (.int i))],[],[]⟩)
  (fun i=>i<=8/\((pairs e).take i).all fitP=true) (fun i=>8-i) 0 ?_ ⟨zG _,rfl⟩ ?_
 ·simp only[pairs,pairC,Int.natCast_zero,go_sem]
 ·intro i ⟨hi,ha⟩;simp only[go_sem];refine jde (fun hd hp=> ?_) (fun hd hp=> ?_)
  ·obtain⟨x,hx⟩:∃x,(pairs e)[i]? =some x:=⟨_,ze (by simp[pairs];omega)⟩;have h1:=ja9 (n:=(i:Int)+1) (by omega);have hat:=jcu (f:=fitP) hx;simp only[hd,zq,hx,pairC,go_sem]
   repeat' (first | (refine jcm (fun hd=> ?_) (fun hd=> ?_)<;>simp only[*,go_sem]) | (refine jbp (c67 _ _) (by first | decide | assumption) ?_;simp only[*,go_sem]) | (refine ja6 (c67 _ _) (by decide) ?_;simp only[*,go_sem]))
   all_goals first
    | (refine jad (i+1) ?_ ?_ ⟨?_,?_⟩
       ·simp only[h1,Int.natCast_add,go_sem]
       ·omega
       ·omega
       ·rw[hat,ha,qx];clear hat ha h1;simp_all[fitP]
       done)
    | (rw[jfo hx (by clear hat ha h1;simp_all[fitP])];rfl)
  ·simp only[hd,go_sem];rw[zD (by simp[pairs];omega)]at ha;rw[ha];simp only[go_sem]
end
section
open Go.Abs
attribute [local go_sem] Evid.iv Evid.c Place.c Move.c Cert.c Recall.c Purity.c Sample.c Recipe.c ints ic
def jme(e:Evid)(i:Int):Int:=match e.places[i.toNat]? with
 | some p=>p.kind
 | none=>0
theorem jp4{e:Evid}{i:Int}{p:Place}(h:e.places[i.toNat]? =some p):jme e i=p.kind:=by simp[jme,h]
def moveF(e:Evid)(m:Move):Bool:=
 idx m.fr e.places.length&&idx m.to e.places.length&& !decide (m.fr=m.to)&& !decide (jme e m.fr=5)&& !decide (jme e m.fr=6)&& !(decide (jme e m.fr=0)&&m.all)&& !decide (jme e m.to=0)&&
  (if m.scale= -1 then decide (m.reading=0)else idx m.scale e.scales&&btw m.reading 0 1099511627776)
theorem at_idx{α:Type}{l:List α}{i:Int}(h:idx i l.length=true):∃x,l[i.toNat]? =some x/\0<=i:=by
 rw[jnk]at h;exact⟨_,ze (by omega),h.1⟩
theorem c48(e:Evid)(m:Move):Ctr G.P 58 [e.iv,.agg m.c] (· = .bool (moveF e m)):=by
 rcases hf:idx m.fr e.places.length with _ | _
 ·have hm:moveF e m=false:=by simp[moveF,hf]
  refine ja4 [.tmp 4] Tryz.func58 ?_;unfold Evid.iv Evid.c Move.c;rw[hm];simp only[go_sem]
  repeat' (first | (refine jcm (fun hd=> ?_) (fun hd=> ?_)<;>simp only[*,go_sem]) | (refine jbp (c67 _ _) (by first | decide | assumption) ?_;simp only[*,go_sem]) | (refine ja6 (c67 _ _) (by decide) ?_;simp only[*,go_sem]))
 ·obtain⟨p,hp,h0⟩:=at_idx hf;have hkp:=jp4 hp;rcases ht:idx m.to e.places.length with _ | _
  ·have hm:moveF e m=false:=by simp[moveF,ht]
   refine ja4 [.tmp 4] Tryz.func58 ?_;unfold Evid.iv Evid.c Move.c;rw[hm];simp only[go_sem]
   repeat' (first | (refine jcm (fun hd=> ?_) (fun hd=> ?_)<;>simp only[*,go_sem]) | (refine jbp (c67 _ _) (by first | decide | assumption) ?_;simp only[*,go_sem]) | (refine ja6 (c67 _ _) (by decide) ?_;simp only[*,go_sem]))
  ·obtain⟨q,hq,h1⟩:=at_idx ht;have hkq:=jp4 hq;have hm:moveF e m=(!decide (m.fr=m.to)&& !decide (p.kind=5)&& !decide (p.kind=6)&& !(decide (p.kind=0)&&m.all)&& !decide (q.kind=0)&&
    (if m.scale= -1 then decide (m.reading=0)else idx m.scale e.scales&&btw m.reading 0 1099511627776)):=by simp[moveF,hf,ht,hkp,hkq]
   refine ja4 [.tmp 4] Tryz.func58 ?_;unfold Evid.iv Evid.c Move.c;rw[hm];clear hm hkp hkq;simp only[go_sem]
   repeat' (first | (refine jcm (fun hd=> ?_) (fun hd=> ?_)<;>simp only[*,zq,Place.c,go_sem]) | (refine jbp (c67 _ _) (by first | decide | assumption) ?_;simp only[*,zq,Place.c,go_sem]) | (refine jbp (c68 _ _ _) (by first | decide | assumption) ?_;simp only[*,zq,Place.c,go_sem]) | (refine ja6 (c67 _ _) (by decide) ?_;simp only[*,zq,Place.c,go_sem]) | (refine ja6 (c68 _ _ _) (by decide) ?_;simp only[*,zq,Place.c,go_sem]))
   all_goals simp_all
end
section
open Go.Abs
attribute [local go_sem] Evid.iv Evid.c Place.c Move.c Cert.c Recall.c Purity.c Sample.c Recipe.c ints ic
def certF(e:Evid)(c:Cert):Bool:=decide (0<=c.fr)&&decide (c.fr<=c.until')&&decide (c.until'<=100000)&&idx c.scale e.scales&&btw c.grams 0 1099511627776&&btw c.perMille 0 1000&&btw c.drift 0 10000000
def jj0(e:Evid)(r:Recall):Bool:=idx r.scale e.scales&&btw r.since 0 100000
def purF(e:Evid)(p:Purity):Bool:=idx p.move e.moves.length&&idx p.mat e.mats&& !decide (p.least<0)&& !decide (p.most<p.least)&& !decide (1000<p.most)
def saidF(e:Evid):Bool:=e.certs.all (certF e)&&e.recalls.all (jj0 e)&&e.purs.all (purF e)
theorem jbq{α:Type}{l:List α}{i:Nat}(h:(i:Int)<l.length):∃x,l[i]? =some x:=⟨_,ze (by omega)⟩
theorem c49(e:Evid)(h5:e.certs.length<=1000)(h6:e.recalls.length<=1000)(h7:e.purs.length<=1000):Ctr G.P 59 [e.iv] (· = .bool (saidF e)):=by
 refine ja4 [.tmp 2] Tryz.func59 ?_;unfold Evid.iv Evid.c;simp only[go_sem];refine jao [1,11,12,13] [1] (fun i:Nat=>⟨[(1,.loc 1 8 0 0),(11,.im (.sl (e.certs.map Cert.c))),(12,.im (.int e.certs.length)),(13,.im (.int i))],[(1,8,[e.c])],[]⟩)
  (fun i=>i<=e.certs.length/\(e.certs.take i).all (certF e)=true) (fun i=>e.certs.length-i) 0 ?_ ⟨zG _,rfl⟩ ?_
 ·simp only[Evid.c,Int.natCast_zero,go_sem]
 ·intro i ⟨hi,ha⟩;by_cases hp:(i:Int)<e.certs.length
  ·have hd:decide ((i:Int)<e.certs.length)=true:=zk hp;obtain⟨x,hx⟩:=jbq hp;have h1:=ja9 (n:=(i:Int)+1) (by omega);have hat:=jcu (f:=certF e) hx;have hn:certF e x=false->saidF e=false:=fun h=>by simp[saidF,jfo hx h]
   simp only[hd,zq,hx,Cert.c,Evid.c,go_sem]
   repeat' (first | (refine jcm (fun hd=> ?_) (fun hd=> ?_)<;>simp only[*,go_sem]) | (refine jbp (c67 _ _) (by first | decide | assumption) ?_;simp only[*,go_sem]) | (refine jbp (c68 _ _ _) (by first | decide | assumption) ?_;simp only[*,go_sem]) | (refine ja6 (c67 _ _) (by decide) ?_;simp only[*,go_sem]) | (refine ja6 (c68 _ _ _) (by decide) ?_;simp only[*,go_sem]))
   all_goals first
    | (refine jad (i+1) ?_ ?_ ⟨?_,?_⟩
       ·simp only[h1,Evid.c,Int.natCast_add,go_sem]
       ·omega
       ·omega
       ·rw[hat,ha,qx];clear hn hat ha h1;simp_all[certF]
       done)
    | (rw[hn (by clear hn hat ha h1;simp_all[certF]<;>(intros;omega))];done)
  ·have hd:decide ((i:Int)<e.certs.length)=false:=za hp;rw[zD (by omega)]at ha;simp only[hd,Evid.c,go_sem];clear hd hp hi;refine jao [1,62,63,64] [1] (fun i:Nat=>⟨[(1,.loc 1 8 0 0),(62,.im (.sl (e.recalls.map Recall.c))),(63,.im (.int e.recalls.length)),(64,.im (.int i))],[(1,8,[e.c])],[]⟩)
    (fun i=>i<=e.recalls.length/\(e.recalls.take i).all (jj0 e)=true) (fun i=>e.recalls.length-i) 0 ?_ ⟨zG _,rfl⟩ ?_
   ·simp only[Evid.c,Int.natCast_zero,go_sem]
   ·intro i ⟨hi,hb⟩;by_cases hp:(i:Int)<e.recalls.length
    ·have hd:decide ((i:Int)<e.recalls.length)=true:=zk hp;obtain⟨x,hx⟩:=jbq hp;have h1:=ja9 (n:=(i:Int)+1) (by omega);have hat:=jcu (f:=jj0 e) hx;have hn:jj0 e x=false->saidF e=false:=fun h=>by simp[saidF,jfo hx h]
     simp only[hd,zq,hx,Recall.c,Evid.c,go_sem]
     repeat' (first | (refine jcm (fun hd=> ?_) (fun hd=> ?_)<;>simp only[*,go_sem]) | (refine jbp (c67 _ _) (by first | decide | assumption) ?_;simp only[*,go_sem]) | (refine jbp (c68 _ _ _) (by first | decide | assumption) ?_;simp only[*,go_sem]) | (refine ja6 (c67 _ _) (by decide) ?_;simp only[*,go_sem]) | (refine ja6 (c68 _ _ _) (by decide) ?_;simp only[*,go_sem]))
     all_goals first
      | (refine jad (i+1) ?_ ?_ ⟨?_,?_⟩
         ·simp only[h1,Evid.c,Int.natCast_add,go_sem]
         ·omega
         ·omega
         ·rw[hat,hb,qx];clear hn hat hb h1;simp_all[jj0]
         done)
      | (rw[hn (by clear hn hat hb h1;simp_all[jj0])];done)
    ·have hd:decide ((i:Int)<e.recalls.length)=false:=za hp;rw[zD (by omega)]at hb;simp only[hd,Evid.c,go_sem];clear hd hp hi;refine jao [1,82,83,84] [1] (fun i:Nat=>⟨[(1,.loc 1 8 0 0),(82,.im (.sl (e.purs.map Purity.c))),(83,.im (.int e.purs.length)),(84,.im (.int i))],[(1,8,[e.c])],[]⟩)
      (fun i=>i<=e.purs.length/\(e.purs.take i).all (purF e)=true) (fun i=>e.purs.length-i) 0 ?_ ⟨zG _,rfl⟩ ?_
     ·simp only[Evid.c,Int.natCast_zero,go_sem]
     ·intro i ⟨hi,hc⟩;by_cases hp:(i:Int)<e.purs.length
      ·have hd:decide ((i:Int)<e.purs.length)=true:=zk hp;obtain⟨x,hx⟩:=jbq hp;have h1:=ja9 (n:=(i:Int)+1) (by omega);have hat:=jcu (f:=purF e) hx;have hn:purF e x=false->saidF e=false:=fun h=>by simp[saidF,jfo hx h]
       simp only[hd,zq,hx,Purity.c,Evid.c,go_sem]
       repeat' (first | (refine jcm (fun hd=> ?_) (fun hd=> ?_)<;>simp only[*,go_sem]) | (refine jbp (c67 _ _) (by first | decide | assumption) ?_;simp only[*,go_sem]) | (refine jbp (c68 _ _ _) (by first | decide | assumption) ?_;simp only[*,go_sem]) | (refine ja6 (c67 _ _) (by decide) ?_;simp only[*,go_sem]) | (refine ja6 (c68 _ _ _) (by decide) ?_;simp only[*,go_sem]))
       all_goals first
        | (refine jad (i+1) ?_ ?_ ⟨?_,?_⟩
           ·simp only[h1,Evid.c,Int.natCast_add,go_sem]
           ·omega
           ·omega
           ·rw[hat,hc,qx];clear hn hat hc h1;simp_all[purF]
           done)
        | (rw[hn (by clear hn hat hc h1;simp_all[purF])];done)
      ·have hd:decide ((i:Int)<e.purs.length)=false:=za hp;rw[zD (by omega)]at hc;simp only[hd,go_sem];simp[saidF,ha,hb,hc]
end
section
open Go.Abs
attribute [local go_sem] Evid.iv Evid.c Place.c Move.c Cert.c Recall.c Purity.c Sample.c Recipe.c ints ic
def jdp(e:Evid):Int->List Move->Int
 | _,[]=>0
 | last,m::r=>if decide (m.day<last)=true then 17 else if decide (100000<m.day)=true then 17 else if moveF e m=false then 1 else jdp e m.day r
def jbe(e:Evid):Int:=
 if(pairs e).all fitP=false then 6 else if decide (e.mats<1)=true then 1 else if decide (e.houses<0)=true then 1 else if decide (e.scales<0)=true then 1 else if e.places.all (jif e)=false then 1 else
 if jdp e 0 e.moves≠0 then jdp e 0 e.moves else if saidF e=true then 0 else 1
theorem jh7{α:Type}{l:List α}{i:Nat}{x:α}(h:l[i]? =some x):l.drop i=x::l.drop (i+1):=by
 obtain⟨hi,rfl⟩:=zt.1 h;exact qS hi
theorem jgl{e:Evid}(h:(pairs e).all fitP=true):e.places.length<=100/\e.moves.length<=200/\e.certs.length<=100/\e.recalls.length<=30/\e.purs.length<=200/\e.mats<=6/\e.houses<=100/\e.scales<=30:=by
 simp[pairs,fitP]at h;omega
theorem c21(e:Evid):Ctr G.P 21 [e.iv] (· = .int (jbe e)):=by
 have h46:=c46 e;rcases hf:(pairs e).all fitP with _ | _
 ·have hc:jbe e=6:=by simp[jbe,hf]
  rw[hf]at h46;refine ja4 [.tmp 2] Tryz.func21 ?_;unfold Evid.iv Evid.c;rw[hc];simp only[go_sem];refine ja1 h46 ?_;simp only[go_sem]
 ·obtain⟨l1,l2,l3,l4,l5,_,_,_⟩:=jgl hf;have h47:=c47 e (by omega);have h49:=c49 e (by omega) (by omega) (by omega);rw[hf]at h46;have hc:jbe e=if decide (e.mats<1)=true then 1 else if decide (e.houses<0)=true then 1 else if decide (e.scales<0)=true then 1 else if e.places.all (jif e)=false then 1 else
   if jdp e 0 e.moves≠0 then jdp e 0 e.moves else if saidF e=true then 0 else 1:=by simp[jbe,hf]
  clear hf;refine ja4 [.tmp 2] Tryz.func21 ?_;rw[hc];clear hc;generalize hpl:e.places.all (jif e)=pl at*;generalize hsd:saidF e=sd at*;unfold Evid.iv Evid.c;simp only[go_sem];refine ja1 h46 ?_;simp only[go_sem]
  repeat' (first | (refine jcm (fun hd=> ?_) (fun hd=> ?_)<;>simp only[*,go_sem]) | (refine jbp (h47) (by first | decide | assumption) ?_;simp only[*,go_sem]) | (refine ja6 (h47) (by decide) ?_;simp only[*,go_sem]))
  rename_i k1 k2 k3 k4;clear h47 h46;refine jao [1,3,29,30,31] [1] (fun g:Nat×Int=>⟨[(1,.loc 1 8 0 0),(3,.im (.int g.2)),(29,.im (.sl (e.moves.map Move.c))),(30,.im (.int e.moves.length)),(31,.im (.int g.1))],[(1,8,[e.c])],[]⟩)
   (fun g=>g.1<=e.moves.length/\jdp e 0 e.moves=jdp e g.2 (e.moves.drop g.1)) (fun g=>e.moves.length-g.1) (0,0) ?_ ⟨zG _,rfl⟩ ?_
  ·simp only[Evid.c,Int.natCast_zero,go_sem]
  ·intro⟨i,last⟩ ⟨hi,ha⟩;dsimp only at hi ha;by_cases hp:(i:Int)<e.moves.length
   ·have hd:decide ((i:Int)<e.moves.length)=true:=zk hp;obtain⟨x,hx⟩:=jbq hp;have h1:=ja9 (n:=(i:Int)+1) (by omega);rw[jh7 hx,jdp]at ha;simp only[hd,zq,hx,Move.c,Evid.c,go_sem]
    repeat' (first | (refine jcm (fun hd=> ?_) (fun hd=> ?_)<;>simp only[*,go_sem]) | (refine jbp (c48 e x) (by first | decide | assumption) ?_;simp only[*,go_sem]) | (refine ja6 (c48 e x) (by decide) ?_;simp only[*,go_sem]))
    refine jad (i+1,x.day) ?_ ?_ ⟨?_,?_⟩
    ·simp only[h1,Evid.c,Int.natCast_add,go_sem]
    ·show e.moves.length-(i+1)<e.moves.length-i;omega
    ·show i+1<=e.moves.length;omega
    ·rw[ha];simp only[*,q9,Bool.true_eq_false,ql]
   ·have hd:decide ((i:Int)<e.moves.length)=false:=za hp;have hi':e.moves.drop i=[]:=zY (by omega);rw[hi',jdp]at ha;simp only[hd,Evid.c,go_sem];refine ja1 h49 ?_;simp only[*,go_sem]
    repeat' (first | (refine jcm (fun hd=> ?_) (fun hd=> ?_)<;>simp only[*,go_sem]) | (refine jbp (h49) (by first | decide | assumption) ?_;simp only[*,go_sem]) | (refine ja6 (h49) (by decide) ?_;simp only[*,go_sem]))
end
section
open Go.Abs
attribute [local go_sem] Evid.iv Evid.c Place.c Move.c Cert.c Recall.c Purity.c Sample.c Recipe.c ints ic
theorem check_len{e:Evid}(h:jbe e=0):e.places.length<=100/\e.moves.length<=200/\e.certs.length<=100/\e.recalls.length<=30/\e.purs.length<=200/\e.mats<=6/\e.houses<=100/\e.scales<=30:=by
 refine jgl ?_;by_cases hf:(pairs e).all fitP=true
 ·exact hf
 ·simp only[jn]at hf;unfold jbe at h;rw[zn hf]at h;cases h
end
section
open Go.Abs
attribute [local go_sem] Evid.iv Evid.c Place.c Move.c Cert.c Recall.c Purity.c Sample.c Recipe.c ints ic
end
section
open Go.Abs
attribute [local go_sem] Evid.iv Evid.c Place.c Move.c Cert.c Recall.c Purity.c Sample.c Recipe.c ints ic
def purs(l:List Purity):IV:= .sl (l.map Purity.c)
