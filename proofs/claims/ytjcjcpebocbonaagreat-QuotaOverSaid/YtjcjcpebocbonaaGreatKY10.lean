/- A part of the proof. No further condition. -/
import Derived.Test.YtjcjcpebocbonaaGreatKY9
import Derived.Attr
import Derived.Test.YtjcjcpebocbonaaGreatProg
import Derived.KernelRfl
import Derived.IntWalk
set_option linter.all false
set_option maxRecDepth 10000000
set_option maxHeartbeats 16000000
namespace Go.Abs
section
section
variable{G:Ctx}
variable(dst:Option Tmp)(ty:TypeId)(pos:String)(af:Array Edge)(gd:Option (Nat×Bool))(st:St)(ops:List Oper)(r:List Oper)
theorem aop_move(x:Operand)(K:St->Prop):aop G ⟨dst,.move x,ty,pos,af,gd⟩ K st=Opt (yv G st ⟨dst,.move x,ty,pos,af,gd⟩) (K:=⟨fun av=>K (st.put dst av)⟩):=jct K st ⟨dst,.move x,ty,pos,af,gd⟩
theorem aq_move(x:Operand)(K:AV->Prop):aq G st ⟨dst,.move x,ty,pos,af,gd⟩ K=Opt (yv G st ⟨dst,.move x,ty,pos,af,gd⟩) (K:=⟨K⟩):=by rw[aq_eq]
theorem aop_assign(x:Operand)(K:St->Prop):aop G ⟨dst,.assign x,ty,pos,af,gd⟩ K st=Opt (yv G st ⟨dst,.assign x,ty,pos,af,gd⟩) (K:=⟨fun av=>K (st.put dst av)⟩):=jct K st ⟨dst,.assign x,ty,pos,af,gd⟩
theorem aq_assign(x:Operand)(K:AV->Prop):aq G st ⟨dst,.assign x,ty,pos,af,gd⟩ K=Opt (yv G st ⟨dst,.assign x,ty,pos,af,gd⟩) (K:=⟨K⟩):=by rw[aq_eq]
theorem aop_pick(c a b:Operand)(K:St->Prop):aop G ⟨dst,.pick c a b,ty,pos,af,gd⟩ K st=Opt (yv G st ⟨dst,.pick c a b,ty,pos,af,gd⟩) (K:=⟨fun av=>K (st.put dst av)⟩):=jct K st ⟨dst,.pick c a b,ty,pos,af,gd⟩
theorem aq_pick(c a b:Operand)(K:AV->Prop):aq G st ⟨dst,.pick c a b,ty,pos,af,gd⟩ K=Opt (yv G st ⟨dst,.pick c a b,ty,pos,af,gd⟩) (K:=⟨K⟩):=by rw[aq_eq]
theorem aop_unOp(u:UnOp)(t:TypeId)(x:Operand)(K:St->Prop):aop G ⟨dst,.unOp u t x,ty,pos,af,gd⟩ K st=Opt (yv G st ⟨dst,.unOp u t x,ty,pos,af,gd⟩) (K:=⟨fun av=>K (st.put dst av)⟩):=jct K st ⟨dst,.unOp u t x,ty,pos,af,gd⟩
theorem aq_unOp(u:UnOp)(t:TypeId)(x:Operand)(K:AV->Prop):aq G st ⟨dst,.unOp u t x,ty,pos,af,gd⟩ K=Opt (yv G st ⟨dst,.unOp u t x,ty,pos,af,gd⟩) (K:=⟨K⟩):=by rw[aq_eq]
theorem aop_nilCheck(x:Operand)(K:St->Prop):aop G ⟨dst,.nilCheck x,ty,pos,af,gd⟩ K st=Opt (yv G st ⟨dst,.nilCheck x,ty,pos,af,gd⟩) (K:=⟨fun av=>K (st.put dst av)⟩):=jct K st ⟨dst,.nilCheck x,ty,pos,af,gd⟩
theorem aq_nilCheck(x:Operand)(K:AV->Prop):aq G st ⟨dst,.nilCheck x,ty,pos,af,gd⟩ K=Opt (yv G st ⟨dst,.nilCheck x,ty,pos,af,gd⟩) (K:=⟨K⟩):=by rw[aq_eq]
theorem aop_load(t:TypeId)(p:Operand)(K:St->Prop):aop G ⟨dst,.load t p,ty,pos,af,gd⟩ K st=Opt (yv G st ⟨dst,.load t p,ty,pos,af,gd⟩) (K:=⟨fun av=>K (st.put dst av)⟩):=jct K st ⟨dst,.load t p,ty,pos,af,gd⟩
theorem aq_load(t:TypeId)(p:Operand)(K:AV->Prop):aq G st ⟨dst,.load t p,ty,pos,af,gd⟩ K=Opt (yv G st ⟨dst,.load t p,ty,pos,af,gd⟩) (K:=⟨K⟩):=by rw[aq_eq]
theorem aop_fieldAddr(t:TypeId)(x:Operand)(f:Nat)(K:St->Prop):aop G ⟨dst,.fieldAddr t x f,ty,pos,af,gd⟩ K st=Opt (yv G st ⟨dst,.fieldAddr t x f,ty,pos,af,gd⟩) (K:=⟨fun av=>K (st.put dst av)⟩):=jct K st ⟨dst,.fieldAddr t x f,ty,pos,af,gd⟩
theorem aq_fieldAddr(t:TypeId)(x:Operand)(f:Nat)(K:AV->Prop):aq G st ⟨dst,.fieldAddr t x f,ty,pos,af,gd⟩ K=Opt (yv G st ⟨dst,.fieldAddr t x f,ty,pos,af,gd⟩) (K:=⟨K⟩):=by rw[aq_eq]
theorem aop_field(t:TypeId)(x:Operand)(f:Nat)(K:St->Prop):aop G ⟨dst,.field t x f,ty,pos,af,gd⟩ K st=Opt (yv G st ⟨dst,.field t x f,ty,pos,af,gd⟩) (K:=⟨fun av=>K (st.put dst av)⟩):=jct K st ⟨dst,.field t x f,ty,pos,af,gd⟩
theorem aop_indexAddr(t:TypeId)(x i:Operand)(K:St->Prop):aop G ⟨dst,.indexAddr t x i,ty,pos,af,gd⟩ K st=Opt (yv G st ⟨dst,.indexAddr t x i,ty,pos,af,gd⟩) (K:=⟨fun av=>K (st.put dst av)⟩):=jct K st ⟨dst,.indexAddr t x i,ty,pos,af,gd⟩
theorem aq_indexAddr(t:TypeId)(x i:Operand)(K:AV->Prop):aq G st ⟨dst,.indexAddr t x i,ty,pos,af,gd⟩ K=Opt (yv G st ⟨dst,.indexAddr t x i,ty,pos,af,gd⟩) (K:=⟨K⟩):=by rw[aq_eq]
theorem aop_extract(x:Operand)(k:Nat)(K:St->Prop):aop G ⟨dst,.extract x k,ty,pos,af,gd⟩ K st=Opt (yv G st ⟨dst,.extract x k,ty,pos,af,gd⟩) (K:=⟨fun av=>K (st.put dst av)⟩):=jct K st ⟨dst,.extract x k,ty,pos,af,gd⟩
theorem aq_extract(x:Operand)(k:Nat)(K:AV->Prop):aq G st ⟨dst,.extract x k,ty,pos,af,gd⟩ K=Opt (yv G st ⟨dst,.extract x k,ty,pos,af,gd⟩) (K:=⟨K⟩):=by rw[aq_eq]
theorem aop_build(t:TypeId)(ps:Array (Nat×Operand))(K:St->Prop):aop G ⟨dst,.build t ps,ty,pos,af,gd⟩ K st=Opt (yv G st ⟨dst,.build t ps,ty,pos,af,gd⟩) (K:=⟨fun av=>K (st.put dst av)⟩):=jct K st ⟨dst,.build t ps,ty,pos,af,gd⟩
theorem aq_build(t:TypeId)(ps:Array (Nat×Operand))(K:AV->Prop):aq G st ⟨dst,.build t ps,ty,pos,af,gd⟩ K=Opt (yv G st ⟨dst,.build t ps,ty,pos,af,gd⟩) (K:=⟨K⟩):=by rw[aq_eq]
theorem aop_buildSlice(t:TypeId)(n:Nat)(ps:Array (Nat×Operand))(K:St->Prop):aop G ⟨dst,.buildSlice t n ps,ty,pos,af,gd⟩ K st=Opt (yv G st ⟨dst,.buildSlice t n ps,ty,pos,af,gd⟩) (K:=⟨fun av=>K (st.put dst av)⟩):=jct K st ⟨dst,.buildSlice t n ps,ty,pos,af,gd⟩
theorem aq_buildSlice(t:TypeId)(n:Nat)(ps:Array (Nat×Operand))(K:AV->Prop):aq G st ⟨dst,.buildSlice t n ps,ty,pos,af,gd⟩ K=Opt (yv G st ⟨dst,.buildSlice t n ps,ty,pos,af,gd⟩) (K:=⟨K⟩):=by rw[aq_eq]
theorem aop_convert(s d:TypeId)(x:Operand)(K:St->Prop):aop G ⟨dst,.convert s d x,ty,pos,af,gd⟩ K st=Opt (yv G st ⟨dst,.convert s d x,ty,pos,af,gd⟩) (K:=⟨fun av=>K (st.put dst av)⟩):=jct K st ⟨dst,.convert s d x,ty,pos,af,gd⟩
theorem aop_slice(t:TypeId)(x:Operand)(lo hi mx:Option Operand)(K:St->Prop):aop G ⟨dst,.slice t x lo hi mx,ty,pos,af,gd⟩ K st=Opt (yv G st ⟨dst,.slice t x lo hi mx,ty,pos,af,gd⟩) (K:=⟨fun av=>K (st.put dst av)⟩):=jct K st ⟨dst,.slice t x lo hi mx,ty,pos,af,gd⟩
theorem aq_slice(t:TypeId)(x:Operand)(lo hi mx:Option Operand)(K:AV->Prop):aq G st ⟨dst,.slice t x lo hi mx,ty,pos,af,gd⟩ K=Opt (yv G st ⟨dst,.slice t x lo hi mx,ty,pos,af,gd⟩) (K:=⟨K⟩):=by rw[aq_eq]
theorem aop_binOp(b:BinOp)(t:TypeId)(x y:Operand)(u:TypeId)(K:St->Prop):aop G ⟨dst,.binOp b t x y u,ty,pos,af,gd⟩ K st=aBin G K st ⟨dst,.binOp b t x y u,ty,pos,af,gd⟩ b t x y:=propext ⟨fun h=>h,fun h=>h⟩
theorem aq_binOp(b:BinOp)(t:TypeId)(x y:Operand)(u:TypeId)(K:AV->Prop):aq G st ⟨dst,.binOp b t x y u,ty,pos,af,gd⟩ K=Opt (yv G st ⟨dst,.binOp b t x y u,ty,pos,af,gd⟩) (K:=⟨K⟩):=by rw[aq_eq]
theorem aBin_tmp(o:Oper)(b:BinOp)(t:TypeId)(x:Operand)(d:Tmp)(K:St->Prop):aBin G K st o b t x (.tmp d)=Opt (yv G st o) (K:=⟨fun av=>K (st.put o.dst av)⟩):=jct K st o
theorem aBin_int(o:Oper)(b:BinOp)(t:TypeId)(x:Operand)(k:IntKind)(n:Int)(K:St->Prop):aBin G K st o b t x (.const (.int k n))=Opt (yv G st o) (K:=⟨fun av=>K (st.put o.dst av)⟩):=jct K st o
theorem aBin_nil(o:Oper)(b:BinOp)(t:TypeId)(x:Operand)(K:St->Prop):aBin G K st o b t x (.const (.slice none 0 0))=aNil G K st o.dst b t x:=propext ⟨fun h=>h,fun h=>h⟩
theorem aop_box(t:TypeId)(x:Operand)(d:Tmp)(K:St->Prop):aop G ⟨some d,.box t x,ty,pos,af,gd⟩ K st=
  Opt (ivOf (evO (st.lendO x) x)) (K:=⟨fun y=>(cellsOf y).all IV.one=true/\(if G.perm.contains d=true then NewP (cellsOf y).length [cellsOf y] d (K:=⟨K⟩) (A:=⟨(st.lendO x,fun b=> .loc (hp b) (cellsOf y).length 0 0)⟩)else K ((st.lendO x).newRow d (cellsOf y).length [cellsOf y]))⟩):=by
 simp only[aop,Opt];split
 ·rename_i d' y h1 h2;cases h1;rw[h2];rfl
 ·rename_i h1;generalize hy:ivOf (evO (st.lendO x) x)=oy;cases oy with
  | none=>rfl
  | some y=>exact(h1 d y rfl hy).elim
theorem aop_alloc(t:TypeId)(d:Tmp)(K:St->Prop):aop G ⟨some d,.alloc t,ty,pos,af,gd⟩ K st=Opt (jd1 G t) (K:=⟨fun z=>if G.perm.contains d=true then NewP z.length [z] d (K:=⟨K⟩) (A:=⟨(st,fun b=> .loc (hp b) z.length 0 0)⟩)else K (st.newRow d z.length [z])⟩):=by
 simp only[aop,Opt];split
 ·rename_i d' y h1 h2;cases h1;rw[h2];rfl
 ·rename_i h1;generalize hy:jd1 G t=oy;cases oy with
  | none=>rfl
  | some y=>exact(h1 d y rfl hy).elim
theorem aop_store(t:TypeId)(p x:Operand)(K:St->Prop):aop G ⟨dst,.store t p x,ty,pos,af,gd⟩ K st=jnm G K (st.lendO x) dst t p x:=propext ⟨fun h=>h,fun h=>h⟩
theorem aop_makeSlice(t:TypeId)(l c:Operand)(K:St->Prop):aop G ⟨dst,.makeSlice t l c,ty,pos,af,gd⟩ K st=aMake G K st dst t (evO st l) (evO st c):=propext ⟨fun h=>h,fun h=>h⟩
theorem aop_makeFunc(f:Fn)(x y:Array Operand)(K:St->Prop):aop G ⟨dst,.makeFunc f x y,ty,pos,af,gd⟩ K st=
  Opt (yv G (st.lendOs y.toList) ⟨dst,.makeFunc f x y,ty,pos,af,gd⟩) (K:=⟨fun av=>K ((st.lendOs y.toList).put dst av)⟩):=jct K (st.lendOs y.toList) ⟨dst,.makeFunc f x y,ty,pos,af,gd⟩
theorem aop_call(f:Operand)(a1:Array Operand)(ts:Array TypeId)(K:St->Prop):aop G ⟨dst,.call ⟨.value f,a1,ts⟩,ty,pos,af,gd⟩ K st=aCall G K st dst f a1.toList:=propext ⟨fun h=>h,fun h=>h⟩
theorem aq_call(f:Operand)(a1:Array Operand)(ts:Array TypeId)(K:AV->Prop):aq G st ⟨dst,.call ⟨.value f,a1,ts⟩,ty,pos,af,gd⟩ K=
  match evO st f,ivsOf (a1.toList.map (evO st))with
  | .im (.clo g caps),some xs=>CallD G g (xs++caps) (K:=⟨fun r=>K (.im r)⟩)
  | _,_=>False:=(aq_eq st ⟨dst,.call ⟨.value f,a1,ts⟩,ty,pos,af,gd⟩ K).trans (propext ⟨fun h=>h,fun h=>h⟩)
theorem aop_append(a1:Array Operand)(ts:Array TypeId)(K:St->Prop):aop G ⟨dst,.call ⟨.builtin .append,a1,ts⟩,ty,pos,af,gd⟩ K st=jmh G K st dst ts.toList a1.toList:=propext ⟨fun h=>h,fun h=>h⟩
theorem aq_append(a1:Array Operand)(ts:Array TypeId)(K:AV->Prop):aq G st ⟨dst,.call ⟨.builtin .append,a1,ts⟩,ty,pos,af,gd⟩ K=appP G st ts.toList a1.toList K:=by rw[aq_eq]
theorem aop_len(a1:Array Operand)(ts:Array TypeId)(K:St->Prop):aop G ⟨dst,.call ⟨.builtin .len,a1,ts⟩,ty,pos,af,gd⟩ K st=Opt (yv G st ⟨dst,.call ⟨.builtin .len,a1,ts⟩,ty,pos,af,gd⟩) (K:=⟨fun av=>K (st.put dst av)⟩):=jct K st ⟨dst,.call ⟨.builtin .len,a1,ts⟩,ty,pos,af,gd⟩
theorem aq_len(a1:Array Operand)(ts:Array TypeId)(K:AV->Prop):aq G st ⟨dst,.call ⟨.builtin .len,a1,ts⟩,ty,pos,af,gd⟩ K=Opt (yv G st ⟨dst,.call ⟨.builtin .len,a1,ts⟩,ty,pos,af,gd⟩) (K:=⟨K⟩):=by rw[aq_eq]
theorem aop_max(a1:Array Operand)(ts:Array TypeId)(K:St->Prop):aop G ⟨dst,.call ⟨.builtin .max,a1,ts⟩,ty,pos,af,gd⟩ K st=Opt (yv G st ⟨dst,.call ⟨.builtin .max,a1,ts⟩,ty,pos,af,gd⟩) (K:=⟨fun av=>K (st.put dst av)⟩):=jct K st ⟨dst,.call ⟨.builtin .max,a1,ts⟩,ty,pos,af,gd⟩
theorem aAppend_eq(K:St->Prop)(d:Nat)(t t':TypeId)(x y:Operand):jmh G K st (some d) [t,t'] [x,y]=
  match(G.ti t).kind with
  | .sl e=>match ji8 st e (G.ti e).size (evO st x)with
   | some (b,n,es)=>(match jcy (evO st y)with
    | some xs=>t=t'/\(G.ti t).size≠0/\(G.ti e).size≠0/\(G.ti e).bytes≠0/\(∀c∈xs,c.length=(G.ti e).size)/\n<=es.length/\(n+xs.length)*(G.ti e).bytes<=140737488355328/\
     GrowP b (G.ti e).size (es.take n++xs) d e (n+xs.length) (K:=⟨K⟩) (A:=⟨st⟩)
    | none=>False)
   | none=>if G.perm.contains d=true/\isEmp (evO st x)=true then(match jfg st (evO st y)with
    | some xs=>t=t'/\(G.ti t).size≠0/\(G.ti e).size≠0/\(G.ti e).bytes≠0/\(∀c∈xs,c.length=(G.ti e).size)/\xs.length*(G.ti e).bytes<=140737488355328/\xs≠[]/\
     NewP (G.ti e).size xs d (K:=⟨K⟩) (A:=⟨(st,fun b=> .im (.ref b e (G.ti e).size xs.length))⟩)
    | none=>False)else match jtl st e (G.ti e).size d (evO st x),jfg st (evO st y)with
   | some (src,es),some xs=>
    t=t'/\(G.ti t).size≠0/\(G.ti e).size≠0/\(G.ti e).bytes≠0/\(∀c∈es,c.length=(G.ti e).size)/\(∀c∈xs,c.length=(G.ti e).size)/\
    (es.length+xs.length)*(G.ti e).bytes<=140737488355328/\
    K ((tokSt st src d (G.ti e).size (es.length+xs.length)).put (some d) (.vec d e (G.ti e).size (es++xs)))
   | _,_=>False
  | _=>False:=propext ⟨fun h=>h,fun h=>h⟩
theorem aMake_eq(K:St->Prop)(d:Nat)(t:TypeId)(k k':IntKind)(n m:Int):aMake G K st (some d) t (.im (.sc (.int k n))) (.im (.sc (.int k' m)))=
  match(G.ti t).kind with
  | .sl e=>match jd1 G e with
   | some z=>(G.ti t).size≠0/\n=m/\0<=n/\n*(G.ti e).bytes<=140737488355328/\(G.ti e).bytes≠0/\
     (if G.perm.contains d=true then NewP (G.ti e).size (List.replicate n.toNat z) d (K:=⟨K⟩) (A:=⟨(st,fun b=> .im (.ref b e (G.ti e).size (List.replicate n.toNat z).length))⟩)else K (st.newArr d e (G.ti e).size (List.replicate n.toNat z)))
   | none=>False
  | _=>False:=propext ⟨fun h=>h,fun h=>h⟩
theorem aop_lookup(t:TypeId)(m k:Operand)(ok:Bool)(K:St->Prop):aop G ⟨dst,.lookup t m k ok,ty,pos,af,gd⟩ K st=Opt (yv G st ⟨dst,.lookup t m k ok,ty,pos,af,gd⟩) (K:=⟨fun av=>K (st.put dst av)⟩):=jct K st ⟨dst,.lookup t m k ok,ty,pos,af,gd⟩
theorem aq_lookup(t:TypeId)(m k:Operand)(ok:Bool)(K:AV->Prop):aq G st ⟨dst,.lookup t m k ok,ty,pos,af,gd⟩ K=Opt (yv G st ⟨dst,.lookup t m k ok,ty,pos,af,gd⟩) (K:=⟨K⟩):=by rw[aq_eq]
theorem aop_makeMap(t:TypeId)(d:Tmp)(K:St->Prop):aop G ⟨some d,.makeMap t none,ty,pos,af,gd⟩ K st=
  match(G.ti t).kind with
  | .mp kt e=>match keyN G kt with
   | some n=>(G.ti t).size≠0/\K ((tokSt st d d 0 0).put (some d) (.mpo d (n,intK G e) []))
   | none=>False
  | _=>False:=by
 show jkq G K st (some d) t=_;unfold jkq;generalize (G.ti t).kind=k;cases k<;>rfl
theorem aop_mapUpdate(t:TypeId)(m k x:Operand)(K:St->Prop):aop G ⟨dst,.mapUpdate t m k x,ty,pos,af,gd⟩ K st=jqu G K st dst t (evO st m) (evO st k) (evO st x):=propext ⟨fun h=>h,fun h=>h⟩
theorem aMapUp_eq(K:St->Prop)(dst:Option Nat)(t:TypeId)(d:Nat)(sc:Nat×Bool)(kvs:List (List Int×List Int))(k x:AV):jqu G K st dst t (.mpo d sc kvs) k x=
  match keyI k with
  | some ks=>(match valI x with
   | some bv=>(match(G.ti t).kind with
    | .mp kt e=>(G.ti t).size≠0/\look st.toks d=some (0,0)/\keyN G kt=some (nlen ks)/\sc=(nlen ks,bv.1)/\K (St.put {st with fr:=jf8 d sc (mput kvs ks bv.2) st.fr} dst (.im (.sc undef)))
    | _=>False)
   | none=>False)
  | none=>False:=by
 unfold jqu;generalize keyI k=a;generalize valI x=b;cases a with
 | none=>rfl
 | some ks=>cases b with
  | none=>rfl
  | some bv=>rfl
end
theorem hp_lit{n b:Nat}(h:n<100000):(n=hp b)=False:=eq_false (hp_ne h)
theorem hp_lit'{n b:Nat}(h:n<100000):(hp b=n)=False:=eq_false fun e=>hp_ne h e.symm
theorem hp_eq(a b:Nat):(hp a=hp b)=(a=b):=propext hp_inj
theorem hp_ge(b:Nat):(100000<=hp b)=True:=eq_true (by unfold hp;omega)
theorem hp_bne{n b:Nat}(h:n<100000):(hp b !=n)=true:=by
 rw[qh];exact fun e=>hp_ne h e.symm
theorem hp_bne2(a b:Nat):(hp a !=hp b)=(a !=b):=by
 by_cases h:a=b
 ·subst h;simp
 ·rw[(qh).2 h,qh];exact fun e=>h (hp_inj.1 e)
attribute [go_sem ↓] SpApp_ref SpApp_emp SpApp_sx0 aq_append aop_lookup aq_lookup aop_makeMap aop_mapUpdate aMapUp_eq awp_skip awp_seq awp_cond awp_block awp_exit awp_ret awp_loop awp_region awp_draw jqs alist_free alist_guard aheadN_zero aheadN_nil aheadN_free aheadN_guard aheadS_nil aheadS_store aheadS_alloc aStores0_eq freshAll_nil freshAll_alloc mkRows_nil mkRows_alloc aheadS_move freshAll_move mkRows_move aheadS_assign freshAll_assign mkRows_assign aheadS_build freshAll_build mkRows_build aheadS_buildSlice freshAll_buildSlice mkRows_buildSlice aheadS_load freshAll_load mkRows_load aheadS_nilCheck freshAll_nilCheck mkRows_nilCheck aheadS_binOp freshAll_binOp mkRows_binOp aheadS_unOp freshAll_unOp mkRows_unOp aheadS_fieldAddr freshAll_fieldAddr mkRows_fieldAddr aheadS_indexAddr freshAll_indexAddr mkRows_indexAddr aheadS_extract freshAll_extract mkRows_extract aheadS_call freshAll_call mkRows_call freshAll_store mkRows_store aStores_nil aStores_other aStores_store aCall_eq aCall0_eq aStore_eq aBin_tmp aBin_int aBin_nil aNil_eq aop_box aop_alloc aop_store aop_makeSlice aop_makeFunc aop_call aq_call aop_append aop_binOp aq_binOp aop_move aq_move aop_assign aq_assign aop_pick aq_pick aop_unOp aq_unOp aop_nilCheck aq_nilCheck aop_load aq_load aop_fieldAddr aq_fieldAddr aop_field aop_indexAddr aq_indexAddr aop_extract aq_extract aop_build aq_build aop_buildSlice aq_buildSlice aop_convert aop_slice aq_slice aop_len aq_len aop_max jcv zeroIV_eq List.getElem?_cons_succ List.getElem?_cons_zero
attribute [go_sem] mapOf keyI intsI valI ivs elemI_true elemI_false nlen jja yLenM isMp AV.setM jf8 AV.froz St.lendM Prod.mk.injEq or_true true_or isEmp jdt ji7 AV.toArg AV.soft AV.soft2 jci IV.int IV.bool jnb isSl aRetV St.proms St.prom1 AV.forget fgFr St.forget St.ren renFr St.prom jk6 jo6 Opt_some Two_true Two_false Two_not asB yv evO ofV jem St.get St.put look del jcc Go.undef scBin scUn jnl jh8 jpt jpu jl4 scs jgp aggK jbn fillA jcy ivOf ivsOf jes ji9 jhh jmm yLoad noZ List.any_cons List.any_nil jf7 jrr jgd bnd jrp yLen jrq cellsOf IV.one flatB ZC.iv St.fresh AV.purge AV.lend St.lend St.lendO St.lendOs St.newRow St.newArr setRow tokSt jfg jtl St.keep List.getElem?_nil List.length_cons List.length_nil List.map_cons List.map_nil List.foldl_cons List.foldl_nil List.all_cons List.all_nil List.cons_append List.nil_append List.drop_succ_cons List.drop_zero List.take_succ_cons List.take_zero List.set_cons_zero List.set_cons_succ List.filter_cons List.filter_nil List.contains_cons List.contains_nil List.replicate_succ List.replicate_zero List.append_nil Int.natCast_nonneg Int.cast_ofNat_Int Option.getD_some Option.getD_none Option.isSome_some Option.isSome_none Option.map_some Option.map_none Bool.false_eq_true Bool.true_eq_false Bool.not_true Bool.not_false Bool.and_true Bool.true_and Bool.and_false Bool.false_and Bool.or_true Bool.true_or Bool.or_false Bool.false_or beq_self_eq_true bq_true oc_int oc_bool oc_string List.length_map List.size_toArray bq_false aRet resL resIV lendR decide_true decide_false if_true if_false ite_true ite_false ne_eq not_true not_false_iff true_and and_true false_and and_false true_or or_true false_or or_false true_implies forall_const implies_true Nat.zero_add Nat.add_zero Int.toNat_natCast flat1 aAppend_eq aMake_eq
attribute [go_sem] appP nilC jsx isPt jpy
attribute [go_sem] ivE List.isEmpty_nil List.isEmpty_cons Bool.false_and Bool.true_and hp_lit hp_lit' hp_eq hp_ge hp_bne hp_bne2 bne_self_eq_false AV.dp ji8 isHa isFrz ZC.ivG St.addH jdu St.frzOs frzO St.frz AV.frz frz1 frz2 frz3 AV.toH jgw
attribute [go_sem] Int.reduceNegSucc Nat.reduceAdd Nat.reduceSub Nat.reduceMul Nat.reduceEqDiff Nat.reduceLeDiff Nat.reduceLT Nat.reduceBEq Nat.reduceBNe reduceIte reduceCtorEq Int.reduceToNat Int.reduceAdd Int.reduceSub Int.reduceMul Int.reduceNeg Int.reduceLT Int.reduceLE Int.reduceEq Int.reduceNe
end
end Go.Abs
namespace Go.Proofs.YtjcjcpebocbonaaGreat
section
open Go.Abs
def ti:Nat->TI
 | 2=>⟨1,8,[.int .i64],.it .i64,false⟩
 | 3=>⟨1,8,[.int .i64],.it .i64,false⟩
 | 4=>⟨1,1,[.bool],.bl,false⟩
 | 5=>⟨1,1,[.int .u8],.it .u8,false⟩
 | 9=>⟨1,16,[.str],.str,false⟩
 | 12=>⟨1,8,[.int .u64],.it .u64,false⟩
 | 15=>⟨1,8,[.np],.pt,false⟩
 | 16=>⟨1,8,[.np],.pt,false⟩
 | 17=>⟨1,8,[.np],.pt,false⟩
 | 21=>⟨1,4,[.int .i32],.it .i32,false⟩
 | 22=>⟨1,24,[.sl],.sl 3,false⟩
 | 23=>⟨1,24,[.sl],.sl 78,false⟩
 | 24=>⟨4,80,[.int .i64,.sl,.sl,.sl],.st [(0,3),(1,22),(2,23),(3,23)],false⟩
 | 25=>⟨4,80,[.int .i64,.sl,.sl,.sl],.st [(0,3),(1,22),(2,23),(3,23)],false⟩
 | 26=>⟨1,24,[.sl],.sl 115,false⟩
 | 27=>⟨1,24,[.sl],.sl 88,false⟩
 | 28=>⟨1,24,[.sl],.sl 150,false⟩
 | 29=>⟨1,24,[.sl],.sl 57,false⟩
 | 30=>⟨1,24,[.sl],.sl 119,false⟩
 | 31=>⟨8,144,[.int .i64,.int .i64,.int .i64,.sl,.sl,.sl,.sl,.sl],.st [(0,3),(1,3),(2,3),(3,26),(4,27),(5,28),(6,29),(7,30)],false⟩
 | 32=>⟨8,144,[.int .i64,.int .i64,.int .i64,.sl,.sl,.sl,.sl,.sl],.st [(0,3),(1,3),(2,3),(3,26),(4,27),(5,28),(6,29),(7,30)],false⟩
 | 33=>⟨1,24,[.sl],.sl 72,false⟩
 | 38=>⟨1,8,[.int .i64],.it .i64,false⟩
 | 45=>⟨2,32,[.int .i64,.sl],.st [(0,3),(1,22)],false⟩
 | 46=>⟨2,32,[.int .i64,.sl],.st [(0,3),(1,22)],false⟩
 | 47=>⟨4,64,[.int .i64,.sl,.int .i64,.sl],.st [(0,46),(2,46)],false⟩
 | 48=>⟨4,64,[.int .i64,.sl,.int .i64,.sl],.st [(0,46),(2,46)],false⟩
 | 51=>⟨1,24,[.sl],.sl 97,false⟩
 | 56=>⟨2,16,[.int .i64,.int .i64],.st [(0,3),(1,3)],false⟩
 | 57=>⟨2,16,[.int .i64,.int .i64],.st [(0,3),(1,3)],true⟩
 | 66=>⟨5,40,[.int .i64,.int .i64,.int .i64,.int .i64,.int .i64],.st [(0,3),(1,3),(2,3),(3,3),(4,3)],false⟩
 | 67=>⟨5,40,[.int .i64,.int .i64,.int .i64,.int .i64,.int .i64],.st [(0,3),(1,3),(2,3),(3,3),(4,3)],true⟩
 | 69=>⟨1,24,[.sl],.sl 67,false⟩
 | 72=>⟨1,24,[.sl],.sl 48,false⟩
 | 76=>⟨1,8,[.no],.mp 80 3,false⟩
 | 77=>⟨4,32,[.int .i64,.int .i64,.int .i64,.int .i64],.st [(0,3),(1,3),(2,3),(3,3)],false⟩
 | 78=>⟨4,32,[.int .i64,.int .i64,.int .i64,.int .i64],.st [(0,3),(1,3),(2,3),(3,3)],true⟩
 | 79=>⟨3,24,[.int .i64,.int .i64,.int .i64],.arr 3 3,false⟩
 | 80=>⟨3,24,[.int .i64,.int .i64,.int .i64],.arr 3 3,false⟩
 | 85=>⟨1,24,[.sl],.sl 72,false⟩
 | 87=>⟨6,48,[.int .i64,.int .i64,.int .i64,.int .i64,.int .i64,.bool],.st [(0,3),(1,3),(2,3),(3,3),(4,3),(5,4)],false⟩
 | 88=>⟨6,48,[.int .i64,.int .i64,.int .i64,.int .i64,.int .i64,.bool],.st [(0,3),(1,3),(2,3),(3,3),(4,3),(5,4)],true⟩
 | 96=>⟨2,16,[.int .i64,.int .i64],.st [(0,3),(1,3)],false⟩
 | 97=>⟨2,16,[.int .i64,.int .i64],.st [(0,3),(1,3)],true⟩
 | 102=>⟨1,8,[.no],.no,false⟩
 | 114=>⟨3,24,[.int .i64,.int .i64,.int .i64],.st [(0,3),(1,3),(2,3)],false⟩
 | 115=>⟨3,24,[.int .i64,.int .i64,.int .i64],.st [(0,3),(1,3),(2,3)],true⟩
 | 118=>⟨4,32,[.int .i64,.int .i64,.int .i64,.int .i64],.st [(0,3),(1,3),(2,3),(3,3)],false⟩
 | 119=>⟨4,32,[.int .i64,.int .i64,.int .i64,.int .i64],.st [(0,3),(1,3),(2,3),(3,3)],true⟩
 | 121=>⟨8,144,[.int .i64,.int .i64,.sl,.int .i64,.sl,.sl,.sl,.sl],.st [(0,3),(1,48),(5,72),(6,72),(7,72)],false⟩
 | 122=>⟨8,144,[.int .i64,.int .i64,.sl,.int .i64,.sl,.sl,.sl,.sl],.st [(0,3),(1,48),(5,72),(6,72),(7,72)],false⟩
 | 123=>⟨16,288,[.int .i64,.int .i64,.sl,.int .i64,.sl,.sl,.sl,.sl,.int .i64,.int .i64,.sl,.int .i64,.sl,.sl,.sl,.sl],.st [(0,122),(8,122)],false⟩
 | 124=>⟨16,288,[.int .i64,.int .i64,.sl,.int .i64,.sl,.sl,.sl,.sl,.int .i64,.int .i64,.sl,.int .i64,.sl,.sl,.sl,.sl],.st [(0,122),(8,122)],false⟩
 | 127=>⟨10,136,[.int .i64,.sl,.int .i64,.sl,.int .i64,.sl,.int .i64,.sl,.bool,.bool],.st [(0,48),(4,48),(8,4),(9,4)],false⟩
 | 128=>⟨10,136,[.int .i64,.sl,.int .i64,.sl,.int .i64,.sl,.int .i64,.sl,.bool,.bool],.st [(0,48),(4,48),(8,4),(9,4)],false⟩
 | 132=>⟨1,8,[.int .u64],.it .u64,false⟩
 | 141=>⟨1,24,[.sl],.sl 80,false⟩
 | 147=>⟨2,16,[.int .i64,.int .i64],.arr 2 3,false⟩
 | 148=>⟨1,24,[.sl],.sl 147,false⟩
 | 149=>⟨6,48,[.int .i64,.int .i64,.int .i64,.int .i64,.int .i64,.int .i64],.st [(0,3),(1,3),(2,3),(3,3),(4,3),(5,3)],false⟩
 | 150=>⟨6,48,[.int .i64,.int .i64,.int .i64,.int .i64,.int .i64,.int .i64],.st [(0,3),(1,3),(2,3),(3,3),(4,3),(5,3)],true⟩
 | 154=>⟨1,24,[.sl],.sl 180,false⟩
 | 157=>⟨1,24,[.sl],.sl 233,false⟩
 | 158=>⟨2,32,[.int .i64,.sl],.st [(0,3),(1,157)],false⟩
 | 159=>⟨2,32,[.int .i64,.sl],.st [(0,3),(1,157)],false⟩
 | 164=>⟨1,8,[.int .u64],.it .u64,false⟩
 | 177=>⟨1,8,[.no],.no,false⟩
 | 179=>⟨5,72,[.int .i64,.int .i64,.sl,.int .i64,.sl],.st [(0,3),(1,48)],false⟩
 | 180=>⟨5,72,[.int .i64,.int .i64,.sl,.int .i64,.sl],.st [(0,3),(1,48)],false⟩
 | 182=>⟨1,8,[.no],.no,false⟩
 | 183=>⟨1,24,[.sl],.sl 230,false⟩
 | 184=>⟨10,192,[.int .i64,.int .i64,.int .i64,.sl,.sl,.sl,.sl,.sl,.sl,.sl],.st [(0,32),(8,157),(9,183)],false⟩
 | 185=>⟨10,192,[.int .i64,.int .i64,.int .i64,.sl,.sl,.sl,.sl,.sl,.sl,.sl],.st [(0,32),(8,157),(9,183)],false⟩
 | 186=>⟨1,8,[.np],.pt,false⟩
 | 203=>⟨1,8,[.np],.pt,false⟩
 | 221=>⟨1,4,[.int .u32],.it .u32,false⟩
 | 229=>⟨4,32,[.int .i64,.int .i64,.int .i64,.int .i64],.st [(0,3),(1,3),(2,3),(3,3)],false⟩
 | 230=>⟨4,32,[.int .i64,.int .i64,.int .i64,.int .i64],.st [(0,3),(1,3),(2,3),(3,3)],true⟩
 | 232=>⟨6,96,[.sl,.int .i64,.int .i64,.sl,.int .i64,.sl],.st [(0,154),(1,3),(2,48)],false⟩
 | 233=>⟨6,96,[.sl,.int .i64,.int .i64,.sl,.int .i64,.sl],.st [(0,154),(1,3),(2,48)],false⟩
 | 234=>⟨1,24,[.sl],.sl 241,false⟩
 | 235=>⟨1,24,[.sl],.sl 254,false⟩
 | 236=>⟨6,128,[.int .i64,.sl,.sl,.sl,.sl,.sl],.st [(0,3),(1,234),(2,72),(3,22),(4,22),(5,235)],false⟩
 | 237=>⟨6,128,[.int .i64,.sl,.sl,.sl,.sl,.sl],.st [(0,3),(1,234),(2,72),(3,22),(4,22),(5,235)],false⟩
 | 240=>⟨5,88,[.int .i64,.sl,.int .i64,.sl,.sl],.st [(0,48),(4,72)],false⟩
 | 241=>⟨5,88,[.int .i64,.sl,.int .i64,.sl,.sl],.st [(0,48),(4,72)],false⟩
 | 249=>⟨1,8,[.np],.pt,false⟩
 | 253=>⟨2,16,[.int .i64,.bool],.st [(0,3),(1,4)],false⟩
 | 254=>⟨2,16,[.int .i64,.bool],.st [(0,3),(1,4)],true⟩
 | 255=>⟨1,8,[.np],.pt,false⟩
 | 260=>⟨1,8,[.np],.pt,false⟩
 | 274=>⟨1,8,[.np],.pt,false⟩
 | 277=>⟨11,48,[.int .u64,.int .u64,.int .u32,.int .u8,.int .u8,.int .u8,.int .u8,.no,.np,.int .i32,.int .i32],.st [(0,12),(1,12),(2,221),(3,271),(4,5),(5,5),(6,272),(7,273),(8,274),(9,275),(10,276)],false⟩
 | _=>⟨0,0,[],.no,false⟩
noncomputable def G:Ctx:={P:=Tryz.prog,ti:=ti,fns:=199}
theorem G_ti(t:Nat):G.ti t=ti t:=rfl
theorem G_fns:G.fns=199:=rfl
theorem G_perm:G.perm=[]:=rfl
theorem G_frz:G.frz=[]:=rfl
theorem G_emp:G.emp=false:=rfl
noncomputable def GH(p f:List Nat):Ctx:={G with perm:=p,frz:=f,emp:=true}
theorem GH_ti(p f:List Nat)(t:Nat):(GH p f).ti t=ti t:=rfl
theorem GH_fns(p f:List Nat):(GH p f).fns=199:=rfl
theorem GH_perm(p f:List Nat):(GH p f).perm=p:=rfl
theorem GH_frz(p f:List Nat):(GH p f).frz=f:=rfl
theorem GH_emp(p f:List Nat):(GH p f).emp=true:=rfl
theorem ti_2:ti 2=⟨1,8,[.int .i64],.it .i64,false⟩:=rfl
theorem ti_3:ti 3=⟨1,8,[.int .i64],.it .i64,false⟩:=rfl
theorem ti_4:ti 4=⟨1,1,[.bool],.bl,false⟩:=rfl
theorem ti_5:ti 5=⟨1,1,[.int .u8],.it .u8,false⟩:=rfl
theorem ti_9:ti 9=⟨1,16,[.str],.str,false⟩:=rfl
theorem ti_12:ti 12=⟨1,8,[.int .u64],.it .u64,false⟩:=rfl
theorem ti_15:ti 15=⟨1,8,[.np],.pt,false⟩:=rfl
theorem ti_16:ti 16=⟨1,8,[.np],.pt,false⟩:=rfl
theorem ti_17:ti 17=⟨1,8,[.np],.pt,false⟩:=rfl
theorem ti_21:ti 21=⟨1,4,[.int .i32],.it .i32,false⟩:=rfl
theorem ti_22:ti 22=⟨1,24,[.sl],.sl 3,false⟩:=rfl
theorem ti_23:ti 23=⟨1,24,[.sl],.sl 78,false⟩:=rfl
theorem ti_24:ti 24=⟨4,80,[.int .i64,.sl,.sl,.sl],.st [(0,3),(1,22),(2,23),(3,23)],false⟩:=rfl
theorem ti_25:ti 25=⟨4,80,[.int .i64,.sl,.sl,.sl],.st [(0,3),(1,22),(2,23),(3,23)],false⟩:=rfl
theorem ti_26:ti 26=⟨1,24,[.sl],.sl 115,false⟩:=rfl
theorem ti_27:ti 27=⟨1,24,[.sl],.sl 88,false⟩:=rfl
theorem ti_28:ti 28=⟨1,24,[.sl],.sl 150,false⟩:=rfl
theorem ti_29:ti 29=⟨1,24,[.sl],.sl 57,false⟩:=rfl
theorem ti_30:ti 30=⟨1,24,[.sl],.sl 119,false⟩:=rfl
theorem ti_31:ti 31=⟨8,144,[.int .i64,.int .i64,.int .i64,.sl,.sl,.sl,.sl,.sl],.st [(0,3),(1,3),(2,3),(3,26),(4,27),(5,28),(6,29),(7,30)],false⟩:=rfl
theorem ti_32:ti 32=⟨8,144,[.int .i64,.int .i64,.int .i64,.sl,.sl,.sl,.sl,.sl],.st [(0,3),(1,3),(2,3),(3,26),(4,27),(5,28),(6,29),(7,30)],false⟩:=rfl
theorem ti_33:ti 33=⟨1,24,[.sl],.sl 72,false⟩:=rfl
theorem ti_38:ti 38=⟨1,8,[.int .i64],.it .i64,false⟩:=rfl
theorem ti_45:ti 45=⟨2,32,[.int .i64,.sl],.st [(0,3),(1,22)],false⟩:=rfl
theorem ti_46:ti 46=⟨2,32,[.int .i64,.sl],.st [(0,3),(1,22)],false⟩:=rfl
theorem ti_47:ti 47=⟨4,64,[.int .i64,.sl,.int .i64,.sl],.st [(0,46),(2,46)],false⟩:=rfl
theorem ti_48:ti 48=⟨4,64,[.int .i64,.sl,.int .i64,.sl],.st [(0,46),(2,46)],false⟩:=rfl
theorem ti_51:ti 51=⟨1,24,[.sl],.sl 97,false⟩:=rfl
theorem ti_56:ti 56=⟨2,16,[.int .i64,.int .i64],.st [(0,3),(1,3)],false⟩:=rfl
theorem ti_57:ti 57=⟨2,16,[.int .i64,.int .i64],.st [(0,3),(1,3)],true⟩:=rfl
theorem ti_66:ti 66=⟨5,40,[.int .i64,.int .i64,.int .i64,.int .i64,.int .i64],.st [(0,3),(1,3),(2,3),(3,3),(4,3)],false⟩:=rfl
theorem ti_67:ti 67=⟨5,40,[.int .i64,.int .i64,.int .i64,.int .i64,.int .i64],.st [(0,3),(1,3),(2,3),(3,3),(4,3)],true⟩:=rfl
theorem ti_69:ti 69=⟨1,24,[.sl],.sl 67,false⟩:=rfl
theorem ti_72:ti 72=⟨1,24,[.sl],.sl 48,false⟩:=rfl
theorem ti_76:ti 76=⟨1,8,[.no],.mp 80 3,false⟩:=rfl
theorem ti_77:ti 77=⟨4,32,[.int .i64,.int .i64,.int .i64,.int .i64],.st [(0,3),(1,3),(2,3),(3,3)],false⟩:=rfl
theorem ti_78:ti 78=⟨4,32,[.int .i64,.int .i64,.int .i64,.int .i64],.st [(0,3),(1,3),(2,3),(3,3)],true⟩:=rfl
theorem ti_79:ti 79=⟨3,24,[.int .i64,.int .i64,.int .i64],.arr 3 3,false⟩:=rfl
theorem ti_80:ti 80=⟨3,24,[.int .i64,.int .i64,.int .i64],.arr 3 3,false⟩:=rfl
theorem ti_85:ti 85=⟨1,24,[.sl],.sl 72,false⟩:=rfl
theorem ti_87:ti 87=⟨6,48,[.int .i64,.int .i64,.int .i64,.int .i64,.int .i64,.bool],.st [(0,3),(1,3),(2,3),(3,3),(4,3),(5,4)],false⟩:=rfl
theorem ti_88:ti 88=⟨6,48,[.int .i64,.int .i64,.int .i64,.int .i64,.int .i64,.bool],.st [(0,3),(1,3),(2,3),(3,3),(4,3),(5,4)],true⟩:=rfl
theorem ti_96:ti 96=⟨2,16,[.int .i64,.int .i64],.st [(0,3),(1,3)],false⟩:=rfl
theorem ti_97:ti 97=⟨2,16,[.int .i64,.int .i64],.st [(0,3),(1,3)],true⟩:=rfl
theorem ti_102:ti 102=⟨1,8,[.no],.no,false⟩:=rfl
theorem ti_114:ti 114=⟨3,24,[.int .i64,.int .i64,.int .i64],.st [(0,3),(1,3),(2,3)],false⟩:=rfl
theorem ti_115:ti 115=⟨3,24,[.int .i64,.int .i64,.int .i64],.st [(0,3),(1,3),(2,3)],true⟩:=rfl
theorem ti_118:ti 118=⟨4,32,[.int .i64,.int .i64,.int .i64,.int .i64],.st [(0,3),(1,3),(2,3),(3,3)],false⟩:=rfl
theorem ti_119:ti 119=⟨4,32,[.int .i64,.int .i64,.int .i64,.int .i64],.st [(0,3),(1,3),(2,3),(3,3)],true⟩:=rfl
theorem ti_121:ti 121=⟨8,144,[.int .i64,.int .i64,.sl,.int .i64,.sl,.sl,.sl,.sl],.st [(0,3),(1,48),(5,72),(6,72),(7,72)],false⟩:=rfl
theorem ti_122:ti 122=⟨8,144,[.int .i64,.int .i64,.sl,.int .i64,.sl,.sl,.sl,.sl],.st [(0,3),(1,48),(5,72),(6,72),(7,72)],false⟩:=rfl
theorem ti_123:ti 123=⟨16,288,[.int .i64,.int .i64,.sl,.int .i64,.sl,.sl,.sl,.sl,.int .i64,.int .i64,.sl,.int .i64,.sl,.sl,.sl,.sl],.st [(0,122),(8,122)],false⟩:=rfl
theorem ti_124:ti 124=⟨16,288,[.int .i64,.int .i64,.sl,.int .i64,.sl,.sl,.sl,.sl,.int .i64,.int .i64,.sl,.int .i64,.sl,.sl,.sl,.sl],.st [(0,122),(8,122)],false⟩:=rfl
theorem ti_127:ti 127=⟨10,136,[.int .i64,.sl,.int .i64,.sl,.int .i64,.sl,.int .i64,.sl,.bool,.bool],.st [(0,48),(4,48),(8,4),(9,4)],false⟩:=rfl
theorem ti_128:ti 128=⟨10,136,[.int .i64,.sl,.int .i64,.sl,.int .i64,.sl,.int .i64,.sl,.bool,.bool],.st [(0,48),(4,48),(8,4),(9,4)],false⟩:=rfl
theorem ti_132:ti 132=⟨1,8,[.int .u64],.it .u64,false⟩:=rfl
theorem ti_141:ti 141=⟨1,24,[.sl],.sl 80,false⟩:=rfl
theorem ti_147:ti 147=⟨2,16,[.int .i64,.int .i64],.arr 2 3,false⟩:=rfl
theorem ti_148:ti 148=⟨1,24,[.sl],.sl 147,false⟩:=rfl
theorem ti_149:ti 149=⟨6,48,[.int .i64,.int .i64,.int .i64,.int .i64,.int .i64,.int .i64],.st [(0,3),(1,3),(2,3),(3,3),(4,3),(5,3)],false⟩:=rfl
theorem ti_150:ti 150=⟨6,48,[.int .i64,.int .i64,.int .i64,.int .i64,.int .i64,.int .i64],.st [(0,3),(1,3),(2,3),(3,3),(4,3),(5,3)],true⟩:=rfl
theorem ti_154:ti 154=⟨1,24,[.sl],.sl 180,false⟩:=rfl
theorem ti_157:ti 157=⟨1,24,[.sl],.sl 233,false⟩:=rfl
theorem ti_158:ti 158=⟨2,32,[.int .i64,.sl],.st [(0,3),(1,157)],false⟩:=rfl
theorem ti_159:ti 159=⟨2,32,[.int .i64,.sl],.st [(0,3),(1,157)],false⟩:=rfl
theorem ti_164:ti 164=⟨1,8,[.int .u64],.it .u64,false⟩:=rfl
theorem ti_177:ti 177=⟨1,8,[.no],.no,false⟩:=rfl
theorem ti_179:ti 179=⟨5,72,[.int .i64,.int .i64,.sl,.int .i64,.sl],.st [(0,3),(1,48)],false⟩:=rfl
theorem ti_180:ti 180=⟨5,72,[.int .i64,.int .i64,.sl,.int .i64,.sl],.st [(0,3),(1,48)],false⟩:=rfl
theorem ti_182:ti 182=⟨1,8,[.no],.no,false⟩:=rfl
theorem ti_183:ti 183=⟨1,24,[.sl],.sl 230,false⟩:=rfl
theorem ti_184:ti 184=⟨10,192,[.int .i64,.int .i64,.int .i64,.sl,.sl,.sl,.sl,.sl,.sl,.sl],.st [(0,32),(8,157),(9,183)],false⟩:=rfl
theorem ti_185:ti 185=⟨10,192,[.int .i64,.int .i64,.int .i64,.sl,.sl,.sl,.sl,.sl,.sl,.sl],.st [(0,32),(8,157),(9,183)],false⟩:=rfl
theorem ti_186:ti 186=⟨1,8,[.np],.pt,false⟩:=rfl
theorem ti_203:ti 203=⟨1,8,[.np],.pt,false⟩:=rfl
theorem ti_221:ti 221=⟨1,4,[.int .u32],.it .u32,false⟩:=rfl
theorem ti_229:ti 229=⟨4,32,[.int .i64,.int .i64,.int .i64,.int .i64],.st [(0,3),(1,3),(2,3),(3,3)],false⟩:=rfl
theorem ti_230:ti 230=⟨4,32,[.int .i64,.int .i64,.int .i64,.int .i64],.st [(0,3),(1,3),(2,3),(3,3)],true⟩:=rfl
theorem ti_232:ti 232=⟨6,96,[.sl,.int .i64,.int .i64,.sl,.int .i64,.sl],.st [(0,154),(1,3),(2,48)],false⟩:=rfl
theorem ti_233:ti 233=⟨6,96,[.sl,.int .i64,.int .i64,.sl,.int .i64,.sl],.st [(0,154),(1,3),(2,48)],false⟩:=rfl
theorem ti_234:ti 234=⟨1,24,[.sl],.sl 241,false⟩:=rfl
theorem ti_235:ti 235=⟨1,24,[.sl],.sl 254,false⟩:=rfl
theorem ti_236:ti 236=⟨6,128,[.int .i64,.sl,.sl,.sl,.sl,.sl],.st [(0,3),(1,234),(2,72),(3,22),(4,22),(5,235)],false⟩:=rfl
theorem ti_237:ti 237=⟨6,128,[.int .i64,.sl,.sl,.sl,.sl,.sl],.st [(0,3),(1,234),(2,72),(3,22),(4,22),(5,235)],false⟩:=rfl
theorem ti_240:ti 240=⟨5,88,[.int .i64,.sl,.int .i64,.sl,.sl],.st [(0,48),(4,72)],false⟩:=rfl
theorem ti_241:ti 241=⟨5,88,[.int .i64,.sl,.int .i64,.sl,.sl],.st [(0,48),(4,72)],false⟩:=rfl
theorem ti_249:ti 249=⟨1,8,[.np],.pt,false⟩:=rfl
theorem ti_253:ti 253=⟨2,16,[.int .i64,.bool],.st [(0,3),(1,4)],false⟩:=rfl
theorem ti_254:ti 254=⟨2,16,[.int .i64,.bool],.st [(0,3),(1,4)],true⟩:=rfl
theorem ti_255:ti 255=⟨1,8,[.np],.pt,false⟩:=rfl
theorem ti_260:ti 260=⟨1,8,[.np],.pt,false⟩:=rfl
theorem ti_274:ti 274=⟨1,8,[.np],.pt,false⟩:=rfl
theorem ti_277:ti 277=⟨11,48,[.int .u64,.int .u64,.int .u32,.int .u8,.int .u8,.int .u8,.int .u8,.no,.np,.int .i32,.int .i32],.st [(0,12),(1,12),(2,221),(3,271),(4,5),(5,5),(6,272),(7,273),(8,274),(9,275),(10,276)],false⟩:=rfl
attribute [go_sem] G_ti G_fns ti_2 ti_3 ti_4 ti_5 ti_9 ti_12 ti_15 ti_16 ti_17 ti_21 ti_22 ti_23 ti_24 ti_25 ti_26 ti_27 ti_28 ti_29 ti_30 ti_31 ti_32 ti_33 ti_38 ti_45 ti_46 ti_47 ti_48 ti_51 ti_56 ti_57 ti_66 ti_67 ti_69 ti_72 ti_76 ti_77 ti_78 ti_79 ti_80 ti_85 ti_87 ti_88 ti_96 ti_97 ti_102 ti_114 ti_115 ti_118 ti_119 ti_121 ti_122 ti_123 ti_124 ti_127 ti_128 ti_132 ti_141 ti_147 ti_148 ti_149 ti_150 ti_154 ti_157 ti_158 ti_159 ti_164 ti_177 ti_179 ti_180 ti_182 ti_183 ti_184 ti_185 ti_186 ti_203 ti_221 ti_229 ti_230 ti_232 ti_233 ti_234 ti_235 ti_236 ti_237 ti_240 ti_241 ti_249 ti_253 ti_254 ti_255 ti_260 ti_274 ti_277 G_perm G_frz G_emp GH_ti GH_fns GH_perm GH_frz GH_emp
theorem ti_big(t:Nat)(h:280<=t):ti t=⟨0,0,[],.no,false⟩:=by
 unfold ti;split<;>first | omega | rfl
theorem ti_ok:((List.range 280).all fun t=>(ti t).size==0 || (ti t).okB Tryz.prog t)=true:=by kernel_rfl
theorem fn_ok:((List.range 199).all fun f=>decide (f<3) || jkn Tryz.prog f)=true:=by kernel_rfl
theorem jsn:Tryz.prog.follows .mixedOrders=true:=by kernel_rfl
theorem good:G.Good where
 ok t ht:=by
  rcases zU t 280 with h | h
  ·have:=List.all_eq_true.1 ti_ok t (qw.2 h);simp only[qp,yC]at this;exact this.resolve_left ht
  ·exact absurd (by rw[G_ti,ti_big t h]) ht
 fn f hf:=by
  have:=List.all_eq_true.1 fn_ok f (qw.2 hf.2);simp only[qp,zN]at this;exact this.resolve_left (by omega)
 mixed:=jsn
theorem goodH(p f:List Nat):(GH p f).Good where
 ok:=good.ok
 fn:=good.fn
 mixed:=jsn
theorem knG_80:keyN G 80=some 3:=by rfl
attribute [go_sem] knG_80
theorem ikG_3:intK G 3=true:=by rfl
attribute [go_sem] ikG_3
theorem zeG_3:zeroE G 3=some (.sc (.int .i64 0)):=by rfl
attribute [go_sem] zeG_3
theorem ja3{f:FuncId}{args:List IV}{φ:IV->Prop}{fn:Func}{c:Code}(rs:List ResultVar)(hf:G.P.funcs[f]? =some fn)(h:awp G c (fun e s=>match e with | .normal=>aRet G rs φ s | .ret=>aRet G rs φ s | _=>False) (jci args))(hb:fn.body=some c:=by exact rfl)(hr:fn.results.toList=rs:=by exact rfl)(hd:dstC fn.ntmps c=true:=by decide+kernel)(hn:Nat.ble args.length fn.ntmps=true:=by exact rfl):Ctr G.P f args φ:=ctr_go good fn c rs hf hb hr hd hn h
theorem jap{f:FuncId}{args:List AV}{L:Abs.Rows}{φ:AV->Abs.Rows->Prop}{fn:Func}{c:Code}(p q:List Nat)(rs:List ResultVar)(hf:(GH p q).P.funcs[f]? =some fn)(h:awp (GH p q) c (fun x st=>match x with | .normal=> @RetH (GH p q) rs st ⟨φ⟩ | .ret=> @RetH (GH p q) rs st ⟨φ⟩ | _=>False) (jdt args L))(hb:fn.body=some c:=by exact rfl)(hr:fn.results.toList=rs:=by exact rfl)(hd:dstC fn.ntmps c=true:=by decide+kernel)(hn:Nat.ble args.length fn.ntmps=true:=by exact rfl):CtrH (GH p q).P f args L φ:=ctrh_go (goodH p q) fn c rs hf hb hr hd hn h
end
section
set_option maxRecDepth 1000000
open Go.Abs
def idx(i n:Int):Bool:=decide (0<=i)&&decide (i<n)
def btw(n a b:Int):Bool:=decide (a<=n)&&decide (n<=b)
theorem idx_iff{i n:Int}:idx i n=true↔0<=i/\i<n:=by simp[idx]
theorem btw_iff{n a b:Int}:btw n a b=true↔a<=n/\n<=b:=by simp[btw]
theorem c68(n a b:Int):Ctr G.P 83 [.int n,.int a,.int b] (· = .bool (btw n a b)):=by
 unfold btw;refine ja3 [.tmp 6] Tryz.func83 ?_;simp only[go_sem]
 repeat' (refine jbp (fun hd hp=> ?_) (fun hd hp=> ?_)<;>simp only[hd,go_sem])
theorem c67(i n:Int):Ctr G.P 63 [.int i,.int n] (· = .bool (idx i n)):=by
 unfold idx;refine ja3 [.tmp 4] Tryz.func63 ?_;simp only[go_sem]
 repeat' (refine jbp (fun hd hp=> ?_) (fun hd hp=> ?_)<;>simp only[hd,go_sem])
attribute [irreducible] idx btw
end
section
set_option maxRecDepth 1000000
open Go.Abs
def ic(n:Int):List IV:=[.int n]
def ints(l:List Int):IV:= .sl (l.map ic)
theorem jdf{n:Int}(h: -9223372036854775808<=n/\n<=9223372036854775807):IntKind.i64.wrap n=n:=IntWalk.i64_in n h
theorem ja8(n:Int)(h: -9223372036854775808<=n/\n<=9223372036854775807:=by omega):IntKind.i64.wrap n=n:=jdf h
end
section
set_option maxRecDepth 1000000
open Go.Abs
structure Bat where
 mat:Int
 mv:List Int
deriving Inhabited
structure Pap where
 bat:Int
 grams:Int
 own:Int
 ret:Bool
 gone:Bool
deriving Inhabited,DecidableEq
structure Led where
 bs:List Bat
 ps:List Pap
deriving Inhabited
def Bat.c(b:Bat):List IV:=[.int b.mat,ints b.mv]
def Pap.c(x:Pap):List IV:=[.int x.bat,.int x.grams,.int x.own,.bool x.ret,.bool x.gone]
def Led.c(p:Led):List IV:=[.sl (p.bs.map Bat.c),.sl (p.ps.map Pap.c)]
def riseGo(n:Int):Int->List Int->Bool
 | _,[]=>true
 | last,i::r=>decide (last<i)&&(decide (i<n)&&riseGo n i r)
def riseF(l:List Int)(n:Int):Bool:=riseGo n (-1) l&&decide (0<l.length)
def overF(a b:Bat):Bool:=decide (a.mat=b.mat)&&a.mv.any fun i=>b.mv.contains i
def batOk(pre:List Bat)(b:Bat):Bool:=btw b.mat 0 5&&(riseF b.mv 200&& !pre.any fun a=>overF a b)
def batsGo:List Bat->List Bat->Bool
 | _,[]=>true
 | pre,b::r=>batOk pre b&&batsGo (pre++[b]) r
def papOk(n:Int)(x:Pap):Bool:=btw x.bat 0 (n-1)&&(btw x.grams 1 1099511627776&&(btw x.own 0 999&& !(x.ret&&x.gone)))
def prightF(p:Led):Bool:=decide (p.bs.length<=40)&&(decide (p.ps.length<=300)&&(batsGo [] p.bs&&p.ps.all (papOk p.bs.length)))
def sumG(f:Pap->Bool):List Pap->Int
 | []=>0
 | x::r=>(if f x=true then x.grams else 0)+sumG f r
def totF(p:Led)(k:Int):Int:=if prightF p=true then sumG (fun x=>decide (x.bat=k)&& !x.gone) p.ps else 0
structure KeptL(p q:Led)(i j:Int):Prop where
 right:prightF q=true
 bs:q.bs=p.bs
 len:p.ps.length<=q.ps.length
 tot:∀k,totF q k=totF p k
 pap:∀(k:Nat) (x:Pap),p.ps[k]? =some x->∃y:Pap,q.ps[k]? =some y/\y.bat=x.bat/\y.grams=x.grams/\((k:Int)≠i->(k:Int)≠j->y=x)
end
section
set_option maxRecDepth 1000000
open Go.Abs
def tk(k:Int)(x:Pap):Bool:=decide (x.bat=k)&& !x.gone
section
variable{p q:Led}{b i j n:Int}
end
end
section
set_option maxRecDepth 1000000
open Go.Abs
def rk(k:Int)(x:Pap):Bool:=x.ret&&decide (x.bat=k)
section
variable{p:Led}{cert:List Int}
end
end
section
set_option maxRecDepth 1000000
open Go.Abs
structure Place where
 (kind house mat:Int)
 deriving DecidableEq,Inhabited
structure Move where
 (day fr to scale reading:Int)
 all:Bool
 deriving DecidableEq,Inhabited
structure Cert where
 (scale fr until' grams perMille drift:Int)
 deriving DecidableEq,Inhabited
structure Recall where
 (scale since:Int)
 deriving DecidableEq,Inhabited
structure Purity where
 (move mat least most:Int)
 deriving DecidableEq,Inhabited
structure Evid where
 (mats houses scales:Int)
 places:List Place
 moves:List Move
 certs:List Cert
 recalls:List Recall
 purs:List Purity
 deriving DecidableEq,Inhabited
structure Sample where
 move:Int
 grams:List Int
 slack:Int
 deriving DecidableEq,Inhabited
structure Recipe where
 (fr to mat least most:Int)
 deriving DecidableEq,Inhabited
def Place.c(p:Place):List IV:=[.int p.kind,.int p.house,.int p.mat]
def Move.c(p:Move):List IV:=[.int p.day,.int p.fr,.int p.to,.int p.scale,.int p.reading,.bool p.all]
def Cert.c(p:Cert):List IV:=[.int p.scale,.int p.fr,.int p.until',.int p.grams,.int p.perMille,.int p.drift]
def Recall.c(p:Recall):List IV:=[.int p.scale,.int p.since]
def Purity.c(p:Purity):List IV:=[.int p.move,.int p.mat,.int p.least,.int p.most]
def Sample.c(p:Sample):List IV:=[.int p.move,ints p.grams,.int p.slack]
def Recipe.c(p:Recipe):List IV:=[.int p.fr,.int p.to,.int p.mat,.int p.least,.int p.most]
def Evid.c(e:Evid):List IV:=[.int e.mats,.int e.houses,.int e.scales,.sl (e.places.map Place.c),.sl (e.moves.map Move.c),.sl (e.certs.map Cert.c),.sl (e.recalls.map Recall.c),.sl (e.purs.map Purity.c)]
def Evid.iv(e:Evid):IV:= .agg e.c
theorem Place.len(p:Place):p.c.length=3:=rfl
theorem Move.len(p:Move):p.c.length=6:=rfl
theorem Cert.len(p:Cert):p.c.length=6:=rfl
theorem Recall.len(p:Recall):p.c.length=2:=rfl
theorem Purity.len(p:Purity):p.c.length=4:=rfl
theorem Sample.len(p:Sample):p.c.length=3:=rfl
theorem Recipe.len(p:Recipe):p.c.length=5:=rfl
theorem take_succ{α:Type}{l:List α}{i:Nat}{x:α}(h:l[i]? =some x):l.take (i+1)=l.take i++[x]:=by
 rw[yo,h];rfl
end
section
set_option maxRecDepth 1000000
open Go.Abs
attribute [local go_sem] Evid.iv Evid.c Place.c Move.c Cert.c Recall.c Purity.c Sample.c Recipe.c ints ic
theorem jcn{α:Type}{l:List α}{f:α->Bool}{i:Nat}{x:α}(h:l[i]? =some x):(l.take (i+1)).all f=((l.take i).all f&&f x):=by
 rw[take_succ h,List.all_append];simp
theorem jfx{α:Type}{l:List α}{f:α->Bool}{i:Nat}{x:α}(h:l[i]? =some x)(hf:f x=false):l.all f=false:=by
 rw[ww];exact⟨x,zk h,by simp[hf]⟩
def jio(e:Evid)(p:Place):Bool:=idx p.kind 7&&(if p.kind=0 then idx p.house e.houses&&idx p.mat e.mats else decide (p.house= -1)&&decide (p.mat= -1))
theorem c47(e:Evid)(hl:e.places.length<=1000):Ctr G.P 56 [e.iv] (· = .bool (e.places.all (jio e))):=by
 refine ja3 [.tmp 2] Tryz.func56 ?_;unfold Evid.iv Evid.c;simp only[go_sem];refine jai [1,6,7,8] [1] (fun i:Nat=>⟨[(1,.loc 1 8 0 0),(6,.im (.sl (e.places.map Place.c))),(7,.im (.int e.places.length)),(8,.im (.int i))],[(1,8,[e.c])],[]⟩)
  (fun i=>i<=e.places.length/\(e.places.take i).all (jio e)=true) (fun i=>e.places.length-i) 0 ?_ ⟨zG _,rfl⟩ ?_
 ·simp only[Evid.c,Int.natCast_zero,go_sem]
 ·intro i ⟨hi,ha⟩;simp only[go_sem];refine jbp (fun hd hp=> ?_) (fun hd hp=> ?_)
  ·obtain⟨x,hx⟩:∃x,e.places[i]? =some x:=⟨_,za (by omega)⟩;have h1:=ja8 ((i:Int)+1);have a1:=jcn (f:=jio e) hx;simp only[hd,zq,hx,Place.c,Evid.c,go_sem]
   repeat' (first | (refine jc5 (fun hd=> ?_) (fun hd=> ?_)<;>simp only[*,go_sem]) | (refine jc1 (c67 _ _) (by first | decide | assumption) ?_;simp only[*,go_sem]) | (refine ja4 (c67 _ _) (by decide) ?_;simp only[*,go_sem]))
   all_goals first
    | (refine ja7 (i+1) ?_ ?_ ⟨?_,?_⟩
       ·simp only[h1,Evid.c,Int.natCast_add,go_sem]
       ·omega
       ·omega
       ·rw[a1,ha,qA];clear a1 ha h1;simp_all[jio]
       done)
    | (rw[jfx hx (by clear a1 ha h1;simp_all[jio])];done)
  ·simp only[hd,go_sem];rw[tLo]at ha;rw[ha]
end
section
set_option maxRecDepth 1000000
open Go.Abs
attribute [local go_sem] Evid.iv Evid.c Place.c Move.c Cert.c Recall.c Purity.c Sample.c Recipe.c ints ic
end
section
set_option maxRecDepth 1000000
open Go.Abs
attribute [local go_sem] Evid.iv Evid.c Place.c Move.c Cert.c Recall.c Purity.c Sample.c Recipe.c ints ic
end
section
set_option maxRecDepth 1000000
open Go.Abs
attribute [local go_sem] Evid.iv Evid.c Place.c Move.c Cert.c Recall.c Purity.c Sample.c Recipe.c ints ic
def pairC(p:Int×Int):List IV:=[.int p.1,.int p.2]
def pairs(e:Evid):List (Int×Int):=[(e.mats,6),(e.houses,100),(e.scales,30),(e.places.length,100),(e.moves.length,200),(e.certs.length,100),(e.recalls.length,30),(e.purs.length,200)]
def fitP(p:Int×Int):Bool:= !decide (p.2<p.1)
theorem c46(e:Evid):Ctr G.P 55 [e.iv] (· = .bool (!(pairs e).all fitP)):=by
 refine ja3 [.tmp 2] Tryz.func55 ?_;unfold Evid.iv Evid.c;simp only[go_sem];refine jai [34,35,36] [] (fun i:Nat=>⟨[(34,.sx ((pairs e).map pairC)),(35,.im (.int 8)),(36,.im (.int i))],[],[]⟩)
  (fun i=>i<=8/\((pairs e).take i).all fitP=true) (fun i=>8-i) 0 ?_ ⟨zG _,rfl⟩ ?_
 ·simp only[pairs,pairC,Int.natCast_zero,go_sem]
 ·intro i ⟨hi,ha⟩;simp only[go_sem];refine jbp (fun hd hp=> ?_) (fun hd hp=> ?_)
  ·obtain⟨x,hx⟩:∃x,(pairs e)[i]? =some x:=⟨_,za (by simp[pairs];omega)⟩;have h1:=ja8 ((i:Int)+1);have a1:=jcn (f:=fitP) hx;simp only[hd,zq,hx,pairC,go_sem]
   repeat' (first | (refine jc5 (fun hd=> ?_) (fun hd=> ?_)<;>simp only[*,go_sem]) | (refine jc1 (c67 _ _) (by first | decide | assumption) ?_;simp only[*,go_sem]) | (refine ja4 (c67 _ _) (by decide) ?_;simp only[*,go_sem]))
   all_goals first
    | (refine ja7 (i+1) ?_ ?_ ⟨?_,?_⟩
       ·simp only[h1,Int.natCast_add,go_sem]
       ·omega
       ·omega
       ·rw[a1,ha,qA];clear a1 ha h1;simp_all[fitP]
       done)
    | (rw[jfx hx (by clear a1 ha h1;simp_all[fitP])];rfl)
  ·simp only[hd,go_sem];rw[zZ (by simp[pairs];omega)]at ha;rw[ha];simp only[go_sem]
end
section
set_option maxRecDepth 1000000
open Go.Abs
attribute [local go_sem] Evid.iv Evid.c Place.c Move.c Cert.c Recall.c Purity.c Sample.c Recipe.c ints ic
def ji0(e:Evid)(i:Int):Int:=match e.places[i.toNat]? with
 | some p=>p.kind
 | none=>0
theorem jlo{e:Evid}{i:Int}{p:Place}(h:e.places[i.toNat]? =some p):ji0 e i=p.kind:=by simp[ji0,h]
def moveF(e:Evid)(m:Move):Bool:=
 idx m.fr e.places.length&&idx m.to e.places.length&& !decide (m.fr=m.to)&& !decide (ji0 e m.fr=5)&& !decide (ji0 e m.fr=6)&& !(decide (ji0 e m.fr=0)&&m.all)&& !decide (ji0 e m.to=0)&&
  (if m.scale= -1 then decide (m.reading=0)else idx m.scale e.scales&&btw m.reading 0 1099511627776)
theorem at_idx{α:Type}{l:List α}{i:Int}(h:idx i l.length=true):∃x,l[i.toNat]? =some x/\0<=i:=by
 rw[idx_iff]at h;exact⟨_,za (by omega),h.1⟩
theorem c48(e:Evid)(m:Move):Ctr G.P 57 [e.iv,.agg m.c] (· = .bool (moveF e m)):=by
 rcases hf:idx m.fr e.places.length with _ | _
 ·have hm:moveF e m=false:=by simp[moveF,hf]
  refine ja3 [.tmp 4] Tryz.func57 ?_;unfold Evid.iv Evid.c Move.c;rw[hm];simp only[go_sem]
  repeat' (first | (refine jc5 (fun hd=> ?_) (fun hd=> ?_)<;>simp only[*,go_sem]) | (refine jc1 (c67 _ _) (by first | decide | assumption) ?_;simp only[*,go_sem]) | (refine ja4 (c67 _ _) (by decide) ?_;simp only[*,go_sem]))
 ·obtain⟨p,hp,h0⟩:=at_idx hf;have a6:=jlo hp;rcases ht:idx m.to e.places.length with _ | _
  ·have hm:moveF e m=false:=by simp[moveF,ht]
   refine ja3 [.tmp 4] Tryz.func57 ?_;unfold Evid.iv Evid.c Move.c;rw[hm];simp only[go_sem]
   repeat' (first | (refine jc5 (fun hd=> ?_) (fun hd=> ?_)<;>simp only[*,go_sem]) | (refine jc1 (c67 _ _) (by first | decide | assumption) ?_;simp only[*,go_sem]) | (refine ja4 (c67 _ _) (by decide) ?_;simp only[*,go_sem]))
  ·obtain⟨q,hq,h1⟩:=at_idx ht;have a1:=jlo hq;have hm:moveF e m=(!decide (m.fr=m.to)&& !decide (p.kind=5)&& !decide (p.kind=6)&& !(decide (p.kind=0)&&m.all)&& !decide (q.kind=0)&&
    (if m.scale= -1 then decide (m.reading=0)else idx m.scale e.scales&&btw m.reading 0 1099511627776)):=by simp[moveF,hf,ht,a6,a1]
   refine ja3 [.tmp 4] Tryz.func57 ?_;unfold Evid.iv Evid.c Move.c;rw[hm];clear hm a6 a1;simp only[go_sem]
   repeat' (first | (refine jc5 (fun hd=> ?_) (fun hd=> ?_)<;>simp only[*,zq,Place.c,go_sem]) | (refine jc1 (c67 _ _) (by first | decide | assumption) ?_;simp only[*,zq,Place.c,go_sem]) | (refine jc1 (c68 _ _ _) (by first | decide | assumption) ?_;simp only[*,zq,Place.c,go_sem]) | (refine ja4 (c67 _ _) (by decide) ?_;simp only[*,zq,Place.c,go_sem]) | (refine ja4 (c68 _ _ _) (by decide) ?_;simp only[*,zq,Place.c,go_sem]))
   all_goals simp_all
end
section
set_option maxRecDepth 1000000
open Go.Abs
attribute [local go_sem] Evid.iv Evid.c Place.c Move.c Cert.c Recall.c Purity.c Sample.c Recipe.c ints ic
def certF(e:Evid)(c:Cert):Bool:=decide (0<=c.fr)&&decide (c.fr<=c.until')&&decide (c.until'<=100000)&&idx c.scale e.scales&&btw c.grams 0 1099511627776&&btw c.perMille 0 1000&&btw c.drift 0 10000000
def jji(e:Evid)(r:Recall):Bool:=idx r.scale e.scales&&btw r.since 0 100000
def purF(e:Evid)(p:Purity):Bool:=idx p.move e.moves.length&&idx p.mat e.mats&& !decide (p.least<0)&& !decide (p.most<p.least)&& !decide (1000<p.most)
def saidF(e:Evid):Bool:=e.certs.all (certF e)&&e.recalls.all (jji e)&&e.purs.all (purF e)
theorem jcf{α:Type}{l:List α}{i:Nat}(h:(i:Int)<l.length):∃x,l[i]? =some x:=⟨_,za (by omega)⟩
theorem c49(e:Evid)(h5:e.certs.length<=1000)(h6:e.recalls.length<=1000)(h7:e.purs.length<=1000):Ctr G.P 58 [e.iv] (· = .bool (saidF e)):=by
 refine ja3 [.tmp 2] Tryz.func58 ?_;unfold Evid.iv Evid.c;simp only[go_sem];refine jai [1,11,12,13] [1] (fun i:Nat=>⟨[(1,.loc 1 8 0 0),(11,.im (.sl (e.certs.map Cert.c))),(12,.im (.int e.certs.length)),(13,.im (.int i))],[(1,8,[e.c])],[]⟩)
  (fun i=>i<=e.certs.length/\(e.certs.take i).all (certF e)=true) (fun i=>e.certs.length-i) 0 ?_ ⟨zG _,rfl⟩ ?_
 ·simp only[Evid.c,Int.natCast_zero,go_sem]
 ·intro i ⟨hi,ha⟩;by_cases hp:(i:Int)<e.certs.length
  ·have hd:decide ((i:Int)<e.certs.length)=true:=zp hp;obtain⟨x,hx⟩:=jcf hp;have h1:=ja8 ((i:Int)+1);have a1:=jcn (f:=certF e) hx;have hn:certF e x=false->saidF e=false:=fun h=>by simp[saidF,jfx hx h]
   simp only[hd,zq,hx,Cert.c,Evid.c,go_sem]
   repeat' (first | (refine jc5 (fun hd=> ?_) (fun hd=> ?_)<;>simp only[*,go_sem]) | (refine jc1 (c67 _ _) (by first | decide | assumption) ?_;simp only[*,go_sem]) | (refine jc1 (c68 _ _ _) (by first | decide | assumption) ?_;simp only[*,go_sem]) | (refine ja4 (c67 _ _) (by decide) ?_;simp only[*,go_sem]) | (refine ja4 (c68 _ _ _) (by decide) ?_;simp only[*,go_sem]))
   all_goals first
    | (refine ja7 (i+1) ?_ ?_ ⟨?_,?_⟩
       ·simp only[h1,Evid.c,Int.natCast_add,go_sem]
       ·omega
       ·omega
       ·rw[a1,ha,qA];clear hn a1 ha h1;simp_all[certF]
       done)
    | (rw[hn (by clear hn a1 ha h1;simp_all[certF]<;>(intros;omega))];done)
  ·have hd:decide ((i:Int)<e.certs.length)=false:=zh hp;rw[tLo]at ha;simp only[hd,Evid.c,go_sem];clear hd hp hi;refine jai [1,62,63,64] [1] (fun i:Nat=>⟨[(1,.loc 1 8 0 0),(62,.im (.sl (e.recalls.map Recall.c))),(63,.im (.int e.recalls.length)),(64,.im (.int i))],[(1,8,[e.c])],[]⟩)
    (fun i=>i<=e.recalls.length/\(e.recalls.take i).all (jji e)=true) (fun i=>e.recalls.length-i) 0 ?_ ⟨zG _,rfl⟩ ?_
   ·simp only[Evid.c,Int.natCast_zero,go_sem]
   ·intro i ⟨hi,hb⟩;by_cases hp:(i:Int)<e.recalls.length
    ·have hd:decide ((i:Int)<e.recalls.length)=true:=zp hp;obtain⟨x,hx⟩:=jcf hp;have h1:=ja8 ((i:Int)+1);have a1:=jcn (f:=jji e) hx;have hn:jji e x=false->saidF e=false:=fun h=>by simp[saidF,jfx hx h]
     simp only[hd,zq,hx,Recall.c,Evid.c,go_sem]
     repeat' (first | (refine jc5 (fun hd=> ?_) (fun hd=> ?_)<;>simp only[*,go_sem]) | (refine jc1 (c67 _ _) (by first | decide | assumption) ?_;simp only[*,go_sem]) | (refine jc1 (c68 _ _ _) (by first | decide | assumption) ?_;simp only[*,go_sem]) | (refine ja4 (c67 _ _) (by decide) ?_;simp only[*,go_sem]) | (refine ja4 (c68 _ _ _) (by decide) ?_;simp only[*,go_sem]))
     all_goals first
      | (refine ja7 (i+1) ?_ ?_ ⟨?_,?_⟩
         ·simp only[h1,Evid.c,Int.natCast_add,go_sem]
         ·omega
         ·omega
         ·rw[a1,hb,qA];clear hn a1 hb h1;simp_all[jji]
         done)
      | (rw[hn (by clear hn a1 hb h1;simp_all[jji])];done)
    ·have hd:decide ((i:Int)<e.recalls.length)=false:=zh hp;rw[tLo]at hb;simp only[hd,Evid.c,go_sem];clear hd hp hi;refine jai [1,82,83,84] [1] (fun i:Nat=>⟨[(1,.loc 1 8 0 0),(82,.im (.sl (e.purs.map Purity.c))),(83,.im (.int e.purs.length)),(84,.im (.int i))],[(1,8,[e.c])],[]⟩)
      (fun i=>i<=e.purs.length/\(e.purs.take i).all (purF e)=true) (fun i=>e.purs.length-i) 0 ?_ ⟨zG _,rfl⟩ ?_
     ·simp only[Evid.c,Int.natCast_zero,go_sem]
     ·intro i ⟨hi,hc⟩;by_cases hp:(i:Int)<e.purs.length
      ·have hd:decide ((i:Int)<e.purs.length)=true:=zp hp;obtain⟨x,hx⟩:=jcf hp;have h1:=ja8 ((i:Int)+1);have a1:=jcn (f:=purF e) hx;have hn:purF e x=false->saidF e=false:=fun h=>by simp[saidF,jfx hx h]
       simp only[hd,zq,hx,Purity.c,Evid.c,go_sem]
       repeat' (first | (refine jc5 (fun hd=> ?_) (fun hd=> ?_)<;>simp only[*,go_sem]) | (refine jc1 (c67 _ _) (by first | decide | assumption) ?_;simp only[*,go_sem]) | (refine jc1 (c68 _ _ _) (by first | decide | assumption) ?_;simp only[*,go_sem]) | (refine ja4 (c67 _ _) (by decide) ?_;simp only[*,go_sem]) | (refine ja4 (c68 _ _ _) (by decide) ?_;simp only[*,go_sem]))
       all_goals first
        | (refine ja7 (i+1) ?_ ?_ ⟨?_,?_⟩
           ·simp only[h1,Evid.c,Int.natCast_add,go_sem]
           ·omega
           ·omega
           ·rw[a1,hc,qA];clear hn a1 hc h1;simp_all[purF]
           done)
        | (rw[hn (by clear hn a1 hc h1;simp_all[purF])];done)
      ·have hd:decide ((i:Int)<e.purs.length)=false:=zh hp;rw[tLo]at hc;simp only[hd,go_sem];simp[saidF,ha,hb,hc]
