/- A part of the proof. No further condition. -/
import Derived.Test.YtdhlmmoicchgpaaGreatKV9
import Derived.Attr
import Derived.Test.YtdhlmmoicchgpaaGreatProg
import Derived.KernelRfl
import Derived.IntWalk
set_option linter.all false
set_option maxRecDepth 10000000
set_option maxHeartbeats 16000000
namespace Go.Abs
section
section
variable{G:Ctx}
variable(dst:Option Tmp)(ty:TypeId)(pos:String)(af:Array Edge)(gd:Option (Nat×Bool))(st:St)(ops:List Oper)(r:List Oper)
theorem aop_move(x:Operand)(K:St->Prop):aop G ⟨dst,.move x,ty,pos,af,gd⟩ K st=Opt (yv G st ⟨dst,.move x,ty,pos,af,gd⟩) (K:=⟨fun av=>K (st.put dst av)⟩):=jd4 K st ⟨dst,.move x,ty,pos,af,gd⟩
theorem aq_move(x:Operand)(K:AV->Prop):aq G st ⟨dst,.move x,ty,pos,af,gd⟩ K=Opt (yv G st ⟨dst,.move x,ty,pos,af,gd⟩) (K:=⟨K⟩):=by rw[aq_eq]
theorem aop_assign(x:Operand)(K:St->Prop):aop G ⟨dst,.assign x,ty,pos,af,gd⟩ K st=Opt (yv G st ⟨dst,.assign x,ty,pos,af,gd⟩) (K:=⟨fun av=>K (st.put dst av)⟩):=jd4 K st ⟨dst,.assign x,ty,pos,af,gd⟩
theorem aq_assign(x:Operand)(K:AV->Prop):aq G st ⟨dst,.assign x,ty,pos,af,gd⟩ K=Opt (yv G st ⟨dst,.assign x,ty,pos,af,gd⟩) (K:=⟨K⟩):=by rw[aq_eq]
theorem aop_pick(c a b:Operand)(K:St->Prop):aop G ⟨dst,.pick c a b,ty,pos,af,gd⟩ K st=Opt (yv G st ⟨dst,.pick c a b,ty,pos,af,gd⟩) (K:=⟨fun av=>K (st.put dst av)⟩):=jd4 K st ⟨dst,.pick c a b,ty,pos,af,gd⟩
theorem aq_pick(c a b:Operand)(K:AV->Prop):aq G st ⟨dst,.pick c a b,ty,pos,af,gd⟩ K=Opt (yv G st ⟨dst,.pick c a b,ty,pos,af,gd⟩) (K:=⟨K⟩):=by rw[aq_eq]
theorem aop_unOp(u:UnOp)(t:TypeId)(x:Operand)(K:St->Prop):aop G ⟨dst,.unOp u t x,ty,pos,af,gd⟩ K st=Opt (yv G st ⟨dst,.unOp u t x,ty,pos,af,gd⟩) (K:=⟨fun av=>K (st.put dst av)⟩):=jd4 K st ⟨dst,.unOp u t x,ty,pos,af,gd⟩
theorem aq_unOp(u:UnOp)(t:TypeId)(x:Operand)(K:AV->Prop):aq G st ⟨dst,.unOp u t x,ty,pos,af,gd⟩ K=Opt (yv G st ⟨dst,.unOp u t x,ty,pos,af,gd⟩) (K:=⟨K⟩):=by rw[aq_eq]
theorem aop_nilCheck(x:Operand)(K:St->Prop):aop G ⟨dst,.nilCheck x,ty,pos,af,gd⟩ K st=Opt (yv G st ⟨dst,.nilCheck x,ty,pos,af,gd⟩) (K:=⟨fun av=>K (st.put dst av)⟩):=jd4 K st ⟨dst,.nilCheck x,ty,pos,af,gd⟩
theorem aq_nilCheck(x:Operand)(K:AV->Prop):aq G st ⟨dst,.nilCheck x,ty,pos,af,gd⟩ K=Opt (yv G st ⟨dst,.nilCheck x,ty,pos,af,gd⟩) (K:=⟨K⟩):=by rw[aq_eq]
theorem aop_load(t:TypeId)(p:Operand)(K:St->Prop):aop G ⟨dst,.load t p,ty,pos,af,gd⟩ K st=Opt (yv G st ⟨dst,.load t p,ty,pos,af,gd⟩) (K:=⟨fun av=>K (st.put dst av)⟩):=jd4 K st ⟨dst,.load t p,ty,pos,af,gd⟩
theorem aq_load(t:TypeId)(p:Operand)(K:AV->Prop):aq G st ⟨dst,.load t p,ty,pos,af,gd⟩ K=Opt (yv G st ⟨dst,.load t p,ty,pos,af,gd⟩) (K:=⟨K⟩):=by rw[aq_eq]
theorem aop_fieldAddr(t:TypeId)(x:Operand)(f:Nat)(K:St->Prop):aop G ⟨dst,.fieldAddr t x f,ty,pos,af,gd⟩ K st=Opt (yv G st ⟨dst,.fieldAddr t x f,ty,pos,af,gd⟩) (K:=⟨fun av=>K (st.put dst av)⟩):=jd4 K st ⟨dst,.fieldAddr t x f,ty,pos,af,gd⟩
theorem aq_fieldAddr(t:TypeId)(x:Operand)(f:Nat)(K:AV->Prop):aq G st ⟨dst,.fieldAddr t x f,ty,pos,af,gd⟩ K=Opt (yv G st ⟨dst,.fieldAddr t x f,ty,pos,af,gd⟩) (K:=⟨K⟩):=by rw[aq_eq]
theorem aop_indexAddr(t:TypeId)(x i:Operand)(K:St->Prop):aop G ⟨dst,.indexAddr t x i,ty,pos,af,gd⟩ K st=Opt (yv G st ⟨dst,.indexAddr t x i,ty,pos,af,gd⟩) (K:=⟨fun av=>K (st.put dst av)⟩):=jd4 K st ⟨dst,.indexAddr t x i,ty,pos,af,gd⟩
theorem aq_indexAddr(t:TypeId)(x i:Operand)(K:AV->Prop):aq G st ⟨dst,.indexAddr t x i,ty,pos,af,gd⟩ K=Opt (yv G st ⟨dst,.indexAddr t x i,ty,pos,af,gd⟩) (K:=⟨K⟩):=by rw[aq_eq]
theorem aop_extract(x:Operand)(k:Nat)(K:St->Prop):aop G ⟨dst,.extract x k,ty,pos,af,gd⟩ K st=Opt (yv G st ⟨dst,.extract x k,ty,pos,af,gd⟩) (K:=⟨fun av=>K (st.put dst av)⟩):=jd4 K st ⟨dst,.extract x k,ty,pos,af,gd⟩
theorem aq_extract(x:Operand)(k:Nat)(K:AV->Prop):aq G st ⟨dst,.extract x k,ty,pos,af,gd⟩ K=Opt (yv G st ⟨dst,.extract x k,ty,pos,af,gd⟩) (K:=⟨K⟩):=by rw[aq_eq]
theorem aop_build(t:TypeId)(ps:Array (Nat×Operand))(K:St->Prop):aop G ⟨dst,.build t ps,ty,pos,af,gd⟩ K st=Opt (yv G st ⟨dst,.build t ps,ty,pos,af,gd⟩) (K:=⟨fun av=>K (st.put dst av)⟩):=jd4 K st ⟨dst,.build t ps,ty,pos,af,gd⟩
theorem aq_build(t:TypeId)(ps:Array (Nat×Operand))(K:AV->Prop):aq G st ⟨dst,.build t ps,ty,pos,af,gd⟩ K=Opt (yv G st ⟨dst,.build t ps,ty,pos,af,gd⟩) (K:=⟨K⟩):=by rw[aq_eq]
theorem aop_buildSlice(t:TypeId)(n:Nat)(ps:Array (Nat×Operand))(K:St->Prop):aop G ⟨dst,.buildSlice t n ps,ty,pos,af,gd⟩ K st=Opt (yv G st ⟨dst,.buildSlice t n ps,ty,pos,af,gd⟩) (K:=⟨fun av=>K (st.put dst av)⟩):=jd4 K st ⟨dst,.buildSlice t n ps,ty,pos,af,gd⟩
theorem aq_buildSlice(t:TypeId)(n:Nat)(ps:Array (Nat×Operand))(K:AV->Prop):aq G st ⟨dst,.buildSlice t n ps,ty,pos,af,gd⟩ K=Opt (yv G st ⟨dst,.buildSlice t n ps,ty,pos,af,gd⟩) (K:=⟨K⟩):=by rw[aq_eq]
theorem aop_convert(s d:TypeId)(x:Operand)(K:St->Prop):aop G ⟨dst,.convert s d x,ty,pos,af,gd⟩ K st=Opt (yv G st ⟨dst,.convert s d x,ty,pos,af,gd⟩) (K:=⟨fun av=>K (st.put dst av)⟩):=jd4 K st ⟨dst,.convert s d x,ty,pos,af,gd⟩
theorem aop_slice(t:TypeId)(x:Operand)(lo hi mx:Option Operand)(K:St->Prop):aop G ⟨dst,.slice t x lo hi mx,ty,pos,af,gd⟩ K st=Opt (yv G st ⟨dst,.slice t x lo hi mx,ty,pos,af,gd⟩) (K:=⟨fun av=>K (st.put dst av)⟩):=jd4 K st ⟨dst,.slice t x lo hi mx,ty,pos,af,gd⟩
theorem aq_slice(t:TypeId)(x:Operand)(lo hi mx:Option Operand)(K:AV->Prop):aq G st ⟨dst,.slice t x lo hi mx,ty,pos,af,gd⟩ K=Opt (yv G st ⟨dst,.slice t x lo hi mx,ty,pos,af,gd⟩) (K:=⟨K⟩):=by rw[aq_eq]
theorem aop_binOp(b:BinOp)(t:TypeId)(x y:Operand)(u:TypeId)(K:St->Prop):aop G ⟨dst,.binOp b t x y u,ty,pos,af,gd⟩ K st=aBin G K st ⟨dst,.binOp b t x y u,ty,pos,af,gd⟩ b t x y:=propext ⟨fun h=>h,fun h=>h⟩
theorem aq_binOp(b:BinOp)(t:TypeId)(x y:Operand)(u:TypeId)(K:AV->Prop):aq G st ⟨dst,.binOp b t x y u,ty,pos,af,gd⟩ K=Opt (yv G st ⟨dst,.binOp b t x y u,ty,pos,af,gd⟩) (K:=⟨K⟩):=by rw[aq_eq]
theorem aBin_tmp(o:Oper)(b:BinOp)(t:TypeId)(x:Operand)(d:Tmp)(K:St->Prop):aBin G K st o b t x (.tmp d)=Opt (yv G st o) (K:=⟨fun av=>K (st.put o.dst av)⟩):=jd4 K st o
theorem aBin_int(o:Oper)(b:BinOp)(t:TypeId)(x:Operand)(k:IntKind)(n:Int)(K:St->Prop):aBin G K st o b t x (.const (.int k n))=Opt (yv G st o) (K:=⟨fun av=>K (st.put o.dst av)⟩):=jd4 K st o
theorem aBin_nil(o:Oper)(b:BinOp)(t:TypeId)(x:Operand)(K:St->Prop):aBin G K st o b t x (.const (.slice none 0 0))=aNil G K st o.dst b t x:=propext ⟨fun h=>h,fun h=>h⟩
theorem aop_box(t:TypeId)(x:Operand)(d:Tmp)(K:St->Prop):aop G ⟨some d,.box t x,ty,pos,af,gd⟩ K st=
  Opt (ivOf (evO (st.lendO x) x)) (K:=⟨fun y=>(cellsOf y).all IV.one=true/\(if G.perm.contains d=true then NewP (cellsOf y).length [cellsOf y] d (K:=⟨K⟩) (A:=⟨(st.lendO x,fun b=> .loc (hp b) (cellsOf y).length 0 0)⟩)else K ((st.lendO x).newRow d (cellsOf y).length [cellsOf y]))⟩):=by
 simp only[aop,Opt];split
 ·rename_i d' y h1 h2;cases h1;rw[h2];rfl
 ·rename_i h1;generalize hy:ivOf (evO (st.lendO x) x)=oy;cases oy with
  | none=>rfl
  | some y=>exact(h1 d y rfl hy).elim
theorem aop_alloc(t:TypeId)(d:Tmp)(K:St->Prop):aop G ⟨some d,.alloc t,ty,pos,af,gd⟩ K st=Opt (jd7 G t) (K:=⟨fun z=>if G.perm.contains d=true then NewP z.length [z] d (K:=⟨K⟩) (A:=⟨(st,fun b=> .loc (hp b) z.length 0 0)⟩)else K (st.newRow d z.length [z])⟩):=by
 simp only[aop,Opt];split
 ·rename_i d' y h1 h2;cases h1;rw[h2];rfl
 ·rename_i h1;generalize hy:jd7 G t=oy;cases oy with
  | none=>rfl
  | some y=>exact(h1 d y rfl hy).elim
theorem aop_store(t:TypeId)(p x:Operand)(K:St->Prop):aop G ⟨dst,.store t p x,ty,pos,af,gd⟩ K st=jmw G K (st.lendO x) dst t p x:=propext ⟨fun h=>h,fun h=>h⟩
theorem aop_makeSlice(t:TypeId)(l c:Operand)(K:St->Prop):aop G ⟨dst,.makeSlice t l c,ty,pos,af,gd⟩ K st=aMake G K st dst t (evO st l) (evO st c):=propext ⟨fun h=>h,fun h=>h⟩
theorem aop_makeFunc(f:Fn)(x y:Array Operand)(K:St->Prop):aop G ⟨dst,.makeFunc f x y,ty,pos,af,gd⟩ K st=
  Opt (yv G (st.lendOs y.toList) ⟨dst,.makeFunc f x y,ty,pos,af,gd⟩) (K:=⟨fun av=>K ((st.lendOs y.toList).put dst av)⟩):=jd4 K (st.lendOs y.toList) ⟨dst,.makeFunc f x y,ty,pos,af,gd⟩
theorem aop_call(f:Operand)(azz:Array Operand)(ts:Array TypeId)(K:St->Prop):aop G ⟨dst,.call ⟨.value f,azz,ts⟩,ty,pos,af,gd⟩ K st=aCall G K st dst f azz.toList:=propext ⟨fun h=>h,fun h=>h⟩
theorem aq_call(f:Operand)(azz:Array Operand)(ts:Array TypeId)(K:AV->Prop):aq G st ⟨dst,.call ⟨.value f,azz,ts⟩,ty,pos,af,gd⟩ K=
  match evO st f,ivsOf (azz.toList.map (evO st))with
  | .im (.clo g caps),some xs=>CallD G g (xs++caps) (K:=⟨fun r=>K (.im r)⟩)
  | _,_=>False:=(aq_eq st ⟨dst,.call ⟨.value f,azz,ts⟩,ty,pos,af,gd⟩ K).trans (propext ⟨fun h=>h,fun h=>h⟩)
theorem aop_append(azz:Array Operand)(ts:Array TypeId)(K:St->Prop):aop G ⟨dst,.call ⟨.builtin .append,azz,ts⟩,ty,pos,af,gd⟩ K st=jlt G K st dst ts.toList azz.toList:=propext ⟨fun h=>h,fun h=>h⟩
theorem aq_append(azz:Array Operand)(ts:Array TypeId)(K:AV->Prop):aq G st ⟨dst,.call ⟨.builtin .append,azz,ts⟩,ty,pos,af,gd⟩ K=appP G st ts.toList azz.toList K:=by rw[aq_eq]
theorem aop_len(azz:Array Operand)(ts:Array TypeId)(K:St->Prop):aop G ⟨dst,.call ⟨.builtin .len,azz,ts⟩,ty,pos,af,gd⟩ K st=Opt (yv G st ⟨dst,.call ⟨.builtin .len,azz,ts⟩,ty,pos,af,gd⟩) (K:=⟨fun av=>K (st.put dst av)⟩):=jd4 K st ⟨dst,.call ⟨.builtin .len,azz,ts⟩,ty,pos,af,gd⟩
theorem aq_len(azz:Array Operand)(ts:Array TypeId)(K:AV->Prop):aq G st ⟨dst,.call ⟨.builtin .len,azz,ts⟩,ty,pos,af,gd⟩ K=Opt (yv G st ⟨dst,.call ⟨.builtin .len,azz,ts⟩,ty,pos,af,gd⟩) (K:=⟨K⟩):=by rw[aq_eq]
theorem aop_min(azz:Array Operand)(ts:Array TypeId)(K:St->Prop):aop G ⟨dst,.call ⟨.builtin .min,azz,ts⟩,ty,pos,af,gd⟩ K st=Opt (yv G st ⟨dst,.call ⟨.builtin .min,azz,ts⟩,ty,pos,af,gd⟩) (K:=⟨fun av=>K (st.put dst av)⟩):=jd4 K st ⟨dst,.call ⟨.builtin .min,azz,ts⟩,ty,pos,af,gd⟩
theorem aAppend_eq(K:St->Prop)(d:Nat)(t t':TypeId)(x y:Operand):jlt G K st (some d) [t,t'] [x,y]=
  match(G.ti t).kind with
  | .sl e=>match jhy st e (G.ti e).size (evO st x)with
   | some (b,n,es)=>(match jcg (evO st y)with
    | some xs=>t=t'/\(G.ti t).size≠0/\(G.ti e).size≠0/\(G.ti e).bytes≠0/\(∀c∈xs,c.length=(G.ti e).size)/\n<=es.length/\(n+xs.length)*(G.ti e).bytes<=140737488355328/\
     GrowP b (G.ti e).size (es.take n++xs) d e (n+xs.length) (K:=⟨K⟩) (A:=⟨st⟩)
    | none=>False)
   | none=>match jpa st e (G.ti e).size (evO st x)with
   | some (src,n,es)=>(match jcg (evO st y)with
    | some xs=>t=t'/\(G.ti t).size≠0/\(G.ti e).size≠0/\(G.ti e).bytes≠0/\(∀c∈xs,c.length=(G.ti e).size)/\n<=es.length/\(n+xs.length)*(G.ti e).bytes<=140737488355328/\
    K ((jdm st src d (G.ti e).size (es.take n++xs)).put (some d) (.gsl d e (G.ti e).size (n+xs.length)))
    | none=>False)
   | none=>if(G.own=true\/G.perm.contains d=true)/\isEmp (evO st x)=true then(match jfi st (evO st y)with
    | some xs=>t=t'/\(G.ti t).size≠0/\(G.ti e).size≠0/\(G.ti e).bytes≠0/\(∀c∈xs,c.length=(G.ti e).size)/\xs.length*(G.ti e).bytes<=140737488355328/\xs≠[]/\
     (if G.perm.contains d=true then NewP (G.ti e).size xs d (K:=⟨K⟩) (A:=⟨(st,fun b=> .im (.ref b e (G.ti e).size xs.length))⟩)else K (st.newArr d e (G.ti e).size xs))
    | none=>False)else match jsa st e (G.ti e).size d (evO st x),jfi st (evO st y)with
   | some (src,es),some xs=>
    t=t'/\(G.ti t).size≠0/\(G.ti e).size≠0/\(G.ti e).bytes≠0/\(∀c∈es,c.length=(G.ti e).size)/\(∀c∈xs,c.length=(G.ti e).size)/\
    (es.length+xs.length)*(G.ti e).bytes<=140737488355328/\
    K ((tokSt st src d (G.ti e).size (es.length+xs.length)).put (some d) (.vec d e (G.ti e).size (es++xs)))
   | _,_=>False
  | _=>False:=propext ⟨fun h=>h,fun h=>h⟩
theorem aMake_eq(K:St->Prop)(d:Nat)(t:TypeId)(k k':IntKind)(n m:Int):aMake G K st (some d) t (.im (.sc (.int k n))) (.im (.sc (.int k' m)))=
  match(G.ti t).kind with
  | .sl e=>match jd7 G e with
   | some z=>(G.ti t).size≠0/\n=m/\0<=n/\n*(G.ti e).bytes<=140737488355328/\(G.ti e).bytes≠0/\
     (if G.perm.contains d=true then NewP (G.ti e).size (List.replicate n.toNat z) d (K:=⟨K⟩) (A:=⟨(st,fun b=> .im (.ref b e (G.ti e).size (List.replicate n.toNat z).length))⟩)else K (st.newArr d e (G.ti e).size (List.replicate n.toNat z)))
   | none=>False
  | _=>False:=propext ⟨fun h=>h,fun h=>h⟩
end
theorem hp_lit{n b:Nat}(h:n<100000):(n=hp b)=False:=eq_false (hp_ne h)
theorem hp_lit'{n b:Nat}(h:n<100000):(hp b=n)=False:=eq_false fun e=>hp_ne h e.symm
theorem hp_eq(a b:Nat):(hp a=hp b)=(a=b):=propext hp_inj
theorem hp_ge(b:Nat):(100000<=hp b)=True:=eq_true (by unfold hp;omega)
theorem hp_bne{n b:Nat}(h:n<100000):(hp b !=n)=true:=by
 rw[zY];exact fun e=>hp_ne h e.symm
theorem hp_bne2(a b:Nat):(hp a !=hp b)=(a !=b):=by
 by_cases h:a=b
 ·subst h;simp
 ·rw[(zY).2 h,zY];exact fun e=>h (hp_inj.1 e)
attribute [go_sem ↓] SpApp_ref SpApp_emp SpApp_sx0 aq_append awp_skip awp_seq awp_cond awp_block awp_exit awp_ret awp_loop awp_region awp_draw jpn alist_free alist_guard aheadN_zero aheadN_nil aheadN_free aheadN_guard aheadS_nil aheadS_store aheadS_alloc aStores0_eq freshAll_nil freshAll_alloc mkRows_nil mkRows_alloc aheadS_move freshAll_move mkRows_move aheadS_assign freshAll_assign mkRows_assign aheadS_build freshAll_build mkRows_build aheadS_buildSlice freshAll_buildSlice mkRows_buildSlice aheadS_load freshAll_load mkRows_load aheadS_nilCheck freshAll_nilCheck mkRows_nilCheck aheadS_binOp freshAll_binOp mkRows_binOp aheadS_unOp freshAll_unOp mkRows_unOp aheadS_fieldAddr freshAll_fieldAddr mkRows_fieldAddr aheadS_indexAddr freshAll_indexAddr mkRows_indexAddr aheadS_extract freshAll_extract mkRows_extract aheadS_call freshAll_call mkRows_call freshAll_store mkRows_store aStores_nil aStores_other aStores_store aCall_eq aCall0_eq aStore_eq aBin_tmp aBin_int aBin_nil aNil_eq aop_box aop_alloc aop_store aop_makeSlice aop_makeFunc aop_call aq_call aop_append aop_binOp aq_binOp aop_move aq_move aop_assign aq_assign aop_pick aq_pick aop_unOp aq_unOp aop_nilCheck aq_nilCheck aop_load aq_load aop_fieldAddr aq_fieldAddr aop_indexAddr aq_indexAddr aop_extract aq_extract aop_build aq_build aop_buildSlice aq_buildSlice aop_convert aop_slice aq_slice aop_len aq_len aop_min jd0 zeroIV_eq List.getElem?_cons_succ List.getElem?_cons_zero
attribute [go_sem] mapOf keyI intsI valI ivs elemI_true elemI_false nlen jn1 yLenM isMp AV.setM jie AV.froz St.lendM Prod.mk.injEq or_true true_or isEmp jc0 jhx aRetM aRet1M esOf AV.rn rnm jd1 AV.toArg jdm jpa AV.soft AV.soft2 jct IV.int IV.bool jmj isSl aRetV St.proms St.prom1 AV.forget fgFr St.forget St.ren renFr St.prom jjx jnb Opt_some Two_true Two_false Two_not asB yv evO ofV jev St.get St.put look del jcn Go.undef scBin scUn jmu jh6 joq jor jko scs jgm aggK jbq fillA jcg ivOf ivsOf jf1 jhz jhf jly yLoad noZ List.any_cons List.any_nil jfe jqj jg8 bnd jqh yLen jqi cellsOf IV.one flatB ZC.iv St.fresh AV.purge AV.lend St.lend St.lendO St.lendOs St.newRow St.newArr setRow tokSt jfi jsa St.keep List.getElem?_nil List.length_cons List.length_nil List.map_cons List.map_nil List.foldl_cons List.foldl_nil List.all_cons List.all_nil List.cons_append List.nil_append List.drop_succ_cons List.drop_zero List.take_succ_cons List.take_zero List.set_cons_zero List.set_cons_succ List.filter_cons List.filter_nil List.contains_cons List.contains_nil List.replicate_succ List.replicate_zero List.append_nil Int.natCast_nonneg Int.cast_ofNat_Int Option.getD_some Option.getD_none Option.isSome_some Option.isSome_none Option.map_some Option.map_none Bool.false_eq_true Bool.true_eq_false Bool.not_true Bool.not_false Bool.and_true Bool.true_and Bool.and_false Bool.false_and Bool.or_true Bool.true_or Bool.or_false Bool.false_or beq_self_eq_true bq_true oc_int oc_bool oc_string List.length_map List.size_toArray bq_false aRet resL resIV lendR decide_true decide_false if_true if_false ite_true ite_false ne_eq not_true not_false_iff true_and and_true false_and and_false true_or or_true false_or or_false true_implies forall_const implies_true Nat.zero_add Nat.add_zero Int.toNat_natCast flat1 aAppend_eq aMake_eq
attribute [go_sem] appP nilC jrs isPt jox
attribute [go_sem] ivE List.isEmpty_nil List.isEmpty_cons Bool.false_and Bool.true_and hp_lit hp_lit' hp_eq hp_ge hp_bne hp_bne2 bne_self_eq_false AV.dp jhy isHa isFrz ZC.ivG St.addH jdv St.frzOs frzO St.frz AV.frz frz1 frz2 frz3 AV.toH jlr
attribute [go_sem] Int.reduceNegSucc Nat.reduceAdd Nat.reduceSub Nat.reduceMul Nat.reduceEqDiff Nat.reduceLeDiff Nat.reduceLT Nat.reduceBEq Nat.reduceBNe reduceIte reduceCtorEq Int.reduceToNat Int.reduceAdd Int.reduceSub Int.reduceMul Int.reduceNeg Int.reduceLT Int.reduceLE Int.reduceEq Int.reduceNe
end
end Go.Abs
namespace Go.Proofs.YtdhlmmoicchgpaaGreat
section
open Go.Abs
def ti:Nat->TI
 | 2=>⟨1,8,[.int .i64],.it .i64,false⟩
 | 3=>⟨1,8,[.int .i64],.it .i64,false⟩
 | 4=>⟨1,1,[.bool],.bl,false⟩
 | 5=>⟨1,1,[.int .u8],.it .u8,false⟩
 | 9=>⟨1,16,[.str],.str,false⟩
 | 12=>⟨1,8,[.int .u64],.it .u64,false⟩
 | 15=>⟨1,8,[.np],.pt,false⟩
 | 16=>⟨1,8,[.np],.pt,false⟩
 | 17=>⟨1,8,[.np],.pt,false⟩
 | 21=>⟨1,4,[.int .i32],.it .i32,false⟩
 | 22=>⟨1,24,[.sl],.sl 82,false⟩
 | 23=>⟨1,24,[.sl],.sl 44,false⟩
 | 24=>⟨1,24,[.sl],.sl 46,false⟩
 | 25=>⟨1,24,[.sl],.sl 48,false⟩
 | 26=>⟨1,24,[.sl],.sl 50,false⟩
 | 27=>⟨8,144,[.int .i64,.int .i64,.int .i64,.sl,.sl,.sl,.sl,.sl],.st [(0,3),(1,3),(2,3),(3,22),(4,23),(5,24),(6,25),(7,26)],false⟩
 | 28=>⟨8,144,[.int .i64,.int .i64,.int .i64,.sl,.sl,.sl,.sl,.sl],.st [(0,3),(1,3),(2,3),(3,22),(4,23),(5,24),(6,25),(7,26)],false⟩
 | 29=>⟨1,24,[.sl],.sl 31,false⟩
 | 30=>⟨1,24,[.sl],.sl 52,false⟩
 | 31=>⟨1,24,[.sl],.sl 84,false⟩
 | 34=>⟨1,8,[.np],.pt,false⟩
 | 35=>⟨1,8,[.int .i64],.it .i64,false⟩
 | 40=>⟨1,24,[.sl],.sl 3,false⟩
 | 43=>⟨6,48,[.int .i64,.int .i64,.int .i64,.int .i64,.int .i64,.bool],.st [(0,3),(1,3),(2,3),(3,3),(4,3),(5,4)],false⟩
 | 44=>⟨6,48,[.int .i64,.int .i64,.int .i64,.int .i64,.int .i64,.bool],.st [(0,3),(1,3),(2,3),(3,3),(4,3),(5,4)],true⟩
 | 45=>⟨6,48,[.int .i64,.int .i64,.int .i64,.int .i64,.int .i64,.int .i64],.st [(0,3),(1,3),(2,3),(3,3),(4,3),(5,3)],false⟩
 | 46=>⟨6,48,[.int .i64,.int .i64,.int .i64,.int .i64,.int .i64,.int .i64],.st [(0,3),(1,3),(2,3),(3,3),(4,3),(5,3)],true⟩
 | 47=>⟨2,16,[.int .i64,.int .i64],.st [(0,3),(1,3)],false⟩
 | 48=>⟨2,16,[.int .i64,.int .i64],.st [(0,3),(1,3)],true⟩
 | 49=>⟨4,32,[.int .i64,.int .i64,.int .i64,.int .i64],.st [(0,3),(1,3),(2,3),(3,3)],false⟩
 | 50=>⟨4,32,[.int .i64,.int .i64,.int .i64,.int .i64],.st [(0,3),(1,3),(2,3),(3,3)],true⟩
 | 51=>⟨19,152,[.int .i64,.int .i64,.int .i64,.int .i64,.int .i64,.int .i64,.bool,.int .i64,.int .i64,.int .i64,.int .i64,.int .i64,.int .i64,.int .i64,.int .i64,.int .i64,.int .i64,.int .i64,.int .i64],.st [(0,3),(1,44),(7,46),(13,48),(15,50)],false⟩
 | 52=>⟨19,152,[.int .i64,.int .i64,.int .i64,.int .i64,.int .i64,.int .i64,.bool,.int .i64,.int .i64,.int .i64,.int .i64,.int .i64,.int .i64,.int .i64,.int .i64,.int .i64,.int .i64,.int .i64,.int .i64],.st [(0,3),(1,44),(7,46),(13,48),(15,50)],false⟩
 | 55=>⟨1,24,[.sl],.sl 73,false⟩
 | 60=>⟨2,32,[.int .i64,.sl],.st [(0,3),(1,40)],false⟩
 | 61=>⟨2,32,[.int .i64,.sl],.st [(0,3),(1,40)],false⟩
 | 62=>⟨4,64,[.int .i64,.sl,.int .i64,.sl],.st [(0,61),(2,61)],false⟩
 | 63=>⟨4,64,[.int .i64,.sl,.int .i64,.sl],.st [(0,61),(2,61)],false⟩
 | 64=>⟨1,24,[.sl],.sl 63,false⟩
 | 65=>⟨8,144,[.int .i64,.int .i64,.sl,.int .i64,.sl,.sl,.sl,.sl],.st [(0,3),(1,63),(5,64),(6,64),(7,64)],false⟩
 | 66=>⟨8,144,[.int .i64,.int .i64,.sl,.int .i64,.sl,.sl,.sl,.sl],.st [(0,3),(1,63),(5,64),(6,64),(7,64)],false⟩
 | 67=>⟨16,288,[.int .i64,.int .i64,.sl,.int .i64,.sl,.sl,.sl,.sl,.int .i64,.int .i64,.sl,.int .i64,.sl,.sl,.sl,.sl],.st [(0,66),(8,66)],false⟩
 | 68=>⟨16,288,[.int .i64,.int .i64,.sl,.int .i64,.sl,.sl,.sl,.sl,.int .i64,.int .i64,.sl,.int .i64,.sl,.sl,.sl,.sl],.st [(0,66),(8,66)],false⟩
 | 72=>⟨10,136,[.int .i64,.sl,.int .i64,.sl,.int .i64,.sl,.int .i64,.sl,.bool,.bool],.st [(0,63),(4,63),(8,4),(9,4)],false⟩
 | 73=>⟨10,136,[.int .i64,.sl,.int .i64,.sl,.int .i64,.sl,.int .i64,.sl,.bool,.bool],.st [(0,63),(4,63),(8,4),(9,4)],false⟩
 | 81=>⟨3,24,[.int .i64,.int .i64,.int .i64],.st [(0,3),(1,3),(2,3)],false⟩
 | 82=>⟨3,24,[.int .i64,.int .i64,.int .i64],.st [(0,3),(1,3),(2,3)],true⟩
 | 83=>⟨2,16,[.int .i64,.int .i64],.st [(0,3),(1,3)],false⟩
 | 84=>⟨2,16,[.int .i64,.int .i64],.st [(0,3),(1,3)],true⟩
 | 93=>⟨11,200,[.int .i64,.int .i64,.int .i64,.sl,.sl,.sl,.sl,.sl,.sl,.sl,.bool],.st [(0,28),(8,29),(9,55),(10,4)],false⟩
 | 94=>⟨11,200,[.int .i64,.int .i64,.int .i64,.sl,.sl,.sl,.sl,.sl,.sl,.sl,.bool],.st [(0,28),(8,29),(9,55),(10,4)],false⟩
 | 103=>⟨1,24,[.sl],.sl 132,false⟩
 | 106=>⟨1,24,[.sl],.sl 195,false⟩
 | 107=>⟨2,32,[.int .i64,.sl],.st [(0,3),(1,106)],false⟩
 | 108=>⟨2,32,[.int .i64,.sl],.st [(0,3),(1,106)],false⟩
 | 127=>⟨2,16,[.int .i64,.int .i64],.arr 2 3,false⟩
 | 128=>⟨1,24,[.sl],.sl 127,false⟩
 | 131=>⟨5,72,[.int .i64,.int .i64,.sl,.int .i64,.sl],.st [(0,3),(1,63)],false⟩
 | 132=>⟨5,72,[.int .i64,.int .i64,.sl,.int .i64,.sl],.st [(0,3),(1,63)],false⟩
 | 135=>⟨1,8,[.no],.no,false⟩
 | 136=>⟨1,24,[.sl],.sl 190,false⟩
 | 137=>⟨10,192,[.int .i64,.int .i64,.int .i64,.sl,.sl,.sl,.sl,.sl,.sl,.sl],.st [(0,28),(8,106),(9,136)],false⟩
 | 138=>⟨10,192,[.int .i64,.int .i64,.int .i64,.sl,.sl,.sl,.sl,.sl,.sl,.sl],.st [(0,28),(8,106),(9,136)],false⟩
 | 139=>⟨1,8,[.np],.pt,false⟩
 | 145=>⟨1,8,[.no],.no,false⟩
 | 155=>⟨1,8,[.int .u64],.it .u64,false⟩
 | 160=>⟨1,8,[.np],.pt,false⟩
 | 176=>⟨1,8,[.int .u64],.it .u64,false⟩
 | 186=>⟨1,4,[.int .u32],.it .u32,false⟩
 | 189=>⟨4,32,[.int .i64,.int .i64,.int .i64,.int .i64],.st [(0,3),(1,3),(2,3),(3,3)],false⟩
 | 190=>⟨4,32,[.int .i64,.int .i64,.int .i64,.int .i64],.st [(0,3),(1,3),(2,3),(3,3)],true⟩
 | 194=>⟨6,96,[.sl,.int .i64,.int .i64,.sl,.int .i64,.sl],.st [(0,103),(1,3),(2,63)],false⟩
 | 195=>⟨6,96,[.sl,.int .i64,.int .i64,.sl,.int .i64,.sl],.st [(0,103),(1,3),(2,63)],false⟩
 | 197=>⟨1,24,[.sl],.sl 204,false⟩
 | 198=>⟨1,24,[.sl],.sl 226,false⟩
 | 199=>⟨6,128,[.int .i64,.sl,.sl,.sl,.sl,.sl],.st [(0,3),(1,197),(2,64),(3,40),(4,40),(5,198)],false⟩
 | 200=>⟨6,128,[.int .i64,.sl,.sl,.sl,.sl,.sl],.st [(0,3),(1,197),(2,64),(3,40),(4,40),(5,198)],false⟩
 | 203=>⟨5,88,[.int .i64,.sl,.int .i64,.sl,.sl],.st [(0,63),(4,64)],false⟩
 | 204=>⟨5,88,[.int .i64,.sl,.int .i64,.sl,.sl],.st [(0,63),(4,64)],false⟩
 | 220=>⟨1,8,[.np],.pt,false⟩
 | 225=>⟨2,16,[.int .i64,.bool],.st [(0,3),(1,4)],false⟩
 | 226=>⟨2,16,[.int .i64,.bool],.st [(0,3),(1,4)],true⟩
 | 227=>⟨1,8,[.np],.pt,false⟩
 | 236=>⟨1,8,[.np],.pt,false⟩
 | 240=>⟨1,8,[.no],.no,false⟩
 | 259=>⟨1,8,[.np],.pt,false⟩
 | 262=>⟨11,48,[.int .u64,.int .u64,.int .u32,.int .u8,.int .u8,.int .u8,.int .u8,.no,.np,.int .i32,.int .i32],.st [(0,12),(1,12),(2,186),(3,256),(4,5),(5,5),(6,257),(7,258),(8,259),(9,260),(10,261)],false⟩
 | _=>⟨0,0,[],.no,false⟩
noncomputable def G:Ctx:={P:=Tryz.prog,ti:=ti,fns:=174}
theorem G_ti(t:Nat):G.ti t=ti t:=rfl
theorem G_fns:G.fns=174:=rfl
theorem G_own:G.own=false:=rfl
noncomputable def GO:Ctx:={G with own:=true}
theorem GO_ti(t:Nat):GO.ti t=ti t:=rfl
theorem GO_fns:GO.fns=174:=rfl
theorem GO_own:GO.own=true:=rfl
theorem G_perm:G.perm=[]:=rfl
theorem G_frz:G.frz=[]:=rfl
theorem G_emp:G.emp=false:=rfl
theorem GO_perm:GO.perm=[]:=rfl
theorem GO_frz:GO.frz=[]:=rfl
theorem GO_emp:GO.emp=false:=rfl
noncomputable def GH(p f:List Nat):Ctx:={G with perm:=p,frz:=f,emp:=true}
theorem GH_ti(p f:List Nat)(t:Nat):(GH p f).ti t=ti t:=rfl
theorem GH_fns(p f:List Nat):(GH p f).fns=174:=rfl
theorem GH_own(p f:List Nat):(GH p f).own=false:=rfl
theorem GH_perm(p f:List Nat):(GH p f).perm=p:=rfl
theorem GH_frz(p f:List Nat):(GH p f).frz=f:=rfl
theorem GH_emp(p f:List Nat):(GH p f).emp=true:=rfl
attribute [go_sem] G_ti G_fns G_own GO_ti GO_fns GO_own ti G_perm G_frz G_emp GO_perm GO_frz GO_emp GH_ti GH_fns GH_own GH_perm GH_frz GH_emp
theorem ti_big(t:Nat)(h:265<=t):ti t=⟨0,0,[],.no,false⟩:=by
 unfold ti;split<;>first | omega | rfl
theorem ti_ok:((List.range 265).all fun t=>(ti t).size==0 || (ti t).okB Tryz.prog t)=true:=by kernel_rfl
theorem fn_ok:((List.range 174).all fun f=>decide (f<3) || jkb Tryz.prog f)=true:=by kernel_rfl
theorem jni:Tryz.prog.follows .mixedOrders=true:=by kernel_rfl
theorem good:G.Good where
 ok t ht:=by
  rcases zR t 265 with h | h
  ·have:=List.all_eq_true.1 ti_ok t (qe.2 h);simp only[qK,yF]at this;exact this.resolve_left ht
  ·exact absurd (by rw[G_ti,ti_big t h]) ht
 fn f hf:=by
  have:=List.all_eq_true.1 fn_ok f (qe.2 hf.2);simp only[qK,zO]at this;exact this.resolve_left (by omega)
 mixed:=jni
theorem goodO:GO.Good where
 ok:=good.ok
 fn:=good.fn
 mixed:=jni
theorem goodH(p f:List Nat):(GH p f).Good where
 ok:=good.ok
 fn:=good.fn
 mixed:=jni
theorem ja5{f:FuncId}{args:List IV}{φ:IV->Prop}{fn:Func}{c:Code}(rs:List ResultVar)(hf:G.P.funcs[f]? =some fn)(h:awp G c (fun e s=>match e with | .normal=>aRet G rs φ s | .ret=>aRet G rs φ s | _=>False) (jct args))(hb:fn.body=some c:=by exact rfl)(hr:fn.results.toList=rs:=by exact rfl)(hd:dstC fn.ntmps c=true:=by decide+kernel)(hn:Nat.ble args.length fn.ntmps=true:=by exact rfl):Ctr G.P f args φ:=ctr_go good fn c rs hf hb hr hd hn h
theorem jag{f:FuncId}{args:List AV}{L:Abs.Rows}{φ:AV->Abs.Rows->Prop}{fn:Func}{c:Code}(p q:List Nat)(rs:List ResultVar)(hf:(GH p q).P.funcs[f]? =some fn)(h:awp (GH p q) c (fun x st=>match x with | .normal=> @RetH (GH p q) rs st ⟨φ⟩ | .ret=> @RetH (GH p q) rs st ⟨φ⟩ | _=>False) (jc0 args L))(hb:fn.body=some c:=by exact rfl)(hr:fn.results.toList=rs:=by exact rfl)(hd:dstC fn.ntmps c=true:=by decide+kernel)(hn:Nat.ble args.length fn.ntmps=true:=by exact rfl):CtrH (GH p q).P f args L φ:=ctrh_go (goodH p q) fn c rs hf hb hr hd hn h
end
section
open Go.Abs
def ic(n:Int):List IV:=[.int n]
def ints(l:List Int):IV:= .sl (l.map ic)
theorem jaa{n:Int}(h: -9223372036854775808<=n/\n<=9223372036854775807):IntKind.i64.wrap n=n:=IntWalk.i64_in n h
end
section
open Go.Abs
structure Place where
 (kind house mat:Int)
 deriving DecidableEq,Inhabited
structure Move where
 (day fr to scale reading:Int)
 all:Bool
 deriving DecidableEq,Inhabited
structure Cert where
 (scale fr until' grams perMille drift:Int)
 deriving DecidableEq,Inhabited
structure Recall where
 (scale since:Int)
 deriving DecidableEq,Inhabited
structure Purity where
 (move mat least most:Int)
 deriving DecidableEq,Inhabited
structure Evid where
 (mats houses scales:Int)
 places:List Place
 moves:List Move
 certs:List Cert
 recalls:List Recall
 purs:List Purity
 deriving DecidableEq,Inhabited
structure Sample where
 move:Int
 grams:List Int
 slack:Int
 deriving DecidableEq,Inhabited
structure Recipe where
 (fr to mat least most:Int)
 deriving DecidableEq,Inhabited
def Place.c(p:Place):List IV:=[.int p.kind,.int p.house,.int p.mat]
def Move.c(p:Move):List IV:=[.int p.day,.int p.fr,.int p.to,.int p.scale,.int p.reading,.bool p.all]
def Cert.c(p:Cert):List IV:=[.int p.scale,.int p.fr,.int p.until',.int p.grams,.int p.perMille,.int p.drift]
def Recall.c(p:Recall):List IV:=[.int p.scale,.int p.since]
def Purity.c(p:Purity):List IV:=[.int p.move,.int p.mat,.int p.least,.int p.most]
def Sample.c(p:Sample):List IV:=[.int p.move,ints p.grams,.int p.slack]
def Recipe.c(p:Recipe):List IV:=[.int p.fr,.int p.to,.int p.mat,.int p.least,.int p.most]
def Evid.c(e:Evid):List IV:=[.int e.mats,.int e.houses,.int e.scales,.sl (e.places.map Place.c),.sl (e.moves.map Move.c),.sl (e.certs.map Cert.c),.sl (e.recalls.map Recall.c),.sl (e.purs.map Purity.c)]
def Evid.iv(e:Evid):IV:= .agg e.c
theorem Place.len(p:Place):p.c.length=3:=rfl
theorem Move.len(p:Move):p.c.length=6:=rfl
theorem Cert.len(p:Cert):p.c.length=6:=rfl
theorem Recall.len(p:Recall):p.c.length=2:=rfl
theorem Purity.len(p:Purity):p.c.length=4:=rfl
theorem Sample.len(p:Sample):p.c.length=3:=rfl
theorem Recipe.len(p:Recipe):p.c.length=5:=rfl
theorem take_succ{α:Type}{l:List α}{i:Nat}{x:α}(h:l[i]? =some x):l.take (i+1)=l.take i++[x]:=by
 rw[qN,h];rfl
end
section
open Go.Abs
def idx(i n:Int):Bool:=decide (0<=i)&&decide (i<n)
def btw(n a b:Int):Bool:=decide (a<=n)&&decide (n<=b)
theorem jq6{i n:Int}:idx i n=true↔0<=i/\i<n:=by simp[idx]
theorem btw_iff{n a b:Int}:btw n a b=true↔a<=n/\n<=b:=by simp[btw]
theorem c68(n a b:Int):Ctr G.P 63 [.int n,.int a,.int b] (· = .bool (btw n a b)):=by
 unfold btw;refine ja5 [.tmp 6] Tryz.func63 ?_;simp only[go_sem]
 repeat' (refine jd5 (fun hd hp=> ?_) (fun hd hp=> ?_)<;>simp only[hd,go_sem])
theorem c67(i n:Int):Ctr G.P 62 [.int i,.int n] (· = .bool (idx i n)):=by
 unfold idx;refine ja5 [.tmp 4] Tryz.func62 ?_;simp only[go_sem]
 repeat' (refine jd5 (fun hd hp=> ?_) (fun hd hp=> ?_)<;>simp only[hd,go_sem])
attribute [irreducible] idx btw
end
section
open Go.Abs
attribute [local go_sem] Evid.iv Evid.c Place.c Move.c Cert.c Recall.c Purity.c Sample.c Recipe.c ints ic
theorem je9{α:Type}{l:List α}{f:α->Bool}{i:Nat}{x:α}(h:l[i]? =some x):(l.take (i+1)).all f=((l.take i).all f&&f x):=by
 rw[take_succ h,jz];simp
theorem jlq{α:Type}{l:List α}{f:α->Bool}{i:Nat}{x:α}(h:l[i]? =some x)(hf:f x=false):l.all f=false:=by
 rw[vf];exact⟨x,zE h,by simp[hf]⟩
def jg2(e:Evid)(p:Place):Bool:=idx p.kind 7&&(if p.kind=0 then idx p.house e.houses&&idx p.mat e.mats else decide (p.house= -1)&&decide (p.mat= -1))
theorem c47(e:Evid)(hl:e.places.length<=1000):Ctr G.P 38 [e.iv] (· = .bool (e.places.all (jg2 e))):=by
 refine ja5 [.tmp 2] Tryz.func38 ?_;unfold Evid.iv Evid.c;simp only[go_sem];refine jaw [1,6,7,8] [1] (fun i:Nat=>⟨[(1,.loc 1 8 0 0),(6,.im (.sl (e.places.map Place.c))),(7,.im (.int e.places.length)),(8,.im (.int i))],[(1,8,[e.c])],[]⟩)
  (fun i=>i<=e.places.length/\(e.places.take i).all (jg2 e)=true) (fun i=>e.places.length-i) 0 ?_ ⟨zI _,rfl⟩ ?_
 ·simp only[Evid.c,Int.natCast_zero,go_sem]
 ·intro i ⟨hi,ha⟩;simp only[go_sem];refine jd5 (fun hd hp=> ?_) (fun hd hp=> ?_)
  ·obtain⟨x,hx⟩:∃x,e.places[i]? =some x:=⟨_,zk (by omega)⟩;have h1:=jaa (n:=(i:Int)+1) (by omega);have hat:=je9 (f:=jg2 e) hx;simp only[hd,za,hx,Place.c,Evid.c,go_sem]
   repeat' (first | (refine jdf (fun hd=> ?_) (fun hd=> ?_)<;>simp only[*,go_sem]) | (refine jbz (c67 _ _) (by first | decide | assumption) ?_;simp only[*,go_sem]) | (refine ja4 (c67 _ _) (by decide) ?_;simp only[*,go_sem]))
   all_goals first
    | (refine jai (i+1) ?_ ?_ ⟨?_,?_⟩
       ·simp only[h1,Evid.c,Int.natCast_add,go_sem]
       ·omega
       ·omega
       ·rw[hat,ha,qg];clear hat ha h1;simp_all[jg2]
       done)
    | (rw[jlq hx (by clear hat ha h1;simp_all[jg2])];done)
  ·simp only[hd,go_sem];rw[zu (by omega)]at ha;rw[ha]
end
section
open Go.Abs
attribute [local go_sem] Evid.iv Evid.c Place.c Move.c Cert.c Recall.c Purity.c Sample.c Recipe.c ints ic
end
section
open Go.Abs
attribute [local go_sem] Evid.iv Evid.c Place.c Move.c Cert.c Recall.c Purity.c Sample.c Recipe.c ints ic
end
section
open Go.Abs
attribute [local go_sem] Evid.iv Evid.c Place.c Move.c Cert.c Recall.c Purity.c Sample.c Recipe.c ints ic
def pairC(p:Int×Int):List IV:=[.int p.1,.int p.2]
def pairs(e:Evid):List (Int×Int):=[(e.mats,6),(e.houses,100),(e.scales,30),(e.places.length,100),(e.moves.length,200),(e.certs.length,100),(e.recalls.length,30),(e.purs.length,200)]
def fitP(p:Int×Int):Bool:= !decide (p.2<p.1)
theorem c46(e:Evid):Ctr G.P 37 [e.iv] (· = .bool (!(pairs e).all fitP)):=by
 refine ja5 [.tmp 2] Tryz.func37 ?_;unfold Evid.iv Evid.c;simp only[go_sem];refine jaw [34,35,36] [] (fun i:Nat=>⟨[(34,.sx ((pairs e).map pairC)),(35,.im (.int 8)),(36,.im (.int i))],[],[]⟩)
  (fun i=>i<=8/\((pairs e).take i).all fitP=true) (fun i=>8-i) 0 ?_ ⟨zI _,rfl⟩ ?_
 ·simp only[pairs,pairC,Int.natCast_zero,go_sem]
 ·intro i ⟨hi,ha⟩;simp only[go_sem];refine jd5 (fun hd hp=> ?_) (fun hd hp=> ?_)
  ·obtain⟨x,hx⟩:∃x,(pairs e)[i]? =some x:=⟨_,zk (by simp[pairs];omega)⟩;have h1:=jaa (n:=(i:Int)+1) (by omega);have hat:=je9 (f:=fitP) hx;simp only[hd,za,hx,pairC,go_sem]
   repeat' (first | (refine jdf (fun hd=> ?_) (fun hd=> ?_)<;>simp only[*,go_sem]) | (refine jbz (c67 _ _) (by first | decide | assumption) ?_;simp only[*,go_sem]) | (refine ja4 (c67 _ _) (by decide) ?_;simp only[*,go_sem]))
   all_goals first
    | (refine jai (i+1) ?_ ?_ ⟨?_,?_⟩
       ·simp only[h1,Int.natCast_add,go_sem]
       ·omega
       ·omega
       ·rw[hat,ha,qg];clear hat ha h1;simp_all[fitP]
       done)
    | (rw[jlq hx (by clear hat ha h1;simp_all[fitP])];rfl)
  ·simp only[hd,go_sem];rw[zu (by simp[pairs];omega)]at ha;rw[ha];simp only[go_sem]
end
section
open Go.Abs
attribute [local go_sem] Evid.iv Evid.c Place.c Move.c Cert.c Recall.c Purity.c Sample.c Recipe.c ints ic
def jl6(e:Evid)(i:Int):Int:=match e.places[i.toNat]? with
 | some p=>p.kind
 | none=>0
theorem jp7{e:Evid}{i:Int}{p:Place}(h:e.places[i.toNat]? =some p):jl6 e i=p.kind:=by simp[jl6,h]
def moveF(e:Evid)(m:Move):Bool:=
 idx m.fr e.places.length&&idx m.to e.places.length&& !decide (m.fr=m.to)&& !decide (jl6 e m.fr=5)&& !decide (jl6 e m.fr=6)&& !(decide (jl6 e m.fr=0)&&m.all)&& !decide (jl6 e m.to=0)&&
  (if m.scale= -1 then decide (m.reading=0)else idx m.scale e.scales&&btw m.reading 0 1099511627776)
theorem at_idx{α:Type}{l:List α}{i:Int}(h:idx i l.length=true):∃x,l[i.toNat]? =some x/\0<=i:=by
 rw[jq6]at h;exact⟨_,zk (by omega),h.1⟩
theorem c48(e:Evid)(m:Move):Ctr G.P 39 [e.iv,.agg m.c] (· = .bool (moveF e m)):=by
 rcases hf:idx m.fr e.places.length with _ | _
 ·have hm:moveF e m=false:=by simp[moveF,hf]
  refine ja5 [.tmp 4] Tryz.func39 ?_;unfold Evid.iv Evid.c Move.c;rw[hm];simp only[go_sem]
  repeat' (first | (refine jdf (fun hd=> ?_) (fun hd=> ?_)<;>simp only[*,go_sem]) | (refine jbz (c67 _ _) (by first | decide | assumption) ?_;simp only[*,go_sem]) | (refine ja4 (c67 _ _) (by decide) ?_;simp only[*,go_sem]))
 ·obtain⟨p,hp,h0⟩:=at_idx hf;have hkp:=jp7 hp;rcases ht:idx m.to e.places.length with _ | _
  ·have hm:moveF e m=false:=by simp[moveF,ht]
   refine ja5 [.tmp 4] Tryz.func39 ?_;unfold Evid.iv Evid.c Move.c;rw[hm];simp only[go_sem]
   repeat' (first | (refine jdf (fun hd=> ?_) (fun hd=> ?_)<;>simp only[*,go_sem]) | (refine jbz (c67 _ _) (by first | decide | assumption) ?_;simp only[*,go_sem]) | (refine ja4 (c67 _ _) (by decide) ?_;simp only[*,go_sem]))
  ·obtain⟨q,hq,h1⟩:=at_idx ht;have hkq:=jp7 hq;have hm:moveF e m=(!decide (m.fr=m.to)&& !decide (p.kind=5)&& !decide (p.kind=6)&& !(decide (p.kind=0)&&m.all)&& !decide (q.kind=0)&&
    (if m.scale= -1 then decide (m.reading=0)else idx m.scale e.scales&&btw m.reading 0 1099511627776)):=by simp[moveF,hf,ht,hkp,hkq]
   refine ja5 [.tmp 4] Tryz.func39 ?_;unfold Evid.iv Evid.c Move.c;rw[hm];clear hm hkp hkq;simp only[go_sem]
   repeat' (first | (refine jdf (fun hd=> ?_) (fun hd=> ?_)<;>simp only[*,za,Place.c,go_sem]) | (refine jbz (c67 _ _) (by first | decide | assumption) ?_;simp only[*,za,Place.c,go_sem]) | (refine jbz (c68 _ _ _) (by first | decide | assumption) ?_;simp only[*,za,Place.c,go_sem]) | (refine ja4 (c67 _ _) (by decide) ?_;simp only[*,za,Place.c,go_sem]) | (refine ja4 (c68 _ _ _) (by decide) ?_;simp only[*,za,Place.c,go_sem]))
   all_goals simp_all
end
section
open Go.Abs
attribute [local go_sem] Evid.iv Evid.c Place.c Move.c Cert.c Recall.c Purity.c Sample.c Recipe.c ints ic
def certF(e:Evid)(c:Cert):Bool:=decide (0<=c.fr)&&decide (c.fr<=c.until')&&decide (c.until'<=100000)&&idx c.scale e.scales&&btw c.grams 0 1099511627776&&btw c.perMille 0 1000&&btw c.drift 0 10000000
def jfg(e:Evid)(r:Recall):Bool:=idx r.scale e.scales&&btw r.since 0 100000
def purF(e:Evid)(p:Purity):Bool:=idx p.move e.moves.length&&idx p.mat e.mats&& !decide (p.least<0)&& !decide (p.most<p.least)&& !decide (1000<p.most)
def saidF(e:Evid):Bool:=e.certs.all (certF e)&&e.recalls.all (jfg e)&&e.purs.all (purF e)
theorem jby{α:Type}{l:List α}{i:Nat}(h:(i:Int)<l.length):∃x,l[i]? =some x:=⟨_,zk (by omega)⟩
theorem c49(e:Evid)(h5:e.certs.length<=1000)(h6:e.recalls.length<=1000)(h7:e.purs.length<=1000):Ctr G.P 40 [e.iv] (· = .bool (saidF e)):=by
 refine ja5 [.tmp 2] Tryz.func40 ?_;unfold Evid.iv Evid.c;simp only[go_sem];refine jaw [1,11,12,13] [1] (fun i:Nat=>⟨[(1,.loc 1 8 0 0),(11,.im (.sl (e.certs.map Cert.c))),(12,.im (.int e.certs.length)),(13,.im (.int i))],[(1,8,[e.c])],[]⟩)
  (fun i=>i<=e.certs.length/\(e.certs.take i).all (certF e)=true) (fun i=>e.certs.length-i) 0 ?_ ⟨zI _,rfl⟩ ?_
 ·simp only[Evid.c,Int.natCast_zero,go_sem]
 ·intro i ⟨hi,ha⟩;by_cases hp:(i:Int)<e.certs.length
  ·have hd:decide ((i:Int)<e.certs.length)=true:=ze hp;obtain⟨x,hx⟩:=jby hp;have h1:=jaa (n:=(i:Int)+1) (by omega);have hat:=je9 (f:=certF e) hx;have hn:certF e x=false->saidF e=false:=fun h=>by simp[saidF,jlq hx h]
   simp only[hd,za,hx,Cert.c,Evid.c,go_sem]
   repeat' (first | (refine jdf (fun hd=> ?_) (fun hd=> ?_)<;>simp only[*,go_sem]) | (refine jbz (c67 _ _) (by first | decide | assumption) ?_;simp only[*,go_sem]) | (refine jbz (c68 _ _ _) (by first | decide | assumption) ?_;simp only[*,go_sem]) | (refine ja4 (c67 _ _) (by decide) ?_;simp only[*,go_sem]) | (refine ja4 (c68 _ _ _) (by decide) ?_;simp only[*,go_sem]))
   all_goals first
    | (refine jai (i+1) ?_ ?_ ⟨?_,?_⟩
       ·simp only[h1,Evid.c,Int.natCast_add,go_sem]
       ·omega
       ·omega
       ·rw[hat,ha,qg];clear hn hat ha h1;simp_all[certF]
       done)
    | (rw[hn (by clear hn hat ha h1;simp_all[certF]<;>(intros;omega))];done)
  ·have hd:decide ((i:Int)<e.certs.length)=false:=zw hp;rw[zu (by omega)]at ha;simp only[hd,Evid.c,go_sem];clear hd hp hi;refine jaw [1,62,63,64] [1] (fun i:Nat=>⟨[(1,.loc 1 8 0 0),(62,.im (.sl (e.recalls.map Recall.c))),(63,.im (.int e.recalls.length)),(64,.im (.int i))],[(1,8,[e.c])],[]⟩)
    (fun i=>i<=e.recalls.length/\(e.recalls.take i).all (jfg e)=true) (fun i=>e.recalls.length-i) 0 ?_ ⟨zI _,rfl⟩ ?_
   ·simp only[Evid.c,Int.natCast_zero,go_sem]
   ·intro i ⟨hi,hb⟩;by_cases hp:(i:Int)<e.recalls.length
    ·have hd:decide ((i:Int)<e.recalls.length)=true:=ze hp;obtain⟨x,hx⟩:=jby hp;have h1:=jaa (n:=(i:Int)+1) (by omega);have hat:=je9 (f:=jfg e) hx;have hn:jfg e x=false->saidF e=false:=fun h=>by simp[saidF,jlq hx h]
     simp only[hd,za,hx,Recall.c,Evid.c,go_sem]
     repeat' (first | (refine jdf (fun hd=> ?_) (fun hd=> ?_)<;>simp only[*,go_sem]) | (refine jbz (c67 _ _) (by first | decide | assumption) ?_;simp only[*,go_sem]) | (refine jbz (c68 _ _ _) (by first | decide | assumption) ?_;simp only[*,go_sem]) | (refine ja4 (c67 _ _) (by decide) ?_;simp only[*,go_sem]) | (refine ja4 (c68 _ _ _) (by decide) ?_;simp only[*,go_sem]))
     all_goals first
      | (refine jai (i+1) ?_ ?_ ⟨?_,?_⟩
         ·simp only[h1,Evid.c,Int.natCast_add,go_sem]
         ·omega
         ·omega
         ·rw[hat,hb,qg];clear hn hat hb h1;simp_all[jfg]
         done)
      | (rw[hn (by clear hn hat hb h1;simp_all[jfg])];done)
    ·have hd:decide ((i:Int)<e.recalls.length)=false:=zw hp;rw[zu (by omega)]at hb;simp only[hd,Evid.c,go_sem];clear hd hp hi;refine jaw [1,82,83,84] [1] (fun i:Nat=>⟨[(1,.loc 1 8 0 0),(82,.im (.sl (e.purs.map Purity.c))),(83,.im (.int e.purs.length)),(84,.im (.int i))],[(1,8,[e.c])],[]⟩)
      (fun i=>i<=e.purs.length/\(e.purs.take i).all (purF e)=true) (fun i=>e.purs.length-i) 0 ?_ ⟨zI _,rfl⟩ ?_
     ·simp only[Evid.c,Int.natCast_zero,go_sem]
     ·intro i ⟨hi,hc⟩;by_cases hp:(i:Int)<e.purs.length
      ·have hd:decide ((i:Int)<e.purs.length)=true:=ze hp;obtain⟨x,hx⟩:=jby hp;have h1:=jaa (n:=(i:Int)+1) (by omega);have hat:=je9 (f:=purF e) hx;have hn:purF e x=false->saidF e=false:=fun h=>by simp[saidF,jlq hx h]
       simp only[hd,za,hx,Purity.c,Evid.c,go_sem]
       repeat' (first | (refine jdf (fun hd=> ?_) (fun hd=> ?_)<;>simp only[*,go_sem]) | (refine jbz (c67 _ _) (by first | decide | assumption) ?_;simp only[*,go_sem]) | (refine jbz (c68 _ _ _) (by first | decide | assumption) ?_;simp only[*,go_sem]) | (refine ja4 (c67 _ _) (by decide) ?_;simp only[*,go_sem]) | (refine ja4 (c68 _ _ _) (by decide) ?_;simp only[*,go_sem]))
       all_goals first
        | (refine jai (i+1) ?_ ?_ ⟨?_,?_⟩
           ·simp only[h1,Evid.c,Int.natCast_add,go_sem]
           ·omega
           ·omega
           ·rw[hat,hc,qg];clear hn hat hc h1;simp_all[purF]
           done)
        | (rw[hn (by clear hn hat hc h1;simp_all[purF])];done)
      ·have hd:decide ((i:Int)<e.purs.length)=false:=zw hp;rw[zu (by omega)]at hc;simp only[hd,go_sem];simp[saidF,ha,hb,hc]
end
section
open Go.Abs
attribute [local go_sem] Evid.iv Evid.c Place.c Move.c Cert.c Recall.c Purity.c Sample.c Recipe.c ints ic
def jcs(e:Evid):Int->List Move->Int
 | _,[]=>0
 | last,m::r=>if decide (m.day<last)=true then 17 else if decide (100000<m.day)=true then 17 else if moveF e m=false then 1 else jcs e m.day r
def jar(e:Evid):Int:=
 if(pairs e).all fitP=false then 6 else if decide (e.mats<1)=true then 1 else if decide (e.houses<0)=true then 1 else if decide (e.scales<0)=true then 1 else if e.places.all (jg2 e)=false then 1 else
 if jcs e 0 e.moves≠0 then jcs e 0 e.moves else if saidF e=true then 0 else 1
theorem drop_cons{α:Type}{l:List α}{i:Nat}{x:α}(h:l[i]? =some x):l.drop i=x::l.drop (i+1):=by
 obtain⟨hi,rfl⟩:=zt.1 h;exact ye hi
theorem jlc{e:Evid}(h:(pairs e).all fitP=true):e.places.length<=100/\e.moves.length<=200/\e.certs.length<=100/\e.recalls.length<=30/\e.purs.length<=200/\e.mats<=6/\e.houses<=100/\e.scales<=30:=by
 simp[pairs,fitP]at h;omega
theorem c21(e:Evid):Ctr G.P 12 [e.iv] (· = .int (jar e)):=by
 have h46:=c46 e;rcases hf:(pairs e).all fitP with _ | _
 ·have hc:jar e=6:=by simp[jar,hf]
  rw[hf]at h46;refine ja5 [.tmp 2] Tryz.func12 ?_;unfold Evid.iv Evid.c;rw[hc];simp only[go_sem];refine ja2 h46 ?_;simp only[go_sem]
 ·obtain⟨l1,l2,l3,l4,l5,_,_,_⟩:=jlc hf;have h47:=c47 e (by omega);have h49:=c49 e (by omega) (by omega) (by omega);rw[hf]at h46;have hc:jar e=if decide (e.mats<1)=true then 1 else if decide (e.houses<0)=true then 1 else if decide (e.scales<0)=true then 1 else if e.places.all (jg2 e)=false then 1 else
   if jcs e 0 e.moves≠0 then jcs e 0 e.moves else if saidF e=true then 0 else 1:=by simp[jar,hf]
  clear hf;refine ja5 [.tmp 2] Tryz.func12 ?_;rw[hc];clear hc;generalize hpl:e.places.all (jg2 e)=pl at*;generalize hsd:saidF e=sd at*;unfold Evid.iv Evid.c;simp only[go_sem];refine ja2 h46 ?_;simp only[go_sem]
  repeat' (first | (refine jdf (fun hd=> ?_) (fun hd=> ?_)<;>simp only[*,go_sem]) | (refine jbz (h47) (by first | decide | assumption) ?_;simp only[*,go_sem]) | (refine ja4 (h47) (by decide) ?_;simp only[*,go_sem]))
  rename_i k1 k2 k3 k4;clear h47 h46;refine jaw [1,3,29,30,31] [1] (fun g:Nat×Int=>⟨[(1,.loc 1 8 0 0),(3,.im (.int g.2)),(29,.im (.sl (e.moves.map Move.c))),(30,.im (.int e.moves.length)),(31,.im (.int g.1))],[(1,8,[e.c])],[]⟩)
   (fun g=>g.1<=e.moves.length/\jcs e 0 e.moves=jcs e g.2 (e.moves.drop g.1)) (fun g=>e.moves.length-g.1) (0,0) ?_ ⟨zI _,rfl⟩ ?_
  ·simp only[Evid.c,Int.natCast_zero,go_sem]
  ·intro⟨i,last⟩ ⟨hi,ha⟩;dsimp only at hi ha;by_cases hp:(i:Int)<e.moves.length
   ·have hd:decide ((i:Int)<e.moves.length)=true:=ze hp;obtain⟨x,hx⟩:=jby hp;have h1:=jaa (n:=(i:Int)+1) (by omega);rw[drop_cons hx,jcs]at ha;simp only[hd,za,hx,Move.c,Evid.c,go_sem]
    repeat' (first | (refine jdf (fun hd=> ?_) (fun hd=> ?_)<;>simp only[*,go_sem]) | (refine jbz (c48 e x) (by first | decide | assumption) ?_;simp only[*,go_sem]) | (refine ja4 (c48 e x) (by decide) ?_;simp only[*,go_sem]))
    refine jai (i+1,x.day) ?_ ?_ ⟨?_,?_⟩
    ·simp only[h1,Evid.c,Int.natCast_add,go_sem]
    ·show e.moves.length-(i+1)<e.moves.length-i;omega
    ·show i+1<=e.moves.length;omega
    ·rw[ha];simp only[*,qb,vx,z8]
   ·have hd:decide ((i:Int)<e.moves.length)=false:=zw hp;have hi':e.moves.drop i=[]:=qy (by omega);rw[hi',jcs]at ha;simp only[hd,Evid.c,go_sem];refine ja2 h49 ?_;simp only[*,go_sem]
    repeat' (first | (refine jdf (fun hd=> ?_) (fun hd=> ?_)<;>simp only[*,go_sem]) | (refine jbz (h49) (by first | decide | assumption) ?_;simp only[*,go_sem]) | (refine ja4 (h49) (by decide) ?_;simp only[*,go_sem]))
end
section
open Go.Abs
attribute [local go_sem] Evid.iv Evid.c Place.c Move.c Cert.c Recall.c Purity.c Sample.c Recipe.c ints ic
end
section
open Go.Abs
attribute [local go_sem] Evid.iv Evid.c Place.c Move.c Cert.c Recall.c Purity.c Sample.c Recipe.c ints ic
end
section
open Go.Abs
attribute [local go_sem] Evid.iv Evid.c Place.c Move.c Cert.c Recall.c Purity.c Sample.c Recipe.c ints ic
def purs(l:List Purity):IV:= .sl (l.map Purity.c)
end
section
open Go.Abs
attribute [local go_sem] Evid.iv Evid.c Place.c Move.c Cert.c Recall.c Purity.c Sample.c Recipe.c ints ic
theorem any_take_succ{α:Type}{l:List α}{f:α->Bool}{i:Nat}{x:α}(h:l[i]? =some x):(l.take (i+1)).any f=((l.take i).any f || f x):=by
 rw[take_succ h,jh];simp
theorem any_at{α:Type}{l:List α}{f:α->Bool}{i:Nat}{x:α}(h:l[i]? =some x)(hf:f x=true):l.any f=true:=
 qZ.2 ⟨x,zE h,hf⟩
end
section
open Go.Abs
attribute [local go_sem] Evid.iv Evid.c Place.c Move.c Cert.c Recall.c Purity.c Sample.c Recipe.c ints ic
theorem CtrV.ctr{P:Program}{f:FuncId}{args:List IV}{e s:Nat}{es:List (List IV)}(h:CtrV P f args e s es):Ctr P f args (· = .sl es):=by
 intro w M vs hM hr;refine(h w M vs hM hr).mono fun en w' ⟨v,he,hb,hv⟩=> ?_;refine⟨_,v,rfl,he,?_,hb⟩;rcases hv with ⟨h1,_⟩ | ⟨b,cap,cur,_,_,h1,_⟩
 ·exact h1
 ·exact h1.less fun b o hm=> .inl hm
theorem c29(l:List Purity)(hl:l.length<=100000):CtrV G.P 60 [.sl (l.map Purity.c)] 50 4 (l.map Purity.c):=by
 have hlen:∀(c:List IV),c∈l.map Purity.c->c.length=4:=fun c hc=>by
  obtain⟨z,_,rfl⟩:=zU.1 hc;rfl
 refine ji0 good _ _ [.tmp 2] Tryz.func60 rfl rfl (by decide+kernel) rfl ?_;simp only[go_sem];refine jd6 (fun h=> ?_) ?_
 ·rw[qd]at h;subst h;simp only[go_sem]
 ·simp only[go_sem];exact⟨by simp,hlen,by omega⟩
theorem c32(l:List Place)(hl:l.length<=100000):CtrV G.P 56 [.sl (l.map Place.c)] 82 3 (l.map Place.c):=by
 have hlen:∀(c:List IV),c∈l.map Place.c->c.length=3:=fun c hc=>by
  obtain⟨z,_,rfl⟩:=zU.1 hc;rfl
 refine ji0 good _ _ [.tmp 2] Tryz.func56 rfl rfl (by decide+kernel) rfl ?_;simp only[go_sem];refine jd6 (fun h=> ?_) ?_
 ·rw[qd]at h;subst h;simp only[go_sem]
 ·simp only[go_sem];exact⟨by simp,hlen,by omega⟩
theorem c33(l:List Move)(hl:l.length<=100000):CtrV G.P 57 [.sl (l.map Move.c)] 44 6 (l.map Move.c):=by
 have hlen:∀(c:List IV),c∈l.map Move.c->c.length=6:=fun c hc=>by
  obtain⟨z,_,rfl⟩:=zU.1 hc;rfl
 refine ji0 good _ _ [.tmp 2] Tryz.func57 rfl rfl (by decide+kernel) rfl ?_;simp only[go_sem];refine jd6 (fun h=> ?_) ?_
 ·rw[qd]at h;subst h;simp only[go_sem]
 ·simp only[go_sem];exact⟨by simp,hlen,by omega⟩
theorem c34(l:List Cert)(hl:l.length<=100000):CtrV G.P 58 [.sl (l.map Cert.c)] 46 6 (l.map Cert.c):=by
 have hlen:∀(c:List IV),c∈l.map Cert.c->c.length=6:=fun c hc=>by
  obtain⟨z,_,rfl⟩:=zU.1 hc;rfl
 refine ji0 good _ _ [.tmp 2] Tryz.func58 rfl rfl (by decide+kernel) rfl ?_;simp only[go_sem];refine jd6 (fun h=> ?_) ?_
 ·rw[qd]at h;subst h;simp only[go_sem]
 ·simp only[go_sem];exact⟨by simp,hlen,by omega⟩
theorem c35(l:List Recall)(hl:l.length<=100000):CtrV G.P 59 [.sl (l.map Recall.c)] 48 2 (l.map Recall.c):=by
 have hlen:∀(c:List IV),c∈l.map Recall.c->c.length=2:=fun c hc=>by
  obtain⟨z,_,rfl⟩:=zU.1 hc;rfl
 refine ji0 good _ _ [.tmp 2] Tryz.func59 rfl rfl (by decide+kernel) rfl ?_;simp only[go_sem];refine jd6 (fun h=> ?_) ?_
 ·rw[qd]at h;subst h;simp only[go_sem]
 ·simp only[go_sem];exact⟨by simp,hlen,by omega⟩
