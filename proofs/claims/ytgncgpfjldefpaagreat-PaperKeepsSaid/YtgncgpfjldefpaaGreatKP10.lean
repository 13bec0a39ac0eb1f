/- A part of the proof. No further condition. -/
import Derived.Test.YtgncgpfjldefpaaGreatKP9
import Derived.Attr
import Derived.Test.YtgncgpfjldefpaaGreatProg
import Derived.KernelRfl
import Derived.IntWalk
set_option linter.all false
set_option maxRecDepth 10000000
set_option maxHeartbeats 16000000
namespace Go.Abs
section
section
variable{G:Ctx}
variable(dst:Option Tmp)(ty:TypeId)(pos:String)(af:Array Edge)(gd:Option (Nat×Bool))(st:St)(ops:List Oper)(r:List Oper)
theorem aop_move(x:Operand)(K:St->Prop):aop G ⟨dst,.move x,ty,pos,af,gd⟩ K st=Opt (yv G st ⟨dst,.move x,ty,pos,af,gd⟩) (K:=⟨fun av=>K (st.put dst av)⟩):=jcc K st ⟨dst,.move x,ty,pos,af,gd⟩
theorem aq_move(x:Operand)(K:AV->Prop):aq G st ⟨dst,.move x,ty,pos,af,gd⟩ K=Opt (yv G st ⟨dst,.move x,ty,pos,af,gd⟩) (K:=⟨K⟩):=by rw[aq_eq]
theorem aop_assign(x:Operand)(K:St->Prop):aop G ⟨dst,.assign x,ty,pos,af,gd⟩ K st=Opt (yv G st ⟨dst,.assign x,ty,pos,af,gd⟩) (K:=⟨fun av=>K (st.put dst av)⟩):=jcc K st ⟨dst,.assign x,ty,pos,af,gd⟩
theorem aq_assign(x:Operand)(K:AV->Prop):aq G st ⟨dst,.assign x,ty,pos,af,gd⟩ K=Opt (yv G st ⟨dst,.assign x,ty,pos,af,gd⟩) (K:=⟨K⟩):=by rw[aq_eq]
theorem aop_pick(c a b:Operand)(K:St->Prop):aop G ⟨dst,.pick c a b,ty,pos,af,gd⟩ K st=Opt (yv G st ⟨dst,.pick c a b,ty,pos,af,gd⟩) (K:=⟨fun av=>K (st.put dst av)⟩):=jcc K st ⟨dst,.pick c a b,ty,pos,af,gd⟩
theorem aq_pick(c a b:Operand)(K:AV->Prop):aq G st ⟨dst,.pick c a b,ty,pos,af,gd⟩ K=Opt (yv G st ⟨dst,.pick c a b,ty,pos,af,gd⟩) (K:=⟨K⟩):=by rw[aq_eq]
theorem aop_unOp(u:UnOp)(t:TypeId)(x:Operand)(K:St->Prop):aop G ⟨dst,.unOp u t x,ty,pos,af,gd⟩ K st=Opt (yv G st ⟨dst,.unOp u t x,ty,pos,af,gd⟩) (K:=⟨fun av=>K (st.put dst av)⟩):=jcc K st ⟨dst,.unOp u t x,ty,pos,af,gd⟩
theorem aq_unOp(u:UnOp)(t:TypeId)(x:Operand)(K:AV->Prop):aq G st ⟨dst,.unOp u t x,ty,pos,af,gd⟩ K=Opt (yv G st ⟨dst,.unOp u t x,ty,pos,af,gd⟩) (K:=⟨K⟩):=by rw[aq_eq]
theorem aop_nilCheck(x:Operand)(K:St->Prop):aop G ⟨dst,.nilCheck x,ty,pos,af,gd⟩ K st=Opt (yv G st ⟨dst,.nilCheck x,ty,pos,af,gd⟩) (K:=⟨fun av=>K (st.put dst av)⟩):=jcc K st ⟨dst,.nilCheck x,ty,pos,af,gd⟩
theorem aq_nilCheck(x:Operand)(K:AV->Prop):aq G st ⟨dst,.nilCheck x,ty,pos,af,gd⟩ K=Opt (yv G st ⟨dst,.nilCheck x,ty,pos,af,gd⟩) (K:=⟨K⟩):=by rw[aq_eq]
theorem aop_load(t:TypeId)(p:Operand)(K:St->Prop):aop G ⟨dst,.load t p,ty,pos,af,gd⟩ K st=Opt (yv G st ⟨dst,.load t p,ty,pos,af,gd⟩) (K:=⟨fun av=>K (st.put dst av)⟩):=jcc K st ⟨dst,.load t p,ty,pos,af,gd⟩
theorem aq_load(t:TypeId)(p:Operand)(K:AV->Prop):aq G st ⟨dst,.load t p,ty,pos,af,gd⟩ K=Opt (yv G st ⟨dst,.load t p,ty,pos,af,gd⟩) (K:=⟨K⟩):=by rw[aq_eq]
theorem aop_fieldAddr(t:TypeId)(x:Operand)(f:Nat)(K:St->Prop):aop G ⟨dst,.fieldAddr t x f,ty,pos,af,gd⟩ K st=Opt (yv G st ⟨dst,.fieldAddr t x f,ty,pos,af,gd⟩) (K:=⟨fun av=>K (st.put dst av)⟩):=jcc K st ⟨dst,.fieldAddr t x f,ty,pos,af,gd⟩
theorem aq_fieldAddr(t:TypeId)(x:Operand)(f:Nat)(K:AV->Prop):aq G st ⟨dst,.fieldAddr t x f,ty,pos,af,gd⟩ K=Opt (yv G st ⟨dst,.fieldAddr t x f,ty,pos,af,gd⟩) (K:=⟨K⟩):=by rw[aq_eq]
theorem aop_field(t:TypeId)(x:Operand)(f:Nat)(K:St->Prop):aop G ⟨dst,.field t x f,ty,pos,af,gd⟩ K st=Opt (yv G st ⟨dst,.field t x f,ty,pos,af,gd⟩) (K:=⟨fun av=>K (st.put dst av)⟩):=jcc K st ⟨dst,.field t x f,ty,pos,af,gd⟩
theorem aq_field(t:TypeId)(x:Operand)(f:Nat)(K:AV->Prop):aq G st ⟨dst,.field t x f,ty,pos,af,gd⟩ K=Opt (yv G st ⟨dst,.field t x f,ty,pos,af,gd⟩) (K:=⟨K⟩):=by rw[aq_eq]
theorem aop_indexAddr(t:TypeId)(x i:Operand)(K:St->Prop):aop G ⟨dst,.indexAddr t x i,ty,pos,af,gd⟩ K st=Opt (yv G st ⟨dst,.indexAddr t x i,ty,pos,af,gd⟩) (K:=⟨fun av=>K (st.put dst av)⟩):=jcc K st ⟨dst,.indexAddr t x i,ty,pos,af,gd⟩
theorem aq_indexAddr(t:TypeId)(x i:Operand)(K:AV->Prop):aq G st ⟨dst,.indexAddr t x i,ty,pos,af,gd⟩ K=Opt (yv G st ⟨dst,.indexAddr t x i,ty,pos,af,gd⟩) (K:=⟨K⟩):=by rw[aq_eq]
theorem aop_index(t:TypeId)(x i:Operand)(K:St->Prop):aop G ⟨dst,.index t x i,ty,pos,af,gd⟩ K st=Opt (yv G st ⟨dst,.index t x i,ty,pos,af,gd⟩) (K:=⟨fun av=>K (st.put dst av)⟩):=jcc K st ⟨dst,.index t x i,ty,pos,af,gd⟩
theorem aq_index(t:TypeId)(x i:Operand)(K:AV->Prop):aq G st ⟨dst,.index t x i,ty,pos,af,gd⟩ K=Opt (yv G st ⟨dst,.index t x i,ty,pos,af,gd⟩) (K:=⟨K⟩):=by rw[aq_eq]
theorem aop_extract(x:Operand)(k:Nat)(K:St->Prop):aop G ⟨dst,.extract x k,ty,pos,af,gd⟩ K st=Opt (yv G st ⟨dst,.extract x k,ty,pos,af,gd⟩) (K:=⟨fun av=>K (st.put dst av)⟩):=jcc K st ⟨dst,.extract x k,ty,pos,af,gd⟩
theorem aq_extract(x:Operand)(k:Nat)(K:AV->Prop):aq G st ⟨dst,.extract x k,ty,pos,af,gd⟩ K=Opt (yv G st ⟨dst,.extract x k,ty,pos,af,gd⟩) (K:=⟨K⟩):=by rw[aq_eq]
theorem aop_build(t:TypeId)(ps:Array (Nat×Operand))(K:St->Prop):aop G ⟨dst,.build t ps,ty,pos,af,gd⟩ K st=Opt (yv G st ⟨dst,.build t ps,ty,pos,af,gd⟩) (K:=⟨fun av=>K (st.put dst av)⟩):=jcc K st ⟨dst,.build t ps,ty,pos,af,gd⟩
theorem aq_build(t:TypeId)(ps:Array (Nat×Operand))(K:AV->Prop):aq G st ⟨dst,.build t ps,ty,pos,af,gd⟩ K=Opt (yv G st ⟨dst,.build t ps,ty,pos,af,gd⟩) (K:=⟨K⟩):=by rw[aq_eq]
theorem aop_buildSlice(t:TypeId)(n:Nat)(ps:Array (Nat×Operand))(K:St->Prop):aop G ⟨dst,.buildSlice t n ps,ty,pos,af,gd⟩ K st=Opt (yv G st ⟨dst,.buildSlice t n ps,ty,pos,af,gd⟩) (K:=⟨fun av=>K (st.put dst av)⟩):=jcc K st ⟨dst,.buildSlice t n ps,ty,pos,af,gd⟩
theorem aq_buildSlice(t:TypeId)(n:Nat)(ps:Array (Nat×Operand))(K:AV->Prop):aq G st ⟨dst,.buildSlice t n ps,ty,pos,af,gd⟩ K=Opt (yv G st ⟨dst,.buildSlice t n ps,ty,pos,af,gd⟩) (K:=⟨K⟩):=by rw[aq_eq]
theorem aop_convert(s d:TypeId)(x:Operand)(K:St->Prop):aop G ⟨dst,.convert s d x,ty,pos,af,gd⟩ K st=Opt (yv G st ⟨dst,.convert s d x,ty,pos,af,gd⟩) (K:=⟨fun av=>K (st.put dst av)⟩):=jcc K st ⟨dst,.convert s d x,ty,pos,af,gd⟩
theorem aq_convert(s d:TypeId)(x:Operand)(K:AV->Prop):aq G st ⟨dst,.convert s d x,ty,pos,af,gd⟩ K=Opt (yv G st ⟨dst,.convert s d x,ty,pos,af,gd⟩) (K:=⟨K⟩):=by rw[aq_eq]
theorem aop_slice(t:TypeId)(x:Operand)(lo hi mx:Option Operand)(K:St->Prop):aop G ⟨dst,.slice t x lo hi mx,ty,pos,af,gd⟩ K st=Opt (yv G st ⟨dst,.slice t x lo hi mx,ty,pos,af,gd⟩) (K:=⟨fun av=>K (st.put dst av)⟩):=jcc K st ⟨dst,.slice t x lo hi mx,ty,pos,af,gd⟩
theorem aq_slice(t:TypeId)(x:Operand)(lo hi mx:Option Operand)(K:AV->Prop):aq G st ⟨dst,.slice t x lo hi mx,ty,pos,af,gd⟩ K=Opt (yv G st ⟨dst,.slice t x lo hi mx,ty,pos,af,gd⟩) (K:=⟨K⟩):=by rw[aq_eq]
theorem aop_binOp(b:BinOp)(t:TypeId)(x y:Operand)(u:TypeId)(K:St->Prop):aop G ⟨dst,.binOp b t x y u,ty,pos,af,gd⟩ K st=aBin G K st ⟨dst,.binOp b t x y u,ty,pos,af,gd⟩ b t x y:=propext ⟨fun h=>h,fun h=>h⟩
theorem aq_binOp(b:BinOp)(t:TypeId)(x y:Operand)(u:TypeId)(K:AV->Prop):aq G st ⟨dst,.binOp b t x y u,ty,pos,af,gd⟩ K=Opt (yv G st ⟨dst,.binOp b t x y u,ty,pos,af,gd⟩) (K:=⟨K⟩):=by rw[aq_eq]
theorem aBin_tmp(o:Oper)(b:BinOp)(t:TypeId)(x:Operand)(d:Tmp)(K:St->Prop):aBin G K st o b t x (.tmp d)=Opt (yv G st o) (K:=⟨fun av=>K (st.put o.dst av)⟩):=jcc K st o
theorem aBin_int(o:Oper)(b:BinOp)(t:TypeId)(x:Operand)(k:IntKind)(n:Int)(K:St->Prop):aBin G K st o b t x (.const (.int k n))=Opt (yv G st o) (K:=⟨fun av=>K (st.put o.dst av)⟩):=jcc K st o
theorem aBin_bool(o:Oper)(b:BinOp)(t:TypeId)(x:Operand)(n:Bool)(K:St->Prop):aBin G K st o b t x (.const (.bool n))=Opt (yv G st o) (K:=⟨fun av=>K (st.put o.dst av)⟩):=jcc K st o
theorem aBin_str(o:Oper)(b:BinOp)(t:TypeId)(x:Operand)(n:ByteArray)(K:St->Prop):aBin G K st o b t x (.const (.string n))=Opt (yv G st o) (K:=⟨fun av=>K (st.put o.dst av)⟩):=jcc K st o
theorem aBin_nil(o:Oper)(b:BinOp)(t:TypeId)(x:Operand)(K:St->Prop):aBin G K st o b t x (.const (.slice none 0 0))=aNil G K st o.dst b t x:=propext ⟨fun h=>h,fun h=>h⟩
theorem alist_app(K:St->Prop)(x:Oper)(a b:List Oper):alist G ops K (List.append (x::a) b) st=alist G ops K (x::List.append a b) st:=propext ⟨fun h=>h,fun h=>h⟩
theorem alist_app_nil(K:St->Prop)(b:List Oper):alist G ops K (List.append [] b) st=alist G ops K b st:=propext ⟨fun h=>h,fun h=>h⟩
theorem app_get_succ(x:Oper)(a b:List Oper)(n:Nat):(List.append (x::a) b)[n+1]? =(List.append a b)[n]? :=List.getElem?_cons_succ
theorem app_get_zero(x:Oper)(a b:List Oper):(List.append (x::a) b)[0]? =some x:=List.getElem?_cons_zero
theorem app_get_nil(b:List Oper)(n:Nat):(List.append [] b)[n]? =b[n]? :=qa (·[n]?) (List.nil_append b)
theorem aop_box(t:TypeId)(x:Operand)(d:Tmp)(K:St->Prop):aop G ⟨some d,.box t x,ty,pos,af,gd⟩ K st=
  Opt (ivOf (evO (st.lendO x) x)) (K:=⟨fun y=>(cellsOf y).all IV.one=true/\(if G.perm.contains d=true then NewP (cellsOf y).length [cellsOf y] d (K:=⟨K⟩) (A:=⟨(st.lendO x,fun b=> .loc (hp b) (cellsOf y).length 0 0)⟩)else K ((st.lendO x).newRow d (cellsOf y).length [cellsOf y]))⟩):=by
 simp only[aop,Opt];split
 ·rename_i d' y h1 h2;cases h1;rw[h2];rfl
 ·rename_i h1;generalize hy:ivOf (evO (st.lendO x) x)=oy;cases oy with
  | none=>rfl
  | some y=>exact(h1 d y rfl hy).elim
theorem aop_alloc(t:TypeId)(d:Tmp)(K:St->Prop):aop G ⟨some d,.alloc t,ty,pos,af,gd⟩ K st=Opt (jct G t) (K:=⟨fun z=>if G.perm.contains d=true then NewP z.length [z] d (K:=⟨K⟩) (A:=⟨(st,fun b=> .loc (hp b) z.length 0 0)⟩)else K (st.newRow d z.length [z])⟩):=by
 simp only[aop,Opt];split
 ·rename_i d' y h1 h2;cases h1;rw[h2];rfl
 ·rename_i h1;generalize hy:jct G t=oy;cases oy with
  | none=>rfl
  | some y=>exact(h1 d y rfl hy).elim
theorem aop_store(t:TypeId)(p x:Operand)(K:St->Prop):aop G ⟨dst,.store t p x,ty,pos,af,gd⟩ K st=jm7 G K (st.lendO x) dst t p x:=propext ⟨fun h=>h,fun h=>h⟩
theorem aop_makeSlice(t:TypeId)(l c:Operand)(K:St->Prop):aop G ⟨dst,.makeSlice t l c,ty,pos,af,gd⟩ K st=aMake G K st dst t (evO st l) (evO st c):=propext ⟨fun h=>h,fun h=>h⟩
theorem aop_makeFunc(f:Fn)(x y:Array Operand)(K:St->Prop):aop G ⟨dst,.makeFunc f x y,ty,pos,af,gd⟩ K st=
  Opt (yv G (st.lendOs y.toList) ⟨dst,.makeFunc f x y,ty,pos,af,gd⟩) (K:=⟨fun av=>K ((st.lendOs y.toList).put dst av)⟩):=jcc K (st.lendOs y.toList) ⟨dst,.makeFunc f x y,ty,pos,af,gd⟩
theorem aq_makeFunc(f:Fn)(x y:Array Operand)(K:AV->Prop):aq G st ⟨dst,.makeFunc f x y,ty,pos,af,gd⟩ K=Opt (yv G st ⟨dst,.makeFunc f x y,ty,pos,af,gd⟩) (K:=⟨K⟩):=by rw[aq_eq]
theorem aop_call(f:Operand)(azz:Array Operand)(ts:Array TypeId)(K:St->Prop):aop G ⟨dst,.call ⟨.value f,azz,ts⟩,ty,pos,af,gd⟩ K st=aCall G K st dst f azz.toList:=propext ⟨fun h=>h,fun h=>h⟩
theorem aq_call(f:Operand)(azz:Array Operand)(ts:Array TypeId)(K:AV->Prop):aq G st ⟨dst,.call ⟨.value f,azz,ts⟩,ty,pos,af,gd⟩ K=
  match evO st f,ivsOf (azz.toList.map (evO st))with
  | .im (.clo g caps),some xs=>CallD G g (xs++caps) (K:=⟨fun r=>K (.im r)⟩)
  | _,_=>False:=(aq_eq st ⟨dst,.call ⟨.value f,azz,ts⟩,ty,pos,af,gd⟩ K).trans (propext ⟨fun h=>h,fun h=>h⟩)
theorem aop_append(azz:Array Operand)(ts:Array TypeId)(K:St->Prop):aop G ⟨dst,.call ⟨.builtin .append,azz,ts⟩,ty,pos,af,gd⟩ K st=jla G K st dst ts.toList azz.toList:=propext ⟨fun h=>h,fun h=>h⟩
theorem aop_copy(azz:Array Operand)(ts:Array TypeId)(K:St->Prop):aop G ⟨dst,.call ⟨.builtin .copy,azz,ts⟩,ty,pos,af,gd⟩ K st=aCopy G K st dst ts.toList azz.toList:=propext ⟨fun h=>h,fun h=>h⟩
theorem aq_append(azz:Array Operand)(ts:Array TypeId)(K:AV->Prop):aq G st ⟨dst,.call ⟨.builtin .append,azz,ts⟩,ty,pos,af,gd⟩ K=appP G st ts.toList azz.toList K:=by rw[aq_eq]
theorem aop_len(azz:Array Operand)(ts:Array TypeId)(K:St->Prop):aop G ⟨dst,.call ⟨.builtin .len,azz,ts⟩,ty,pos,af,gd⟩ K st=Opt (yv G st ⟨dst,.call ⟨.builtin .len,azz,ts⟩,ty,pos,af,gd⟩) (K:=⟨fun av=>K (st.put dst av)⟩):=jcc K st ⟨dst,.call ⟨.builtin .len,azz,ts⟩,ty,pos,af,gd⟩
theorem aq_len(azz:Array Operand)(ts:Array TypeId)(K:AV->Prop):aq G st ⟨dst,.call ⟨.builtin .len,azz,ts⟩,ty,pos,af,gd⟩ K=Opt (yv G st ⟨dst,.call ⟨.builtin .len,azz,ts⟩,ty,pos,af,gd⟩) (K:=⟨K⟩):=by rw[aq_eq]
theorem aop_min(azz:Array Operand)(ts:Array TypeId)(K:St->Prop):aop G ⟨dst,.call ⟨.builtin .min,azz,ts⟩,ty,pos,af,gd⟩ K st=Opt (yv G st ⟨dst,.call ⟨.builtin .min,azz,ts⟩,ty,pos,af,gd⟩) (K:=⟨fun av=>K (st.put dst av)⟩):=jcc K st ⟨dst,.call ⟨.builtin .min,azz,ts⟩,ty,pos,af,gd⟩
theorem aq_min(azz:Array Operand)(ts:Array TypeId)(K:AV->Prop):aq G st ⟨dst,.call ⟨.builtin .min,azz,ts⟩,ty,pos,af,gd⟩ K=Opt (yv G st ⟨dst,.call ⟨.builtin .min,azz,ts⟩,ty,pos,af,gd⟩) (K:=⟨K⟩):=by rw[aq_eq]
theorem aop_max(azz:Array Operand)(ts:Array TypeId)(K:St->Prop):aop G ⟨dst,.call ⟨.builtin .max,azz,ts⟩,ty,pos,af,gd⟩ K st=Opt (yv G st ⟨dst,.call ⟨.builtin .max,azz,ts⟩,ty,pos,af,gd⟩) (K:=⟨fun av=>K (st.put dst av)⟩):=jcc K st ⟨dst,.call ⟨.builtin .max,azz,ts⟩,ty,pos,af,gd⟩
theorem aq_max(azz:Array Operand)(ts:Array TypeId)(K:AV->Prop):aq G st ⟨dst,.call ⟨.builtin .max,azz,ts⟩,ty,pos,af,gd⟩ K=Opt (yv G st ⟨dst,.call ⟨.builtin .max,azz,ts⟩,ty,pos,af,gd⟩) (K:=⟨K⟩):=by rw[aq_eq]
theorem aCopy_eq(K:St->Prop)(dst:Option Nat)(t t':TypeId)(x y:Operand):aCopy G K st dst [t,t'] [x,y]=
  match evO st x,evO st y,(G.ti t).kind with
  | .im (.ref b e s n),.im (.sl xs),.sl e'=>(match look st.rows (hp b)with
   | some (s',es)=>(G.ti t).size≠0/\(G.ti e').size=s/\s≠0/\s'=s/\xs.length=n/\(∀c∈xs,c.length=s)/\K (({st with rows:=Abs.setRow st.rows (hp b) s xs}:St).put dst (.im (.int n)))
   | none=>False)
  | _,_,_=>False:=propext ⟨fun h=>h,fun h=>h⟩
theorem aAppend_eq(K:St->Prop)(d:Nat)(t t':TypeId)(x y:Operand):jla G K st (some d) [t,t'] [x,y]=
  match(G.ti t).kind with
  | .sl e=>match jhu st e (G.ti e).size (evO st x)with
   | some (b,n,es)=>(match jcb (evO st y)with
    | some xs=>t=t'/\(G.ti t).size≠0/\(G.ti e).size≠0/\(G.ti e).bytes≠0/\(∀c∈xs,c.length=(G.ti e).size)/\n<=es.length/\(n+xs.length)*(G.ti e).bytes<=140737488355328/\
     GrowP b (G.ti e).size (es.take n++xs) d e (n+xs.length) (K:=⟨K⟩) (A:=⟨st⟩)
    | none=>False)
   | none=>match joo st e (G.ti e).size (evO st x)with
   | some (src,n,es)=>(match jcb (evO st y)with
    | some xs=>t=t'/\(G.ti t).size≠0/\(G.ti e).size≠0/\(G.ti e).bytes≠0/\(∀c∈xs,c.length=(G.ti e).size)/\n<=es.length/\(n+xs.length)*(G.ti e).bytes<=140737488355328/\
    K ((jdh st src d (G.ti e).size (es.take n++xs)).put (some d) (.gsl d e (G.ti e).size (n+xs.length)))
    | none=>False)
   | none=>if(G.own=true\/G.perm.contains d=true)/\isEmp (evO st x)=true then(match jcb (evO st y)with
    | some xs=>t=t'/\(G.ti t).size≠0/\(G.ti e).size≠0/\(G.ti e).bytes≠0/\(∀c∈xs,c.length=(G.ti e).size)/\xs.length*(G.ti e).bytes<=140737488355328/\xs≠[]/\
     (if G.perm.contains d=true then NewP (G.ti e).size xs d (K:=⟨K⟩) (A:=⟨(st,fun b=> .im (.ref b e (G.ti e).size xs.length))⟩)else K (st.newArr d e (G.ti e).size xs))
    | none=>False)else match jrh st e (G.ti e).size d (evO st x),jj1 st (evO st y)with
   | some (src,es),some xs=>
    t=t'/\(G.ti t).size≠0/\(G.ti e).size≠0/\(G.ti e).bytes≠0/\(∀c∈es,c.length=(G.ti e).size)/\(∀c∈xs,c.length=(G.ti e).size)/\
    (es.length+xs.length)*(G.ti e).bytes<=140737488355328/\
    K ((tokSt st src d (G.ti e).size (es.length+xs.length)).put (some d) (.vec d e (G.ti e).size (es++xs)))
   | _,_=>False
  | _=>False:=propext ⟨fun h=>h,fun h=>h⟩
theorem aMake_eq(K:St->Prop)(d:Nat)(t:TypeId)(k k':IntKind)(n m:Int):aMake G K st (some d) t (.im (.sc (.int k n))) (.im (.sc (.int k' m)))=
  match(G.ti t).kind with
  | .sl e=>match jct G e with
   | some z=>(G.ti t).size≠0/\n=m/\0<=n/\n*(G.ti e).bytes<=140737488355328/\(G.ti e).bytes≠0/\
     (if G.perm.contains d=true then NewP (G.ti e).size (List.replicate n.toNat z) d (K:=⟨K⟩) (A:=⟨(st,fun b=> .im (.ref b e (G.ti e).size (List.replicate n.toNat z).length))⟩)else K (st.newArr d e (G.ti e).size (List.replicate n.toNat z)))
   | none=>False
  | _=>False:=propext ⟨fun h=>h,fun h=>h⟩
theorem aop_lookup(t:TypeId)(m k:Operand)(ok:Bool)(K:St->Prop):aop G ⟨dst,.lookup t m k ok,ty,pos,af,gd⟩ K st=Opt (yv G st ⟨dst,.lookup t m k ok,ty,pos,af,gd⟩) (K:=⟨fun av=>K (st.put dst av)⟩):=jcc K st ⟨dst,.lookup t m k ok,ty,pos,af,gd⟩
theorem aq_lookup(t:TypeId)(m k:Operand)(ok:Bool)(K:AV->Prop):aq G st ⟨dst,.lookup t m k ok,ty,pos,af,gd⟩ K=Opt (yv G st ⟨dst,.lookup t m k ok,ty,pos,af,gd⟩) (K:=⟨K⟩):=by rw[aq_eq]
theorem aop_makeMap(t:TypeId)(d:Tmp)(K:St->Prop):aop G ⟨some d,.makeMap t none,ty,pos,af,gd⟩ K st=
  match(G.ti t).kind with
  | .mp kt e=>match keyN G kt with
   | some n=>(G.ti t).size≠0/\K ((tokSt st d d 0 0).put (some d) (.mpo d (n,intK G e) []))
   | none=>False
  | _=>False:=by
 show jjw G K st (some d) t=_;unfold jjw;generalize (G.ti t).kind=k;cases k<;>rfl
theorem aop_mapUpdate(t:TypeId)(m k x:Operand)(K:St->Prop):aop G ⟨dst,.mapUpdate t m k x,ty,pos,af,gd⟩ K st=jp4 G K st dst t (evO st m) (evO st k) (evO st x):=propext ⟨fun h=>h,fun h=>h⟩
theorem aMapUp_eq(K:St->Prop)(dst:Option Nat)(t:TypeId)(d:Nat)(sc:Nat×Bool)(kvs:List (List Int×List Int))(k x:AV):jp4 G K st dst t (.mpo d sc kvs) k x=
  match keyI k with
  | some ks=>(match valI x with
   | some bv=>(match(G.ti t).kind with
    | .mp kt e=>(G.ti t).size≠0/\look st.toks d=some (0,0)/\keyN G kt=some (nlen ks)/\sc=(nlen ks,bv.1)/\K (St.put {st with fr:=jhl d sc (mput kvs ks bv.2) st.fr} dst (.im (.sc undef)))
    | _=>False)
   | none=>False)
  | none=>False:=by
 unfold jp4;generalize keyI k=a;generalize valI x=b;cases a with
 | none=>rfl
 | some ks=>cases b with
  | none=>rfl
  | some bv=>rfl
end
theorem hp_lit{n b:Nat}(h:n<100000):(n=hp b)=False:=eq_false (hp_ne h)
theorem hp_lit'{n b:Nat}(h:n<100000):(hp b=n)=False:=eq_false fun e=>hp_ne h e.symm
theorem hp_eq(a b:Nat):(hp a=hp b)=(a=b):=propext hp_inj
theorem hp_ge(b:Nat):(100000<=hp b)=True:=eq_true (by unfold hp;omega)
theorem hp_bne{n b:Nat}(h:n<100000):(hp b !=n)=true:=by
 rw[qz];exact fun e=>hp_ne h e.symm
theorem hp_bne2(a b:Nat):(hp a !=hp b)=(a !=b):=by
 by_cases h:a=b
 ·subst h;simp
 ·rw[(qz).2 h,qz];exact fun e=>h (hp_inj.1 e)
attribute [go_sem ↓] aop_copy aCopy_eq SpApp_ref SpApp_emp SpApp_sx0 SpApp_emp0 SpApp_sx00 aq_append aop_lookup aq_lookup aop_makeMap aop_mapUpdate aMapUp_eq alist_app alist_app_nil app_get_succ app_get_zero app_get_nil awp_skip awp_seq awp_cond awp_block awp_exit awp_ret awp_loop awp_region awp_draw jp1 alist_free alist_guard aheadN_zero aheadN_nil aheadN_free aheadN_guard aheadS_nil aheadS_store aheadS_alloc aheadS_guard aStores0_eq freshAll_nil freshAll_alloc mkRows_nil mkRows_alloc aheadS_move freshAll_move mkRows_move aheadS_assign freshAll_assign mkRows_assign aheadS_pick freshAll_pick mkRows_pick aheadS_box freshAll_box mkRows_box aheadS_build freshAll_build mkRows_build aheadS_buildSlice freshAll_buildSlice mkRows_buildSlice aheadS_load freshAll_load mkRows_load aheadS_nilCheck freshAll_nilCheck mkRows_nilCheck aheadS_binOp freshAll_binOp mkRows_binOp aheadS_unOp freshAll_unOp mkRows_unOp aheadS_convert freshAll_convert mkRows_convert aheadS_makeFunc freshAll_makeFunc mkRows_makeFunc aheadS_makeSlice freshAll_makeSlice mkRows_makeSlice aheadS_slice freshAll_slice mkRows_slice aheadS_fieldAddr freshAll_fieldAddr mkRows_fieldAddr aheadS_field freshAll_field mkRows_field aheadS_indexAddr freshAll_indexAddr mkRows_indexAddr aheadS_index freshAll_index mkRows_index aheadS_lookup freshAll_lookup mkRows_lookup aheadS_extract freshAll_extract mkRows_extract aheadS_call freshAll_call mkRows_call freshAll_store mkRows_store aheadS_makeMap freshAll_makeMap mkRows_makeMap aheadS_mapUpdate freshAll_mapUpdate mkRows_mapUpdate aheadS_makeInterface freshAll_makeInterface mkRows_makeInterface aStores_nil aStores_other aStores_store aCall_eq aCall0_eq aStore_eq aBin_tmp aBin_int aBin_bool aBin_str aBin_nil aNil_eq aop_box aop_alloc aop_store aop_makeSlice aop_makeFunc aq_makeFunc aop_call aq_call aop_append aop_binOp aq_binOp aop_move aq_move aop_assign aq_assign aop_pick aq_pick aop_unOp aq_unOp aop_nilCheck aq_nilCheck aop_load aq_load aop_fieldAddr aq_fieldAddr aop_field aq_field aop_indexAddr aq_indexAddr aop_index aq_index aop_extract aq_extract aop_build aq_build aop_buildSlice aq_buildSlice aop_convert aq_convert aop_slice aq_slice aop_len aq_len aop_min aq_min aop_max aq_max jd3 zeroIV_eq List.getElem?_cons_succ List.getElem?_cons_zero
attribute [go_sem] mapOf keyI intsI valI ivs elemI_true elemI_false nlen jmf yLenM isMp AV.setM jhl AV.froz St.lendM Prod.mk.injEq or_true true_or isEmp jbl jgd aRetM aRet1M esOf AV.rn rnm jcv AV.toArg jdh joo AV.soft AV.soft2 jes IV.int IV.bool jlx isSl aRetV St.proms St.prom1 AV.forget fgFr St.forget St.ren renFr St.prom jjg jmp Opt_some Two_true Two_false Two_not asB yv evO ofV jeq St.get St.put look del jcg Go.undef scBin scUn jm5 jgx jo3 jo4 jk6 scs jgi aggK jbu fillA jcb ivOf ivsOf jel jhv jh6 jle yLoad noZ List.any_cons List.any_nil jf5 jq1 jg3 bnd jpz yLen jq0 cellsOf IV.one flatB ZC.iv St.fresh AV.purge AV.lend St.lend St.lendO St.lendOs St.newRow St.newArr setRow tokSt jj1 jrh St.keep List.getElem?_nil List.length_cons List.length_nil List.map_cons List.map_nil List.foldl_cons List.foldl_nil List.all_cons List.all_nil List.cons_append List.nil_append List.drop_succ_cons List.drop_zero List.take_succ_cons List.take_zero List.set_cons_zero List.set_cons_succ List.filter_cons List.filter_nil List.contains_cons List.contains_nil List.replicate_succ List.replicate_zero List.append_nil Int.natCast_nonneg Int.cast_ofNat_Int Option.getD_some Option.getD_none Option.isSome_some Option.isSome_none Option.map_some Option.map_none Bool.false_eq_true Bool.true_eq_false Bool.not_true Bool.not_false Bool.and_true Bool.true_and Bool.and_false Bool.false_and Bool.or_true Bool.true_or Bool.or_false Bool.false_or beq_self_eq_true bq_true oc_int oc_bool oc_string List.length_map List.size_toArray bq_false aRet resL resIV lendR decide_true decide_false if_true if_false ite_true ite_false ne_eq not_true not_false_iff true_and and_true false_and and_false true_or or_true false_or or_false true_implies forall_const implies_true Nat.zero_add Nat.add_zero Int.toNat_natCast flat1 aAppend_eq aMake_eq
attribute [go_sem] appP nilC
attribute [go_sem] ivE List.isEmpty_nil List.isEmpty_cons Bool.false_and Bool.true_and hp_lit hp_lit' hp_eq hp_ge hp_bne hp_bne2 bne_self_eq_false AV.dp jhu isHa isFrz ZC.ivG St.addH jdp St.frzOs frzO St.frz AV.frz frz1 frz2 frz3 AV.toH jm8
attribute [go_sem] Int.reduceNegSucc Nat.reduceAdd Nat.reduceSub Nat.reduceMul Nat.reduceEqDiff Nat.reduceLeDiff Nat.reduceLT Nat.reduceBEq Nat.reduceBNe reduceIte reduceCtorEq Int.reduceToNat Int.reduceAdd Int.reduceSub Int.reduceMul Int.reduceNeg Int.reduceLT Int.reduceLE Int.reduceEq Int.reduceNe
end
end Go.Abs
namespace Go.Proofs.YtgncgpfjldefpaaGreat
section
open Go.Abs
def ti:Nat->TI
 | 2=>⟨1,8,[.int .i64],.it .i64,false⟩
 | 3=>⟨1,8,[.int .i64],.it .i64,false⟩
 | 4=>⟨1,1,[.bool],.bl,false⟩
 | 5=>⟨1,1,[.int .u8],.it .u8,false⟩
 | 9=>⟨1,16,[.str],.str,false⟩
 | 12=>⟨1,8,[.int .u64],.it .u64,false⟩
 | 15=>⟨1,8,[.no],.no,false⟩
 | 16=>⟨1,8,[.no],.no,false⟩
 | 17=>⟨1,8,[.no],.no,false⟩
 | 21=>⟨1,4,[.int .i32],.it .i32,false⟩
 | 22=>⟨1,24,[.sl],.sl 52,false⟩
 | 23=>⟨1,24,[.sl],.sl 34,false⟩
 | 24=>⟨2,48,[.sl,.sl],.st [(0,22),(1,23)],false⟩
 | 25=>⟨2,48,[.sl,.sl],.st [(0,22),(1,23)],false⟩
 | 26=>⟨1,24,[.sl],.sl 3,false⟩
 | 27=>⟨1,24,[.sl],.sl 30,false⟩
 | 30=>⟨1,2,[.int .u16],.it .u16,false⟩
 | 31=>⟨1,24,[.sl],.sl 4,false⟩
 | 33=>⟨5,32,[.int .i64,.int .i64,.int .i64,.bool,.bool],.st [(0,3),(1,3),(2,3),(3,4),(4,4)],false⟩
 | 34=>⟨5,32,[.int .i64,.int .i64,.int .i64,.bool,.bool],.st [(0,3),(1,3),(2,3),(3,4),(4,4)],true⟩
 | 36=>⟨1,8,[.int .i64],.it .i64,false⟩
 | 43=>⟨1,24,[.sl],.sl 73,false⟩
 | 44=>⟨1,24,[.sl],.sl 75,false⟩
 | 45=>⟨1,24,[.sl],.sl 119,false⟩
 | 46=>⟨1,24,[.sl],.sl 54,false⟩
 | 47=>⟨1,24,[.sl],.sl 56,false⟩
 | 48=>⟨8,144,[.int .i64,.int .i64,.int .i64,.sl,.sl,.sl,.sl,.sl],.st [(0,3),(1,3),(2,3),(3,43),(4,44),(5,45),(6,46),(7,47)],false⟩
 | 49=>⟨8,144,[.int .i64,.int .i64,.int .i64,.sl,.sl,.sl,.sl,.sl],.st [(0,3),(1,3),(2,3),(3,43),(4,44),(5,45),(6,46),(7,47)],false⟩
 | 50=>⟨1,24,[.sl],.sl 91,false⟩
 | 51=>⟨2,32,[.int .i64,.sl],.st [(0,3),(1,26)],false⟩
 | 52=>⟨2,32,[.int .i64,.sl],.st [(0,3),(1,26)],false⟩
 | 53=>⟨2,16,[.int .i64,.int .i64],.st [(0,3),(1,3)],false⟩
 | 54=>⟨2,16,[.int .i64,.int .i64],.st [(0,3),(1,3)],true⟩
 | 55=>⟨4,32,[.int .i64,.int .i64,.int .i64,.int .i64],.st [(0,3),(1,3),(2,3),(3,3)],false⟩
 | 56=>⟨4,32,[.int .i64,.int .i64,.int .i64,.int .i64],.st [(0,3),(1,3),(2,3),(3,3)],true⟩
 | 66=>⟨2,32,[.int .i64,.sl],.st [(0,3),(1,26)],false⟩
 | 67=>⟨2,32,[.int .i64,.sl],.st [(0,3),(1,26)],false⟩
 | 68=>⟨4,64,[.int .i64,.sl,.int .i64,.sl],.st [(0,67),(2,67)],false⟩
 | 69=>⟨4,64,[.int .i64,.sl,.int .i64,.sl],.st [(0,67),(2,67)],false⟩
 | 72=>⟨3,24,[.int .i64,.int .i64,.int .i64],.st [(0,3),(1,3),(2,3)],false⟩
 | 73=>⟨3,24,[.int .i64,.int .i64,.int .i64],.st [(0,3),(1,3),(2,3)],true⟩
 | 74=>⟨6,48,[.int .i64,.int .i64,.int .i64,.int .i64,.int .i64,.bool],.st [(0,3),(1,3),(2,3),(3,3),(4,3),(5,4)],false⟩
 | 75=>⟨6,48,[.int .i64,.int .i64,.int .i64,.int .i64,.int .i64,.bool],.st [(0,3),(1,3),(2,3),(3,3),(4,3),(5,4)],true⟩
 | 85=>⟨1,8,[.no],.no,false⟩
 | 87=>⟨1,8,[.no],.no,false⟩
 | 89=>⟨1,8,[.no],.no,false⟩
 | 90=>⟨1,8,[.no],.no,false⟩
 | 91=>⟨1,24,[.sl],.sl 69,false⟩
 | 94=>⟨1,24,[.sl],.sl 91,false⟩
 | 103=>⟨1,24,[.sl],.sl 105,false⟩
 | 104=>⟨2,16,[.int .i64,.int .i64],.st [(0,3),(1,3)],false⟩
 | 105=>⟨2,16,[.int .i64,.int .i64],.st [(0,3),(1,3)],true⟩
 | 112=>⟨1,8,[.no],.no,false⟩
 | 118=>⟨6,48,[.int .i64,.int .i64,.int .i64,.int .i64,.int .i64,.int .i64],.st [(0,3),(1,3),(2,3),(3,3),(4,3),(5,3)],false⟩
 | 119=>⟨6,48,[.int .i64,.int .i64,.int .i64,.int .i64,.int .i64,.int .i64],.st [(0,3),(1,3),(2,3),(3,3),(4,3),(5,3)],true⟩
 | 132=>⟨8,144,[.int .i64,.int .i64,.sl,.int .i64,.sl,.sl,.sl,.sl],.st [(0,3),(1,69),(5,91),(6,91),(7,91)],false⟩
 | 133=>⟨8,144,[.int .i64,.int .i64,.sl,.int .i64,.sl,.sl,.sl,.sl],.st [(0,3),(1,69),(5,91),(6,91),(7,91)],false⟩
 | 134=>⟨16,288,[.int .i64,.int .i64,.sl,.int .i64,.sl,.sl,.sl,.sl,.int .i64,.int .i64,.sl,.int .i64,.sl,.sl,.sl,.sl],.st [(0,133),(8,133)],false⟩
 | 135=>⟨16,288,[.int .i64,.int .i64,.sl,.int .i64,.sl,.sl,.sl,.sl,.int .i64,.int .i64,.sl,.int .i64,.sl,.sl,.sl,.sl],.st [(0,133),(8,133)],false⟩
 | 138=>⟨10,136,[.int .i64,.sl,.int .i64,.sl,.int .i64,.sl,.int .i64,.sl,.bool,.bool],.st [(0,69),(4,69),(8,4),(9,4)],false⟩
 | 139=>⟨10,136,[.int .i64,.sl,.int .i64,.sl,.int .i64,.sl,.int .i64,.sl,.bool,.bool],.st [(0,69),(4,69),(8,4),(9,4)],false⟩
 | 142=>⟨1,8,[.int .u64],.it .u64,false⟩
 | 145=>⟨2,16,[.int .i64,.int .i64],.arr 2 3,false⟩
 | 146=>⟨1,24,[.sl],.sl 145,false⟩
 | 161=>⟨1,24,[.sl],.sl 183,false⟩
 | 164=>⟨1,24,[.sl],.sl 228,false⟩
 | 165=>⟨2,32,[.int .i64,.sl],.st [(0,3),(1,164)],false⟩
 | 166=>⟨2,32,[.int .i64,.sl],.st [(0,3),(1,164)],false⟩
 | 176=>⟨1,8,[.int .u64],.it .u64,false⟩
 | 180=>⟨1,8,[.no],.no,false⟩
 | 182=>⟨5,72,[.int .i64,.int .i64,.sl,.int .i64,.sl],.st [(0,3),(1,69)],false⟩
 | 183=>⟨5,72,[.int .i64,.int .i64,.sl,.int .i64,.sl],.st [(0,3),(1,69)],false⟩
 | 185=>⟨1,8,[.no],.no,false⟩
 | 186=>⟨1,24,[.sl],.sl 225,false⟩
 | 187=>⟨10,192,[.int .i64,.int .i64,.int .i64,.sl,.sl,.sl,.sl,.sl,.sl,.sl],.st [(0,49),(8,164),(9,186)],false⟩
 | 188=>⟨10,192,[.int .i64,.int .i64,.int .i64,.sl,.sl,.sl,.sl,.sl,.sl,.sl],.st [(0,49),(8,164),(9,186)],false⟩
 | 189=>⟨1,8,[.no],.no,false⟩
 | 204=>⟨1,8,[.no],.no,false⟩
 | 221=>⟨1,4,[.int .u32],.it .u32,false⟩
 | 224=>⟨4,32,[.int .i64,.int .i64,.int .i64,.int .i64],.st [(0,3),(1,3),(2,3),(3,3)],false⟩
 | 225=>⟨4,32,[.int .i64,.int .i64,.int .i64,.int .i64],.st [(0,3),(1,3),(2,3),(3,3)],true⟩
 | 227=>⟨6,96,[.sl,.int .i64,.int .i64,.sl,.int .i64,.sl],.st [(0,161),(1,3),(2,69)],false⟩
 | 228=>⟨6,96,[.sl,.int .i64,.int .i64,.sl,.int .i64,.sl],.st [(0,161),(1,3),(2,69)],false⟩
 | 229=>⟨1,24,[.sl],.sl 235,false⟩
 | 230=>⟨1,24,[.sl],.sl 246,false⟩
 | 231=>⟨6,128,[.int .i64,.sl,.sl,.sl,.sl,.sl],.st [(0,3),(1,229),(2,91),(3,26),(4,26),(5,230)],false⟩
 | 232=>⟨6,128,[.int .i64,.sl,.sl,.sl,.sl,.sl],.st [(0,3),(1,229),(2,91),(3,26),(4,26),(5,230)],false⟩
 | 234=>⟨5,88,[.int .i64,.sl,.int .i64,.sl,.sl],.st [(0,69),(4,91)],false⟩
 | 235=>⟨5,88,[.int .i64,.sl,.int .i64,.sl,.sl],.st [(0,69),(4,91)],false⟩
 | 243=>⟨1,8,[.no],.no,false⟩
 | 245=>⟨2,16,[.int .i64,.bool],.st [(0,3),(1,4)],false⟩
 | 246=>⟨2,16,[.int .i64,.bool],.st [(0,3),(1,4)],true⟩
 | 247=>⟨1,8,[.no],.no,false⟩
 | 252=>⟨1,8,[.no],.no,false⟩
 | 265=>⟨1,8,[.no],.no,false⟩
 | 268=>⟨11,48,[.int .u64,.int .u64,.int .u32,.int .u8,.int .u8,.int .u8,.int .u8,.no,.no,.int .i32,.int .i32],.st [(0,12),(1,12),(2,221),(3,262),(4,5),(5,5),(6,263),(7,264),(8,265),(9,266),(10,267)],false⟩
 | _=>⟨0,0,[],.no,false⟩
noncomputable def G:Ctx:={P:=Tryz.prog,ti:=ti,fns:=205}
theorem G_ti(t:Nat):G.ti t=ti t:=rfl
theorem G_fns:G.fns=205:=rfl
theorem G_own:G.own=false:=rfl
noncomputable def GO:Ctx:={G with own:=true}
theorem GO_ti(t:Nat):GO.ti t=ti t:=rfl
theorem GO_fns:GO.fns=205:=rfl
theorem GO_own:GO.own=true:=rfl
theorem G_perm:G.perm=[]:=rfl
theorem G_frz:G.frz=[]:=rfl
theorem G_emp:G.emp=false:=rfl
theorem GO_perm:GO.perm=[]:=rfl
theorem GO_frz:GO.frz=[]:=rfl
theorem GO_emp:GO.emp=false:=rfl
noncomputable def GH(p f:List Nat):Ctx:={G with perm:=p,frz:=f,emp:=true}
theorem GH_ti(p f:List Nat)(t:Nat):(GH p f).ti t=ti t:=rfl
theorem GH_fns(p f:List Nat):(GH p f).fns=205:=rfl
theorem GH_own(p f:List Nat):(GH p f).own=false:=rfl
theorem GH_perm(p f:List Nat):(GH p f).perm=p:=rfl
theorem GH_frz(p f:List Nat):(GH p f).frz=f:=rfl
theorem GH_emp(p f:List Nat):(GH p f).emp=true:=rfl
attribute [go_sem] G_ti G_fns G_own GO_ti GO_fns GO_own ti G_perm G_frz G_emp GO_perm GO_frz GO_emp GH_ti GH_fns GH_own GH_perm GH_frz GH_emp
theorem ti_big(t:Nat)(h:271<=t):ti t=⟨0,0,[],.no,false⟩:=by
 unfold ti;split<;>first | omega | rfl
theorem ti_ok:((List.range 271).all fun t=>(ti t).size==0 || (ti t).okB Tryz.prog t)=true:=by kernel_rfl
theorem fn_ok:((List.range 205).all fun f=>decide (f<3) || jju Tryz.prog f)=true:=by kernel_rfl
theorem jmu:Tryz.prog.follows .mixedOrders=true:=by kernel_rfl
theorem good:G.Good where
 ok t ht:=by
  rcases zV t 271 with h | h
  ·have:=List.all_eq_true.1 ti_ok t (qe.2 h);simp only[qC,yC]at this;exact this.resolve_left ht
  ·exact absurd (by rw[G_ti,ti_big t h]) ht
 fn f hf:=by
  have:=List.all_eq_true.1 fn_ok f (qe.2 hf.2);simp only[qC,zY]at this;exact this.resolve_left (by omega)
 mixed:=jmu
theorem goodO:GO.Good where
 ok:=good.ok
 fn:=good.fn
 mixed:=jmu
theorem goodH(p f:List Nat):(GH p f).Good where
 ok:=good.ok
 fn:=good.fn
 mixed:=jmu
theorem ja4{f:FuncId}{args:List IV}{φ:IV->Prop}{fn:Func}{c:Code}(rs:List ResultVar)(hf:G.P.funcs[f]? =some fn)(h:awp G c (fun e s=>match e with | .normal=>aRet G rs φ s | .ret=>aRet G rs φ s | _=>False) (jes args))(hb:fn.body=some c:=by exact rfl)(hr:fn.results.toList=rs:=by exact rfl)(hd:dstC fn.ntmps c=true:=by decide+kernel)(hn:Nat.ble args.length fn.ntmps=true:=by exact rfl):Ctr G.P f args φ:=ctr_go good fn c rs hf hb hr hd hn h
theorem jaq{f:FuncId}{args:List AV}{L:Abs.Rows}{φ:AV->Abs.Rows->Prop}{fn:Func}{c:Code}(p q:List Nat)(rs:List ResultVar)(hf:(GH p q).P.funcs[f]? =some fn)(h:awp (GH p q) c (fun x st=>match x with | .normal=> @RetH (GH p q) rs st ⟨φ⟩ | .ret=> @RetH (GH p q) rs st ⟨φ⟩ | _=>False) (jbl args L))(hb:fn.body=some c:=by exact rfl)(hr:fn.results.toList=rs:=by exact rfl)(hd:dstC fn.ntmps c=true:=by decide+kernel)(hn:Nat.ble args.length fn.ntmps=true:=by exact rfl):CtrH (GH p q).P f args L φ:=ctrh_go (goodH p q) fn c rs hf hb hr hd hn h
end
section
open Go.Abs
def idx(i n:Int):Bool:=decide (0<=i)&&decide (i<n)
def btw(n a b:Int):Bool:=decide (a<=n)&&decide (n<=b)
theorem jpo{i n:Int}:idx i n=true↔0<=i/\i<n:=by simp[idx]
theorem btw_iff{n a b:Int}:btw n a b=true↔a<=n/\n<=b:=by simp[btw]
theorem c68(n a b:Int):Ctr G.P 91 [.int n,.int a,.int b] (· = .bool (btw n a b)):=by
 unfold btw;refine ja4 [.tmp 6] Tryz.func91 ?_;simp only[go_sem]
 repeat' (refine jd9 (fun hd hp=> ?_) (fun hd hp=> ?_)<;>simp only[hd,go_sem])
theorem c67(i n:Int):Ctr G.P 90 [.int i,.int n] (· = .bool (idx i n)):=by
 unfold idx;refine ja4 [.tmp 4] Tryz.func90 ?_;simp only[go_sem]
 repeat' (refine jd9 (fun hd hp=> ?_) (fun hd hp=> ?_)<;>simp only[hd,go_sem])
attribute [irreducible] idx btw
end
section
open Go.Abs
def ic(n:Int):List IV:=[.int n]
def ints(l:List Int):IV:= .sl (l.map ic)
theorem jaa{n:Int}(h: -9223372036854775808<=n/\n<=9223372036854775807):IntKind.i64.wrap n=n:=IntWalk.i64_in n h
end
section
open Go.Abs
structure Bat where
 mat:Int
 mv:List Int
deriving Inhabited
structure Pap where
 bat:Int
 grams:Int
 own:Int
 ret:Bool
 gone:Bool
deriving Inhabited,DecidableEq
structure Led where
 bs:List Bat
 ps:List Pap
deriving Inhabited
def Bat.c(b:Bat):List IV:=[.int b.mat,ints b.mv]
def Pap.c(x:Pap):List IV:=[.int x.bat,.int x.grams,.int x.own,.bool x.ret,.bool x.gone]
def Led.c(p:Led):List IV:=[.sl (p.bs.map Bat.c),.sl (p.ps.map Pap.c)]
def jjf(n:Int):Int->List Int->Bool
 | _,[]=>true
 | last,i::r=>decide (last<i)&&(decide (i<n)&&jjf n i r)
def riseF(l:List Int)(n:Int):Bool:=jjf n (-1) l&&decide (0<l.length)
def overF(a b:Bat):Bool:=decide (a.mat=b.mat)&&a.mv.any fun i=>b.mv.contains i
def Pap.live(x:Pap):Bool:= !x.ret&& !x.gone
def batOk(pre:List Bat)(b:Bat):Bool:=btw b.mat 0 5&&(riseF b.mv 200&& !pre.any fun a=>overF a b)
def jjm:List Bat->List Bat->Bool
 | _,[]=>true
 | pre,b::r=>batOk pre b&&jjm (pre++[b]) r
def papOk(n:Int)(x:Pap):Bool:=btw x.bat 0 (n-1)&&(btw x.grams 1 1099511627776&&(btw x.own 0 999&& !(x.ret&&x.gone)))
def jb6(p:Led):Bool:=decide (p.bs.length<=40)&&(decide (p.ps.length<=300)&&(jjm [] p.bs&&p.ps.all (papOk p.bs.length)))
def sumG(f:Pap->Bool):List Pap->Int
 | []=>0
 | x::r=>(if f x=true then x.grams else 0)+sumG f r
def totF(p:Led)(k:Int):Int:=if jb6 p=true then sumG (fun x=>decide (x.bat=k)&& !x.gone) p.ps else 0
def someF(p:Led)(f:Pap->Bool)(is:List Int):Bool:=is.any fun i=>match p.ps[i.toNat]? with
 | some x=>f x
 | none=>false
def jbt(p:Led)(by_:Int)(is:List Int):Int:=
 if jb6 p=false then 1 else if(is.any fun i=> !btw i 0 ((p.ps.length:Int)-1))=true then 4 else if someF p (fun x=> !decide (x.own=by_)) is=true then 21 else if someF p (fun x=> !x.live) is=true then 7 else 0
def zL:Led:=⟨[],[]⟩
def setP(p:Led)(i:Int)(f:Pap->Pap):Led:=match p.ps[i.toNat]? with
 | some x=>{p with ps:=p.ps.set i.toNat (f x)}
 | none=>p
def addP(p:Led)(l:List Pap):Led:={p with ps:=p.ps++l}
def fullF(q:Led):Led×Int:=if 300<(q.ps.length:Int)then(zL,6)else(q,0)
def papAt(p:Led)(i:Int):Pap:=p.ps.getD i.toNat ⟨0,0,0,false,false⟩
def goneP(x:Pap):Pap:={x with gone:=true}
def jep(p:Led)(by_ i n:Int):Led×Int:=
 if jbt p by_ [i]≠0 then(zL,jbt p by_ [i])else if btw n 1 ((papAt p i).grams-1)=false then(zL,3)else
  fullF (addP (setP p i goneP) [{papAt p i with grams:=n},{papAt p i with grams:=(papAt p i).grams-n}])
def joinF(p:Led)(by_ i j:Int):Led×Int:=
 if(jb6 p&&decide (i=j))=true then(zL,4)else if jbt p by_ [i,j]≠0 then(zL,jbt p by_ [i,j])else
 if decide ((papAt p i).bat=(papAt p j).bat)=false then(zL,13)else if 1099511627776<(papAt p i).grams+(papAt p j).grams then(zL,3)else
  fullF (addP (setP (setP p i goneP) j goneP) [{papAt p i with grams:=(papAt p i).grams+(papAt p j).grams}])
def giveF(p:Led)(by_ i to:Int):Led×Int:=
 if btw to 0 999=false then(zL,1)else if jbt p by_ [i]≠0 then(zL,jbt p by_ [i])else fullF (setP p i fun x=>{x with own:=to})
def jd7(p:Led)(by_ i:Int):Led×Int:=
 if jbt p by_ [i]≠0 then(zL,jbt p by_ [i])else fullF (setP p i fun x=>{x with ret:=true})
def left0(p:Led)(cert:List Int):List Int:=(List.range p.bs.length).map fun k=>if k<cert.length then max 0 (cert.getD k 0)else 0
def subAt(l:List Int)(b g:Int):List Int:=l.set b.toNat (l.getD b.toNat 0-g)
def retGo:List Int->List Pap->List Int
 | l,[]=>l
 | l,x::r=>retGo (if x.ret=true then subAt l x.bat x.grams else l) r
def jfv:List Int->List Pap->List Bool
 | _,[]=>[]
 | l,x::r=>if x.live=true then decide (0<=(subAt l x.bat x.grams).getD x.bat.toNat 0)::jfv (subAt l x.bat x.grams) r else false::jfv l r
def jeo(p:Led)(cert:List Int):List Bool:=if jb6 p=true then jfv (retGo (left0 p cert) p.ps) p.ps else []
theorem jml(f:Pap->Bool):∀(l m:List Pap),sumG f (l++m)=sumG f l+sumG f m
 | [],m=>by simp[sumG]
 | x::l,m=>by rw[List.cons_append,sumG,sumG,jml f l m];omega
theorem jh9(f:Pap->Bool){y:Pap}:∀{l:List Pap} {i:Nat} {x:Pap},l[i]? =some x->sumG f (l.set i y)=sumG f l-(if f x=true then x.grams else 0)+(if f y=true then y.grams else 0)
 | [],i,x,h=>by simp at h
 | z::l,0,x,h=>by simp at h;subst h;rw[List.set_cons_zero,sumG,sumG];omega
 | z::l,i+1,x,h=>by
  rw[List.set_cons_succ,sumG,sumG,jh9 f (by simpa using h)];omega
theorem jb5{p:Led}(h:jb6 p=true):p.bs.length<=40/\p.ps.length<=300/\jjm [] p.bs=true/\∀x∈p.ps,papOk p.bs.length x=true:=by
 simpa only[jb6,zD,zY,List.all_eq_true]using h
theorem right_mk{p q:Led}(h:jb6 p=true)(hb:q.bs=p.bs)(hl:q.ps.length<=300)(hx:∀x∈q.ps,papOk p.bs.length x=true):jb6 q=true:=by
 obtain⟨h1,_,h3,_⟩:=jb5 h;simp only[jb6,zD,zY,List.all_eq_true];rw[hb];exact⟨h1,hl,h3,hx⟩
structure KeptL(p q:Led)(i j:Int):Prop where
 right:jb6 q=true
 bs:q.bs=p.bs
 len:p.ps.length<=q.ps.length
 tot:∀k,totF q k=totF p k
 pap:∀(k:Nat) (x:Pap),p.ps[k]? =some x->∃y:Pap,q.ps[k]? =some y/\y.bat=x.bat/\y.grams=x.grams/\((k:Int)≠i->(k:Int)≠j->y=x)
theorem jpd{p:Led}{b:Int}{is:List Int}(h:jbt p b is=0):jb6 p=true/\∀i∈is,∃k:Nat,i=(k:Int)/\∃x,p.ps[k]? =some x/\x.own=b/\x.live=true:=by
 unfold jbt at h;split at h
 ·cases h
 rename_i h1;split at h
 ·cases h
 rename_i h2;split at h
 ·cases h
 rename_i h3;split at h
 ·cases h
 rename_i h4;refine⟨by simpa using h1,fun i hi=> ?_⟩;simp only[j2,jS,jv,vm]at h2;have hb:=btw_iff.1 (h2 i hi);have hlt:i.toNat<p.ps.length:=by omega
 refine⟨i.toNat,by omega,_,zk hlt,?_,?_⟩
 ·simp only[someF,j2,jS]at h3;have:=h3 i hi;rw[zk hlt]at this
  simpa using this
 ·simp only[someF,j2,jS]at h4;have:=h4 i hi;rw[zk hlt]at this
  simpa using this
theorem jg9{p:Led}{k:Nat}{x:Pap}(h:p.ps[k]? =some x):papAt p (k:Int)=x:=by
 unfold papAt;rw[Int.toNat_natCast,qm,h];rfl
theorem jdo{p:Led}{k:Nat}{x:Pap}{f:Pap->Pap}(h:p.ps[k]? =some x):setP p (k:Int) f={p with ps:=p.ps.set k (f x)}:=by
 unfold setP;rw[Int.toNat_natCast,h]
theorem jn4{q r:Led}{e:Int}(h:fullF q=(r,e))(h0:e=0):r=q/\q.ps.length<=300:=by
 subst h0;unfold fullF at h;split at h
 ·cases h
 ·rename_i h1;injection h with h2;exact⟨h2.symm,by omega⟩
end
section
open Go.Abs
theorem papOk_iff{n:Int}{x:Pap}:papOk n x=true↔(0<=x.bat/\x.bat<=n-1)/\(1<=x.grams/\x.grams<=1099511627776)/\(0<=x.own/\x.own<=999)/\¬(x.ret=true/\x.gone=true):=by
 simp only[papOk,zD,btw_iff,jv,Bool.and_eq_false_imp,not_and,j2]
theorem live_iff{x:Pap}:x.live=true↔x.ret=false/\x.gone=false:=by simp[Pap.live]
def tk(k:Int)(x:Pap):Bool:=decide (x.bat=k)&& !x.gone
theorem tot_eq{p:Led}(h:jb6 p=true)(k:Int):totF p k=sumG (tk k) p.ps:=by unfold totF;rw[zm h];rfl
theorem jmz{p q:Led}{i j:Int}(hp:jb6 p=true)(hb:q.bs=p.bs)(hl:q.ps.length<=300)(hok:∀x∈q.ps,papOk p.bs.length x=true)(hlen:p.ps.length<=q.ps.length)(hs:∀k,sumG (tk k) q.ps=sumG (tk k) p.ps)
  (hpap:∀(k:Nat) (x:Pap),p.ps[k]? =some x->∃y:Pap,q.ps[k]? =some y/\y.bat=x.bat/\y.grams=x.grams/\((k:Int)≠i->(k:Int)≠j->y=x)):KeptL p q i j:=by
 have hr:=right_mk hp hb hl hok;exact⟨hr,hb,hlen,fun k=>by rw[tot_eq hr,tot_eq hp,hs],hpap⟩
theorem jkh{α:Type}{l:List α}{i:Nat}{x y:α}(h:x∈l.set i y):x∈l\/x=y:=ya h
theorem jir{l:List Pap}{i k:Nat}{x y:Pap}(h:l[k]? =some x):∃z:Pap,(l.set i y)[k]? =some z/\(k=i->z=y)/\(k≠i->z=x):=by
 have hk:k<l.length:=by
  rcases zV k l.length with h1 | h1
  ·exact h1
  ·rw[q8 h1]at h;cases h
 rw[qT];by_cases e:i=k
 ·rw[zm e,zm (by omega)];exact⟨y,rfl,fun _=>rfl,fun h=>absurd e.symm h⟩
 ·rw[zp e,h];exact⟨x,rfl,fun h=>absurd h.symm e,fun _=>rfl⟩
theorem jpu{l m:List Pap}{k:Nat}{x:Pap}(h:l[k]? =some x):(l++m)[k]? =some x:=by
 have hk:k<l.length:=by
  rcases zV k l.length with h1 | h1
  ·exact h1
  ·rw[q8 h1]at h;cases h
 rw[zP hk];exact h
section
variable{p q:Led}{b i j n:Int}
theorem jlq(h:jbt p b [i]=0):jb6 p=true/\∃(k:Nat) (x:Pap),i=(k:Int)/\p.ps[k]? =some x/\x.own=b/\x.live=true/\papOk p.bs.length x=true/\papAt p i=x:=by
 obtain⟨h1,h2⟩:=jpd h;obtain⟨k,rfl,x,hx,h3,h4⟩:=h2 i (by simp);exact⟨h1,k,x,rfl,hx,h3,h4,(jb5 h1).2.2.2 x (zt hx),jg9 hx⟩
theorem jqe(h:jep p b i n=(q,0)):jb6 p=true/\∃(k:Nat) (x:Pap),i=(k:Int)/\p.ps[k]? =some x/\x.own=b/\x.live=true/\papOk p.bs.length x=true/\1<=n/\n<=x.grams-1/\
  q=⟨p.bs,p.ps.set k (goneP x)++[{x with grams:=n},{x with grams:=x.grams-n}]⟩/\q.ps.length<=300:=by
 unfold jep at h;split at h
 ·rename_i h1;injection h with h2 h3;exact absurd h3 h1
 rename_i h1;obtain⟨hr,k,x,rfl,hx,h3,h4,h5,h6⟩:=jlq (by simpa using h1);split at h
 ·cases h
 rename_i h2;rw[h6,vm,btw_iff]at h2;obtain⟨e1,e2⟩:=jn4 h rfl;rw[jdo hx,h6]at e1 e2;exact⟨hr,k,x,rfl,hx,h3,h4,h5,h2.1,h2.2,e1,by rw[e1];exact e2⟩
theorem jha(h:jep p b i n=(q,0)):KeptL p q i i/\q.ps.length=p.ps.length+2:=by
 obtain⟨hr,k,x,rfl,hx,h3,h4,h5,h6,h7,rfl,h8⟩:=jqe h;obtain⟨l1,l2⟩:=live_iff.1 h4;have h5':=papOk_iff.1 h5;refine⟨jmz hr rfl h8 ?_ (by simp) (fun m=> ?_) (fun m y hy=> ?_),by simp⟩
 ·intro y hy;rcases qA.1 hy with hy | hy
  ·rcases jkh hy with hy | rfl
   ·exact(jb5 hr).2.2.2 y hy
   ·refine papOk_iff.2 ?_;unfold goneP;simp only[l1];exact⟨h5'.1,h5'.2.1,h5'.2.2.1,by simp⟩
  ·simp only[zU,jt,vc]at hy;rcases hy with rfl | rfl
   ·exact papOk_iff.2 ⟨h5'.1,⟨h6,by dsimp only;omega⟩,h5'.2.2.1,h5'.2.2.2⟩
   ·exact papOk_iff.2 ⟨h5'.1,⟨by dsimp only;omega,by dsimp only;omega⟩,h5'.2.2.1,h5'.2.2.2⟩
 ·rw[jml,jh9 _ hx];simp only[sumG,tk,goneP,l2];by_cases hb:x.bat=m
  ·simp[hb];omega
  ·simp[hb]
 ·obtain⟨z,g1,g2,g3⟩:=jir (i:=k) (y:=goneP x) hy;refine⟨z,jpu g1,?_⟩;by_cases e:m=k
  ·subst e;rw[hx]at hy;cases hy;rw[g2 rfl];exact⟨rfl,rfl,fun h=>absurd rfl h⟩
  ·rw[g3 e];exact⟨rfl,rfl,fun _ _=>rfl⟩
theorem give_ok{to:Int}(h:giveF p b i to=(q,0)):jb6 p=true/\0<=to/\to<=999/\∃(k:Nat) (x:Pap),i=(k:Int)/\p.ps[k]? =some x/\x.own=b/\x.live=true/\papOk p.bs.length x=true/\q=⟨p.bs,p.ps.set k {x with own:=to}⟩:=by
 unfold giveF at h;split at h
 ·cases h
 rename_i h0;rw[vm,btw_iff]at h0;split at h
 ·rename_i h1;injection h with h2 h3;exact absurd h3 h1
 rename_i h1;obtain⟨hr,k,x,rfl,hx,h3,h4,h5,h6⟩:=jlq (by simpa using h1);obtain⟨e1,e2⟩:=jn4 h rfl;rw[jdo hx]at e1;exact⟨hr,h0.1,h0.2,k,x,rfl,hx,h3,h4,h5,e1⟩
theorem jop{to:Int}(h:giveF p b i to=(q,0)):KeptL p q i i/\q.ps.length=p.ps.length:=by
 obtain⟨hr,t1,t2,k,x,rfl,hx,h3,h4,h5,rfl⟩:=give_ok h;obtain⟨l1,l2⟩:=live_iff.1 h4;have h5':=papOk_iff.1 h5;refine⟨jmz hr rfl (by simp;exact(jb5 hr).2.1) ?_ (by simp) (fun m=> ?_) (fun m y hy=> ?_),by simp⟩
 ·intro y hy;rcases jkh hy with hy | rfl
  ·exact(jb5 hr).2.2.2 y hy
  ·exact papOk_iff.2 ⟨h5'.1,h5'.2.1,⟨t1,t2⟩,h5'.2.2.2⟩
 ·rw[jh9 _ hx];exact vw _ _
 ·obtain⟨z,g1,g2,g3⟩:=jir (i:=k) (y:={x with own:=to}) hy;refine⟨z,g1,?_⟩;by_cases e:m=k
  ·subst e;rw[hx]at hy;cases hy;rw[g2 rfl];exact⟨rfl,rfl,fun h=>absurd rfl h⟩
  ·rw[g3 e];exact⟨rfl,rfl,fun _ _=>rfl⟩
theorem jo7(h:jd7 p b i=(q,0)):jb6 p=true/\∃(k:Nat) (x:Pap),i=(k:Int)/\p.ps[k]? =some x/\x.own=b/\x.live=true/\papOk p.bs.length x=true/\q=⟨p.bs,p.ps.set k {x with ret:=true}⟩:=by
 unfold jd7 at h;split at h
 ·rename_i h1;injection h with h2 h3;exact absurd h3 h1
 rename_i h1;obtain⟨hr,k,x,rfl,hx,h3,h4,h5,h6⟩:=jlq (by simpa using h1);obtain⟨e1,e2⟩:=jn4 h rfl;rw[jdo hx]at e1;exact⟨hr,k,x,rfl,hx,h3,h4,h5,e1⟩
theorem jf7(h:jd7 p b i=(q,0)):KeptL p q i i/\q.ps.length=p.ps.length:=by
 obtain⟨hr,k,x,rfl,hx,h3,h4,h5,rfl⟩:=jo7 h;obtain⟨l1,l2⟩:=live_iff.1 h4;have h5':=papOk_iff.1 h5;refine⟨jmz hr rfl (by simp;exact(jb5 hr).2.1) ?_ (by simp) (fun m=> ?_) (fun m y hy=> ?_),by simp⟩
 ·intro y hy;rcases jkh hy with hy | rfl
  ·exact(jb5 hr).2.2.2 y hy
  ·refine papOk_iff.2 ⟨h5'.1,h5'.2.1,h5'.2.2.1,?_⟩;rw[l2];simp
 ·rw[jh9 _ hx];exact vw _ _
 ·obtain⟨z,g1,g2,g3⟩:=jir (i:=k) (y:={x with ret:=true}) hy;refine⟨z,g1,?_⟩;by_cases e:m=k
  ·subst e;rw[hx]at hy;cases hy;rw[g2 rfl];exact⟨rfl,rfl,fun h=>absurd rfl h⟩
  ·rw[g3 e];exact⟨rfl,rfl,fun _ _=>rfl⟩
theorem join_ok(h:joinF p b i j=(q,0)):jb6 p=true/\∃(k m:Nat) (x y:Pap),i=(k:Int)/\j=(m:Int)/\k≠m/\p.ps[k]? =some x/\p.ps[m]? =some y/\x.own=b/\y.own=b/\x.live=true/\y.live=true/\papOk p.bs.length x=true/\papOk p.bs.length y=true/\
  x.bat=y.bat/\x.grams+y.grams<=1099511627776/\q=⟨p.bs,(p.ps.set k (goneP x)).set m (goneP y)++[{x with grams:=x.grams+y.grams}]⟩/\q.ps.length<=300:=by
 unfold joinF at h;split at h
 ·cases h
 rename_i h0;split at h
 ·rename_i h1;injection h with h2 h3;exact absurd h3 h1
 rename_i h1;obtain⟨hr,hs⟩:=jpd (p:=p) (b:=b) (is:=[i,j]) (by simpa using h1);obtain⟨k,rfl,x,hx,x1,x2⟩:=hs i (by simp);obtain⟨m,rfl,y,hy,y1,y2⟩:=hs j (by simp);rw[jg9 hx,jg9 hy]at h;split at h
 ·cases h
 rename_i h2;split at h
 ·cases h
 rename_i h3;have hne:k≠m:=fun e=>by
  subst e;rw[hr]at h0;simp at h0
 obtain⟨e1,e2⟩:=jn4 h rfl;have hy2:(setP p (k:Int) goneP).ps[m]? =some y:=by
  rw[jdo hx];show(p.ps.set k (goneP x))[m]? =some y;rw[qT,zp hne];exact hy
 rw[jdo hy2,jdo hx]at e1;refine⟨hr,k,m,x,y,rfl,rfl,hne,hx,hy,x1,y1,x2,y2,(jb5 hr).2.2.2 x (zt hx),(jb5 hr).2.2.2 y (zt hy),?_,by omega,e1,by rw[e1];rw[jdo hy2,jdo hx]at e2;exact e2⟩
 simpa using h2
theorem jkn(h:joinF p b i j=(q,0)):KeptL p q i j/\q.ps.length=p.ps.length+1:=by
 obtain⟨hr,k,m,x,y,rfl,rfl,hne,hx,hy,x1,y1,x2,y2,x3,y3,hb,hg,rfl,h8⟩:=join_ok h;obtain⟨l1,l2⟩:=live_iff.1 x2;obtain⟨m1,m2⟩:=live_iff.1 y2;have x3':=papOk_iff.1 x3;have y3':=papOk_iff.1 y3;have hy2:(p.ps.set k (goneP x))[m]? =some y:=by rw[qT,zp hne];exact hy
 refine⟨jmz hr rfl h8 ?_ (by simp) (fun u=> ?_) (fun u z hz=> ?_),by simp⟩
 ·intro z hz;rcases qA.1 hz with hz | hz
  ·rcases jkh hz with hz | rfl
   ·rcases jkh hz with hz | rfl
    ·exact(jb5 hr).2.2.2 z hz
    ·refine papOk_iff.2 ⟨x3'.1,x3'.2.1,x3'.2.2.1,?_⟩;unfold goneP;simp[l1]
   ·refine papOk_iff.2 ⟨y3'.1,y3'.2.1,y3'.2.2.1,?_⟩;unfold goneP;simp[m1]
  ·rw[zC.1 hz];exact papOk_iff.2 ⟨x3'.1,⟨by dsimp only;omega,hg⟩,x3'.2.2.1,x3'.2.2.2⟩
 ·rw[jml,jh9 _ hy2,jh9 _ hx];simp only[sumG,tk,goneP,l2,m2];by_cases e:x.bat=u
  ·simp[e,<-hb];omega
  ·simp[e,<-hb]
 ·obtain⟨z1,g1,g2,g3⟩:=jir (i:=k) (y:=goneP x) hz;obtain⟨z2,g4,g5,g6⟩:=jir (i:=m) (y:=goneP y) g1;refine⟨z2,jpu g4,?_⟩;by_cases e:u=m
  ·subst e;rw[hy]at hz;cases hz;rw[g5 rfl];exact⟨rfl,rfl,fun _ h=>absurd rfl h⟩
  ·rw[g6 e];by_cases e2:u=k
   ·subst e2;rw[hx]at hz;cases hz;rw[g2 rfl];exact⟨rfl,rfl,fun h=>absurd rfl h⟩
   ·rw[g3 e2];exact⟨rfl,rfl,fun _ _=>rfl⟩
end
end
section
open Go.Abs
theorem gd_set{l:List Int}{i k:Nat}{v:Int}:(l.set i v).getD k 0=if k=i/\i<l.length then v else l.getD k 0:=by
 rw[qm,qm,qT];by_cases h:i=k
 ·subst h;rw[zm rfl];by_cases h2:i<l.length
  ·rw[zm h2,zm ⟨rfl,h2⟩];rfl
  ·rw[zp h2,zp (fun h=>h2 h.2),q8 (by omega)]
 ·rw[zp h,zp (fun e=>h e.1.symm)]
theorem jpb(l:List Int)(b g:Int):(subAt l b g).length=l.length:=by unfold subAt;rw[z7]
theorem jpc{l:List Int}{b g:Int}(h0:0<=b)(h1:b<(l.length:Int))(k:Nat):(subAt l b g).getD k 0=l.getD k 0-(if b=(k:Int)then g else 0):=by
 unfold subAt;rw[gd_set];by_cases h:k=b.toNat
 ·rw[zm ⟨h,by omega⟩,zm (by omega),h]
 ·rw[zp (fun e=>h e.1),zp (by omega),yR]
def rk(k:Int)(x:Pap):Bool:=x.ret&&decide (x.bat=k)
def lk(k:Int)(x:Pap):Bool:=x.live&&decide (x.bat=k)
def InB(n:Nat)(ps:List Pap):Prop:=∀x∈ps,0<=x.bat/\x.bat<(n:Int)/\1<=x.grams/\x.grams<=1099511627776
theorem jpf(k:Nat):∀(ps:List Pap) (l:List Int),InB l.length ps->(retGo l ps).length=l.length/\(retGo l ps).getD k 0=l.getD k 0-sumG (rk k) ps
 | [],l,_=>⟨rfl,by simp[retGo,sumG]⟩
 | x::r,l,h=>by
  obtain⟨h1,h2,_⟩:=h x (by simp);rw[retGo,sumG];rcases hx:x.ret with _ | _
  ·obtain⟨g1,g2⟩:=jpf k r l fun y hy=>h y (by simp[hy]);rw[zp (by decide)];refine⟨g1,?_⟩;rw[g2];simp[rk,hx]
  ·obtain⟨g1,g2⟩:=jpf k r (subAt l x.bat x.grams) fun y hy=>by rw[jpb];exact h y (by simp[hy])
   rw[zm rfl];refine⟨by rw[g1,jpb],?_⟩;rw[g2,jpc h1 h2];by_cases e:x.bat=(k:Int)
   ·simp[rk,hx,e];omega
   ·simp[rk,hx,e]
theorem jqv:∀(ps:List Pap) (l:List Int),(jfv l ps).length=ps.length
 | [],_=>rfl
 | x::r,l=>by
  rw[jfv];split<;>simp[jqv r]
theorem jmw:∀(ps:List Pap) (l:List Int),InB l.length ps->∀(i:Nat) (x:Pap),ps[i]? =some x->(jfv l ps)[i]? =some (x.live&&decide (0<=l.getD x.bat.toNat 0-sumG (lk x.bat) (ps.take (i+1))))
 | [],_,_,i,x,h=>by simp at h
 | y::r,l,hb,0,x,h=>by
  simp at h;subst h;obtain⟨h1,h2,_⟩:=hb y (by simp);rw[jfv];rcases hy:y.live with _ | _
  ·rw[zp (by decide)];rfl
  ·rw[zm rfl,jpc h1 h2];rw[zm (by omega)];simp[sumG,lk,hy]
 | y::r,l,hb,i+1,x,h=>by
  obtain⟨h1,h2,_⟩:=hb y (by simp);have h:r[i]? =some x:=by simpa using h
  obtain⟨x1,x2,_⟩:=hb x (by simp[zt h]);rw[jfv,List.take_succ_cons,sumG];rcases hy:y.live with _ | _
  ·have ih:=jmw r l (fun z hz=>hb z (by simp[hz])) i x h;rw[zp (by decide),List.getElem?_cons_succ,ih];simp[lk,hy]
  ·have ih:=jmw r (subAt l y.bat y.grams) (fun z hz=>by rw[jpb];exact hb z (by simp[hz])) i x h;rw[zm rfl,List.getElem?_cons_succ,ih,jpc h1 h2];by_cases e:y.bat=x.bat
   ·have e1:(if y.bat=((x.bat.toNat:Nat):Int)then y.grams else 0)=y.grams:=zm (by omega);have e2:(if lk x.bat y=true then y.grams else 0)=y.grams:=zm (by simp[lk,hy,e]);rw[e1,e2,Int.sub_sub]
   ·have e1:(if y.bat=((x.bat.toNat:Nat):Int)then y.grams else 0)=0:=zp (by omega);have e2:(if lk x.bat y=true then y.grams else 0)=0:=zp (by simp[lk,hy,e]);rw[e1,e2,yI,yR]
section
variable{p:Led}{cert:List Int}
theorem jmm(h:jb6 p=true):InB p.bs.length p.ps:=fun x hx=>by
 have:=papOk_iff.1 ((jb5 h).2.2.2 x hx);omega
theorem jmx:(left0 p cert).length=p.bs.length:=by simp[left0]
theorem jqx{k:Nat}(h:k<p.bs.length):(left0 p cert).getD k 0=if k<cert.length then max 0 (cert.getD k 0)else 0:=by
 unfold left0;rw[qm,zq,yT h];rfl
theorem stand_len(h:jb6 p=true):(jeo p cert).length=p.ps.length:=by unfold jeo;rw[zm h,jqv]
def restF(p:Led)(cert:List Int)(k:Int):Int:=(if k.toNat<cert.length then max 0 (cert.getD k.toNat 0)else 0)-sumG (rk k) p.ps
theorem stand_get(h:jb6 p=true){i:Nat}{x:Pap}(hx:p.ps[i]? =some x):(jeo p cert)[i]? =some (x.live&&decide (0<=restF p cert x.bat-sumG (lk x.bat) (p.ps.take (i+1)))):=by
 have hb:=jmm h;obtain⟨x1,x2,_⟩:=hb x (zt hx);obtain⟨r1,r2⟩:=jpf x.bat.toNat p.ps (left0 p cert) (by rw[jmx];exact hb);have e:((x.bat.toNat:Nat):Int)=x.bat:=by omega
 unfold jeo restF;rw[zm h,jmw _ _ (by rw[r1,jmx];exact hb) i x hx,r2,jqx (by omega),e]
end
end
end Go.Proofs.YtgncgpfjldefpaaGreat
