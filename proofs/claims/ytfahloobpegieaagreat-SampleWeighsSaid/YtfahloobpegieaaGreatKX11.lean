/- A part of the proof. No further condition. -/
import Derived.Test.YtfahloobpegieaaGreatKX10
import Derived.Attr
import Derived.Test.YtfahloobpegieaaGreatProg
import Derived.KernelRfl
import Derived.IntWalk
set_option linter.all false
set_option maxRecDepth 100000
namespace Go.Abs
section
section
variable{G:Ctx}
variable(dst:Option Tmp)(ty:TypeId)(pos:String)(af:Array Edge)(gd:Option (Nat×Bool))(st:St)(ops:List Oper)(r:List Oper)
theorem aop_move(x:Operand)(K:St->Prop):aop G ⟨dst,.move x,ty,pos,af,gd⟩ K st=Opt (yv G st ⟨dst,.move x,ty,pos,af,gd⟩) (K:=⟨fun av=>K (st.put dst av)⟩):=jc5 K st ⟨dst,.move x,ty,pos,af,gd⟩
theorem aq_move(x:Operand)(K:AV->Prop):aq G st ⟨dst,.move x,ty,pos,af,gd⟩ K=Opt (yv G st ⟨dst,.move x,ty,pos,af,gd⟩) (K:=⟨K⟩):=by rw[aq_eq]
theorem aop_assign(x:Operand)(K:St->Prop):aop G ⟨dst,.assign x,ty,pos,af,gd⟩ K st=Opt (yv G st ⟨dst,.assign x,ty,pos,af,gd⟩) (K:=⟨fun av=>K (st.put dst av)⟩):=jc5 K st ⟨dst,.assign x,ty,pos,af,gd⟩
theorem aq_assign(x:Operand)(K:AV->Prop):aq G st ⟨dst,.assign x,ty,pos,af,gd⟩ K=Opt (yv G st ⟨dst,.assign x,ty,pos,af,gd⟩) (K:=⟨K⟩):=by rw[aq_eq]
theorem aop_pick(c a b:Operand)(K:St->Prop):aop G ⟨dst,.pick c a b,ty,pos,af,gd⟩ K st=Opt (yv G st ⟨dst,.pick c a b,ty,pos,af,gd⟩) (K:=⟨fun av=>K (st.put dst av)⟩):=jc5 K st ⟨dst,.pick c a b,ty,pos,af,gd⟩
theorem aq_pick(c a b:Operand)(K:AV->Prop):aq G st ⟨dst,.pick c a b,ty,pos,af,gd⟩ K=Opt (yv G st ⟨dst,.pick c a b,ty,pos,af,gd⟩) (K:=⟨K⟩):=by rw[aq_eq]
theorem aop_unOp(u:UnOp)(t:TypeId)(x:Operand)(K:St->Prop):aop G ⟨dst,.unOp u t x,ty,pos,af,gd⟩ K st=Opt (yv G st ⟨dst,.unOp u t x,ty,pos,af,gd⟩) (K:=⟨fun av=>K (st.put dst av)⟩):=jc5 K st ⟨dst,.unOp u t x,ty,pos,af,gd⟩
theorem aq_unOp(u:UnOp)(t:TypeId)(x:Operand)(K:AV->Prop):aq G st ⟨dst,.unOp u t x,ty,pos,af,gd⟩ K=Opt (yv G st ⟨dst,.unOp u t x,ty,pos,af,gd⟩) (K:=⟨K⟩):=by rw[aq_eq]
theorem aop_nilCheck(x:Operand)(K:St->Prop):aop G ⟨dst,.nilCheck x,ty,pos,af,gd⟩ K st=Opt (yv G st ⟨dst,.nilCheck x,ty,pos,af,gd⟩) (K:=⟨fun av=>K (st.put dst av)⟩):=jc5 K st ⟨dst,.nilCheck x,ty,pos,af,gd⟩
theorem aq_nilCheck(x:Operand)(K:AV->Prop):aq G st ⟨dst,.nilCheck x,ty,pos,af,gd⟩ K=Opt (yv G st ⟨dst,.nilCheck x,ty,pos,af,gd⟩) (K:=⟨K⟩):=by rw[aq_eq]
theorem aop_load(t:TypeId)(p:Operand)(K:St->Prop):aop G ⟨dst,.load t p,ty,pos,af,gd⟩ K st=Opt (yv G st ⟨dst,.load t p,ty,pos,af,gd⟩) (K:=⟨fun av=>K (st.put dst av)⟩):=jc5 K st ⟨dst,.load t p,ty,pos,af,gd⟩
theorem aq_load(t:TypeId)(p:Operand)(K:AV->Prop):aq G st ⟨dst,.load t p,ty,pos,af,gd⟩ K=Opt (yv G st ⟨dst,.load t p,ty,pos,af,gd⟩) (K:=⟨K⟩):=by rw[aq_eq]
theorem aop_fieldAddr(t:TypeId)(x:Operand)(f:Nat)(K:St->Prop):aop G ⟨dst,.fieldAddr t x f,ty,pos,af,gd⟩ K st=Opt (yv G st ⟨dst,.fieldAddr t x f,ty,pos,af,gd⟩) (K:=⟨fun av=>K (st.put dst av)⟩):=jc5 K st ⟨dst,.fieldAddr t x f,ty,pos,af,gd⟩
theorem aq_fieldAddr(t:TypeId)(x:Operand)(f:Nat)(K:AV->Prop):aq G st ⟨dst,.fieldAddr t x f,ty,pos,af,gd⟩ K=Opt (yv G st ⟨dst,.fieldAddr t x f,ty,pos,af,gd⟩) (K:=⟨K⟩):=by rw[aq_eq]
theorem aop_field(t:TypeId)(x:Operand)(f:Nat)(K:St->Prop):aop G ⟨dst,.field t x f,ty,pos,af,gd⟩ K st=Opt (yv G st ⟨dst,.field t x f,ty,pos,af,gd⟩) (K:=⟨fun av=>K (st.put dst av)⟩):=jc5 K st ⟨dst,.field t x f,ty,pos,af,gd⟩
theorem aq_field(t:TypeId)(x:Operand)(f:Nat)(K:AV->Prop):aq G st ⟨dst,.field t x f,ty,pos,af,gd⟩ K=Opt (yv G st ⟨dst,.field t x f,ty,pos,af,gd⟩) (K:=⟨K⟩):=by rw[aq_eq]
theorem aop_indexAddr(t:TypeId)(x i:Operand)(K:St->Prop):aop G ⟨dst,.indexAddr t x i,ty,pos,af,gd⟩ K st=Opt (yv G st ⟨dst,.indexAddr t x i,ty,pos,af,gd⟩) (K:=⟨fun av=>K (st.put dst av)⟩):=jc5 K st ⟨dst,.indexAddr t x i,ty,pos,af,gd⟩
theorem aq_indexAddr(t:TypeId)(x i:Operand)(K:AV->Prop):aq G st ⟨dst,.indexAddr t x i,ty,pos,af,gd⟩ K=Opt (yv G st ⟨dst,.indexAddr t x i,ty,pos,af,gd⟩) (K:=⟨K⟩):=by rw[aq_eq]
theorem aop_index(t:TypeId)(x i:Operand)(K:St->Prop):aop G ⟨dst,.index t x i,ty,pos,af,gd⟩ K st=Opt (yv G st ⟨dst,.index t x i,ty,pos,af,gd⟩) (K:=⟨fun av=>K (st.put dst av)⟩):=jc5 K st ⟨dst,.index t x i,ty,pos,af,gd⟩
theorem aq_index(t:TypeId)(x i:Operand)(K:AV->Prop):aq G st ⟨dst,.index t x i,ty,pos,af,gd⟩ K=Opt (yv G st ⟨dst,.index t x i,ty,pos,af,gd⟩) (K:=⟨K⟩):=by rw[aq_eq]
theorem aop_extract(x:Operand)(k:Nat)(K:St->Prop):aop G ⟨dst,.extract x k,ty,pos,af,gd⟩ K st=Opt (yv G st ⟨dst,.extract x k,ty,pos,af,gd⟩) (K:=⟨fun av=>K (st.put dst av)⟩):=jc5 K st ⟨dst,.extract x k,ty,pos,af,gd⟩
theorem aq_extract(x:Operand)(k:Nat)(K:AV->Prop):aq G st ⟨dst,.extract x k,ty,pos,af,gd⟩ K=Opt (yv G st ⟨dst,.extract x k,ty,pos,af,gd⟩) (K:=⟨K⟩):=by rw[aq_eq]
theorem aop_build(t:TypeId)(ps:Array (Nat×Operand))(K:St->Prop):aop G ⟨dst,.build t ps,ty,pos,af,gd⟩ K st=Opt (yv G st ⟨dst,.build t ps,ty,pos,af,gd⟩) (K:=⟨fun av=>K (st.put dst av)⟩):=jc5 K st ⟨dst,.build t ps,ty,pos,af,gd⟩
theorem aq_build(t:TypeId)(ps:Array (Nat×Operand))(K:AV->Prop):aq G st ⟨dst,.build t ps,ty,pos,af,gd⟩ K=Opt (yv G st ⟨dst,.build t ps,ty,pos,af,gd⟩) (K:=⟨K⟩):=by rw[aq_eq]
theorem aop_buildSlice(t:TypeId)(n:Nat)(ps:Array (Nat×Operand))(K:St->Prop):aop G ⟨dst,.buildSlice t n ps,ty,pos,af,gd⟩ K st=Opt (yv G st ⟨dst,.buildSlice t n ps,ty,pos,af,gd⟩) (K:=⟨fun av=>K (st.put dst av)⟩):=jc5 K st ⟨dst,.buildSlice t n ps,ty,pos,af,gd⟩
theorem aq_buildSlice(t:TypeId)(n:Nat)(ps:Array (Nat×Operand))(K:AV->Prop):aq G st ⟨dst,.buildSlice t n ps,ty,pos,af,gd⟩ K=Opt (yv G st ⟨dst,.buildSlice t n ps,ty,pos,af,gd⟩) (K:=⟨K⟩):=by rw[aq_eq]
theorem aop_convert(s d:TypeId)(x:Operand)(K:St->Prop):aop G ⟨dst,.convert s d x,ty,pos,af,gd⟩ K st=Opt (yv G st ⟨dst,.convert s d x,ty,pos,af,gd⟩) (K:=⟨fun av=>K (st.put dst av)⟩):=jc5 K st ⟨dst,.convert s d x,ty,pos,af,gd⟩
theorem aq_convert(s d:TypeId)(x:Operand)(K:AV->Prop):aq G st ⟨dst,.convert s d x,ty,pos,af,gd⟩ K=Opt (yv G st ⟨dst,.convert s d x,ty,pos,af,gd⟩) (K:=⟨K⟩):=by rw[aq_eq]
theorem aop_slice(t:TypeId)(x:Operand)(lo hi mx:Option Operand)(K:St->Prop):aop G ⟨dst,.slice t x lo hi mx,ty,pos,af,gd⟩ K st=Opt (yv G st ⟨dst,.slice t x lo hi mx,ty,pos,af,gd⟩) (K:=⟨fun av=>K (st.put dst av)⟩):=jc5 K st ⟨dst,.slice t x lo hi mx,ty,pos,af,gd⟩
theorem aq_slice(t:TypeId)(x:Operand)(lo hi mx:Option Operand)(K:AV->Prop):aq G st ⟨dst,.slice t x lo hi mx,ty,pos,af,gd⟩ K=Opt (yv G st ⟨dst,.slice t x lo hi mx,ty,pos,af,gd⟩) (K:=⟨K⟩):=by rw[aq_eq]
theorem aop_binOp(b:BinOp)(t:TypeId)(x y:Operand)(u:TypeId)(K:St->Prop):aop G ⟨dst,.binOp b t x y u,ty,pos,af,gd⟩ K st=aBin G K st ⟨dst,.binOp b t x y u,ty,pos,af,gd⟩ b t x y:=propext ⟨fun h=>h,fun h=>h⟩
theorem aq_binOp(b:BinOp)(t:TypeId)(x y:Operand)(u:TypeId)(K:AV->Prop):aq G st ⟨dst,.binOp b t x y u,ty,pos,af,gd⟩ K=Opt (yv G st ⟨dst,.binOp b t x y u,ty,pos,af,gd⟩) (K:=⟨K⟩):=by rw[aq_eq]
theorem aBin_tmp(o:Oper)(b:BinOp)(t:TypeId)(x:Operand)(d:Tmp)(K:St->Prop):aBin G K st o b t x (.tmp d)=Opt (yv G st o) (K:=⟨fun av=>K (st.put o.dst av)⟩):=jc5 K st o
theorem aBin_int(o:Oper)(b:BinOp)(t:TypeId)(x:Operand)(k:IntKind)(n:Int)(K:St->Prop):aBin G K st o b t x (.const (.int k n))=Opt (yv G st o) (K:=⟨fun av=>K (st.put o.dst av)⟩):=jc5 K st o
theorem aBin_bool(o:Oper)(b:BinOp)(t:TypeId)(x:Operand)(n:Bool)(K:St->Prop):aBin G K st o b t x (.const (.bool n))=Opt (yv G st o) (K:=⟨fun av=>K (st.put o.dst av)⟩):=jc5 K st o
theorem aBin_str(o:Oper)(b:BinOp)(t:TypeId)(x:Operand)(n:ByteArray)(K:St->Prop):aBin G K st o b t x (.const (.string n))=Opt (yv G st o) (K:=⟨fun av=>K (st.put o.dst av)⟩):=jc5 K st o
theorem aBin_nil(o:Oper)(b:BinOp)(t:TypeId)(x:Operand)(K:St->Prop):aBin G K st o b t x (.const (.slice none 0 0))=aNil G K st o.dst b t x:=propext ⟨fun h=>h,fun h=>h⟩
theorem alist_app(K:St->Prop)(x:Oper)(a b:List Oper):alist G ops K (List.append (x::a) b) st=alist G ops K (x::List.append a b) st:=propext ⟨fun h=>h,fun h=>h⟩
theorem alist_app_nil(K:St->Prop)(b:List Oper):alist G ops K (List.append [] b) st=alist G ops K b st:=propext ⟨fun h=>h,fun h=>h⟩
theorem app_get_succ(x:Oper)(a b:List Oper)(n:Nat):(List.append (x::a) b)[n+1]? =(List.append a b)[n]? :=List.getElem?_cons_succ
theorem app_get_zero(x:Oper)(a b:List Oper):(List.append (x::a) b)[0]? =some x:=List.getElem?_cons_zero
theorem app_get_nil(b:List Oper)(n:Nat):(List.append [] b)[n]? =b[n]? :=congrArg (·[n]?) (List.nil_append b)
theorem aop_box(t:TypeId)(x:Operand)(d:Tmp)(K:St->Prop):aop G ⟨some d,.box t x,ty,pos,af,gd⟩ K st=
  Opt (ivOf (evO (st.lendO x) x)) (K:=⟨fun y=>(cellsOf y).all IV.one=true/\(if G.perm.contains d=true then NewP (cellsOf y).length [cellsOf y] d (K:=⟨K⟩) (A:=⟨(st.lendO x,fun b=> .loc (hp b) (cellsOf y).length 0 0)⟩)else K ((st.lendO x).newRow d (cellsOf y).length [cellsOf y]))⟩):=by
 simp only[aop,Opt];split
 ·rename_i d' y h1 h2;cases h1;rw[h2];rfl
 ·rename_i h1;generalize hy:ivOf (evO (st.lendO x) x)=oy;cases oy with
  | none=>rfl
  | some y=>exact(h1 d y rfl hy).elim
theorem aop_alloc(t:TypeId)(d:Tmp)(K:St->Prop):aop G ⟨some d,.alloc t,ty,pos,af,gd⟩ K st=Opt (jdh G t) (K:=⟨fun z=>if G.perm.contains d=true then NewP z.length [z] d (K:=⟨K⟩) (A:=⟨(st,fun b=> .loc (hp b) z.length 0 0)⟩)else K (st.newRow d z.length [z])⟩):=by
 simp only[aop,Opt];split
 ·rename_i d' y h1 h2;cases h1;rw[h2];rfl
 ·rename_i h1;generalize hy:jdh G t=oy;cases oy with
  | none=>rfl
  | some y=>exact(h1 d y rfl hy).elim
theorem aop_store(t:TypeId)(p x:Operand)(K:St->Prop):aop G ⟨dst,.store t p x,ty,pos,af,gd⟩ K st=jlp G K (st.lendO x) dst t p x:=propext ⟨fun h=>h,fun h=>h⟩
theorem aop_makeSlice(t:TypeId)(l c:Operand)(K:St->Prop):aop G ⟨dst,.makeSlice t l c,ty,pos,af,gd⟩ K st=aMake G K st dst t (evO st l) (evO st c):=propext ⟨fun h=>h,fun h=>h⟩
theorem aop_makeFunc(f:Fn)(x y:Array Operand)(K:St->Prop):aop G ⟨dst,.makeFunc f x y,ty,pos,af,gd⟩ K st=
  Opt (yv G (st.lendOs y.toList) ⟨dst,.makeFunc f x y,ty,pos,af,gd⟩) (K:=⟨fun av=>K ((st.lendOs y.toList).put dst av)⟩):=jc5 K (st.lendOs y.toList) ⟨dst,.makeFunc f x y,ty,pos,af,gd⟩
theorem aq_makeFunc(f:Fn)(x y:Array Operand)(K:AV->Prop):aq G st ⟨dst,.makeFunc f x y,ty,pos,af,gd⟩ K=Opt (yv G st ⟨dst,.makeFunc f x y,ty,pos,af,gd⟩) (K:=⟨K⟩):=by rw[aq_eq]
theorem aop_call(f:Operand)(azz:Array Operand)(ts:Array TypeId)(K:St->Prop):aop G ⟨dst,.call ⟨.value f,azz,ts⟩,ty,pos,af,gd⟩ K st=aCall G K st dst f azz.toList:=propext ⟨fun h=>h,fun h=>h⟩
theorem aq_call(f:Operand)(azz:Array Operand)(ts:Array TypeId)(K:AV->Prop):aq G st ⟨dst,.call ⟨.value f,azz,ts⟩,ty,pos,af,gd⟩ K=
  match evO st f,ivsOf (azz.toList.map (evO st))with
  | .im (.clo g caps),some xs=>CallD G g (xs++caps) (K:=⟨fun r=>K (.im r)⟩)
  | _,_=>False:=(aq_eq st ⟨dst,.call ⟨.value f,azz,ts⟩,ty,pos,af,gd⟩ K).trans (propext ⟨fun h=>h,fun h=>h⟩)
theorem aop_append(azz:Array Operand)(ts:Array TypeId)(K:St->Prop):aop G ⟨dst,.call ⟨.builtin .append,azz,ts⟩,ty,pos,af,gd⟩ K st=jkt G K st dst ts.toList azz.toList:=propext ⟨fun h=>h,fun h=>h⟩
theorem aq_append(azz:Array Operand)(ts:Array TypeId)(K:AV->Prop):aq G st ⟨dst,.call ⟨.builtin .append,azz,ts⟩,ty,pos,af,gd⟩ K=appP G st ts.toList azz.toList K:=by rw[aq_eq]
theorem aop_len(azz:Array Operand)(ts:Array TypeId)(K:St->Prop):aop G ⟨dst,.call ⟨.builtin .len,azz,ts⟩,ty,pos,af,gd⟩ K st=Opt (yv G st ⟨dst,.call ⟨.builtin .len,azz,ts⟩,ty,pos,af,gd⟩) (K:=⟨fun av=>K (st.put dst av)⟩):=jc5 K st ⟨dst,.call ⟨.builtin .len,azz,ts⟩,ty,pos,af,gd⟩
theorem aq_len(azz:Array Operand)(ts:Array TypeId)(K:AV->Prop):aq G st ⟨dst,.call ⟨.builtin .len,azz,ts⟩,ty,pos,af,gd⟩ K=Opt (yv G st ⟨dst,.call ⟨.builtin .len,azz,ts⟩,ty,pos,af,gd⟩) (K:=⟨K⟩):=by rw[aq_eq]
theorem aop_min(azz:Array Operand)(ts:Array TypeId)(K:St->Prop):aop G ⟨dst,.call ⟨.builtin .min,azz,ts⟩,ty,pos,af,gd⟩ K st=Opt (yv G st ⟨dst,.call ⟨.builtin .min,azz,ts⟩,ty,pos,af,gd⟩) (K:=⟨fun av=>K (st.put dst av)⟩):=jc5 K st ⟨dst,.call ⟨.builtin .min,azz,ts⟩,ty,pos,af,gd⟩
theorem aq_min(azz:Array Operand)(ts:Array TypeId)(K:AV->Prop):aq G st ⟨dst,.call ⟨.builtin .min,azz,ts⟩,ty,pos,af,gd⟩ K=Opt (yv G st ⟨dst,.call ⟨.builtin .min,azz,ts⟩,ty,pos,af,gd⟩) (K:=⟨K⟩):=by rw[aq_eq]
theorem aop_max(azz:Array Operand)(ts:Array TypeId)(K:St->Prop):aop G ⟨dst,.call ⟨.builtin .max,azz,ts⟩,ty,pos,af,gd⟩ K st=Opt (yv G st ⟨dst,.call ⟨.builtin .max,azz,ts⟩,ty,pos,af,gd⟩) (K:=⟨fun av=>K (st.put dst av)⟩):=jc5 K st ⟨dst,.call ⟨.builtin .max,azz,ts⟩,ty,pos,af,gd⟩
theorem aq_max(azz:Array Operand)(ts:Array TypeId)(K:AV->Prop):aq G st ⟨dst,.call ⟨.builtin .max,azz,ts⟩,ty,pos,af,gd⟩ K=Opt (yv G st ⟨dst,.call ⟨.builtin .max,azz,ts⟩,ty,pos,af,gd⟩) (K:=⟨K⟩):=by rw[aq_eq]
theorem aAppend_eq(K:St->Prop)(d:Nat)(t t':TypeId)(x y:Operand):jkt G K st (some d) [t,t'] [x,y]=
  match(G.ti t).kind with
  | .sl e=>match jhh st e (G.ti e).size (evO st x)with
   | some (b,n,es)=>(match jcb (evO st y)with
    | some xs=>t=t'/\(G.ti t).size≠0/\(G.ti e).size≠0/\(G.ti e).bytes≠0/\(∀c∈xs,c.length=(G.ti e).size)/\n<=es.length/\(n+xs.length)*(G.ti e).bytes<=140737488355328/\
     GrowP b (G.ti e).size (es.take n++xs) d e (n+xs.length) (K:=⟨K⟩) (A:=⟨st⟩)
    | none=>False)
   | none=>match jnt st e (G.ti e).size (evO st x)with
   | some (src,n,es)=>(match jcb (evO st y)with
    | some xs=>t=t'/\(G.ti t).size≠0/\(G.ti e).size≠0/\(G.ti e).bytes≠0/\(∀c∈xs,c.length=(G.ti e).size)/\n<=es.length/\(n+xs.length)*(G.ti e).bytes<=140737488355328/\
    K ((jdi st src d (G.ti e).size (es.take n++xs)).put (some d) (.gsl d e (G.ti e).size (n+xs.length)))
    | none=>False)
   | none=>if(G.own=true\/G.perm.contains d=true)/\isEmp (evO st x)=true then(match jcb (evO st y)with
    | some xs=>t=t'/\(G.ti t).size≠0/\(G.ti e).size≠0/\(G.ti e).bytes≠0/\(∀c∈xs,c.length=(G.ti e).size)/\xs.length*(G.ti e).bytes<=140737488355328/\xs≠[]/\
     (if G.perm.contains d=true then NewP (G.ti e).size xs d (K:=⟨K⟩) (A:=⟨(st,fun b=> .im (.ref b e (G.ti e).size xs.length))⟩)else K (st.newArr d e (G.ti e).size xs))
    | none=>False)else match jq0 st e (G.ti e).size d (evO st x),jir st (evO st y)with
   | some (src,es),some xs=>
    t=t'/\(G.ti t).size≠0/\(G.ti e).size≠0/\(G.ti e).bytes≠0/\(∀c∈es,c.length=(G.ti e).size)/\(∀c∈xs,c.length=(G.ti e).size)/\
    (es.length+xs.length)*(G.ti e).bytes<=140737488355328/\
    K ((tokSt st src d (G.ti e).size (es.length+xs.length)).put (some d) (.vec d e (G.ti e).size (es++xs)))
   | _,_=>False
  | _=>False:=propext ⟨fun h=>h,fun h=>h⟩
theorem aMake_eq(K:St->Prop)(d:Nat)(t:TypeId)(k k':IntKind)(n m:Int):aMake G K st (some d) t (.im (.sc (.int k n))) (.im (.sc (.int k' m)))=
  match(G.ti t).kind with
  | .sl e=>match jdh G e with
   | some z=>(G.ti t).size≠0/\n=m/\0<=n/\n*(G.ti e).bytes<=140737488355328/\(G.ti e).bytes≠0/\
     (if G.perm.contains d=true then NewP (G.ti e).size (List.replicate n.toNat z) d (K:=⟨K⟩) (A:=⟨(st,fun b=> .im (.ref b e (G.ti e).size (List.replicate n.toNat z).length))⟩)else K (st.newArr d e (G.ti e).size (List.replicate n.toNat z)))
   | none=>False
  | _=>False:=propext ⟨fun h=>h,fun h=>h⟩
theorem aop_lookup(t:TypeId)(m k:Operand)(ok:Bool)(K:St->Prop):aop G ⟨dst,.lookup t m k ok,ty,pos,af,gd⟩ K st=Opt (yv G st ⟨dst,.lookup t m k ok,ty,pos,af,gd⟩) (K:=⟨fun av=>K (st.put dst av)⟩):=jc5 K st ⟨dst,.lookup t m k ok,ty,pos,af,gd⟩
theorem aq_lookup(t:TypeId)(m k:Operand)(ok:Bool)(K:AV->Prop):aq G st ⟨dst,.lookup t m k ok,ty,pos,af,gd⟩ K=Opt (yv G st ⟨dst,.lookup t m k ok,ty,pos,af,gd⟩) (K:=⟨K⟩):=by rw[aq_eq]
theorem aop_makeMap(t:TypeId)(d:Tmp)(K:St->Prop):aop G ⟨some d,.makeMap t none,ty,pos,af,gd⟩ K st=
  match(G.ti t).kind with
  | .mp kt e=>match keyN G kt with
   | some n=>(G.ti t).size≠0/\K ((tokSt st d d 0 0).put (some d) (.mpo d (n,intK G e) []))
   | none=>False
  | _=>False:=by
 show jjl G K st (some d) t=_;unfold jjl;generalize (G.ti t).kind=k;cases k<;>rfl
theorem aop_mapUpdate(t:TypeId)(m k x:Operand)(K:St->Prop):aop G ⟨dst,.mapUpdate t m k x,ty,pos,af,gd⟩ K st=jo4 G K st dst t (evO st m) (evO st k) (evO st x):=propext ⟨fun h=>h,fun h=>h⟩
theorem aMapUp_eq(K:St->Prop)(dst:Option Nat)(t:TypeId)(d:Nat)(sc:Nat×Bool)(kvs:List (List Int×List Int))(k x:AV):jo4 G K st dst t (.mpo d sc kvs) k x=
  match keyI k with
  | some ks=>(match valI x with
   | some bv=>(match(G.ti t).kind with
    | .mp kt e=>(G.ti t).size≠0/\look st.toks d=some (0,0)/\keyN G kt=some (nlen ks)/\sc=(nlen ks,bv.1)/\K (St.put {st with fr:=jh6 d sc (mput kvs ks bv.2) st.fr} dst (.im (.sc undef)))
    | _=>False)
   | none=>False)
  | none=>False:=by
 unfold jo4;generalize keyI k=a;generalize valI x=b;cases a with
 | none=>rfl
 | some ks=>cases b with
  | none=>rfl
  | some bv=>rfl
end
theorem hp_lit{n b:Nat}(h:n<100000):(n=hp b)=False:=eq_false (hp_ne h)
theorem hp_lit'{n b:Nat}(h:n<100000):(hp b=n)=False:=eq_false fun e=>hp_ne h e.symm
theorem hp_eq(a b:Nat):(hp a=hp b)=(a=b):=propext hp_inj
theorem hp_ge(b:Nat):(100000<=hp b)=True:=eq_true (by unfold hp;omega)
theorem hp_bne{n b:Nat}(h:n<100000):(hp b !=n)=true:=by
 rw[bne_iff_ne];exact fun e=>hp_ne h e.symm
theorem hp_bne2(a b:Nat):(hp a !=hp b)=(a !=b):=by
 by_cases h:a=b
 ·subst h;simp
 ·rw[(bne_iff_ne).2 h,bne_iff_ne];exact fun e=>h (hp_inj.1 e)
attribute [go_sem ↓] SpApp_ref SpApp_emp SpApp_sx0 SpApp_emp0 SpApp_sx00 aq_append aop_lookup aq_lookup aop_makeMap aop_mapUpdate aMapUp_eq alist_app alist_app_nil app_get_succ app_get_zero app_get_nil awp_skip awp_seq awp_cond awp_block awp_exit awp_ret awp_loop awp_region awp_draw jo1 alist_free alist_guard aheadN_zero aheadN_nil aheadN_free aheadN_guard aheadS_nil aheadS_store aheadS_alloc aheadS_guard aStores0_eq freshAll_nil freshAll_alloc mkRows_nil mkRows_alloc aheadS_move freshAll_move mkRows_move aheadS_assign freshAll_assign mkRows_assign aheadS_pick freshAll_pick mkRows_pick aheadS_box freshAll_box mkRows_box aheadS_build freshAll_build mkRows_build aheadS_buildSlice freshAll_buildSlice mkRows_buildSlice aheadS_load freshAll_load mkRows_load aheadS_nilCheck freshAll_nilCheck mkRows_nilCheck aheadS_binOp freshAll_binOp mkRows_binOp aheadS_unOp freshAll_unOp mkRows_unOp aheadS_convert freshAll_convert mkRows_convert aheadS_makeFunc freshAll_makeFunc mkRows_makeFunc aheadS_makeSlice freshAll_makeSlice mkRows_makeSlice aheadS_slice freshAll_slice mkRows_slice aheadS_fieldAddr freshAll_fieldAddr mkRows_fieldAddr aheadS_field freshAll_field mkRows_field aheadS_indexAddr freshAll_indexAddr mkRows_indexAddr aheadS_index freshAll_index mkRows_index aheadS_lookup freshAll_lookup mkRows_lookup aheadS_extract freshAll_extract mkRows_extract aheadS_call freshAll_call mkRows_call freshAll_store mkRows_store aheadS_makeMap freshAll_makeMap mkRows_makeMap aheadS_mapUpdate freshAll_mapUpdate mkRows_mapUpdate aheadS_makeInterface freshAll_makeInterface mkRows_makeInterface aStores_nil aStores_other aStores_store aCall_eq aCall0_eq aStore_eq aBin_tmp aBin_int aBin_bool aBin_str aBin_nil aNil_eq aop_box aop_alloc aop_store aop_makeSlice aop_makeFunc aq_makeFunc aop_call aq_call aop_append aop_binOp aq_binOp aop_move aq_move aop_assign aq_assign aop_pick aq_pick aop_unOp aq_unOp aop_nilCheck aq_nilCheck aop_load aq_load aop_fieldAddr aq_fieldAddr aop_field aq_field aop_indexAddr aq_indexAddr aop_index aq_index aop_extract aq_extract aop_build aq_build aop_buildSlice aq_buildSlice aop_convert aq_convert aop_slice aq_slice aop_len aq_len aop_min aq_min aop_max aq_max jcy zeroIV_eq List.getElem?_cons_succ List.getElem?_cons_zero
attribute [go_sem] mapOf keyI intsI valI ivs elemI_true elemI_false nlen jlv yLenM isMp AV.setM jh6 AV.froz St.lendM Prod.mk.injEq or_true true_or isEmp jd6 jhg aRetM aRet1M esOf AV.rn rnm jcp AV.toArg jdi jnt AV.soft AV.soft2 jck IV.int IV.bool jlf isSl aRetV St.proms St.prom1 AV.forget fgFr St.forget St.ren renFr St.prom jj6 jm7 Opt_some Two_true Two_false Two_not asB yv evO ofV jem St.get St.put look del jc9 Go.undef scBin scUn jln jgl jne jnf jjx scs jg2 aggK jbo fillA jcb ivOf ivsOf jek jhi jgu jky yLoad noZ List.any_cons List.any_nil jex jot jfs bnd jor yLen jos cellsOf IV.one flatB ZC.iv St.fresh AV.purge AV.lend St.lend St.lendO St.lendOs St.newRow St.newArr setRow tokSt jir jq0 St.keep List.getElem?_nil List.length_cons List.length_nil List.map_cons List.map_nil List.foldl_cons List.foldl_nil List.all_cons List.all_nil List.cons_append List.nil_append List.drop_succ_cons List.drop_zero List.take_succ_cons List.take_zero List.set_cons_zero List.set_cons_succ List.filter_cons List.filter_nil List.contains_cons List.contains_nil List.replicate_succ List.replicate_zero List.append_nil Int.natCast_nonneg Int.cast_ofNat_Int Option.getD_some Option.getD_none Option.isSome_some Option.isSome_none Option.map_some Option.map_none Bool.false_eq_true Bool.true_eq_false Bool.not_true Bool.not_false Bool.and_true Bool.true_and Bool.and_false Bool.false_and Bool.or_true Bool.true_or Bool.or_false Bool.false_or beq_self_eq_true bq_true oc_int oc_bool oc_string List.length_map List.size_toArray bq_false aRet resL resIV lendR decide_true decide_false if_true if_false ite_true ite_false ne_eq not_true not_false_iff true_and and_true false_and and_false true_or or_true false_or or_false true_implies forall_const implies_true Nat.zero_add Nat.add_zero Int.toNat_natCast flat1 aAppend_eq aMake_eq
attribute [go_sem] appP nilC
attribute [go_sem] ivE List.isEmpty_nil List.isEmpty_cons Bool.false_and Bool.true_and hp_lit hp_lit' hp_eq hp_ge hp_bne hp_bne2 bne_self_eq_false AV.dp jhh isHa isFrz ZC.ivG St.addH jdo St.frzOs frzO St.frz AV.frz frz1 frz2 frz3 AV.toH jlq
attribute [go_sem] Int.reduceNegSucc Nat.reduceAdd Nat.reduceSub Nat.reduceMul Nat.reduceEqDiff Nat.reduceLeDiff Nat.reduceLT Nat.reduceBEq Nat.reduceBNe reduceIte reduceCtorEq Int.reduceToNat Int.reduceAdd Int.reduceSub Int.reduceMul Int.reduceNeg Int.reduceLT Int.reduceLE Int.reduceEq Int.reduceNe
end
end Go.Abs
namespace Go.Proofs.YtfahloobpegieaaGreat
section
open Go.Abs
def ti:Nat->TI
 | 2=>⟨1,8,[.int .i64],.it .i64,false⟩
 | 3=>⟨1,8,[.int .i64],.it .i64,false⟩
 | 4=>⟨1,1,[.bool],.bl,false⟩
 | 5=>⟨1,1,[.int .u8],.it .u8,false⟩
 | 9=>⟨1,16,[.str],.str,false⟩
 | 12=>⟨1,8,[.int .u64],.it .u64,false⟩
 | 15=>⟨1,8,[.no],.no,false⟩
 | 16=>⟨1,8,[.no],.no,false⟩
 | 17=>⟨1,8,[.no],.no,false⟩
 | 21=>⟨1,4,[.int .i32],.it .i32,false⟩
 | 22=>⟨1,24,[.sl],.sl 86,false⟩
 | 23=>⟨1,24,[.sl],.sl 110,false⟩
 | 24=>⟨1,24,[.sl],.sl 33,false⟩
 | 25=>⟨1,24,[.sl],.sl 35,false⟩
 | 26=>⟨1,24,[.sl],.sl 31,false⟩
 | 27=>⟨8,144,[.int .i64,.int .i64,.int .i64,.sl,.sl,.sl,.sl,.sl],.st [(0,3),(1,3),(2,3),(3,22),(4,23),(5,24),(6,25),(7,26)],false⟩
 | 28=>⟨8,144,[.int .i64,.int .i64,.int .i64,.sl,.sl,.sl,.sl,.sl],.st [(0,3),(1,3),(2,3),(3,22),(4,23),(5,24),(6,25),(7,26)],false⟩
 | 29=>⟨1,24,[.sl],.sl 105,false⟩
 | 30=>⟨4,32,[.int .i64,.int .i64,.int .i64,.int .i64],.st [(0,3),(1,3),(2,3),(3,3)],false⟩
 | 31=>⟨4,32,[.int .i64,.int .i64,.int .i64,.int .i64],.st [(0,3),(1,3),(2,3),(3,3)],true⟩
 | 32=>⟨6,48,[.int .i64,.int .i64,.int .i64,.int .i64,.int .i64,.int .i64],.st [(0,3),(1,3),(2,3),(3,3),(4,3),(5,3)],false⟩
 | 33=>⟨6,48,[.int .i64,.int .i64,.int .i64,.int .i64,.int .i64,.int .i64],.st [(0,3),(1,3),(2,3),(3,3),(4,3),(5,3)],true⟩
 | 34=>⟨2,16,[.int .i64,.int .i64],.st [(0,3),(1,3)],false⟩
 | 35=>⟨2,16,[.int .i64,.int .i64],.st [(0,3),(1,3)],true⟩
 | 38=>⟨1,24,[.sl],.sl 3,false⟩
 | 39=>⟨2,32,[.int .i64,.sl],.st [(0,3),(1,38)],false⟩
 | 40=>⟨2,32,[.int .i64,.sl],.st [(0,3),(1,38)],false⟩
 | 41=>⟨4,64,[.int .i64,.sl,.int .i64,.sl],.st [(0,40),(2,40)],false⟩
 | 42=>⟨4,64,[.int .i64,.sl,.int .i64,.sl],.st [(0,40),(2,40)],false⟩
 | 43=>⟨1,24,[.sl],.sl 42,false⟩
 | 44=>⟨8,144,[.int .i64,.int .i64,.sl,.int .i64,.sl,.sl,.sl,.sl],.st [(0,3),(1,42),(5,43),(6,43),(7,43)],false⟩
 | 45=>⟨8,144,[.int .i64,.int .i64,.sl,.int .i64,.sl,.sl,.sl,.sl],.st [(0,3),(1,42),(5,43),(6,43),(7,43)],false⟩
 | 46=>⟨16,288,[.int .i64,.int .i64,.sl,.int .i64,.sl,.sl,.sl,.sl,.int .i64,.int .i64,.sl,.int .i64,.sl,.sl,.sl,.sl],.st [(0,45),(8,45)],false⟩
 | 47=>⟨16,288,[.int .i64,.int .i64,.sl,.int .i64,.sl,.sl,.sl,.sl,.int .i64,.int .i64,.sl,.int .i64,.sl,.sl,.sl,.sl],.st [(0,45),(8,45)],false⟩
 | 48=>⟨1,8,[.int .i64],.it .i64,false⟩
 | 50=>⟨10,136,[.int .i64,.sl,.int .i64,.sl,.int .i64,.sl,.int .i64,.sl,.bool,.bool],.st [(0,42),(4,42),(8,4),(9,4)],false⟩
 | 51=>⟨10,136,[.int .i64,.sl,.int .i64,.sl,.int .i64,.sl,.int .i64,.sl,.bool,.bool],.st [(0,42),(4,42),(8,4),(9,4)],false⟩
 | 67=>⟨1,24,[.sl],.sl 227,false⟩
 | 68=>⟨2,32,[.int .i64,.sl],.st [(0,3),(1,67)],false⟩
 | 69=>⟨2,32,[.int .i64,.sl],.st [(0,3),(1,67)],false⟩
 | 72=>⟨1,24,[.sl],.sl 132,false⟩
 | 80=>⟨1,24,[.sl],.sl 43,false⟩
 | 85=>⟨3,24,[.int .i64,.int .i64,.int .i64],.st [(0,3),(1,3),(2,3)],false⟩
 | 86=>⟨3,24,[.int .i64,.int .i64,.int .i64],.st [(0,3),(1,3),(2,3)],true⟩
 | 88=>⟨1,24,[.sl],.sl 153,false⟩
 | 89=>⟨1,24,[.sl],.sl 155,false⟩
 | 104=>⟨2,16,[.int .i64,.int .i64],.st [(0,3),(1,3)],false⟩
 | 105=>⟨2,16,[.int .i64,.int .i64],.st [(0,3),(1,3)],true⟩
 | 109=>⟨6,48,[.int .i64,.int .i64,.int .i64,.int .i64,.int .i64,.bool],.st [(0,3),(1,3),(2,3),(3,3),(4,3),(5,4)],false⟩
 | 110=>⟨6,48,[.int .i64,.int .i64,.int .i64,.int .i64,.int .i64,.bool],.st [(0,3),(1,3),(2,3),(3,3),(4,3),(5,4)],true⟩
 | 125=>⟨1,24,[.sl],.sl 222,false⟩
 | 126=>⟨10,192,[.int .i64,.int .i64,.int .i64,.sl,.sl,.sl,.sl,.sl,.sl,.sl],.st [(0,28),(8,67),(9,125)],false⟩
 | 127=>⟨10,192,[.int .i64,.int .i64,.int .i64,.sl,.sl,.sl,.sl,.sl,.sl,.sl],.st [(0,28),(8,67),(9,125)],false⟩
 | 128=>⟨1,8,[.no],.no,false⟩
 | 131=>⟨5,72,[.int .i64,.int .i64,.sl,.int .i64,.sl],.st [(0,3),(1,42)],false⟩
 | 132=>⟨5,72,[.int .i64,.int .i64,.sl,.int .i64,.sl],.st [(0,3),(1,42)],false⟩
 | 146=>⟨1,24,[.sl],.sl 43,false⟩
 | 152=>⟨3,40,[.int .i64,.sl,.int .i64],.st [(0,3),(1,38),(2,3)],false⟩
 | 153=>⟨3,40,[.int .i64,.sl,.int .i64],.st [(0,3),(1,38),(2,3)],false⟩
 | 154=>⟨5,40,[.int .i64,.int .i64,.int .i64,.int .i64,.int .i64],.st [(0,3),(1,3),(2,3),(3,3),(4,3)],false⟩
 | 155=>⟨5,40,[.int .i64,.int .i64,.int .i64,.int .i64,.int .i64],.st [(0,3),(1,3),(2,3),(3,3),(4,3)],true⟩
 | 172=>⟨2,16,[.int .i64,.int .i64],.arr 2 3,false⟩
 | 173=>⟨1,24,[.sl],.sl 172,false⟩
 | 191=>⟨1,8,[.int .u64],.it .u64,false⟩
 | 192=>⟨1,8,[.int .u64],.it .u64,false⟩
 | 198=>⟨1,8,[.no],.no,false⟩
 | 210=>⟨2,48,[.sl,.sl],.st [(0,67),(1,125)],false⟩
 | 211=>⟨2,48,[.sl,.sl],.st [(0,67),(1,125)],false⟩
 | 212=>⟨1,8,[.no],.no,false⟩
 | 221=>⟨4,32,[.int .i64,.int .i64,.int .i64,.int .i64],.st [(0,3),(1,3),(2,3),(3,3)],false⟩
 | 222=>⟨4,32,[.int .i64,.int .i64,.int .i64,.int .i64],.st [(0,3),(1,3),(2,3),(3,3)],true⟩
 | 226=>⟨6,96,[.sl,.int .i64,.int .i64,.sl,.int .i64,.sl],.st [(0,72),(1,3),(2,42)],false⟩
 | 227=>⟨6,96,[.sl,.int .i64,.int .i64,.sl,.int .i64,.sl],.st [(0,72),(1,3),(2,42)],false⟩
 | 228=>⟨1,24,[.sl],.sl 235,false⟩
 | 229=>⟨1,24,[.sl],.sl 264,false⟩
 | 230=>⟨6,128,[.int .i64,.sl,.sl,.sl,.sl,.sl],.st [(0,3),(1,228),(2,43),(3,38),(4,38),(5,229)],false⟩
 | 231=>⟨6,128,[.int .i64,.sl,.sl,.sl,.sl,.sl],.st [(0,3),(1,228),(2,43),(3,38),(4,38),(5,229)],false⟩
 | 234=>⟨5,88,[.int .i64,.sl,.int .i64,.sl,.sl],.st [(0,42),(4,43)],false⟩
 | 235=>⟨5,88,[.int .i64,.sl,.int .i64,.sl,.sl],.st [(0,42),(4,43)],false⟩
 | 247=>⟨1,8,[.no],.no,false⟩
 | 261=>⟨1,4,[.int .u32],.it .u32,false⟩
 | 263=>⟨2,16,[.int .i64,.bool],.st [(0,3),(1,4)],false⟩
 | 264=>⟨2,16,[.int .i64,.bool],.st [(0,3),(1,4)],true⟩
 | 265=>⟨1,8,[.no],.no,false⟩
 | 272=>⟨1,24,[.sl],.sl 40,false⟩
 | 273=>⟨1,24,[.sl],.sl 272,false⟩
 | 274=>⟨12,256,[.sl,.sl,.sl,.int .i64,.sl,.sl,.sl,.sl,.sl,.sl,.int .i64,.sl],.st [(0,272),(1,273),(2,272),(3,40),(5,38),(6,38),(7,38),(8,38),(9,272),(10,40)],false⟩
 | 275=>⟨12,256,[.sl,.sl,.sl,.int .i64,.sl,.sl,.sl,.sl,.sl,.sl,.int .i64,.sl],.st [(0,272),(1,273),(2,272),(3,40),(5,38),(6,38),(7,38),(8,38),(9,272),(10,40)],false⟩
 | 289=>⟨1,8,[.no],.no,false⟩
 | 292=>⟨1,8,[.no],.no,false⟩
 | 303=>⟨1,8,[.no],.no,false⟩
 | 306=>⟨11,48,[.int .u64,.int .u64,.int .u32,.int .u8,.int .u8,.int .u8,.int .u8,.no,.no,.int .i32,.int .i32],.st [(0,12),(1,12),(2,261),(3,300),(4,5),(5,5),(6,301),(7,302),(8,303),(9,304),(10,305)],false⟩
 | _=>⟨0,0,[],.no,false⟩
noncomputable def G:Ctx:={P:=Tryz.prog,ti:=ti,fns:=305}
theorem G_ti(t:Nat):G.ti t=ti t:=rfl
theorem G_fns:G.fns=305:=rfl
theorem G_own:G.own=false:=rfl
noncomputable def GO:Ctx:={G with own:=true}
theorem GO_ti(t:Nat):GO.ti t=ti t:=rfl
theorem GO_fns:GO.fns=305:=rfl
theorem GO_own:GO.own=true:=rfl
theorem G_perm:G.perm=[]:=rfl
theorem G_frz:G.frz=[]:=rfl
theorem G_emp:G.emp=false:=rfl
theorem GO_perm:GO.perm=[]:=rfl
theorem GO_frz:GO.frz=[]:=rfl
theorem GO_emp:GO.emp=false:=rfl
noncomputable def GH(p f:List Nat):Ctx:={G with perm:=p,frz:=f,emp:=true}
theorem GH_ti(p f:List Nat)(t:Nat):(GH p f).ti t=ti t:=rfl
theorem GH_fns(p f:List Nat):(GH p f).fns=305:=rfl
theorem GH_own(p f:List Nat):(GH p f).own=false:=rfl
theorem GH_perm(p f:List Nat):(GH p f).perm=p:=rfl
theorem GH_frz(p f:List Nat):(GH p f).frz=f:=rfl
theorem GH_emp(p f:List Nat):(GH p f).emp=true:=rfl
attribute [go_sem] G_ti G_fns G_own GO_ti GO_fns GO_own ti G_perm G_frz G_emp GO_perm GO_frz GO_emp GH_ti GH_fns GH_own GH_perm GH_frz GH_emp
theorem ti_big(t:Nat)(h:309<=t):ti t=⟨0,0,[],.no,false⟩:=by
 unfold ti;split<;>first | omega | rfl
theorem ti_ok:((List.range 309).all fun t=>(ti t).size==0 || (ti t).okB Tryz.prog t)=true:=by kernel_rfl
theorem fn_ok:((List.range 305).all fun f=>decide (f<3) || jji Tryz.prog f)=true:=by kernel_rfl
theorem jmc:Tryz.prog.follows .mixedOrders=true:=by kernel_rfl
theorem good:G.Good where
 ok t ht:=by
  rcases Nat.lt_or_ge t 309 with h | h
  ·have:=List.all_eq_true.1 ti_ok t (List.mem_range.2 h);simp only[Bool.or_eq_true,beq_iff_eq]at this;exact this.resolve_left ht
  ·exact absurd (by rw[G_ti,ti_big t h]) ht
 fn f hf:=by
  have:=List.all_eq_true.1 fn_ok f (List.mem_range.2 hf.2);simp only[Bool.or_eq_true,decide_eq_true_eq]at this;exact this.resolve_left (by omega)
 mixed:=jmc
theorem goodO:GO.Good where
 ok:=good.ok
 fn:=good.fn
 mixed:=jmc
theorem goodH(p f:List Nat):(GH p f).Good where
 ok:=good.ok
 fn:=good.fn
 mixed:=jmc
end
section
open Go.Abs
def ic(n:Int):List IV:=[.int n]
def ints(l:List Int):IV:= .sl (l.map ic)
theorem ja6{n:Int}(h: -9223372036854775808<=n/\n<=9223372036854775807):IntKind.i64.wrap n=n:=IntWalk.i64_in n h
end
end Go.Proofs.YtfahloobpegieaaGreat
namespace Go.Abs
section
def val:List Int->Int
 | []=>0
 | d::l=>d+1048576*val l
def OkD(l:List Int):Prop:=∀d∈l,0<=d/\d<1048576
def dgt(l:List Int)(i:Nat):Int:=(l[i]?).getD 0
def dig(n:Nat):List Int:=if h:n=0 then []else((n % 1048576:Nat):Int)::dig (n/1048576)
 termination_by n
 decreasing_by omega
theorem OkD.nil:OkD []:=fun _ h=>by cases h
theorem OkD.cons{d:Int}{l:List Int}(h:0<=d/\d<1048576)(hl:OkD l):OkD (d::l):=fun x hx=>by
 rcases List.mem_cons.1 hx with rfl | hx
 ·exact h
 ·exact hl x hx
theorem OkD.tail{d:Int}{l:List Int}(h:OkD (d::l)):OkD l:=fun x hx=>h x (List.mem_cons_of_mem _ hx)
theorem OkD.head{d:Int}{l:List Int}(h:OkD (d::l)):0<=d/\d<1048576:=h d (List.mem_cons_self ..)
theorem OkD.take{l:List Int}(h:OkD l)(n:Nat):OkD (l.take n):=fun x hx=>h x (List.mem_of_mem_take hx)
theorem OkD.drop{l:List Int}(h:OkD l)(n:Nat):OkD (l.drop n):=fun x hx=>h x (List.mem_of_mem_drop hx)
theorem OkD.append{a b:List Int}(ha:OkD a)(hb:OkD b):OkD (a++b):=fun x hx=>(List.mem_append.1 hx).elim (ha x) (hb x)
theorem OkD.dgt{l:List Int}(h:OkD l)(i:Nat):0<=dgt l i/\dgt l i<1048576:=by
 unfold Go.Abs.dgt;cases hi:l[i]? with
 | none=>simp
 | some d=>exact h d (List.mem_of_getElem? hi)
theorem jaw:∀{l:List Int},OkD l->0<=val l
 | [],_=>Int.le_refl _
 | d::l,h=>by
  have:=jaw h.tail;have:=h.head;simp only[val];omega
theorem jdr:∀{l:List Int},OkD l->val l<1048576^l.length
 | [],_=>by simp[val]
 | d::l,h=>by
  have h1:=jdr h.tail;have h2:=h.head;simp only[val,List.length_cons,Int.pow_succ];omega
theorem jbf:dig 0=[]:=by rw[dig];simp
theorem jg1{n:Nat}(h:n≠0):dig n=((n % 1048576:Nat):Int)::dig (n/1048576):=by
 conv=>lhs;rw[dig]
 rw[dif_neg h]
theorem jbc(n:Nat):OkD (dig n):=by
 induction n using Nat.strongRecOn with
 | _ n ih=>
  by_cases h:n=0
  ·subst h;rw[jbf];exact OkD.nil
  ·rw[jg1 h];exact OkD.cons (by omega) (ih _ (by omega))
theorem jas(n:Nat):val (dig n)=n:=by
 induction n using Nat.strongRecOn with
 | _ n ih=>
  by_cases h:n=0
  ·subst h;rw[jbf];rfl
  ·rw[jg1 h,val,ih _ (by omega)];omega
theorem dig_nil{n:Nat}:dig n=[]↔n=0:=by
 constructor
 ·intro h;have:=jas n;rw[h]at this;simp only[val]at this;omega
 ·intro h;subst h;exact jbf
theorem eq_dig:∀{l:List Int},OkD l->l.getLast? ≠some 0->l=dig (val l).toNat
 | [],_,_=>by simp[val,jbf]
 | d::l,h,hl=>by
  have hd:=h.head;have hv:=jaw h.tail;cases l with
  | nil=>
   have:d≠0:=fun e=>hl (by simp[e]);simp only[val,Int.mul_zero,Int.add_zero];rw[jg1 (by omega),show d.toNat/1048576=0 by omega,jbf];congr 1;omega
  | cons e l=>
   have hl':(e::l).getLast? ≠some 0:=by rw[List.getLast?_cons_cons]at hl;exact hl
   have ih:=eq_dig h.tail hl';have hne:(val (e::l)).toNat≠0:=fun h0=>by rw[h0,jbf]at ih;cases ih
   generalize hw:e::l=w at*;have hval:val (d::w)=d+1048576*val w:=rfl;rw[jg1 (by omega),show(val (d::w)).toNat/1048576=(val w).toNat by omega,<-ih];congr 1;omega
theorem jme(n:Nat):(dig n).getLast? ≠some 0:=by
 induction n using Nat.strongRecOn with
 | _ n ih=>
  by_cases h:n=0
  ·subst h;rw[jbf];simp
  ·rw[jg1 h];by_cases h2:n/1048576=0
   ·rw[h2,jbf];simp;omega
   ·have:=ih (n/1048576) (by omega);cases hd:dig (n/1048576)with
    | nil=>rw[dig_nil]at hd;exact absurd hd h2
    | cons e l=>rw[List.getLast?_cons_cons,<-hd];exact this
theorem jet:∀(a b:List Int),val (a++b)=val a+1048576^a.length*val b
 | [],b=>by simp[val]
 | d::a,b=>by
  simp only[List.cons_append,val,jet a b,List.length_cons,Int.pow_succ,Int.mul_add,Int.mul_assoc];rw[Int.mul_left_comm (1048576:Int)];omega
theorem jbv(l:List Int)(i:Nat):val (l.take (i+1))=val (l.take i)+1048576^i*dgt l i:=by
 rcases Nat.lt_or_ge i l.length with h | h
 ·rw[List.take_succ_eq_append_getElem h,jet];have:(l.take i).length=i:=by rw[List.length_take];omega
  have hd:dgt l i=l[i]:=by unfold dgt;rw[List.getElem?_eq_getElem h];rfl
  rw[this,hd];have hs:val [l[i]]=l[i]:=by
   show l[i]+1048576*0=l[i];omega
  rw[hs]
 ·rw[List.take_of_length_le (by omega),List.take_of_length_le h,show dgt l i=0 by unfold dgt;rw[List.getElem?_eq_none h];rfl,Int.mul_zero,Int.add_zero]
theorem jd1(l:List Int)(i:Nat):val l=val (l.take i)+1048576^i*val (l.drop i):=by
 rcases Nat.lt_or_ge i l.length with h | h
 ·conv=>lhs;rw[<-List.take_append_drop i l]
  rw[jet];have:(l.take i).length=i:=by rw[List.length_take];omega
  rw[this]
 ·rw[List.take_of_length_le h,List.drop_of_length_le h];simp[val]
theorem jcr(l:List Int)(i:Nat):val (l.drop i)=dgt l i+1048576*val (l.drop (i+1)):=by
 rcases Nat.lt_or_ge i l.length with h | h
 ·rw[List.drop_eq_getElem_cons h,val];simp[dgt,h]
 ·rw[List.drop_of_length_le h,List.drop_of_length_le (by omega)];simp[val,dgt,List.getElem?_eq_none h]
theorem jf9(a b:List Int):∀(n k:Nat),a.length+b.length<=k+n->(∀j,k<=j->dgt a j=dgt b j)->val (a.drop k)=val (b.drop k)
 | 0,k,h,_=>by rw[List.drop_of_length_le (by omega),List.drop_of_length_le (by omega)]
 | n+1,k,h,hj=>by
  rw[jcr a,jcr b,hj k (Nat.le_refl _),jf9 a b n (k+1) (by omega) fun j h=>hj j (by omega)]
theorem jdc(i:Nat):(0:Int)<1048576^i:=Int.pow_pos (by omega)
theorem jd0{l:List Int}(h:OkD l)(i:Nat):val (l.take i)<1048576^i:=by
 have h1:=jdr (h.take i);have h2:(1048576:Int)^(l.take i).length<=1048576^i:=by
  have hl:(l.take i).length<=i:=by rw[List.length_take];omega
  have h3:(1048576:Nat)^(l.take i).length<=1048576^i:=Nat.pow_le_pow_right (by omega) hl;have h4:=Int.ofNat_le.2 h3;rw[Int.natCast_pow,Int.natCast_pow]at h4;exact h4
 omega
theorem lt_at{a b:List Int}(ha:OkD a)(hb:OkD b)(i:Nat)(h:∀j,i<j->dgt a j=dgt b j)(hlt:dgt a i<dgt b i):val a<val b:=by
 have e:val (a.drop (i+1))=val (b.drop (i+1)):=jf9 a b (a.length+b.length) (i+1) (by omega) fun j hj=>h j (by omega);have h1:=jd0 ha i;have h2:=jaw (hb.take i);have hp:=jdc i;rw[jd1 a i,jd1 b i,jcr a i,jcr b i,e];generalize val (b.drop (i+1))=v;generalize (1048576:Int)^i=p at*;have h3:p*(dgt a i+1048576*v)+p<=p*(dgt b i+1048576*v):=by
  have:p*(dgt a i+1048576*v)+p=p*(dgt a i+1+1048576*v):=by rw[Int.mul_add,Int.mul_add,Int.mul_add];omega
  rw[this];exact Int.mul_le_mul_of_nonneg_left (by omega) (by omega)
 omega
theorem jm4{a b:List Int}(h:∀j,dgt a j=dgt b j):val a=val b:=by
 have:=jf9 a b (a.length+b.length) 0 (by omega) fun j _=>h j
 simpa using this
theorem dgt_take{l:List Int}{n j:Nat}(h:∀i,n<=i->dgt l i=0):dgt (l.take n) j=dgt l j:=by
 unfold dgt at*;rw[List.getElem?_take];split
 ·rfl
 ·rename_i hj;exact(h j (by omega)).symm
theorem jly{l:List Int}(hl:OkD l){n:Nat}(hn:n<=l.length)(hz:∀i,n<=i->dgt l i=0)(hlast:n=0\/dgt l (n-1)≠0):l.take n=dig (val l).toNat:=by
 have hv:val (l.take n)=val l:=jm4 fun j=>dgt_take hz;rw[<-hv];refine eq_dig (hl.take n) fun h=> ?_;rcases hlast with h0 | h0
 ·subst h0;simp at h
 ·have hlen:(l.take n).length=n:=by rw[List.length_take];omega
  rw[List.getLast?_eq_getElem?,hlen]at h;have hn0:0<n:=by
   rcases Nat.eq_zero_or_pos n with e | e
   ·subst e;simp at h
   ·exact e
  rw[List.getElem?_take,if_pos (by omega)]at h;exact h0 (by simp[dgt,h])
end
section
theorem jig(d:Int):val [d]=d:=by
 show d+1048576*0=d;omega
theorem jlw(l:List Int)(d:Int):val (l++[d])=val l+1048576^l.length*d:=by rw[jet,jig]
theorem jcc(i:Nat):(1048576:Int)^(i+1)=1048576^i*1048576:=Int.pow_succ ..
theorem jl8{out a b:List Int}{i:Nat}{c n d c':Int}(hlen:out.length=i)(h:val out-1048576^i*c=val (a.take i)-val (b.take i))(hn:n=dgt a i-dgt b i-c)(hd:d-1048576*c'=n):
  val (out++[d])-1048576^(i+1)*c'=val (a.take (i+1))-val (b.take (i+1)):=by
 rw[jlw,hlen,jbv,jbv,jcc];generalize (1048576:Int)^i=p at*;have e:p*d-p*1048576*c'=p*n:=by rw[Int.mul_assoc,<-Int.mul_sub,hd]
 have e2:p*n=p*dgt a i-p*dgt b i-p*c:=by rw[hn,Int.mul_sub,Int.mul_sub]
 omega
theorem jbj{l:List Int}{i:Nat}(h:l.length<=i):val (l.take i)=val l:=by rw[List.take_of_length_le h]
theorem jf1{l:List Int}(hl:OkD l){i:Nat}(h:val l<1048576^i):val (l.drop i)=0:=by
 have h1:=jd1 l i;have h2:=jaw (hl.take i);have h3:=jaw (hl.drop i);have hp:=jdc i;rcases Int.lt_or_le 0 (val (l.drop i))with h4 | h4
 ·have:1048576^i*1<=1048576^i*val (l.drop i):=Int.mul_le_mul_of_nonneg_left (by omega) (by omega);omega
 ·omega
theorem jfd{l:List Int}(hl:OkD l){i:Nat}(h:val l<1048576^i):val (l.take i)=val l:=by
 have h1:=jd1 l i;rw[jf1 hl h,Int.mul_zero]at h1;omega
theorem jbb{n k:Nat}(h:(n:Int)<1048576^k):(dig n).length<=k:=by
 induction k generalizing n with
 | zero=>
  have:n=0:=by simp at h;omega
  subst this;rw[jbf];exact Nat.le_refl _
 | succ k ih=>
  by_cases hn:n=0
  ·subst hn;rw[jbf];exact Nat.zero_le _
  ·rw[jg1 hn,List.length_cons];rw[jcc]at h;have:=ih (n:=n/1048576) (by omega);omega
end
end Go.Abs
namespace Go.Proofs.YtfahloobpegieaaGreat
section
open Go.Abs
attribute [local go_sem] ints ic
theorem jg9(l:List Int):∀c∈l.map ic,c.length=1:=fun c hc=>by
 obtain⟨z,_,rfl⟩:=List.mem_map.1 hc;rfl
theorem jlg(l:List Int):((l.map ic).all fun c=>c.length==1)=true:=by
 rw[List.all_eq_true];intro c hc;rw[beq_iff_eq];exact jg9 l c hc
theorem jb1{l:List Int}{i:Nat}(h:(i:Int)<l.length):l[i]? =some (dgt l i):=by
 have h:i<l.length:=by omega
 unfold dgt;rw[List.getElem?_eq_getElem h];rfl
theorem dgt_at{l:List Int}{i:Nat}{d:Int}(h:l[i]? =some d):dgt l i=d:=by simp[dgt,h]
theorem jde{l:List Int}{i:Nat}(h:l.length<=i):dgt l i=0:=by simp[dgt,List.getElem?_eq_none h]
theorem jha(l:List Int)(i:Nat):Ctr G.P 205 [ints l,.int i] (· = .int (dgt l i)):=by
 by_cases hp:(i:Int)<l.length
 ·have hd:decide ((i:Int)<l.length)=true:=decide_eq_true hp;have hx:l[i]? =some (dgt l i):=by
   have h:i<l.length:=by omega
   unfold dgt;rw[List.getElem?_eq_getElem h];rfl
  generalize dgt l i=d at*;refine jaa good _ _ [.tmp 4] Tryz.func205 rfl rfl (by decide+kernel) rfl ?_;simp only[hd,List.getElem?_map,hx,go_sem]
 ·have hd:decide ((i:Int)<l.length)=false:=decide_eq_false hp;rw[jde (by omega)];refine jaa good _ _ [.tmp 4] Tryz.func205 rfl rfl (by decide+kernel) rfl ?_;simp only[hd,go_sem]
set_option maxHeartbeats 1000000 in
theorem jl1(l:List Int)(hl:OkD l)(hlen:l.length<=1000000000000):Ctr G.P 204 [ints l] (· =ints (dig (val l).toNat)):=by
 refine jaa good _ _ [.tmp 2] Tryz.func204 rfl rfl (by decide+kernel) rfl ?_;simp only[go_sem];refine jar [0,3] [] (fun n:Nat=>⟨[(0,.im (.sl (l.map ic))),(3,.im (.int n))],[],[]⟩) (fun n=>n<=l.length/\∀i,n<=i->dgt l i=0) (fun n=>n) l.length ?_ ⟨Nat.le_refl _,fun i hi=>jde hi⟩ ?_
 ·simp only[go_sem]
 ·intro n ⟨hn,hz⟩;have fin:n=0\/dgt l (n-1)≠0->(l.map ic).take n=(dig (val l).toNat).map ic:=fun h=>by
   rw[<-List.map_take,jly hl hn hz h]
  have hnn:(n:Int)<=l.length:=by omega
  rcases n with _ | m
  ·have hd:decide ((0:Int)<((0:Nat):Int))=false:=by decide
   have hf:=fin (.inl rfl);rw[List.take_zero]at hf;have hg:dig (val l).toNat=[]:=List.map_eq_nil_iff.1 hf.symm;rw[hg];simp only[hd,Int.natCast_zero,Int.lt_irrefl,jlg,go_sem];exact⟨by simp,by simp⟩
  ·have hd:decide ((0:Int)<((m+1:Nat):Int))=true:=decide_eq_true (by omega);have h1:=ja6 (n:=(m:Int)) (by omega);have h2:((m+1:Nat):Int)-1=m:=by omega
   have h3:((m+1:Nat):Int).toNat=m+1:=by omega
   have h4:(0:Int)<=((m+1:Nat):Int):=by omega
   obtain⟨d,hx⟩:∃d,l[m]? =some d:=⟨_,List.getElem?_eq_getElem (by omega)⟩;have hdm:=dgt_at hx;simp only[hd,h1,h2,List.getElem?_map,hx,go_sem];refine jc2 (fun hb hb'=> ?_) (fun hb hb'=> ?_)
   ·simp only[hd,h1,h2,go_sem];refine ja9 m ?_ (by omega) ⟨by omega,fun i hi=> ?_⟩
    ·simp only[h1,h2,go_sem]
    ·rcases Nat.lt_or_ge m i with h | h
     ·exact hz i h
     ·rw[show i=m by omega,hdm];exact hb'
   ·have hf:=fin (.inr (by rw[Nat.add_sub_cancel,hdm];exact hb'));simp only[jlg,hnn,h3,h4,go_sem];refine⟨by simp,?_,?_,?_⟩
    ·rw[Nat.sub_zero,hf];exact jg9 _
    ·rw[List.length_take,List.length_map];omega
    ·rw[Nat.sub_zero,hf]
end
section
open Go.Abs
attribute [local go_sem] ints ic
theorem lt_dgt{a b:List Int}(ha:OkD a)(hb:OkD b){m:Nat}(h:∀j,m<j->dgt a j=dgt b j)(hne:dgt a m≠dgt b m):decide (dgt a m<dgt b m)=decide (val a<val b):=by
 rcases Int.lt_or_gt_of_ne hne with h1 | h1
 ·have:=lt_at ha hb m h h1;simp[h1,this]
 ·have:=lt_at hb ha m (fun j hj=>(h j hj).symm) h1;rw[decide_eq_false (by omega),decide_eq_false (by omega)]
set_option maxHeartbeats 1000000 in
theorem t_less(a b:List Int)(ha:OkD a)(hb:OkD b)(la:a.length<=1000000000000)(lb:b.length<=1000000000000):Ctr G.P 166 [ints a,ints b] (· = .bool (decide (val a<val b))):=by
 have hmx:max (a.length:Int) (b.length:Int)=((max a.length b.length:Nat):Int):=by omega
 have hw:=ja6 (n:=((max a.length b.length:Nat):Int)-1) (by omega);refine jaa good _ _ [.tmp 4] Tryz.func166 rfl rfl (by decide+kernel) rfl ?_;simp only[hmx,hw,go_sem];refine jar [0,1,5] [] (fun n:Nat=>⟨[(0,.im (.sl (a.map ic))),(1,.im (.sl (b.map ic))),(5,.im (.int ((n:Int)-1)))],[],[]⟩) (fun n=>n<=max a.length b.length/\∀j,n<=j->dgt a j=dgt b j) (fun n=>n) (max a.length b.length) ?_
  ⟨Nat.le_refl _,fun j hj=>by rw[jde (by omega),jde (by omega)]⟩ ?_
 ·simp only[hmx,hw,go_sem]
 ·intro n ⟨hn,hz⟩;rcases n with _ | m
  ·have hd:decide ((0:Int)<=((0:Nat):Int)-1)=false:=by decide
   have hv:val a=val b:=jm4 fun j=>hz j (Nat.zero_le _);have hv':decide (val a<val b)=false:=decide_eq_false (by omega);rw[hv'];simp only[hd,go_sem]
  ·have h2:((m+1:Nat):Int)-1=m:=by omega
   have hd:decide ((0:Int)<=(m:Int))=true:=decide_eq_true (by omega);have h3:=ja6 (n:=(m:Int)-1) (by omega);simp only[h2,hd,go_sem];refine ja1 (jha a m) (by decide) ?_;simp only[h2,go_sem];refine ja1 (jha b m) (by decide) ?_;simp only[h2,go_sem];refine jc2 (fun he he'=> ?_) (fun he he'=> ?_)
   ·simp only[h2,go_sem];refine ja9 m ?_ (by omega) ⟨by omega,fun j hj=> ?_⟩
    ·simp only[h2,h3,go_sem]
    ·rcases Nat.lt_or_ge m j with h | h
     ·exact hz j h
     ·rw[show j=m by omega];exact he'
   ·have hlt:=lt_dgt ha hb (m:=m) (fun j hj=>hz j hj) he';simp only[h2,go_sem];refine ja1 (jha a m) (by decide) ?_;simp only[h2,go_sem];refine ja1 (jha b m) (by decide) ?_;simp only[hlt,go_sem]
set_option maxHeartbeats 1000000 in
theorem t_minus(a b:List Int)(ha:OkD a)(hb:OkD b)(hab:val b<=val a)(la:a.length<=100000000000)(lb:b.length<=1000000000000):Ctr G.P 250 [ints a,ints b] (· =ints (dig (val a-val b).toNat)):=by
 refine jaa good _ _ [.tmp 4] Tryz.func250 rfl rfl (by decide+kernel) rfl ?_;simp only[go_sem];refine jdm [0,1,5,6,7] [32] [(5,32,3,1)] (fun g:Nat×List Int×Int=>⟨[(0,.im (.sl (a.map ic))),(1,.im (.sl (b.map ic))),(5,.vec 32 3 1 (g.2.1.map ic)),(6,.im (.int g.2.2)),(7,.im (.int g.1))],[],[(32,1,g.2.1.length)]⟩)
  (fun g=>g.2.1.length=g.1/\OkD g.2.1/\0<=g.2.2/\g.2.2<=1/\val g.2.1-1048576^g.1*g.2.2=val (a.take g.1)-val (b.take g.1)/\g.1<=a.length)
  (fun g=>a.length-g.1) (0,[],0) ?_ ?_ ⟨rfl,OkD.nil,Int.le_refl _,by decide,rfl,Nat.zero_le _⟩ ?_
 ·simp only[go_sem];simp
 ·simp only[Int.natCast_zero,List.map_nil,go_sem]
 ·intro⟨i,out,c⟩ ⟨h1,h2,h3,h4,h5,h6⟩;dsimp only at h1 h2 h3 h4 h5 h6;by_cases hp:(i:Int)<a.length
  ·have hd:decide ((i:Int)<a.length)=true:=decide_eq_true hp;have hx:=jb1 hp;obtain⟨a0,a1⟩:=ha.dgt i;obtain⟨b0,b1⟩:=hb.dgt i;have w1:=ja6 (n:=dgt a i-dgt b i) (by omega);have w2:=ja6 (n:=dgt a i-dgt b i-c) (by omega);have w3:=ja6 (n:=(i:Int)+1) (by omega);have w4:=ja6 (n:=dgt a i-dgt b i-c+1048576) (by omega);simp only[hd,go_sem];refine jau 11 (by decide+kernel) ?_;simp only[hd,List.getElem?_map,hx,go_sem];refine ja5 (jha b i) (by decide) ?_;simp only[w1,w2,go_sem];refine jc2 (fun he he'=> ?_) (fun he he'=> ?_)
   ·have hs:=jl8 (c':=1) (d:=dgt a i-dgt b i-c+1048576) h1 h5 rfl (by omega);simp only[he,w4,go_sem];refine⟨jg9 _,by simp,by omega,?_⟩;refine ja9 (i+1,out++[dgt a i-dgt b i-c+1048576],1) ?_ ?_ ⟨?_,?_,?_,?_,hs,?_⟩
    ·simp only[w3,Int.natCast_add,List.map_append,List.length_append,go_sem]
    ·show a.length-(i+1)<a.length-i;omega
    ·show(out++[_]).length=i+1;rw[List.length_append,h1];rfl
    ·exact h2.append (OkD.cons (by omega) OkD.nil)
    ·dsimp only;omega
    ·dsimp only;omega
    ·show i+1<=a.length;omega
   ·have hs:=jl8 (c':=0) (d:=dgt a i-dgt b i-c) h1 h5 rfl (by omega);simp only[he,go_sem];refine⟨jg9 _,by simp,by omega,?_⟩;refine ja9 (i+1,out++[dgt a i-dgt b i-c],0) ?_ ?_ ⟨?_,?_,?_,?_,hs,?_⟩
    ·simp only[w3,Int.natCast_add,List.map_append,List.length_append,go_sem]
    ·show a.length-(i+1)<a.length-i;omega
    ·show(out++[_]).length=i+1;rw[List.length_append,h1];rfl
    ·exact h2.append (OkD.cons (by omega) OkD.nil)
    ·dsimp only;omega
    ·dsimp only;omega
    ·show i+1<=a.length;omega
  ·have hd:decide ((i:Int)<a.length)=false:=decide_eq_false hp;have hi:i=a.length:=by omega
   have hv:val out=val a-val b:=by
    have e1:=jdr ha;have e2:=jdr h2;have e3:=jaw h2;rw[h1]at e2;rw[hi]at h5 e2;rw[jfd ha e1,jfd hb (by omega)]at h5;generalize (1048576:Int)^a.length=p at*;have hc:c=0\/c=1:=by omega
    rcases hc with rfl | rfl<;>omega
   have ht:=jl1 out h2 (by omega);rw[hv]at ht;simp only[hd,go_sem];refine ja1 ht (by decide) ?_;simp only[go_sem]
set_option maxHeartbeats 1000000 in
theorem t_made(s:Int)(l:List Int)(hl:OkD l)(ll:l.length<=1000000000000):Ctr G.P 163 [.int s,ints l] (· = .agg [.int (if val l=0 then 0 else s),ints (dig (val l).toNat)]):=by
 have ht:=jl1 l hl ll;have h0:=jaw hl;by_cases hv:val l=0
 ·rw[hv]at ht;rw[show dig (0:Int).toNat=[]from jbf]at ht;rw[if_pos hv,hv,show dig (0:Int).toNat=[]from jbf];refine jaa good _ _ [.cell 4 40] Tryz.func163 rfl rfl (by decide+kernel) rfl ?_;simp only[go_sem];refine ja1 ht (by decide) ?_;simp only[go_sem]
 ·rw[if_neg hv];have hn:dig (val l).toNat≠[]:=fun h=>by rw[dig_nil]at h;omega
  generalize dig (val l).toNat=d at*;have hd:decide ((d.length:Int)=0)=false:=decide_eq_false (by
   have:=List.length_pos_iff.2 hn;omega)
  refine jaa good _ _ [.cell 4 40] Tryz.func163 rfl rfl (by decide+kernel) rfl ?_;simp only[go_sem];refine ja1 ht (by decide) ?_;simp only[hd,go_sem]
end
end Go.Proofs.YtfahloobpegieaaGreat
namespace Go.Abs
section
theorem jfu:∀(l:List Int) (j:Nat) (v:Int),j<l.length->val (l.set j v)=val l+1048576^j*(v-dgt l j)
 | [],j,v,h=>by simp at h
 | d::l,0,v,_=>by
  have:dgt (d::l) 0=d:=rfl;rw[List.set_cons_zero,this,Int.pow_zero,Int.one_mul];show v+1048576*val l=d+1048576*val l+(v-d);omega
 | d::l,j+1,v,h=>by
  have ih:=jfu l j v (by simpa using h);have hd:dgt (d::l) (j+1)=dgt l j:=by simp[dgt]
  rw[List.set_cons_succ,hd,jcc];show d+1048576*val (l.set j v)=d+1048576*val l+_;rw[ih,Int.mul_add,Int.mul_comm (1048576^j) 1048576,Int.mul_assoc];omega
theorem OkD.set{l:List Int}(h:OkD l){j:Nat}{v:Int}(hv:0<=v/\v<1048576):OkD (l.set j v):=fun x hx=>by
 rcases List.mem_or_eq_of_mem_set hx with h1 | h1
 ·exact h x h1
 ·rw[h1];exact hv
theorem jhx{x y:Int}(hx:0<=x/\x<1048576)(hy:0<=y/\y<1048576):0<=x*y/\x*y<=1048575*1048575:=
 ⟨Int.mul_nonneg hx.1 hy.1,Int.mul_le_mul (by omega) (by omega) hy.1 (by omega)⟩
theorem jii{out b:List Int}{j i k:Nat}{c n x V:Int}(hj:j=i+k)(hjl:j<out.length)(h:val out+1048576^j*c=V+1048576^i*(x*val (b.take k)))(hn:n=dgt out j+x*dgt b k+c):
  val (out.set j (n % 1048576))+1048576^(j+1)*(n/1048576)=V+1048576^i*(x*val (b.take (k+1))):=by
 rw[jfu out j _ hjl,jbv,jcc,Int.mul_add x,Int.mul_add];have e1:1048576^j*(n % 1048576-dgt out j)+1048576^j*1048576*(n/1048576)=1048576^j*(n-dgt out j):=by
  rw[Int.mul_assoc,<-Int.mul_add];congr 1;have:=Int.emod_add_mul_ediv n 1048576;omega
 have e2:1048576^j*(n-dgt out j)=1048576^j*c+1048576^j*(x*dgt b k):=by
  rw[<-Int.mul_add];congr 1;omega
 have e3:(1048576:Int)^i*(x*(1048576^k*dgt b k))=1048576^j*(x*dgt b k):=by
  rw[hj,Int.pow_add,Int.mul_left_comm x,Int.mul_assoc]
 rw[e3];omega
theorem times_last{a b:List Int}{i:Nat}{x W c':Int}(ha:OkD a)(hb:OkD b)(hx:0<=x/\x<1048576)(hW:0<=W)(hc:0<=c')
  (h:W+1048576^(i+b.length+1)*c'=val (a.take i)*val b+1048576^i*(x*val b)):c'=0:=by
 have h1:=jd0 ha i;have h0:=jaw (ha.take i);have h2:=jdr hb;have h3:=jaw hb;have hp:=jdc i;have e1:val (a.take i)*val b<=(1048576^i-1)*val b:=Int.mul_le_mul_of_nonneg_right (by omega) h3;have e2:x*val b<=1048575*val b:=Int.mul_le_mul_of_nonneg_right (by omega) h3;have e3:1048576^i*(x*val b)<=1048576^i*(1048575*val b):=Int.mul_le_mul_of_nonneg_left e2 (by omega);have e4:(1048576:Int)^i*val b<=1048576^i*(1048576^b.length-1):=Int.mul_le_mul_of_nonneg_left (by omega) (by omega);have e5:(1048576:Int)^(i+b.length+1)=1048576^i*1048576^b.length*1048576:=by rw[jcc,Int.pow_add]
 rw[e5]at h;have e6:(1048576:Int)^i*(1048575*val b)=1048575*(1048576^i*val b):=by rw[Int.mul_left_comm]
 have e7:(1048576^i-1)*val b=1048576^i*val b-val b:=by rw[Int.sub_mul];omega
 have e8:(1048576:Int)^i*(1048576^b.length-1)=1048576^i*1048576^b.length-1048576^i:=by rw[Int.mul_sub];omega
 rcases Int.lt_or_le 0 c' with h4 | h4
 ·have hq:0<(1048576:Int)^i*1048576^b.length*1048576:=Int.mul_pos (Int.mul_pos hp (jdc _)) (by omega);have:(1048576:Int)^i*1048576^b.length*1048576*1<=1048576^i*1048576^b.length*1048576*c':=Int.mul_le_mul_of_nonneg_left (by omega) (by omega);generalize (1048576:Int)^i*1048576^b.length*1048576*c'=Z at*;generalize (1048576:Int)^i*1048576^b.length=q at*;generalize (1048576:Int)^i*val b=r at*;omega
 ·omega
theorem jda(n:Nat):val (List.replicate n 0)=0:=by
 induction n with
 | zero=>rfl
 | succ n ih=>rw[List.replicate_succ];show 0+1048576*val (List.replicate n 0)=0;rw[ih];rfl
theorem OkD.replicate(n:Nat):OkD (List.replicate n 0):=fun x hx=>by rw[List.eq_of_mem_replicate hx];omega
end
end Go.Abs
