/- A part of the proof. No further condition. -/
import Derived.Test.YtjcjcpebocbonaaGreatKZ0
import Derived.ChangeKeysEq
set_option linter.all false
set_option maxRecDepth 10000000
set_option maxHeartbeats 16000000
namespace Go.Abs
section
def intK(G:Ctx)(t:TypeId):Bool:=decide ((G.ti t).size=1)&&decide ((G.ti t).kind= .it .i64)
def keyN(G:Ctx)(t:TypeId):Option Nat:=
 if(G.ti t).size=0 then none else
 match(G.ti t).kind with
 | .st fs=>if(G.ti t).eq=true/\fs.all (fun f=>intK G f.2)=true then some fs.length else none
 | .arr n e=>if intK G e=true then some n else none
 | _=>none
section
variable{G:Ctx}{w:World}
theorem intK_u(hG:G.Ok){t:TypeId}(h:intK G t=true):G.P.underlying t=some (.int .i64):=by
 simp only[intK,zn,zO]at h;exact hG.it (by omega) h.2
theorem jst{xs:List Int}{i:Nat}{x:Int}(h:xs[i]? =some x):((xs.map (Value.int .i64)).toArray).toList[i]? =some (.int .i64 x):=by
 simp[h]
theorem jqw{t:TypeId}(hu:G.P.underlying t=some (.int .i64))(em:Bool)(n:Nat)(x:Int)(w:World):(Instr.checkKey em (n+1) t (.int .i64 x)).run G.P w= .ok () w:=by
 simp only[Instr.checkKey,Sem.run_bind,run_underlying hu,Result.andThen_ok,Sem.run_pure]
theorem jmf(hG:G.Ok)(em:Bool)(n:Nat)(xs:List Int):∀(fs:List Field) (k:Nat) (w:World),fs.map (·.offset)=List.range' k fs.length->(∀f∈fs,intK G f.type=true)->k+fs.length<=xs.length->
  (forIn fs () fun f (_:Unit)=>
   if f.name≠ "_" then do
    let v<-part f.type (xs.map (Value.int .i64)).toArray f.offset
    Instr.checkKey em (n+1) f.type v
    pure (ForInStep.yield ())
   else pure (ForInStep.yield ()):Sem Unit).run G.P w= .ok () w
 | [],k,w,_,_,_=>by simp
 | f::fs,k,w,ho,hn,hl=>by
  have e1:f.offset=k:=by have:=zS List.head? ho;simpa [vk]using this
  have e2:fs.map (·.offset)=List.range' (k+1) fs.length:=by have:=zS List.tail ho;simpa [vk]using this
  have hu:=intK_u hG (hn f (by simp));have hk:xs[k]? =some (xs[k]'(by simp at hl;omega)):=zw _;have ih:=jmf hG em n xs fs (k+1) w e2 (fun f hf=>hn f (by simp[hf])) (by simp at hl;omega);rw[List.forIn_cons];by_cases a1:f.name= "_"
  ·simp only[a1,ne_eq,not_true_eq_false,qp,Sem.run_bind,Sem.run_pure,Result.andThen_ok];exact ih
  ·simp only[ne_eq,a1,va,qA,Sem.run_bind,e1,jeg hu rfl (jst hk),Result.andThen_ok,jqw hu,Sem.run_pure];exact ih
theorem jnl(hG:G.Ok){e:TypeId}(he:intK G e=true)(hs:(sizeOf e).run G.P w= .ok 1 w)(em:Bool)(n:Nat)(xs:List Int):∀(is:List Nat),(∀i∈is,i<xs.length)->
  (forIn is () fun i (_:Unit)=>do
   Instr.checkKey em (n+1) e (<-part e (xs.map (Value.int .i64)).toArray (i*(<-sizeOf e)))
   pure (ForInStep.yield ()):Sem Unit).run G.P w= .ok () w
 | [],_=>by simp
 | i::is,hl=>by
  have hu:=intK_u hG he;have hk:xs[i]? =some (xs[i]'(hl i (by simp))):=zw _;have ih:=jnl hG he hs em n xs is (fun j hj=>hl j (by simp[hj]));rw[List.forIn_cons];simp only[Sem.run_bind,hs,Result.andThen_ok,Nat.mul_one,jeg hu rfl (jst hk),jqw hu,Sem.run_pure];exact ih
theorem jhb:∀(fs:List (Nat×TypeId)) (xs ys:List Int),fs.all (fun f=>intK G f.2)=true->xs.length=fs.length->ys.length=fs.length->
  jhc G fs (xs.map fun n=> .sc (.int .i64 n)) (ys.map fun n=> .sc (.int .i64 n))=some (decide (xs=ys))
 | [],xs,ys,_,h1,h2=>by
  rw[List.length_nil,qY]at h1 h2;subst h1 h2;rfl
 | f::fs,xs,ys,ha,h1,h2=>by
  match xs,ys,h1,h2 with
  | x::xs,y::ys,h1,h2=>
   obtain⟨j,t⟩:=f;simp only[List.all_cons,zn]at ha;have ih:=jhb fs xs ys ha.2 (by simpa using h1) (by simpa using h2);have hf:=ha.1;simp only[intK,zn,zO]at hf;simp only[zt,jhc,ih];rw[iNo,hf.2];simp only[qA,qa];rw[<-Bool.decide_and,yC,yT]
theorem jm6(hG:G.Ok){e:TypeId}(he:intK G e=true)(d:Nat)(xs ys:List Int):∀(m k:Nat),k+m=xs.length->xs.length=ys.length->
  (Op.eqItems (d+1) e 1 (xs.map (Value.int .i64)).toArray (ys.map (Value.int .i64)).toArray (List.range' k m)).run G.P w= .ok (decide (xs.drop k=ys.drop k)) w
 | 0,k,h,h'=>by
  rw[zZ (by omega),zZ (by omega)];simp[Op.eqItems]
 | m+1,k,h,h'=>by
  have hu:=intK_u hG he;have hx:xs[k]? =some (xs[k]'(by omega)):=zw _;have hy:ys[k]? =some (ys[k]'(by omega)):=zw _;have ih:=jm6 hG he d xs ys m (k+1) (by omega) h';rw[vk];simp only[Op.eqItems,Sem.run_bind,Nat.mul_one,jeg hu rfl (jst hx),jeg hu rfl (jst hy),Result.andThen_ok,run_equalIn_int w d _ _ _ _ _ hu];have ex:xs.drop k=xs[k]'(by omega)::xs.drop (k+1):=qR (by omega);have ey:ys.drop k=ys[k]'(by omega)::ys.drop (k+1):=qR (by omega);have key:(xs.drop k=ys.drop k)↔(xs[k]'(by omega)=ys[k]'(by omega)/\xs.drop (k+1)=ys.drop (k+1)):=by rw[ex,ey,yT]
  have e2:decide (xs.drop k=ys.drop k)=(decide (xs[k]'(by omega)=ys[k]'(by omega))&&decide (xs.drop (k+1)=ys.drop (k+1))):=by
   rw[<-Bool.decide_and,yC];exact key
  rw[e2];clear e2 key ex ey;by_cases a1:xs[k]'(by omega)=ys[k]'(by omega)
  ·simp[a1,ih]
  ·simp[a1]
theorem jl8(w:World)(M:Nat->Nat->Prop)(xs:List Int):RepL w M (xs.map fun n=> .sc (.int .i64 n)) (xs.map (Value.int .i64)):=
 ⟨by simp,fun k x v hx hv=>by
  rw[zq]at hx hv;obtain⟨n,hn,rfl⟩:=qz.1 hx;rw[hn]at hv;cases hv;exact Rep.sc _ rfl⟩
theorem run_key_eq(hG:G.Ok){t:TypeId}{n:Nat}(h:keyN G t=some n){xs ys:List Int}(hx:xs.length=n)(hy:ys.length=n):(Op.equal t (keyV xs) (keyV ys)).run G.P w= .ok (decide (xs=ys)) w:=by
 unfold keyN at h;split at h
 ·cases h
 rename_i h0;split at h
 ·rename_i fs hk;split at h
  ·rename_i hc;cases h;have b6:jnp G .eql t (xs.map fun n=> .sc (.int .i64 n)) (ys.map fun n=> .sc (.int .i64 n))=some (.bool (decide (xs=ys))):=by
    unfold jnp;rw[zh ⟨h0,hc.1⟩,hk];simp only[jhb fs xs ys hc.2 hx hy]
   obtain⟨gs,hu,b4⟩:=hG.st h0 hk;have a1:=hG t h0;unfold TI.okB at a1;split at a1
   ·simp only[hc.1,j3,yn,zn,hu]at a1;obtain⟨_,⟨⟨⟨hb,ho⟩,b0⟩,b1⟩,hg⟩:=a1;have a8:G.P.fieldsOf t=gs:=by simp[Program.fieldsOf,hu]
    have a6:G.P.stoodInHeld t=false:=by simpa using b1
    have b3:∀f∈gs.toList,f.name≠ "_" :=fun f hf=>by
     have:=List.all_eq_true.1 hb f hf;simp only[basicB,zn,qh,ne_eq]at this;exact this.1
    have b2:gs.toList.map (·.offset)=List.range' 0 gs.toList.length:=by
     have:=(yB.1 ho);rw[this,j4];simp
    have a7:=jha (G:=G) hG (w:=w) (M:=fun _ _=>False) (M':=fun _ _=>False) (us:=(xs.map (Value.int .i64)).toArray) (vs:=(ys.map (Value.int .i64)).toArray)
     (by simpa using jl8 w _ xs) (by simpa using jl8 w _ ys) 9998 gs.toList 0 (decide (xs=ys)) b2 b3 (by rw[b4];simpa using jhb fs xs ys hc.2 hx hy)
    show(Op.equalIn 10000 t (.agg _) (.agg _)).run G.P w=_;rw[show(10000:Nat)=9999+1 from rfl,run_equalIn_struct w 9999 t _ _ (by rw[a8];exact hu) a6,a8];exact a7
   ·cases a1
  ·cases h
 ·rename_i m e hk;split at h
  ·rename_i he;cases h;have hu:=hG.arr h0 hk;have b5:=he;simp only[intK,zn,zO]at b5;obtain⟨i,z,hi,b0,_⟩:=hG.info (t:=e) (by omega);have hc:G.P.cellsOf e=1:=by
    have:G.P.cellsOf e=i.size:=by simp[Program.cellsOf,hi]
    omega
   show(Op.equalIn 10000 t (.agg _) (.agg _)).run G.P w=_;rw[show(10000:Nat)=9999+1 from rfl,run_equalIn_array w 9999 _ _ hu hi,hc,j4];have:=jm6 (w:=w) hG he 9998 xs ys n 0 (by omega) (by omega)
   simpa using this
  ·cases h
 ·cases h
theorem run_key_check(hG:G.Ok){t:TypeId}{n:Nat}(h:keyN G t=some n){xs:List Int}(hx:xs.length=n)(em:Bool)(w:World):(Instr.checkKey em 10000 t (keyV xs)).run G.P w= .ok () w:=by
 unfold keyN at h;split at h
 ·cases h
 rename_i h0;split at h
 ·rename_i fs hk;split at h
  ·rename_i hc;cases h;obtain⟨gs,hu,a6⟩:=hG.st h0 hk;have a1:=hG t h0;unfold TI.okB at a1;split at a1
   ·simp only[hc.1,j3,yn,zn,hu]at a1;obtain⟨_,⟨⟨⟨hb,ho⟩,b1⟩,b2⟩,hg⟩:=a1;have b0:gs.toList.map (·.offset)=List.range' 0 gs.toList.length:=by
     have:=(yB.1 ho);rw[this,j4];simp
    have a8:∀f∈gs.toList,intK G f.type=true:=fun f hf=>by
     have:=List.all_eq_true.1 hc.2 (f.offset,f.type) (by rw[<-a6];exact z8.2 ⟨f,hf,rfl⟩);exact this
    have hl:gs.toList.length=fs.length:=by rw[<-a6];simp
    have:=jmf hG em 9998 xs gs.toList 0 w b0 a8 (by omega);show(Instr.checkKey em (9999+1) t (.agg _)).run G.P w=_;rw[Instr.checkKey,Sem.run_bind,run_underlying hu,Result.andThen_ok];simp only[<-Array.forIn_toList];rw[Sem.run_bind];exact zS (fun r=>Result.andThen r _) this
   ·cases a1
  ·cases h
 ·rename_i m e hk;split at h
  ·rename_i he;cases h;have hu:=hG.arr h0 hk;have a7:=he;simp only[intK,zn,zO]at a7;have hs:=hG.size (t:=e) (by omega) w;rw[a7.1]at hs;have:=jnl hG he hs em 9998 xs (List.range' 0 n) (fun i hi=>by rw[List.mem_range']at hi;omega);show(Instr.checkKey em (9999+1) t (.agg _)).run G.P w=_;rw[Instr.checkKey,Sem.run_bind,run_underlying hu,Result.andThen_ok];simp only[Std.Legacy.Range.forIn_eq_forIn_range',Std.Legacy.Range.size,Nat.sub_zero,Nat.add_one_sub_one,Nat.div_one];rw[Sem.run_bind];exact zS (fun r=>Result.andThen r _) this
  ·cases h
 ·cases h
def mget:List (List Int×List Int)->List Int->Option (List Int)
 | [],_=>none
 | (k,v)::r,x=>if x=k then some v else mget r x
def mfind:List (List Int×List Int)->List Int->Nat->Option (Nat×List Int)
 | [],_,_=>none
 | (k,v)::r,x,i=>if x=k then some (i,v)else mfind r x (i+1)
def mput:List (List Int×List Int)->List Int->List Int->List (List Int×List Int)
 | [],x,v=>[(x,v)]
 | (k,u)::r,x,v=>if x=k then(x,v)::r else(k,u)::mput r x v
theorem jg4:∀(l:List (List Int×List Int)) (x:List Int) (i:Nat),(mfind l x i).map (·.2)=mget l x
 | [],x,i=>rfl
 | (k,v)::r,x,i=>by
  simp only[mfind,mget];split
  ·rfl
  ·exact jg4 r x (i+1)
theorem keyV_under(hG:G.Ok){t:TypeId}{n:Nat}(h:keyN G t=some n):∃d,G.P.underlying t=some d/\(d matches .struct _ | .array _ _)=true:=by
 unfold keyN at h;split at h
 ·cases h
 rename_i h0;split at h
 ·rename_i fs hk;obtain⟨gs,hu,_⟩:=hG.st h0 hk;exact⟨_,hu,rfl⟩
 ·rename_i m e hk;exact⟨_,hG.arr h0 hk,rfl⟩
 ·cases h
theorem ji5(hG:G.Ok){t:TypeId}{n:Nat}(h:keyN G t=some n){x:List Int}(hx:x.length=n)(b:Bool):∀(es:List MapEntry) (kvs:List (List Int×List Int)) (i:Nat),
  (∀p∈kvs,p.1.length=n)->es.map (fun e=>(e.key,e.val))=kvs.map (fun p=>(keyV p.1,elemV b p.2))->
  (Instr.findAsking t (keyV x) es i).run G.P w= .ok ((mfind kvs x i).map fun p=>(p.1,elemV b p.2)) w
 | [],kvs,i,_,he=>by
  have:kvs=[]:=by cases kvs with
   | nil=>rfl
   | cons p r=>simp at he
  subst this;rfl
 | e::es,[],i,_,he=>by simp at he
 | e::es,(k,v)::kvs,i,hl,he=>by
  simp only[zt,yT,q7]at he;obtain⟨⟨h1,h2⟩,h3⟩:=he;have ih:=ji5 hG h hx b es kvs (i+1) (fun p hp=>hl p (by simp[hp])) h3;simp only[Instr.findAsking,Sem.run_bind,h1,h2,run_key_eq hG h hx (hl (k,v) (by simp)),Result.andThen_ok,mfind];by_cases a1:x=k
  ·simp[a1]
  ·simp[a1,ih]
theorem run_findKey_rows(hG:G.Ok){t:TypeId}{n:Nat}(h:keyN G t=some n){x:List Int}(hx:x.length=n){sc:Nat×Bool}{kvs:List (List Int×List Int)}{es:Array MapEntry}(hn:kvs≠[]->sc.1=n)(he:Ents sc kvs es):
  (Instr.findKey t (keyV x) es.toList).run G.P w= .ok ((mfind kvs x 0).map fun p=>(p.1,elemV sc.2 p.2)) w:=by
 obtain⟨d,hu,hd⟩:=keyV_under hG h;have hl:∀p∈kvs,p.1.length=n:=fun p hp=>by
  rw[<-hn (fun e=>by subst e;cases hp)];exact he.1 p hp
 have hf:=ji5 (w:=w) hG h hx sc.2 es.toList kvs 0 hl he.2;simp only[Instr.findKey,Sem.run_bind,run_underlying hu,Result.andThen_ok];have a1:Instr.findNow d (keyV x) es.toList 0=none\/es.toList=[]:=by
  cases a6:es.toList with
  | nil=>exact .inr rfl
  | cons e r=>
   left;cases d<;>first | (simp at hd;done) | (simp[Instr.findNow,Instr.sameNow])
 rcases a1 with a1 | a1
 ·rw[a1];exact hf
 ·rw[a1]at hf⊢;simp only[Instr.findNow,Sem.run_pure];rw[<-hf];rfl
theorem jk6(x:List Int):Instr.sameBits 10000 (keyV x) (keyV x)=true:=by
 show Instr.sameBits (9999+1) (.agg _) (.agg _)=true;rw[Instr.sameBits];simp only[beq_self_eq_true,qu,List.all_eq_true];rintro⟨a,b⟩ hp;have:a=b/\∃n,a= .int .i64 n:=by
  obtain⟨i,hi⟩:=yP hp;rw[List.getElem?_zip_eq_some]at hi;obtain⟨h1,h2⟩:=hi;simp only at h1 h2;rw[h1]at h2;cases h2;refine⟨rfl,?_⟩;simp only[zq]at h1;obtain⟨n,_,rfl⟩:=qz.1 h1;exact⟨n,rfl⟩
 obtain⟨rfl,n,rfl⟩:=this;simp[Instr.sameBits]
end
end
section
open Go.RowKit (Below)
def AV.soft:AV->AV
 | .gsl d _ s n=> .osl d s 0 n
 | .im (.ref b _ s n)=> .osl (hp b) s 0 n
 | x=>x
theorem RepA.soft{w:World}{M:Nat->Nat->Prop}{β:Nat->Option Nat}{toks:List (Nat×Nat×Nat)}{av:AV}{v:Value}(hβ:∀b,β (hp b)=some b)(h:RepA w M β toks av v):RepA w M β toks av.soft v:=by
 cases av with
 | gsl d e s n=>
  obtain⟨b,cap,cur,h1,h2,_,h3,_⟩:=h;exact⟨_,cap,h3,h2,fun _=>⟨b,h1,by simp⟩⟩
 | im x=>cases x with
  | ref b e s n=>
   cases h with
   | ref _ _ _ _ cap cur h1 h2 h3 h4=>exact⟨_,cap,h2,rfl,fun _=>⟨b,hβ b,by simp⟩⟩
  | _=>exact h
 | _=>exact h
def AV.dp:AV->AV
 | .im (.pr b s i j)=> .loc (hp b) s i j
 | x=>x
theorem RepA.dp{w:World}{M:Nat->Nat->Prop}{β:Nat->Option Nat}{toks:List (Nat×Nat×Nat)}{av:AV}{v:Value}(hβ:∀b,β (hp b)=some b)(h:RepA w M β toks av v):RepA w M β toks av.dp v:=by
 cases av with
 | im x=>cases x with
  | pr b s i j=>
   cases h with
   | pr=>exact⟨b,hβ b,rfl⟩
  | _=>exact h
 | _=>exact h
def AV.soft2:AV->Option AV->AV
 | .gsl d e s n,none=> .gsl d e s n
 | .im (.ref b e s n),none=> .im (.ref b e s n)
 | x,_=>x.soft
theorem RepA.soft2{w:World}{M:Nat->Nat->Prop}{β:Nat->Option Nat}{toks:List (Nat×Nat×Nat)}{av:AV}{v:Value}(hβ:∀b,β (hp b)=some b)(h:RepA w M β toks av v)(lo:Option AV):RepA w M β toks (av.soft2 lo) v:=by
 cases lo with
 | none=>cases av with
  | im x=>cases x<;>exact h
  | _=>exact h
 | some l=>
  have:=h.soft hβ;cases av with
  | im x=>cases x<;>exact this
  | _=>exact this
theorem soft_not{x:AV}:(∀d e s n,x.soft≠ .gsl d e s n)/\∀b e s n,x.soft≠ .im (.ref b e s n):=by
 refine⟨fun d e s n h=> ?_,fun b e s n h=> ?_⟩<;>(cases x with
  | im y=>cases y<;>simp[AV.soft]at h
  | _=>simp[AV.soft]at h)
theorem jmx{x l:AV}:x.soft2 (some l)=x.soft:=by
 cases x with
 | im y=>cases y<;>rfl
 | _=>rfl
theorem soft2_gsl{x:AV}{lo:Option AV}{d e s n:Nat}(h:x.soft2 lo= .gsl d e s n):lo=none:=by
 cases lo with
 | none=>rfl
 | some l=>rw[jmx]at h;exact absurd h (soft_not.1 d e s n)
theorem soft2_ref{x:AV}{lo:Option AV}{d e s n:Nat}(h:x.soft2 lo= .im (.ref d e s n)):lo=none:=by
 cases lo with
 | none=>rfl
 | some l=>rw[jmx]at h;exact absurd h (soft_not.2 d e s n)
def jd0:AV->Option (List (List IV))
 | .im (.sl es) | .sx es | .vec _ _ _ es=>some es
 | .im .emp=>some []
 | _=>none
def ivOf:AV->Option IV
 | .im x=>some x
 | .sx es | .vec _ _ _ es=>some (.sl es)
 | _=>none
theorem jfk{w M β toks av v x}(h:RepA w M β toks av v)(hx:ivOf av=some x):Rep w M x v:=by
 cases av<;>simp only[ivOf,qa]at hx<;>first | (cases hx;done) | (subst hx;first | exact h | exact h.1)
theorem jcy{w M β toks av v es}(h:RepA w M β toks av v)(hx:jd0 av=some es):Rep w M (.sl es) v:=by
 unfold jd0 at hx;split at hx<;>first | (cases hx;done) | skip
 ·cases hx;exact h
 ·cases hx;exact h.1
 ·cases hx;exact h.1
 ·cases hx;cases h with
  | emp a=>exact .nil _ _
def ivsOf:List AV->Option (List IV)
 | []=>some []
 | a::r=>match ivOf a,ivsOf r with
  | some x,some xs=>some (x::xs)
  | _,_=>none
def jer(st:St):List (Nat×Operand)->Option (List (Nat×IV))
 | []=>some []
 | (i,a)::r=>match ivOf (evO st a),jer st r with
  | some x,some xs=>some ((i,x)::xs)
  | _,_=>none
def jig(s:Nat):Nat->List (Nat×IV)->Option (List (List IV))
 | _,[]=>some []
 | k,(i,x)::r=>if i=k/\(cellsOf x).length=s/\(cellsOf x).all IV.one=true then match jig s (k+1) r with
   | some es=>some (cellsOf x::es)
   | none=>none
  else none
def jhn(G:Ctx)(t:TypeId)(x:AV)(n:Int):Option AV:=
 if(G.ti t).size=0 then none else
 match(G.ti t).kind with
 | .sl e=>
  if(G.ti e).size=0 then none else
  match x.soft with
  | .osl d s i m=>if 0<=n/\n<(m:Int)/\s=(G.ti e).size then some (.loc d s (i+n.toNat) 0)else none
  | x=>match jd0 x with
   | some es=>if 0<=n then match es[n.toNat]? with
     | some c=>if c.length=(G.ti e).size then some (.im (.ip c 0))else none
     | none=>none
    else none
   | none=>none
 | .arr len e=>
  if(G.ti e).size=0 then none else
  if 0<=n/\n<(len:Int)then
   match x.dp with
   | .loc d s i j=>some (.loc d s i (j+n.toNat*(G.ti e).size))
   | .im (.ip c j)=>some (.im (.ip c (j+n.toNat*(G.ti e).size)))
   | _=>none
  else none
 | _=>none
def jmo(G:Ctx)(t:TypeId)(f:Nat):Option (Nat×TypeId):=
 if(G.ti t).size=0 then none else
 match(G.ti t).kind with
 | .st fs=>match fs[f]? with
  | some (off,ty)=>if(G.ti ty).size=0 then none else some (off,ty)
  | none=>none
 | _=>none
def yLoad(G:Ctx)(st:St)(t:TypeId)(p:AV):Option AV:=
 if(G.ti t).size=0 then none else
 match p.dp with
 | .im (.ip c j)=>jgr G t c j
 | .loc d s i j=>match look st.rows d with
  | some (s',es)=>if s'=s then match es[i]? with
    | some c=>jgr G t c j
    | none=>none
   else none
  | none=>none
 | _=>none
def jd3(G:Ctx)(t:TypeId):Option (List IV):=
 if(G.ti t).size=0 then none else
 if(G.ti t).zero.contains .no then none else some ((G.ti t).zero.map (ZC.ivG G.emp))
def jf6(G:Ctx)(fs:List (Nat×TypeId))(i:Nat):Option (Nat×Nat):=
 match fs[i]? with
 | some (off,ty)=>some (off,(G.ti ty).size)
 | none=>none
def jrt(G:Ctx)(t:TypeId)(ps:List (Nat×IV)):Option AV:=
 match jd3 G t with
 | none=>none
 | some z=>match(G.ti t).kind with
  | .st fs=>if fs.all (fun p=>(G.ti p.2).size !=0)then match fillA (jf6 G fs) z ps with
    | some cs=>some (.im (.agg cs))
    | none=>none
   else none
  | .arr _ e=>if(G.ti e).size=0 then none else match fillA (fun i=>some (i*(G.ti e).size,(G.ti e).size)) z ps with
    | some cs=>some (.im (.agg cs))
    | none=>none
  | _=>none
def jgd(G:Ctx)(t:TypeId)(len:Nat)(ps:List (Nat×IV)):Option AV:=
 if(G.ti t).size=0 then none else
 match(G.ti t).kind with
 | .sl e=>match jd3 G e with
  | none=>none
  | some _=>match jig (G.ti e).size 0 ps with
   | some es=>if es.length=len/\len*(G.ti e).size<=16777216 then some (.sx es)else none
   | none=>none
 | _=>none
def bnd:Option AV->Nat->Option Int
 | none,d=>some d
 | some (.im (.sc (.int _ n))),_=>some n
 | _,_=>none
def jrr(G:Ctx)(t:TypeId)(x:AV)(lo hi:Option AV):Option AV:=
 if(G.ti t).size=0 then none else
 match(G.ti t).kind with
 | .sl e=>
  if(G.ti e).size=0 then none else
  match x.soft2 lo with
  | .gsl d e' s m=>match bnd hi m with
   | some h=>if 0<=h/\h<=(m:Int)then some (.gsl d e' s h.toNat)else none
   | none=>none
  | .im (.ref b e' s m)=>match bnd hi m with
   | some h=>if 0<=h/\h<=(m:Int)then some (.im (.ref b e' s h.toNat))else none
   | none=>none
  | .osl d s i m=>match bnd lo 0,bnd hi m with
   | some l,some h=>if 0<=l/\l<=h/\h<=(m:Int)/\s=(G.ti e).size then some (.osl d s (i+l.toNat) (h-l).toNat)else none
   | _,_=>none
  | x=>match jd0 x with
   | some es=>match bnd lo 0,bnd hi es.length with
    | some l,some h=>if 0<=l/\l<=h/\h<=(es.length:Int)/\es.all (fun c=>c.length==(G.ti e).size)=true then some (.im (.sl ((es.drop l.toNat).take (h.toNat-l.toNat))))else none
    | _,_=>none
   | none=>none
 | .arr n e=>match x,lo,hi with
  | .im (.ip cs 0),none,none=>if(G.ti e).size=1/\cs.length=n/\n≠0 then some (.im (.sl (cs.map fun c=>[c])))else none
  | _,_,_=>none
 | _=>none
def yLen(G:Ctx)(t:TypeId)(x:AV):Option AV:=
 if(G.ti t).size=0 then none else
 match(G.ti t).kind with
 | .sl _=>match x.soft with
  | .osl _ _ _ n=>some (.im (.sc (.int .i64 n)))
  | x=>match jd0 x with
   | some es=>some (.im (.sc (.int .i64 es.length)))
   | none=>none
 | .str=>match x with
  | .im (.sc (.string s))=>some (.im (.sc (.int .i64 s.size)))
  | _=>none
 | _=>none
def jrs(G:Ctx)(t:TypeId)(x:AV)(n:Int):Option AV:=
 if(G.ti t).size=0 then none else
 match(G.ti t).kind with
 | .arr len e=>if(G.ti e).size=0 then none else
  if 0<=n/\n<(len:Int)then match x with
   | .im (.agg cs)=>jgr G e cs (n.toNat*(G.ti e).size)
   | _=>none
  else none
 | .str=>match x with
  | .im (.sc (.string s))=>if 0<=n then match s[n.toNat]? with
    | some b=>some (.im (.sc (.int .u8 b.toNat)))
    | none=>none
   else none
  | _=>none
 | _=>none
def intsI:List IV->Option (List Int)
 | []=>some []
 | .sc (.int .i64 n)::r=>match intsI r with
  | some ns=>some (n::ns)
  | none=>none
 | _=>none
def keyI:AV->Option (List Int)
 | .im (.agg xs)=>intsI xs
 | _=>none
def valI:AV->Option (Bool×List Int)
 | .im (.sc (.int .i64 n))=>some (true,[n])
 | .im (.agg xs)=>match intsI xs with
  | some ns=>some (false,ns)
  | none=>none
 | _=>none
def ivs:List Int->List IV
 | []=>[]
 | n::l=> .int n::ivs l
theorem ivs_eq:∀l,ivs l=l.map fun n=> .int n
 | []=>rfl
 | n::l=>by rw[ivs,ivs_eq l];rfl
def elemI(b:Bool)(v:List Int):IV:=if b=true then .int (v.headD 0)else .agg (ivs v)
theorem elemI_true(n:Int)(l:List Int):elemI true (n::l)= .int n:=rfl
theorem elemI_false(v:List Int):elemI false v= .agg (ivs v):=rfl
def mapOf(st:St):AV->Option ((Nat×Bool)×List (List Int×List Int))
 | .im (.mp sc kvs)=>some (sc,kvs)
 | .mpo d sc kvs=>if look st.toks d=some (0,0)then some (sc,kvs)else none
 | _=>none
def zeroE(G:Ctx)(e:TypeId):Option IV:=
 match jd3 G e with
 | some z=>if aggK (G.ti e).kind=true then some (.agg z)else match z with
  | [x]=>some x
  | _=>none
 | none=>none
def nlen:List Int->Nat
 | []=>0
 | _::l=>nlen l+1
def isMp:TK->Bool
 | .mp _ _=>true
 | _=>false
def yLenM(G:Ctx)(t:TypeId)(m:Option ((Nat×Bool)×List (List Int×List Int))):Option AV:=
 if(G.ti t).size=0 then none else match m with
 | some (_,kvs)=>some (.im (.int kvs.length))
 | none=>none
def jjf(G:Ctx)(t:TypeId)(m:Option ((Nat×Bool)×List (List Int×List Int)))(k:Option (List Int))(ok:Bool):Option AV:=
 if(G.ti t).size=0 then none else
 match m,k,(G.ti t).kind with
 | some (sc,kvs),some x,.mp kt e=>match keyN G kt with
  | some n=>if n=nlen x/\(kvs=[]\/sc.1=n)then match mget kvs x with
    | some v=>some (if ok=true then .im (.tup [elemI sc.2 v,.bool true])else .im (elemI sc.2 v))
    | none=>match zeroE G e with
     | some z=>some (if ok=true then .im (.tup [z,.bool false])else .im z)
     | none=>none
   else none
  | none=>none
 | _,_,_=>none
def isPt:AV->Bool
 | .loc _ _ _ _=>true
 | .im (.pr _ _ _ _)=>true
 | .im (.ip _ _)=>true
 | _=>false
def yv(G:Ctx)(st:St)(o:Oper):Option AV:=
 match o.op with
 | .move x=>some (evO st x)
 | .assign x=>some (evO st x)
 | .pick c a b=>match evO st c with
  | .im (.sc (.bool t))=>some (if t=true then evO st a else evO st b)
  | _=>none
 | .binOp op t x y _=>match evO st x,evO st y with
  | .im (.sc a),.im (.sc b)=>match scBin G op t a b with
   | some v=>some (.im (.sc v))
   | none=>none
  | .im (.agg xs),.im (.agg ys)=>match jnp G op t xs ys with
   | some v=>some (.im (.sc v))
   | none=>none
  | x',.im (.sc (.pointer none))=>if isPt x'=true/\(G.ti t).size≠0/\(G.ti t).kind= .pt then match jq6 op false with
   | some v=>some (.im (.sc v))
   | none=>none
   else none
  | _,_=>none
 | .unOp op _ x=>match evO st x with
  | .im (.sc a)=>match scUn op a with
   | some v=>some (.im (.sc v))
   | none=>none
  | _=>none
 | .nilCheck x=>match(evO st x).dp with
  | .im (.ip cs j)=>some (.im (.ip cs j))
  | .im (.clo f cs)=>some (.im (.clo f cs))
  | .loc d s i j=>some (.loc d s i j)
  | _=>none
 | .load t p=>yLoad G st t (evO st p)
 | .fieldAddr t x f=>match jmo G t f with
  | some (off,_)=>match(evO st x).dp with
   | .im (.ip c j)=>some (.im (.ip c (j+off)))
   | .loc d s i j=>some (.loc d s i (j+off))
   | _=>none
  | none=>none
 | .field t x f=>match jmo G t f with
  | some (off,ty)=>match evO st x with
   | .im (.agg cs)=>jgr G ty cs off
   | _=>none
  | none=>none
 | .indexAddr t x i=>match evO st i with
  | .im (.sc (.int _ n))=>jhn G t (evO st x) n
  | _=>none
 | .index t x i=>match evO st i with
  | .im (.sc (.int _ n))=>jrs G t (evO st x) n
  | _=>none
 | .extract x k=>match evO st x with
  | .im (.tup vs)=>match vs[k]? with
   | some y=>some (.im y)
   | none=>none
  | _=>none
 | .build t ps=>match jer st ps.toList with
  | some qs=>jrt G t qs
  | none=>none
 | .buildSlice t len ps=>match jer st ps.toList with
  | some qs=>jgd G t len qs
  | none=>none
 | .convert src dst x=>if(G.ti src).size=0\/(G.ti dst).size=0 then none else
  match(G.ti dst).kind,evO st x with
  | .it k,.im (.sc (.int _ n))=>some (.im (.sc (.int k (k.wrap n))))
  | _,_=>none
 | .lookup t m k ok=>jjf G t (mapOf st (evO st m)) (keyI (evO st k)) ok
 | .slice t x lo hi mx=>if mx.isSome then none else jrr G t (evO st x) (lo.map (evO st)) (hi.map (evO st))
 | .makeFunc fn first caps=>match fn with
  | .func f=>if first.size=0 then match ivsOf (caps.toList.map (evO st))with
    | some xs=>some (.im (.clo f xs))
    | none=>none
   else none
  | _=>none
 | .call c=>match c.callee with
  | .builtin b=>match b with
   | .len=>match c.argTypes.toList,c.args.toList with
    | [t],[x]=>if isMp (G.ti t).kind=true then yLenM G t (mapOf st (evO st x))else yLen G t (evO st x)
    | _,_=>none
   | .min=>match scs (c.args.toList.map (evO st))with
    | some (x::r)=>match jl5 jq0 x r with
     | some v=>some (.im (.sc v))
     | none=>none
    | _=>none
   | .max=>match scs (c.args.toList.map (evO st))with
    | some (x::r)=>match jl5 jq1 x r with
     | some v=>some (.im (.sc v))
     | none=>none
    | _=>none
   | _=>none
  | _=>none
 | _=>none
end
section
open Go.RowKit (Below)
section
variable{G:Ctx}{N:Nat}{w0:Base}{w:World}{M M0:Nat->Nat->Prop}{β:Nat->Option Nat}{st:St}{a:Act}{toks:List (Nat×Nat×Nat)}{av:AV}{v:Value}
theorem Sim.mlt(h:Sim N w0 M0 β st a w){b o:Nat}(hm:Mo M0 β st b o):b<w.heap.size:=by
 rcases hm with hm | ⟨d,s,es,hd,hb⟩ | ⟨d,s,n,hd,hb,_⟩
 ·exact qw (w0.lt _ (h.m0 b o hm)) h.below.size
 ·obtain⟨b',a1,_,cur,T,hc,_⟩:=h.rows d s es hd;rw[hb]at a1;cases a1;exact(zm.1 hc).1
 ·exact(h.toks d s n hd b hb).2
theorem Rep.sl_inv{es:List (List IV)}(h:Rep w M (.sl es) v):(es=[]/\∃a c,v= .slice a 0 c)\/
  ∃(s b o c:Nat) (u:Nat->Nat->Value),es≠[]/\(∀e∈es,e.length=s)/\es.length<=c/\
   (∀(i:Nat) e (j:Nat) x,es[i]? =some e->e[j]? =some x->x.one=true/\w.cell? ⟨b,o+i*s+j,none⟩=some (u i j)/\¬M b (o+i*s+j))/\
   (∀(i:Nat) e (j:Nat) x,es[i]? =some e->e[j]? =some x->Rep w M x (u i j))/\v= .slice (some ⟨b,o,none⟩) es.length c:=by
 cases h with
 | nil a c=>exact .inl ⟨rfl,a,c,rfl⟩
 | sl _ s b o c u h1 h2 h3 h4 h5=>exact .inr ⟨s,b,o,c,u,h1,h2,h3,h4,h5,rfl⟩
theorem Rep.sl_len{es:List (List IV)}(h:Rep w M (.sl es) v):∃a c,v= .slice a es.length c/\es.length<=c:=by
 rcases h.sl_inv with ⟨rfl,a,c,rfl⟩ | ⟨s,b,o,c,u,_,_,h3,_,_,rfl⟩
 ·exact⟨a,c,rfl,zG _⟩
 ·exact⟨_,c,rfl,h3⟩
theorem Rep.sl_at{es:List (List IV)}{c:List IV}{i:Nat}(h:Rep w M (.sl es) v)(hi:es[i]? =some c):
  ∃b o cap,v= .slice (some ⟨b,o,none⟩) es.length cap/\Rep w M (.ip c 0) (.pointer (some ⟨b,o+i*c.length,none⟩)):=by
 rcases h.sl_inv with ⟨rfl,_⟩ | ⟨s,b,o,cap,u,_,hs,_,h4,h5,rfl⟩
 ·simp at hi
 ·refine⟨b,o,cap,rfl,?_⟩;rw[hs c (zk hi)];exact .ip c 0 b (o+i*s) (u i) (fun k x hx=>h4 i c k x hi hx) (fun k x hx=>h5 i c k x hi hx)
theorem jsw{cs:List IV}{j:Nat}(h:Rep w M (.ip cs j) v):∃(b o:Nat) (u:Nat->Value),v= .pointer (some ⟨b,o+j,none⟩)/\
  (∀(k:Nat) x,cs[k]? =some x->x.one=true/\w.cell? ⟨b,o+k,none⟩=some (u k)/\¬M b (o+k))/\(∀(k:Nat) x,cs[k]? =some x->Rep w M x (u k)):=by
 cases h with
 | ip _ _ b o u h1 h2=>exact⟨b,o,u,rfl,h1,h2⟩
theorem ip_move{cs:List IV}{j k:Nat}(h:Rep w M (.ip cs j) v):∃b o,v= .pointer (some ⟨b,o,none⟩)/\Rep w M (.ip cs (j+k)) (.pointer (some ⟨b,o+k,none⟩)):=by
 obtain⟨b,o,u,rfl,h1,h2⟩:=jsw h;exact⟨b,o+j,rfl,by rw[jH];exact .ip cs (j+k) b o u h1 h2⟩
theorem jq3{b s:Nat}{es:List (List IV)}{c:List IV}{i:Nat}(h:RowRep w M b s es)(hi:es[i]? =some c):
  ∃u:Nat->Value,∀k x,c[k]? =some x->x.one=true/\w.cell? ⟨b,i*s+k,none⟩=some (u k)/\Rep w M x (u k):=by
 obtain⟨cur,T,hc,_,h3⟩:=h;refine⟨fun k=>cur.getD (i*s+k) undef,fun k x hx=> ?_⟩;obtain⟨ho,u,hu,hr⟩:=h3 i c k x hi hx;have e:cur.getD (i*s+k) undef=u:=by simp[hu]
 refine⟨ho,?_,by show Rep w M x (cur.getD (i*s+k) undef);rw[e];exact hr⟩;show _=some (cur.getD (i*s+k) undef);rw[cell_of_row w b _ cur T _ hc,e,hu]
theorem jpi(hG:G.Ok)(h:Sim N w0 M0 β st a w){t:TypeId}{p av:AV}{pv:Value}(hp:RepA w (Mo M0 β st) β st.toks p pv)(hy:yLoad G st t p=some av):
  ∃v,(Instr.loadAt t pv).run G.P w= .ok v w/\RepA w (Mo M0 β st) β st.toks av v:=by
 unfold yLoad at hy;replace hp:=hp.dp h.perm;generalize p.dp=p at hp hy;split at hy
 ·cases hy
 ·rename_i h0;split at hy
  ·rename_i c j;obtain⟨b,o,u,rfl,h1,h2⟩:=jsw hp;obtain⟨v,x,hr,rfl,hx⟩:=jg2 hG h0 (M:=Mo M0 β st) (b:=b) (o:=o) (u:=u) (w:=w) (fun k x hx=>⟨(h1 k x hx).1,(h1 k x hx).2.1,h2 k x hx⟩) hy;exact⟨v,by simpa [Instr.loadAt,Instr.sureAddr]using hr,hx⟩
  ·rename_i d s i j;split at hy
   ·rename_i s' es hd;split at hy
    ·rename_i hs;subst hs;split at hy
     ·rename_i c hi;obtain⟨b,hb,rfl⟩:=hp;obtain⟨b',a6,_,a1⟩:=h.rows d s' es hd;rw[hb]at a6;cases a6;obtain⟨u,hu⟩:=jq3 a1 hi;obtain⟨v,x,hr,rfl,hx⟩:=jg2 hG h0 (M:=Mo M0 β st) (b:=b) (o:=i*s') (u:=u) (w:=w) hu hy;exact⟨v,by simpa [Instr.loadAt,Instr.sureAddr]using hr,hx⟩
     ·cases hy
    ·cases hy
   ·cases hy
  ·cases hy
theorem jmn(hG:G.Ok){t:TypeId}{f off:Nat}{ty:TypeId}(hy:jmo G t f=some (off,ty)):
  ∃gs fd,G.P.underlying t=some (.struct gs)/\gs[f]? =some fd/\fd.offset=off/\fd.type=ty/\(G.ti ty).size≠0:=by
 unfold jmo at hy;split at hy
 ·cases hy
 ·rename_i h0;split at hy
  ·rename_i fs hk;split at hy
   ·rename_i a7 a8 hf;split at hy
    ·cases hy
    ·rename_i h1;cases hy;obtain⟨gs,hu,a1⟩:=hG.st h0 hk;rw[<-a1,zq]at hf;obtain⟨fd,a6,e⟩:=qz.1 hf;simp only[q7]at e;exact⟨gs,fd,hu,by simpa using a6,e.1,e.2,h1⟩
   ·cases hy
  ·cases hy
theorem jm4(hG:G.Ok){t:TypeId}{f off:Nat}{ty:TypeId}(hy:jmo G t f=some (off,ty))(b o:Nat):
  (Instr.fieldAt t (.pointer (some ⟨b,o,none⟩)) f).run G.P w= .ok (.pointer (some ⟨b,o+off,none⟩)) w:=by
 obtain⟨gs,fd,hu,hf,rfl,rfl,h1⟩:=jmn hG hy;simp only[Instr.fieldAt,Sem.run_bind,run_underlying hu,Result.andThen_ok,hf,Instr.sureAddr,Sem.run_pure,fieldPlace,hG.size h1,h1,qp,Addr.add_lit]
theorem jsd(hG:G.Ok){t:TypeId}(h0:(G.ti t).size≠0){cs:List IV}{us:Array Value}{off:Nat}{av:AV}(h:RepL w M cs us.toList)(ho:∀x∈cs,x.one=true)(hc:jgr G t cs off=some av):
  ∃v x,(part t us off).run G.P w= .ok v w/\av= .im x/\Rep w M x v:=by
 unfold jgr at hc;unfold part;simp only[Sem.run_bind,hG.isAgg h0,Result.andThen_ok];have hl:cs.length=us.size:=by simpa using h.1
 split at hc
 ·rename_i hk;split at hc
  ·rename_i hle;cases hc;refine⟨.agg (us.extract off (off+(G.ti t).size)),_,?_,rfl,?_⟩
   ·simp only[hk,qA,Sem.run_bind,hG.size h0,Result.andThen_ok,Sem.run_pure]
   ·refine .agg _ _ (by simp;omega) (fun x hx=>ho x (yq (yz hx))) (fun k x v hx hv=> ?_);rw[qy]at hx;split at hx
    ·rename_i a6;rw[qQ]at hx;refine h.2 (off+k) x v hx ?_;rw[Array.getElem?_extract]at hv;split at hv
     ·simpa using hv
     ·cases hv
    ·cases hx
  ·cases hc
 ·rename_i hk;split at hc
  ·rename_i x hx;cases hc;have a1:off<us.size:=by rw[<-hl];exact(zr.1 hx).1
   refine⟨us[off],x,?_,rfl,h.2 off x _ hx (by simp[a1])⟩;simp only[hk,ya,qp,qn a1,Sem.run_pure]
  ·cases hc
theorem yIndexAddr_run(hG:G.Ok)(hβ:∀b,β (hp b)=some b){t:TypeId}{x av:AV}{xv:Value}{n:Int}{k:IntKind}(hx:RepA w M β toks x xv)(hy:jhn G t x n=some av):
  ∃v,(Instr.indexAt t xv (.int k n)).run G.P w= .ok v w/\RepA w M β toks av v:=by
 unfold jhn at hy;split at hy
 ·cases hy
 ·rename_i h0;split at hy
  ·rename_i e hk;have hu:=hG.sl h0 hk;split at hy
   ·cases hy
   ·rename_i h1;have a1:G.P.elem t=e:=by simp[Program.elem,hu]
    have a6:G.P.underlying t=some (.slice (G.P.elem t)):=by rw[a1];exact hu
    replace hx:=hx.soft hβ;generalize x.soft=x at hx hy;split at hy
    ·rename_i d s i m;split at hy
     ·rename_i hc;obtain⟨b2,b1,b0⟩:=hc;cases hy;obtain⟨ad,c,b4,rfl,b3⟩:=hx;obtain⟨b,hb,rfl⟩:=b3 (by omega);refine⟨_,by rw[run_indexAt_slice w t _ m c k n a6,zh ⟨b2,b1⟩,a1,hG.size h1,Result.andThen_ok],b,hb,?_⟩;rw[Addr.add_lit,<-b0,<-qD];rfl
     ·cases hy
    ·rename_i x _;split at hy
     ·rename_i es a8;have hr:=jcy hx a8;split at hy
      ·rename_i hn;split at hy
       ·rename_i c hi;split at hy
        ·rename_i hlen;cases hy;obtain⟨b,o,cap,rfl,hp⟩:=hr.sl_at hi;have b5:n.toNat<es.length:=(zr.1 hi).1;refine⟨_,by rw[run_indexAt_slice w t _ es.length cap k n a6,zh ⟨hn,by omega⟩,a1,hG.size h1,Result.andThen_ok],?_⟩;rw[Addr.add_lit,<-hlen];exact hp
        ·cases hy
       ·cases hy
      ·cases hy
     ·cases hy
  ·rename_i len e hk;have hu:=hG.arr h0 hk;have a1:G.P.elem t=e:=by simp[Program.elem,hu]
   have a7:G.P.arrayLen t=len:=by simp[Program.arrayLen,hu]
   have a6:G.P.underlying t=some (.array (G.P.arrayLen t) (G.P.elem t)):=by rw[a1,a7];exact hu
   split at hy
   ·cases hy
   ·rename_i h1;replace hx:=hx.dp hβ;generalize x.dp=x at hx hy;split at hy
    ·rename_i hc;split at hy
     ·rename_i d s i j;cases hy;obtain⟨b,hb,rfl⟩:=hx;refine⟨_,by rw[run_indexAt_array w t _ k n a6,a7,zh hc,a1,hG.size h1,Result.andThen_ok],b,hb,?_⟩;rw[Addr.add_lit,jH]
     ·rename_i c j;cases hy;obtain⟨b,o,rfl,hp⟩:=ip_move (k:=n.toNat*(G.ti e).size) hx;refine⟨_,by rw[run_indexAt_array w t _ k n a6,a7,zh hc,a1,hG.size h1,Result.andThen_ok],?_⟩;rw[Addr.add_lit];exact hp
     ·cases hy
    ·cases hy
  ·cases hy
theorem yIndex_run(hG:G.Ok){t:TypeId}{x av:AV}{xv:Value}{n:Int}{k:IntKind}(hx:RepA w M β toks x xv)(hy:jrs G t x n=some av):
  ∃v,(Instr.index t xv (.int k n)).run G.P w= .ok v w/\RepA w M β toks av v:=by
 unfold jrs at hy;split at hy
 ·cases hy
 ·rename_i h0;split at hy
  ·rename_i len e hk;have hu:=hG.arr h0 hk;split at hy
   ·cases hy
   ·rename_i h1;split at hy
    ·rename_i hc;split at hy
     ·rename_i cs;obtain⟨us,rfl,hr,ho⟩:=Rep.agg_inv hx;obtain⟨v,x,a1,rfl,a6⟩:=jsd (w:=w) hG h1 hr ho hy;refine⟨v,?_,a6⟩;simp only[Instr.index,asIntOf,Sem.run_bind,Sem.run_pure,Result.andThen_ok,run_underlying hu,hc,vq,qA,hG.size h1,a1]
     ·cases hy
    ·cases hy
  ·rename_i hk;have hu:=hG.str h0 hk;split at hy
   ·rename_i s;split at hy
    ·rename_i hn;split at hy
     ·rename_i b hb;cases hy;obtain rfl:=Rep.sc_inv hx;refine⟨_,?_,Rep.sc _ rfl⟩;simp only[Instr.index,asIntOf,Sem.run_bind,Sem.run_pure,Result.andThen_ok,run_underlying hu,hn,qA,hb]
     ·cases hy
    ·cases hy
   ·cases hy
  ·cases hy
end
end
section
open Go.RowKit (Below)
section
variable{G:Ctx}{N:Nat}{w0:Base}{w:World}{M M0:Nat->Nat->Prop}{β:Nat->Option Nat}{st:St}{a:Act}{toks:List (Nat×Nat×Nat)}{av:AV}{v:Value}
theorem ofZV_rep{z:Value}(h:ofZV z≠ .no):Rep w M (ofZV z).iv z/\(ofZV z).iv.one=true:=by
 unfold ofZV at h⊢;split at h
 ·exact⟨.sc _ rfl,rfl⟩
 ·exact⟨.sc _ rfl,rfl⟩
 ·rename_i s;split at h
  ·rename_i hs;simp only[hs,qA];have:s=ByteArray.empty:=by
    obtain⟨⟨l⟩⟩:=s;have:l=[]:=zV hs;subst this;rfl
   subst this;exact⟨.sc _ rfl,rfl⟩
  ·exact absurd rfl h
 ·exact⟨.nil _ _,rfl⟩
 ·exact⟨.sc _ rfl,rfl⟩
 ·exact absurd rfl h
theorem ofZV_repG(b:Bool){z:Value}(h:ofZV z≠ .no):Rep w M ((ofZV z).ivG b) z/\((ofZV z).ivG b).one=true:=by
 have h0:=ofZV_rep (w:=w) (M:=M) h;unfold ofZV at h h0⊢;split at h
 ·exact h0
 ·exact h0
 ·rename_i s;split at h
  ·rename_i hs;simp only[hs,qA]at h0⊢;exact h0
  ·exact absurd rfl h
 ·cases b
  ·exact h0
  ·exact⟨.emp _,rfl⟩
 ·exact h0
 ·exact absurd rfl h
theorem jrq(b:Bool):∀(vs:List Value),(vs.map ofZV).contains .no=false->RepL w M ((vs.map ofZV).map (ZC.ivG b)) vs/\∀x∈(vs.map ofZV).map (ZC.ivG b),x.one=true
 | [],_=>⟨RepL.nil,by simp⟩
 | v::vs,h=>by
  simp only[zt,List.contains_cons,Bool.or_eq_false_iff]at h;obtain⟨h1,h2⟩:=jrq b vs h.2;have h3:ofZV v≠ .no:=fun e=>by rw[e]at h;simp at h
  obtain⟨h4,h5⟩:=ofZV_repG (w:=w) (M:=M) b h3;exact⟨RepL.cons h4 h1,by simpa [h5]using h2⟩
theorem jf2(hG:G.Ok){t:TypeId}{z:List IV}(h:jd3 G t=some z)(w:World)(M:Nat->Nat->Prop):
  ∃zv,(zeroValue t).run G.P w= .ok zv w/\RepL w M z zv.cells.toList/\(∀x∈z,x.one=true)/\(G.ti t).size≠0/\zv.cells.size=(G.ti t).size:=by
 unfold jd3 at h;split at h
 ·cases h
 ·rename_i h0;split at h
  ·cases h
  ·rename_i hn;cases h;obtain⟨i,zv,hi,_,_,hz,a1,a6⟩:=hG.info h0;rw[<-a1]at hn⊢;obtain⟨h1,h2⟩:=jrq (w:=w) (M:=M) G.emp zv.cells.toList (by simpa using hn);exact⟨zv,by simp[zeroValue,typeInfo,hi,hz],h1,h2,h0,a6⟩
theorem jid(h:Sim N w0 M0 β st a w):∀{ps:List (Nat×Operand)} {qs:List (Nat×IV)},jer st ps=some qs->RepP w (Mo M0 β st) qs (ps.map fun p=>(p.1,a.eval p.2))
 | [],qs,hq=>by cases hq;exact⟨rfl,fun k p q hp=>by simp at hp⟩
 | (i,x)::r,qs,hq=>by
  unfold jer at hq;split at hq
  ·rename_i y ys h1 h2;cases hq;have ih:=jid h h2;refine⟨by simp[ih.1],fun k p q hp hq=> ?_⟩;cases k with
   | zero=>
    simp at hp hq;subst hp;subst hq;exact⟨rfl,jfk (jb6 h x) h1⟩
   | succ k=>exact ih.2 k p q (by simpa using hp) (by simpa using hq)
  ·cases hq
theorem jsn{α β:Type}{P:Program}{w:World}(f:α->Sem β)(g:α->β):∀(l:List α),(∀x∈l,(f x).run P w= .ok (g x) w)->(l.mapM f).run P w= .ok (l.map g) w
 | [],_=>rfl
 | x::l,h=>by
  rw[List.mapM_cons,Sem.run_bind,h x (by simp),Result.andThen_ok,Sem.run_bind,jsn f g l (fun y hy=>h y (by simp[hy])),Result.andThen_ok];rfl
theorem yBuild_run(hG:G.Ok){t:TypeId}{ps:List (Nat×IV)}{qs:Array (Nat×Value)}(hp:RepP w M ps qs.toList)(hy:jrt G t ps=some av):
  ∃v,(Instr.build t qs).run G.P w= .ok v w/\RepA w M β toks av v:=by
 unfold jrt at hy;split at hy
 ·cases hy
 ·rename_i z hz;obtain⟨zv,a1,a7,a6,h0,_⟩:=jf2 hG hz w M;split at hy
  ·rename_i fs hk;obtain⟨gs,hu,a8⟩:=hG.st h0 hk;split at hy
   ·rename_i b0;split at hy
    ·rename_i cs hf;cases hy;have b1:(gs.mapM fun f=>do pure (f.offset,<-sizeOf f.type):Sem (Array (Nat×Nat))).run G.P w= .ok (gs.map fun f=>(f.offset,(G.ti f.type).size)) w:=by
      rw[jq,Sem.run_map,jsn _ (fun f=>(f.offset,(G.ti f.type).size)) gs.toList (fun f b3=> ?_)]
      ·simp only[Result.andThen];congr 1;apply yO;simp
      ·have:(G.ti f.type).size≠0:=by
        have:=List.all_eq_true.1 b0 (f.offset,f.type) (by rw[<-a8];exact List.mem_map_of_mem b3)
        simpa using this
       simp[hG.size this]
     have b2:(fun i=>(gs.map fun f=>(f.offset,(G.ti f.type).size))[i]?)=jf6 G fs:=by
      funext i;unfold jf6;rw[<-a8,zq];simp;cases gs[i]? <;>rfl
     obtain⟨ws,h1,h2,h3,_⟩:=jkn (w:=w) (M:=M) (jf6 G fs) ps qs.toList z zv.cells cs hp a7 a6 hf;refine⟨.agg ws,?_,RepL.agg h2 h3⟩;simp only[Instr.build,Sem.run_bind,a1,Result.andThen_ok,run_underlying hu];rw[b1,Result.andThen_ok,b2,h1];rfl
    ·cases hy
   ·cases hy
  ·rename_i n e hk;have hu:=hG.arr h0 hk;split at hy
   ·cases hy
   ·rename_i h1;split at hy
    ·rename_i cs hf;cases hy;obtain⟨ws,h4,h2,h3,_⟩:=jkn (w:=w) (M:=M) _ ps qs.toList z zv.cells cs hp a7 a6 hf;refine⟨.agg ws,?_,RepL.agg h2 h3⟩;simp only[Instr.build,Sem.run_bind,a1,Result.andThen_ok,run_underlying hu,hG.size h1,h4,Sem.run_pure]
    ·cases hy
  ·cases hy
theorem jk5:∀(xs A B:List IV),xs.length<=B.length->jbp (A++B) A.length xs=A++xs++B.drop xs.length
 | [],A,B,_=>by simp[jbp]
 | x::xs,A,[],h=>by simp at h
 | x::xs,A,b::B,h=>by
  have e:(A++b::B).set A.length x=(A++[x])++B:=by simp
  rw[jbp,e];have:=jk5 xs (A++[x]) B (by simpa using h);simp only[zB,List.length_singleton]at this;rw[this];simp
theorem jkb(s:Nat)(hs:s≠0):∀(ps:List (Nat×IV)) (k:Nat) (es:List (List IV)) (A B:List IV),jig s k ps=some es->A.length=k*s->B.length=es.length*s->
  fillA (fun i=>some (i*s,s)) (A++B) ps=some (A++es.flatten)/\(∀e∈es,e.length=s)
 | [],k,es,A,B,h,hA,hB=>by
  simp only[jig,qa]at h;subst h;have:B=[]:=zV (by simpa using hB);subst this;exact⟨by simp[fillA],by simp⟩
 | (i,x)::r,k,es,A,B,h,hA,hB=>by
  unfold jig at h;split at h
  ·rename_i hc;obtain⟨rfl,hl,ho⟩:=hc;split at h
   ·rename_i es' a7;cases h;have a8:s<=B.length:=by rw[hB];simp only[List.length_cons,qD,wh];omega
    have a1:(cellsOf x).length=s/\i*s+s<=(A++B).length/\(cellsOf x).all IV.one=true:=⟨hl,by simp[hA];omega,ho⟩;have a6:jbp (A++B) (i*s) (cellsOf x)=(A++cellsOf x)++B.drop s:=by
     rw[<-hA,jk5 _ _ _ (by omega),hl]
    obtain⟨h1,h2⟩:=jkb s hs r (i+1) es' (A++cellsOf x) (B.drop s) a7 (by simp[hA,hl,qD]) (by
     simp only[ji,hB,List.length_cons,qD,wh];omega)
    refine⟨?_,by simpa [hl]using h2⟩;simp only[fillA,a1,vq,qA,a6,h1];simp
   ·cases h
  ·cases h
theorem jdm{α:Type}{s:Nat}:∀{es:List (List α)} {i j:Nat} {e:List α} {x:α},(∀e∈es,e.length=s)->es[i]? =some e->e[j]? =some x->es.flatten[i*s+j]? =some x
 | [],i,j,e,x,_,hi,_=>by simp at hi
 | e0::es,i,j,e,x,hs,hi,hj=>by
  have h0:e0.length=s:=hs e0 (by simp);cases i with
  | zero=>
   simp at hi;subst hi;have a1:j<e0.length:=(zr.1 hj).1;simp[zK a1,hj]
  | succ i=>
   simp only[List.flatten_cons];rw[zP (by rw[h0,qD];omega)];have:(i+1)*s+j-e0.length=i*s+j:=by rw[h0,qD];omega
   rw[this];exact jdm (fun e he=>hs e (by simp[he])) (by simpa using hi) hj
theorem zeros_rep{zs:List IV}{zv:Array Value}(h:RepL w M zs zv.toList)(ho:∀x∈zs,x.one=true)(a8:zv.size≠0)(n:Nat):
  ∃B:List IV,B.length=n/\RepL w M B ((Array.range n).map (fun i=>zv[i % zv.size]!)).toList/\∀x∈B,x.one=true:=by
 have hl:zs.length=zv.size:=by simpa using h.1
 refine⟨(List.range n).map fun i=>zs.getD (i % zs.length) default,by simp,⟨by simp,fun k x v hx hv=> ?_⟩,fun x hx=> ?_⟩
 ·simp only[zq]at hx;obtain⟨k',a6,rfl⟩:=qz.1 hx;have a1:k<n:=by have:=(zr.1 a6).1;simpa using this
  obtain rfl:k=k':=by simpa [a1]using a6
  have hm:k % zv.size<zv.size:=jO _ (by omega);have a7:v=zv[k % zv.size]! :=by simp[a1]at hv;exact hv.symm
  subst a7;rw[hl];have hg:zs.getD (k % zv.size) default=zs[k % zv.size]'(by omega):=by simp[List.getD,hl,hm]
  rw[hg];refine h.2 (k % zv.size) _ _ (zw _) ?_;simp[hm]
 ·obtain⟨i,_,rfl⟩:=z8.1 hx;have hm:i % zs.length<zs.length:=jO _ (by omega);have:zs.getD (i % zs.length) default=zs[i % zs.length]:=by simp[List.getD,hm]
  rw[this];exact ho _ (yN hm)
theorem yBuildSlice_run(hG:G.Ok){t:TypeId}{len:Nat}{ps:List (Nat×IV)}{qs:Array (Nat×Value)}(hM:∀b o,M b o->b<w.heap.size)(hp:RepP w M ps qs.toList)(hy:jgd G t len ps=some av):
  ∃v w',(Instr.buildSlice t len qs).run G.P w= .ok v w'/\Below w.heap.size w w'/\RepA w' M β toks av v:=by
 unfold jgd at hy;split at hy
 ·cases hy
 ·rename_i h0;split at hy
  ·rename_i e hk;have hu:=hG.sl h0 hk;split at hy
   ·cases hy
   ·rename_i z hz;obtain⟨zv,b2,b4,b3,h1,c3⟩:=jf2 hG hz w M;split at hy
    ·rename_i es a1;split at hy
     ·rename_i hc;obtain⟨hlen,c4⟩:=hc;cases hy;subst hlen;by_cases a6:es.length*(G.ti e).size=0
      ·have he:es=[]:=by
        rcases wl.1 a6 with h | h
        ·exact zV h
        ·exact absurd h h1
       subst he;have b6:ps=[]:=by
        cases ps with
        | nil=>rfl
        | cons p r=>
         obtain⟨i,x⟩:=p;unfold jig at a1;split at a1
         ·split at a1<;>cases a1
         ·cases a1
       subst b6;have b5:qs.toList=[]:=zV hp.1.symm;refine⟨.slice (some ⟨w.heap.size,0,none⟩) 0 0,w.alloc (.cells #[] e),?_,(Below.refl _ _).alloc (zu _) _,.nil _ _,_,rfl⟩;simp[Instr.buildSlice,run_underlying hu,hG.size h1,b5,Instr.fill,newRow,Array.range_zero']
      ·have b7:zv.cells.size≠0:=by omega
       obtain⟨B,b9,b8,c0⟩:=zeros_rep b4 b3 b7 (es.length*(G.ti e).size);obtain⟨hf,a7⟩:=jkb (G.ti e).size h1 ps 0 es [] B a1 (by simp) b9;simp only[List.nil_append]at hf;obtain⟨ws,h4,h5,h6,h7⟩:=jkn (w:=w) (M:=M) _ ps qs.toList B _ es.flatten hp b8 c0 hf;have b0:¬(es.length*(G.ti e).size>2^24):=by
        have:(2:Nat)^24=16777216:=by decide
        omega
       refine⟨.slice (some ⟨w.heap.size,0,none⟩) es.length es.length,w.alloc (.cells ws e),?_,(Below.refl _ _).alloc (zu _) _,?_,_,rfl⟩
       ·simp only[Instr.buildSlice,Sem.run_bind,run_underlying hu,Result.andThen_ok,hG.size h1,b0,qp,Sem.run_pure,a6,b2,h4,newRow,run_newObj,World.alloc_eq]
       ·have hk:Kept w M (w.alloc (.cells ws e)) M:=Below.kept ((Below.refl _ _).alloc (zu _) _);have b1:es≠[]:=fun h=>by subst h;simp at a6
        refine Rep.sl es (G.ti e).size w.heap.size 0 es.length (fun i j=>ws.getD (i*(G.ti e).size+j) undef) b1 a7 (zu _) ?_ ?_
        ·intro i e' j x hi hj;have hx:=jdm a7 hi hj;have a8:i*(G.ti e).size+j<ws.size:=by
          have:=h5.1;have:=(zr.1 hx).1;simp at this;simp at*;omega
         refine⟨h6 x (zk hx),?_,fun hm=>absurd (hM _ _ hm) (by omega)⟩;rw[World.cell?_alloc_new];simp[a8]
        ·intro i e' j x hi hj;have hx:=jdm a7 hi hj;have a8:i*(G.ti e).size+j<ws.size:=by
          have:=h5.1;have:=(zr.1 hx).1;simp at this;simp at*;omega
         exact(h5.2 _ x _ hx (by simp[a8])).kept hk
     ·cases hy
    ·cases hy
  ·cases hy
