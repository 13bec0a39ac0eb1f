/- A part of the proof. No further condition. -/
import Derived.Test.YtjcjcpebocbonaaGreatKY13
set_option linter.all false
set_option maxRecDepth 10000000
set_option maxHeartbeats 16000000
namespace Go.Abs
section
def mIx:Nat->List Bool->List Nat
 | _,[]=>[]
 | k,true::m=>k::mIx (k+1) m
 | k,false::m=>mIx (k+1) m
def pathT:List Nat->OT
 | []=> .fin
 | i::r=> .alt i (pathT r) .none
def drawZ(ops:Array Oper)(m:List Bool):Bool:=drawN ops m&&okT ops (pathT (mIx 0 m)) ((List.range m.length).filter fun i=>m.getD i false)
section
variable{G:Ctx}{kp:Bool}
theorem jks{ops:List Oper}{Q:Exit->St->Prop}{st:St}(m:List Bool)(Rs:Rows)(h:drawZ ops.toArray m=true)(hz:stZ ops.toArray m=true)(hs:SubR Rs st.rows)
  (hA:jfk G false ops (Q .normal) st.rows Rs (pathT (mIx 0 m)) m ops ⟨st.fr,Rs,st.toks⟩): @DrawP G ⟨ops⟩ ⟨Q⟩ st:=by
 unfold drawZ at h;rw[zn]at h;exact jtv m _ Rs (by rw[h.1,h.2,hz];rfl) hs hA
theorem jdb{ops:List Oper}{Q:Exit->St->Prop}{st:St}(m:List Bool)(Rs:Rows)(h:(drawZ ops.toArray m&&stZ ops.toArray m)=true)(hs:SubR Rs st.rows)
  (hA:jfk G false ops (Q .normal) st.rows Rs (pathT (mIx 0 m)) m ops ⟨st.fr,Rs,st.toks⟩): @DrawP G ⟨ops⟩ ⟨Q⟩ st:=by
 rw[zn]at h;exact jks m Rs h.1 h.2 hs hA
theorem mIx_nil(k:Nat):mIx k []=[]:=rfl
theorem mIx_true(k:Nat)(m:List Bool):mIx k (true::m)=k::mIx (k+1) m:=rfl
theorem mIx_false(k:Nat)(m:List Bool):mIx k (false::m)=mIx (k+1) m:=rfl
theorem pathT_nil:pathT []= .fin:=rfl
theorem pathT_cons(i:Nat)(r:List Nat):pathT (i::r)= .alt i (pathT r) .none:=rfl
variable(dst:Option Tmp)(ty:TypeId)(pos:String)(af:Array Edge)(gd:Option (Nat×Bool))(st:St)(ops:List Oper)(r:List Oper)
theorem SpOne_append(K:St->Prop)(l:List Oper)(d:Tmp)(a1:Array Operand)(ts:Array TypeId)(s2:OT)(Rs:Rows):
  SpOne G kp ops K l (some ⟨some d,.call ⟨.builtin .append,a1,ts⟩,ty,pos,af,.none⟩) s2 Rs st=match ts.toList,a1.toList with
   | [t,t'],[s,x]=>match(G.ti t).kind with
    | .sl e=>t=t'/\SpApp G d t e (evO st s) (jcy (evO st x)) st.rows (T:=⟨fun av R'=>SubR Rs R'/\spOL G kp ops K l s2 Rs ((⟨st.fr,R',st.toks⟩:St).put (some d) av)⟩)
    | _=>False
   | _,_=>False:=by
 apply propext;constructor
 ·intro h;have h:=h.2;unfold spN spZ at h;dsimp only at h;rw[ze (by rfl)]at h;unfold sp at h;dsimp only at h;split at h
  ·rename_i h1 h2 h3;cases h1;rw[h2,h3];exact h
  ·exact h.elim
 ·intro h;refine⟨trivial,?_⟩;unfold spN spZ;dsimp only;rw[ze (by rfl)];unfold sp;dsimp only;split at h
  ·rename_i h2 h3;rw[h2,h3];exact h
  ·exact h.elim
end
attribute [go_sem ↓] mIx_nil mIx_true mIx_false pathT_nil pathT_cons SpOne_append
end
section
open Go.RowKit (Below)
section
variable{G:Ctx}
end
section
variable{G:Ctx}{N:Nat}{w0:Base}{w:World}{M0:Nat->Nat->Prop}{β:Nat->Option Nat}{st:St}{a:Act}
def frzC(b s:Nat)(es:List (List IV))(c:List IV):List IV:=c.map (frz1 b s es)
def St.frzR(st:St)(b:Nat):St:=
 match look st.rows (hp b)with
 | some (s,es)=>⟨(st.frz b).fr,(st.frz b).rows.map fun p=>(p.1,p.2.1,p.2.2.map (frzC b s es)),(st.frz b).toks⟩
 | none=>st
end
section
variable{G:Ctx}
end
def tailN:Nat->Code->Code
 | 0,c=>c
 | n+1,.seq _ y=>tailN n y
 | _+1,c=>c
def putN:Nat->Code->Code->Code
 | 0,_,y=>y
 | n+1,.seq x c,y=> .seq x (putN n c y)
 | _+1,c,_=>c
theorem jek:∀(j k:Nat) (c:Code),tailN k (tailN j c)=tailN (j+k) c
 | 0,k,c=>by rw[qi];rfl
 | j+1,k,c=>by
  cases c with
  | seq x y=>rw[show j+1+k=(j+k)+1 by omega];exact jek j k y
  | _=>cases k<;>first | rfl | (rw[show j+1+(_+1)=(j+_+1)+1 by omega];rfl)
def jd2(fn:Func):Code:=match fn.body with
 | some c=>c
 | none=> .skip
section
variable{G:Ctx}
theorem jr2{fn:Func}{c:Code}(hb:fn.body=some c){k:Nat}{Q:Exit->St->Prop}{st:St}(h:awp G (tailN k c) Q st):awp G (tailN k (jd2 fn)) Q st:=by
 unfold jd2;rw[hb];exact h
theorem jl2{fn:Func}{c:Code}(hb:fn.body=some c){k j:Nat}{y:Code}{Q:Exit->St->Prop}{st:St}(h:awp G (putN k (tailN j c) y) Q st):awp G (putN k (tailN j (jd2 fn)) y) Q st:=by
 unfold jd2;rw[hb];exact h
end
attribute [go_sem] St.frzR frzC tailN putN
