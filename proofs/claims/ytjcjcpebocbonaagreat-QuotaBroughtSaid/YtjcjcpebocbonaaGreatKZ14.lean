/- A part of the proof. No further condition. -/
import Derived.Test.YtjcjcpebocbonaaGreatKZ13
set_option linter.all false
set_option maxRecDepth 10000000
set_option maxHeartbeats 16000000
namespace Go.Abs
section
def mIx:Nat->List Bool->List Nat
 | _,[]=>[]
 | k,true::m=>k::mIx (k+1) m
 | k,false::m=>mIx (k+1) m
def pathT:List Nat->OT
 | []=> .fin
 | i::r=> .alt i (pathT r) .none
def drawZ(ops:Array Oper)(m:List Bool):Bool:=drawN ops m&&okT ops (pathT (mIx 0 m)) ((List.range m.length).filter fun i=>m.getD i false)
section
variable{G:Ctx}{kp:Bool}
theorem jku{ops:List Oper}{Q:Exit->St->Prop}{st:St}(m:List Bool)(Rs:Rows)(h:drawZ ops.toArray m=true)(hz:stZ ops.toArray m=true)(hs:SubR Rs st.rows)
  (hA:jfj G false ops (Q .normal) st.rows Rs (pathT (mIx 0 m)) m ops ⟨st.fr,Rs,st.toks⟩): @DrawP G ⟨ops⟩ ⟨Q⟩ st:=by
 unfold drawZ at h;rw[zn]at h;exact jtq m _ Rs (by rw[h.1,h.2,hz];rfl) hs hA
theorem jcq{ops:List Oper}{Q:Exit->St->Prop}{st:St}(m:List Bool)(Rs:Rows)(h:(drawZ ops.toArray m&&stZ ops.toArray m)=true)(hs:SubR Rs st.rows)
  (hA:jfj G false ops (Q .normal) st.rows Rs (pathT (mIx 0 m)) m ops ⟨st.fr,Rs,st.toks⟩): @DrawP G ⟨ops⟩ ⟨Q⟩ st:=by
 rw[zn]at h;exact jku m Rs h.1 h.2 hs hA
theorem mIx_nil(k:Nat):mIx k []=[]:=rfl
theorem mIx_true(k:Nat)(m:List Bool):mIx k (true::m)=k::mIx (k+1) m:=rfl
theorem mIx_false(k:Nat)(m:List Bool):mIx k (false::m)=mIx (k+1) m:=rfl
theorem pathT_nil:pathT []= .fin:=rfl
theorem pathT_cons(i:Nat)(r:List Nat):pathT (i::r)= .alt i (pathT r) .none:=rfl
variable(dst:Option Tmp)(ty:TypeId)(pos:String)(af:Array Edge)(gd:Option (Nat×Bool))(st:St)(ops:List Oper)(r:List Oper)
theorem SpOne_append(K:St->Prop)(l:List Oper)(d:Tmp)(a1:Array Operand)(ts:Array TypeId)(s2:OT)(Rs:Rows):
  SpOne G kp ops K l (some ⟨some d,.call ⟨.builtin .append,a1,ts⟩,ty,pos,af,.none⟩) s2 Rs st=match ts.toList,a1.toList with
   | [t,t'],[s,x]=>match(G.ti t).kind with
    | .sl e=>t=t'/\SpApp G d t e (evO st s) (jd0 (evO st x)) st.rows (T:=⟨fun av R'=>SubR Rs R'/\spOL G kp ops K l s2 Rs ((⟨st.fr,R',st.toks⟩:St).put (some d) av)⟩)
    | _=>False
   | _,_=>False:=by
 apply propext;constructor
 ·intro h;have h:=h.2;unfold spN spZ at h;dsimp only at h;rw[zh (by rfl)]at h;unfold sp at h;dsimp only at h;split at h
  ·rename_i h1 h2 h3;cases h1;rw[h2,h3];exact h
  ·exact h.elim
 ·intro h;refine⟨trivial,?_⟩;unfold spN spZ;dsimp only;rw[zh (by rfl)];unfold sp;dsimp only;split at h
  ·rename_i h2 h3;rw[h2,h3];exact h
  ·exact h.elim
end
attribute [go_sem ↓] mIx_nil mIx_true mIx_false pathT_nil pathT_cons SpOne_append
end
section
open Go.RowKit (Below)
section
variable{G:Ctx}
def LeW(s:St)[S:Hold St]:Prop:=St.Le s S.val
end
section
variable{G:Ctx}{N:Nat}{w0:Base}{w:World}{M0:Nat->Nat->Prop}{β:Nat->Option Nat}{st:St}{a:Act}
theorem Sim.rowsTo(h:Sim N w0 M0 β st a w)(R:Rows)(hk:∀k,(look R k).isSome=(look st.rows k).isSome)
  (hr:∀k s es,look R k=some (s,es)->∀b,β k=some b->RowRep w (Mo M0 β st) b s es):Sim N w0 M0 β ⟨st.fr,R,st.toks⟩ a w:=by
 have key:∀k,(∃s es,look R k=some (s,es))↔∃s es,look st.rows k=some (s,es):=fun k=>by
  have:=hk k;cases h1:look R k with
  | none=>cases h2:look st.rows k with
   | none=>simp
   | some q=>simp[h1,h2]at this
  | some p=>cases h2:look st.rows k with
   | none=>simp[h1,h2]at this
   | some q=>exact⟨fun _=>⟨q.1,q.2,rfl⟩,fun _=>⟨p.1,p.2,rfl⟩⟩
 have a6:∀b o,Mo M0 β ⟨st.fr,R,st.toks⟩ b o->Mo M0 β st b o:=fun b o hm=>by
  rcases hm with hm | ⟨k,s,es,a1,hb⟩ | hm
  ·exact .inl hm
  ·obtain⟨s2,a7,h2⟩:=(key k).1 ⟨s,es,a1⟩;exact .inr (.inl ⟨k,s2,a7,h2,hb⟩)
  ·exact .inr (.inr hm)
 have a8:=Kept.less w a6;refine⟨h.size,h.defers,h.below,h.m0,fun t=> ?_,fun k s es a1=> ?_,h.toks,fun k k' b h1 h2=> ?_,fun k a1=> ?_,fun k hN b0 a1=> ?_,h.np,h.perm⟩
 ·exact(h.fr t).move (β':=β) (toks':=st.toks) a8 (fun _ _=>rfl) (fun _ _ _ _ hl=>hl) (fun _ _ _ _ _=>rfl) (Shp.refl _)
 ·obtain⟨s2,a7,h2⟩:=(key k).1 ⟨s,es,a1⟩;obtain⟨b,g1,g2,_⟩:=h.rows k s2 a7 h2;exact⟨b,g1,g2,(hr k s es a1 b g1).move a8 rfl⟩
 ·exact h.inj k k' b (by simpa [hk]using h1) (by simpa [hk]using h2)
 ·exact h.excl k (by rw[<-hk];exact a1)
 ·exact h.nam k hN b0 (by rw[<-hk];exact a1)
def frzC(b s:Nat)(es:List (List IV))(c:List IV):List IV:=c.map (frz1 b s es)
def St.frzR(st:St)(b:Nat):St:=
 match look st.rows (hp b)with
 | some (s,es)=>⟨(st.frz b).fr,(st.frz b).rows.map fun p=>(p.1,p.2.1,p.2.2.map (frzC b s es)),(st.frz b).toks⟩
 | none=>st
theorem Sim.frzR(h:Sim N w0 M0 β st a w)(b:Nat):Sim N w0 M0 β (st.frzR b) a w:=by
 unfold St.frzR;split
 case h_2=>exact h
 case h_1 s es hd=>
  have h1:=h.frz b;obtain⟨b',b4,b8,b0⟩:=h.rows _ s es hd;rw[h.perm]at b4;cases b4;have a8:look st.toks (hp b)=none:=h.excl _ (jc1 hd);have e0:st.frz b=⟨st.fr.map fun p=>(p.1,p.2.frz b s es),del st.rows (hp b),st.toks⟩:=by unfold St.frz;rw[hd]
  have a6:∀b' o,Mo M0 β (st.frz b) b' o->Mo M0 β st b' o:=fun b' o hm=>by rw[e0]at hm;exact jnu hm
  have b6:∀o,¬Mo M0 β (st.frz b) b o:=by
   rw[e0];rintro o (hm | ⟨k,s',es',hk',hkb⟩ | ⟨k,s',n,hk',hkb,_⟩)
   ·exact b8 (h.m0 b o hm)
   ·by_cases e:k=hp b
    ·subst e;simp[jab]at hk'
    ·exact e (h.inj k (hp b) b (.inl (by simp only[ja9 _ e]at hk';simp[hk'])) (.inl (by simp[hd])) hkb (h.perm b))
   ·have:=h.inj k (hp b) b (.inr (by simp only at hk';simp[hk'])) (.inl (by simp[hd])) hkb (h.perm b);subst this;simp only at hk';rw[a8]at hk';cases hk'
  have a1:=b0.move (Kept.less w a6) rfl;have b1:∀k,look ((st.frz b).rows.map fun p=>(p.1,p.2.1,p.2.2.map (frzC b s es))) k=(look (st.frz b).rows k).map fun q:Nat×List (List IV)=>(q.1,q.2.map (frzC b s es)):=fun k=>jhw _ (fun q:Nat×List (List IV)=>(q.1,q.2.map (frzC b s es))) k;refine h1.rowsTo _ (fun k=>by rw[b1];cases look (st.frz b).rows k<;>rfl) fun k s2 c3 hk b2 b7=> ?_;rw[b1]at hk;obtain⟨⟨s3,b9⟩,g1,g2⟩:=qz.1 hk;cases g2;obtain⟨b3,q1,_,cur,T,q2,q3,q4⟩:=h1.rows k s3 b9 g1;rw[b7]at q1;cases q1;refine⟨cur,T,q2,fun c hc=> ?_,fun i c j y hi hj=> ?_⟩
  ·obtain⟨c0,a7,rfl⟩:=z8.1 hc;unfold frzC;rw[za];exact q3 c0 a7
  ·rw[zq]at hi;obtain⟨c0,a7,rfl⟩:=qz.1 hi;unfold frzC at hj;rw[zq]at hj;obtain⟨y0,b5,rfl⟩:=qz.1 hj;obtain⟨o1,u,o2,o3⟩:=q4 i c0 j y0 a7 b5;exact⟨by rw[jt4];exact o1,u,o2,jot a1 b6 o3⟩
theorem Sim.frzRs(h:Sim N w0 M0 β st a w)(bs:List Nat):Sim N w0 M0 β (bs.foldl St.frzR st) a w:=by
 induction bs generalizing st with
 | nil=>exact h
 | cons b bs ih=>exact ih (h.frzR b)
theorem jtr{s S:St}(bs:List Nat)(L:List Nat)(hf:L.map (fun t=>(t,(bs.foldl St.frzR s).get t))=S.fr)(hr:SubR S.rows (bs.foldl St.frzR s).rows)(ht:S.toks=[]): @LeW s ⟨S⟩:=
 St.Le.trans (fun N w0 M0 β a w h=>⟨β,h.frzRs bs⟩) (St.sub_of L hf hr ht).le
end
section
variable{G:Ctx}
end
def tailN:Nat->Code->Code
 | 0,c=>c
 | n+1,.seq _ y=>tailN n y
 | _+1,c=>c
def putN:Nat->Code->Code->Code
 | 0,_,y=>y
 | n+1,.seq x c,y=> .seq x (putN n c y)
 | _+1,c,_=>c
theorem jdg:∀(j k:Nat) (c:Code),tailN k (tailN j c)=tailN (j+k) c
 | 0,k,c=>by rw[qi];rfl
 | j+1,k,c=>by
  cases c with
  | seq x y=>rw[show j+1+k=(j+k)+1 by omega];exact jdg j k y
  | _=>cases k<;>first | rfl | (rw[show j+1+(_+1)=(j+_+1)+1 by omega];rfl)
def jcu(fn:Func):Code:=match fn.body with
 | some c=>c
 | none=> .skip
section
variable{G:Ctx}
theorem jo1{fn:Func}{c:Code}(hb:fn.body=some c){k:Nat}{Q:Exit->St->Prop}{st:St}(h:awp G (tailN k c) Q st):awp G (tailN k (jcu fn)) Q st:=by
 unfold jcu;rw[hb];exact h
theorem ji4{fn:Func}{c:Code}(hb:fn.body=some c){k j:Nat}{y:Code}{Q:Exit->St->Prop}{st:St}(h:awp G (putN k (tailN j c) y) Q st):awp G (putN k (tailN j (jcu fn)) y) Q st:=by
 unfold jcu;rw[hb];exact h
end
attribute [go_sem] St.frzR frzC tailN putN
