/- A part of the proof. No further condition. -/
import Derived.Test.YtjcjcpebocbonaaGreatKZ2
set_option linter.all false
set_option maxRecDepth 10000000
set_option maxHeartbeats 16000000
namespace Go.Abs
section
open Go.RowKit (Below)
section
variable{G:Ctx}{N:Nat}{w0:Base}{w w':World}{M M' M0:Nat->Nat->Prop}{β β':Nat->Option Nat}{st:St}{a:Act}{toks toks':List (Nat×Nat×Nat)}{av:AV}{v:Value}
def jk0(w:World)(M:Nat->Nat->Prop)(ad:Addr)(l:List IV)(g:Nat->Value):Prop:=
 ∀(k:Nat) x,l[k]? =some x->x.one=true/\w.cell? (ad.add k)=some (g k)/\Rep w M x (g k)
theorem jd2{α:Type}{s:Nat}:∀{es:List (List α)},(∀e∈es,e.length=s)->es.flatten.length=es.length*s
 | [],_=>by simp
 | e::es,h=>by
  have h0:e.length=s:=h e (by simp);simp only[List.flatten_cons,zB,List.length_cons,qD,wh];rw[jd2 (fun x hx=>h x (by simp[hx])),h0];omega
theorem je6{α:Type}{s:Nat}(hs:s≠0):∀{es:List (List α)} {k:Nat} {x:α},(∀e∈es,e.length=s)->es.flatten[k]? =some x->∃e,es[k/s]? =some e/\e[k % s]? =some x
 | [],k,x,_,h=>by simp at h
 | e::es,k,x,hl,h=>by
  have h0:e.length=s:=hl e (by simp);simp only[List.flatten_cons]at h;by_cases hk:k<s
  ·rw[zK (by omega)]at h;exact⟨e,by rw[jY hk];rfl,by rw[jD hk];exact h⟩
  ·rw[zP (by omega),h0]at h;obtain⟨e',h1,h2⟩:=je6 hs (fun x hx=>hl x (by simp[hx])) h;have e1:k/s=(k-s)/s+1:=by rw[<-Nat.add_div_right (k-s) (by omega)];congr 1;omega
   have e2:k % s=(k-s) % s:=by rw[Nat.mod_eq_sub_mod (by omega)]
   exact⟨e',by rw[e1];simpa using h1,by rw[e2];exact h2⟩
theorem jip{es:List (List IV)}{s:Nat}(hs:s≠0)(h:Rep w M (.sl es) v)(hl:∀e∈es,e.length=s):
  ∃ad c g,v= .slice ad es.length c/\es.length<=c/\(es≠[]->∃b o,ad=some ⟨b,o,none⟩/\jk0 w M ⟨b,o,none⟩ es.flatten g):=by
 rcases h.sl_inv with ⟨rfl,ad,c,rfl⟩ | ⟨s',b,o,c,u,a7,a6,hc,h4,h5,rfl⟩
 ·exact⟨ad,c,fun _=>undef,rfl,zG _,fun h=>absurd rfl h⟩
 ·have a1:s=s':=by
   cases es with
   | nil=>exact absurd rfl a7
   | cons e es=>rw[<-hl e (by simp),a6 e (by simp)]
  subst a1;refine⟨_,c,fun k=>u (k/s) (k % s),rfl,hc,fun _=>⟨b,o,rfl,fun k x hx=> ?_⟩⟩;obtain⟨e,h1,h2⟩:=je6 hs hl hx;obtain⟨h6,h7,_⟩:=h4 _ e _ x h1 h2;refine⟨h6,?_,h5 _ e _ x h1 h2⟩;rw[Addr.add_lit];have:o+k=o+k/s*s+k % s:=by have:=jK k s;rw[jv]at this;omega
  rw[this];exact h7
theorem mk_sl{es:List (List IV)}{s b o c:Nat}{g:Nat->Value}(a1:es≠[])(hl:∀e∈es,e.length=s)(hc:es.length<=c)
  (h:∀(k:Nat) x,es.flatten[k]? =some x->x.one=true/\w.cell? ⟨b,o+k,none⟩=some (g k)/\¬M b (o+k)/\Rep w M x (g k)):
  Rep w M (.sl es) (.slice (some ⟨b,o,none⟩) es.length c):=
 .sl es s b o c (fun i j=>g (i*s+j)) a1 hl hc
  (fun i e j x hi hj=>by
   obtain⟨h1,h2,h3,_⟩:=h _ x (jdm hl hi hj);rw[<-jH]at h2 h3;exact⟨h1,h2,h3⟩)
  (fun i e j x hi hj=>(h _ x (jdm hl hi hj)).2.2.2)
def tokSt(st:St)(src dst s n:Nat):St:=⟨st.fr.map fun p=>(p.1,p.2.purge dst),del st.rows dst,(dst,s,n)::del (del st.toks src) dst⟩
theorem jlt(st:St)(src dst s n t:Nat):(tokSt st src dst s n).get t=(st.get t).purge dst:=by
 simp only[St.get,tokSt];rw[jhw];cases look st.fr t<;>rfl
theorem jce{src dst s n k:Nat}{x:Nat×Nat}(hk:k≠dst)(h:look (tokSt st src dst s n).toks k=some x):k≠src/\look st.toks k=some x:=by
 simp only[tokSt,look,hk,qp,ja9 _ hk]at h;by_cases e:k=src
 ·subst e;rw[jab]at h;cases h
 ·exact⟨e,by rwa [ja9 _ e]at h⟩
theorem Sim.newTok(h:Sim N w0 M0 β st a w){src dst s n:Nat}{X:Option Nat}
  (hk:Kept w (Mo M0 β st) w' (Mo M0 (upd β dst X) (tokSt st src dst s n))) (b2:w0.Fr w') (b5:Shp w w') (b6:w.heap.size<=w'.heap.size)
  (b1:∀k b,β k=some b->((look st.rows k).isSome\/((look st.toks k).isSome/\k≠src))->w'.heap[b]? =w.heap[b]?)
  (hX:∀b,X=some b->¬w0.P b/\b<w'.heap.size/\∀k,k≠src->k≠dst->((look st.rows k).isSome\/(look st.toks k).isSome)->β k≠some b):
  (src=dst\/(look st.rows src)=none)->dst<100000->Sim N w0 M0 (upd β dst X) (tokSt st src dst s n) a w':=fun b4 b8=>by
 have a7:∀k x,look (tokSt st src dst s n).rows k=some x->k≠dst/\look st.rows k=some x:=fun k x hk=>by
  by_cases e:k=dst
  ·subst e;simp[tokSt,jab]at hk
  ·exact⟨e,by simpa [tokSt,ja9 _ e]using hk⟩
 refine⟨h.size,h.defers,b2,h.m0,fun t=> ?_,fun k s' es a6=> ?_,fun k s' n' a6 b hb=> ?_,fun k k' b h1 h2 hb b0=> ?_,fun k a6=> ?_,fun k hN b9 a6=> ?_,h.np,jkm h.perm (.inl b8)⟩
 case refine_6=>
  obtain⟨x,hx⟩:=zD.1 a6;obtain⟨a1,a8⟩:=a7 k x hx;rw[jav _ _ a1];exact h.nam k hN b9 (by simp[a8])
 ·rw[jlt];refine((h.fr t).purge dst).move hk (fun k hr=>jav _ _ (je2 hr).2) (fun k s' n' hr hl=>(jce (je2 hr).2 hl).2) (fun k b hl hr hb=> ?_) b5;obtain⟨⟨s',n'⟩,b7⟩:=zD.1 hl;obtain⟨h1,h2⟩:=jce (je2 hr).2 b7;exact b1 k b hb (.inr ⟨by simp[h2],h1⟩)
 ·obtain⟨a1,a8⟩:=a7 k _ a6;obtain⟨b,h1,h2,h3⟩:=h.rows k s' es a8;exact⟨b,by rw[jav _ _ a1];exact h1,h2,h3.move hk (b1 k b h1 (.inl (by simp[a8])))⟩
 ·by_cases e:k=dst
  ·subst e;rw[jau]at hb;exact⟨(hX b hb).1,(hX b hb).2.1⟩
  ·rw[jav _ _ e]at hb;obtain⟨h1,h2⟩:=h.toks k s' n' (jce e a6).2 b hb;exact⟨h1,by omega⟩
 ·have b3:∀k,((look (tokSt st src dst s n).rows k).isSome\/(look (tokSt st src dst s n).toks k).isSome)->k≠dst->((look st.rows k).isSome\/(look st.toks k).isSome)/\(k≠src\/(look st.rows k).isSome):=fun k hk a1=>by
   rcases hk with hk | hk
   ·obtain⟨x,hx⟩:=zD.1 hk;have:=(a7 k x hx).2;exact⟨.inl (by simp[this]),.inr (by simp[this])⟩
   ·obtain⟨x,hx⟩:=zD.1 hk;have:=jce a1 hx;exact⟨.inr (by simp[this.2]),.inl this.1⟩
  have ns:∀k,k≠dst->(k≠src\/(look st.rows k).isSome)->k≠src:=fun k a1 hk e=>by
   subst e;rcases b4 with e | e
   ·exact a1 e
   ·simp[e]at hk
  by_cases e:k=dst<;>by_cases e':k'=dst
  ·omega
  ·subst e;rw[jau]at hb;rw[jav _ _ e']at b0;obtain⟨d1,d2⟩:=b3 k' h2 e';exact absurd b0 ((hX b hb).2.2 k' (ns k' e' d2) e' d1)
  ·subst e';rw[jau]at b0;rw[jav _ _ e]at hb;obtain⟨d1,d2⟩:=b3 k h1 e;exact absurd hb ((hX b b0).2.2 k (ns k e d2) e d1)
  ·rw[jav _ _ e]at hb;rw[jav _ _ e']at b0;exact h.inj k k' b (b3 k h1 e).1 (b3 k' h2 e').1 hb b0
 ·obtain⟨x,hx⟩:=zD.1 a6;obtain⟨a1,a8⟩:=a7 k x hx;have:=h.excl k (by simp[a8]);simp only[tokSt,look,a1,qp,ja9 _ a1];by_cases e:k=src
  ·subst e;exact jab _ _
  ·rw[ja9 _ e];exact this
def Spare(w:World)(β:Nat->Option Nat)(st:St)(e:TypeId)(src s n:Nat)(v:Value):Prop:=
 (∃ad,v= .slice ad n n)\/
 (look st.toks src=some (s,n)/\∃b cap cur,β src=some b/\v= .slice (some ⟨b,0,none⟩) n cap/\w.heap[b]? =some (.cells cur e (0,0))/\n<=cap/\cap<=maxLen/\cur.size=cap*s)
theorem jf5{ad:Addr}{l:List IV}{g:Nat->Value}(h:jk0 w M ad l g):∀j u,((List.range l.length).map g)[j]? =some u->w.cell? (ad.add j)=some u:=by
 intro j u hu;rw[zq]at hu;obtain⟨j',a6,rfl⟩:=qz.1 hu;have a1:j<l.length:=by have:=(zr.1 a6).1;simpa using this
 obtain rfl:j=j':=by simpa [a1]using a6
 exact(h j _ (zw a1)).2.1
theorem append_run(hG:G.Ok)(h:Sim N w0 M0 β st a w){t e ty:TypeId}{sv xv:Value}{es xs:List (List IV)}{src dst:Nat}
  (h0:(G.ti t).size≠0) (hk:(G.ti t).kind= .sl e) (h1:(G.ti e).size≠0) (p3:(G.ti e).bytes≠0) (hle:∀c∈es,c.length=(G.ti e).size) (n1:∀c∈xs,c.length=(G.ti e).size)
  (hbound:(es.length+xs.length)*(G.ti e).bytes<=140737488355328)
  (hs:Rep w (Mo M0 β st) (.sl es) sv) (a7:Spare w β st e src (G.ti e).size es.length sv) (e6:src=dst\/look st.rows src=none) (l5:dst<100000)
  (hx:∃ad c g,xv= .slice ad xs.length c/\(xs≠[]->∃b o,ad=some ⟨b,o,none⟩/\jk0 w (Mo M0 β st) ⟨b,o,none⟩ xs.flatten g)):
  ∃v' w' β',(Builtin.append_ #[t,t] ty #[sv,xv]).run G.P w= .ok v' w'/\Sim N w0 M0 β' (tokSt st src dst (G.ti e).size (es.length+xs.length)) a w'/\
   RepA w' (Mo M0 β' (tokSt st src dst (G.ti e).size (es.length+xs.length))) β' (tokSt st src dst (G.ti e).size (es.length+xs.length)).toks (.vec dst e (G.ti e).size (es++xs)) v':=by
 have hu:=hG.sl h0 hk;obtain⟨i,z,hi,e1,o0,hz,_,o3⟩:=hG.info h1;obtain⟨l8,xc,gx,rfl,o5⟩:=hx;obtain⟨e5,sc,gs,rfl,o7,c8⟩:=jip h1 hs hle;have b9:∀c∈es++xs,c.length=(G.ti e).size:=fun c hc=>(qk.1 hc).elim (hle c) (n1 c);have hlen:(es++xs).length=es.length+xs.length:=zB;generalize hS:(G.ti e).size=S at*;have k0:es.flatten.length=es.length*S:=jd2 hle;have h9:xs.flatten.length=xs.length*S:=jd2 n1;have p6:es.length+xs.length<=140737488355328:=qH (jg _ (jN p3)) hbound;have l1:∀b,β src=some b->look st.toks src=some (S,es.length)->∀k,k≠src->k≠dst->((look st.rows k).isSome\/(look st.toks k).isSome)->β k≠some b:=
  fun b hb ht k e9 _ hd a1=>e9 (h.inj k src b hd (.inr (by simp[ht])) a1 hb)
 by_cases k3:xs=[]
 ·
  subst k3;simp only[qr,List.length_nil,Nat.add_zero]at*;have b4:(Builtin.append_ #[t,t] ty #[.slice e5 es.length sc,.slice l8 0 xc]).run G.P w= .ok (.slice e5 es.length sc) w:=by
   cases l8<;>cases e5<;>simp[Builtin.append_,run_underlying hu,sizeOf,typeInfo,hi,Builtin.lenOf,Builtin.firstCells,loadCells,loadCellsFrom,storeCells,o7]
  let X:Option Nat:=if look st.toks src=some (S,es.length)then β src else none
  have e4:∀b o,Mo M0 (upd β dst X) (tokSt st src dst S es.length) b o->Mo M0 β st b o:=by
   rintro b o (hm | ⟨k,s',es',hk',a1⟩ | ⟨k,s',n',hk',a1,ho⟩)
   ·exact .inl hm
   ·by_cases e':k=dst
    ·subst e';simp[tokSt,jab]at hk'
    ·rw[jav _ _ e']at a1;exact .inr (.inl ⟨k,s',es',by simpa [tokSt,ja9 _ e']using hk',a1⟩)
   ·by_cases e':k=dst
    ·subst e';rw[jau]at a1;simp only[tokSt,look,qA,qa,q7]at hk';obtain⟨rfl,rfl⟩:=hk';by_cases ht:look st.toks src=some (S,es.length)
     ·have:X=β src:=zh ht;rw[this]at a1;exact .inr (.inr ⟨src,S,es.length,ht,a1,ho⟩)
     ·have:X=none:=zl ht;rw[this]at a1;cases a1
    ·rw[jav _ _ e']at a1;exact .inr (.inr ⟨k,s',n',(jce e' hk').2,a1,ho⟩)
  have a8:Kept w (Mo M0 β st) w (Mo M0 (upd β dst X) (tokSt st src dst S es.length)):=Kept.less w e4;refine⟨_,w,upd β dst X,b4,h.newTok a8 h.below (Shp.refl _) (zu _) (fun _ _ _ _=>rfl) (fun b hb=> ?_) e6 l5,hs.kept a8,hle,fun _=> ?_⟩
  ·by_cases ht:look st.toks src=some (S,es.length)
   ·have:X=β src:=zh ht;rw[this]at hb;obtain⟨h2,h3⟩:=h.toks src _ _ ht b hb;exact⟨h2,h3,l1 b hb ht⟩
   ·have:X=none:=zl ht;rw[this]at hb;cases hb
  ·rcases a7 with ⟨ad,a7⟩ | ⟨ht,b,cap,cur,hb,a7,hh,c0⟩
   ·exact .inl ⟨ad,a7⟩
   ·refine .inr ⟨b,cap,cur,?_,a7,hh,c0⟩;rw[jau];have:X=β src:=zh ht;rw[this];exact hb
 ·have l2:0<xs.length:=qG.2 k3;obtain⟨xb,xo,rfl,b3⟩:=o5 k3;have k8:es++xs≠[]:=by simp[k3]
  have c4:∀j u,((List.range xs.flatten.length).map gx)[j]? =some u->w.cell? ((⟨xb,xo,none⟩:Addr).add j)=some u:=jf5 b3;have c3:((List.range xs.flatten.length).map gx).length=xs.length*i.size:=by simp[h9,e1]
  have o9:((List.range es.flatten.length).map gs).length=es.length*i.size:=by simp[k0,e1]
  have p4:∀u∈(List.range xs.flatten.length).map gx,u.oneCell'=true:=by
   intro u l3;obtain⟨j,hj,rfl⟩:=z8.1 l3;have p0:j<xs.flatten.length:=by simpa using hj
   obtain⟨h2,_,h3⟩:=b3 j _ (zw p0);exact h3.oneCell h2
  have k6:∀(w2:World) (M2:Nat->Nat->Prop),Kept w (Mo M0 β st) w2 M2->∀k x,(es++xs).flatten[k]? =some x->
    x.one=true/\Rep w2 M2 x (if k<es.flatten.length then gs k else gx (k-es.flatten.length)):=by
   intro w2 M2 n2 k x b5;rw[vI]at b5;by_cases a6:k<es.flatten.length
   ·rw[zK a6]at b5;have b6:es≠[]:=fun e'=>by subst e';simp at a6
    obtain⟨b,o,_,hc⟩:=c8 b6;obtain⟨h2,_,h3⟩:=hc k x b5;rw[zh a6];exact⟨h2,h3.kept n2⟩
   ·rw[zP (by omega)]at b5;obtain⟨h2,_,h3⟩:=b3 _ x b5;rw[zl a6];exact⟨h2,h3.kept n2⟩
  have c5:(es++xs).flatten.length=(es.length+xs.length)*S:=by rw[jd2 b9,hlen]
  have l9:∀(R:List Value) k,k<(es++xs).flatten.length->((List.range es.flatten.length).map gs++(List.range xs.flatten.length).map gx++R)[k]? =some (if k<es.flatten.length then gs k else gx (k-es.flatten.length)):=by
   intro R k b7;rw[vI,zB]at b7;rw[zK (by simp only[zB,za,q9];omega)];by_cases a6:k<es.flatten.length
   ·rw[zK (by simp only[za,q9];exact a6),zh a6,zq,jd a6];rfl
   ·rw[zP (by simp only[za,q9];omega),zl a6];simp only[za,q9];rw[zq,jd (by omega)];rfl
  by_cases b8:es.length+xs.length<=sc
  ·
   rcases a7 with ⟨ad,a7⟩ | ⟨ht,b,cap,cur,hb,a7,hh,c0,l6,c6⟩
   ·exfalso;simp only[Value.slice.injEq]at a7;omega
   ·simp only[Value.slice.injEq,wA]at a7;obtain⟨rfl,rfl⟩:=a7;have c9:es.length*i.size+((List.range xs.flatten.length).map gx).length<=cur.size:=by
     rw[c3,c6,<-qD,e1];exact qj _ b8
    have b4:=run_append_room (P:=G.P) w t ty e i hu hi b es.length sc cur hh ⟨xb,xo,none⟩ xs.length xc _ c3 c4 p4 b8 c9;rw[c3,e1]at b4;generalize e0:(cur.toList.take (es.length*S)++(List.range xs.flatten.length).map gx++cur.toList.drop (es.length*S+xs.length*S)).toArray=cells at b4;have k4:=h.toks src _ _ ht b hb;have b0:∀k,k≠b->(w.setRow b cells).heap[k]? =w.heap[k]? :=fun k hk=>setRow_other w b k cells hk;have c7:(w.setRow b cells).heap[b]? =some (.cells cells e (0,0)):=jgm w b cells cur e hh;have l0:cells.size=cur.size:=by
     rw[<-e0];simp only[qP,zB,qb,ji,Array.length_toList,za,q9,h9];rw[c3,e1]at c9;omega
    have e8:Shp w (w.setRow b cells):=fun k o1 T' hk=>by
     by_cases e:k=b
     ·subst e;rw[hh]at hk;cases hk;exact⟨cells,c7,l0⟩
     ·exact⟨o1,by rw[b0 k e];exact hk,rfl⟩
    have k1:∀k,k<(es.length+xs.length)*S->cells[k]? =if k<es.length*S then cur[k]? else some (gx (k-es.length*S)):=by
     intro k b7;rw[qD]at b7;rw[<-e0];have p1:es.length*S+xs.length*S<=cur.size:=by rw[c3,e1]at c9;exact c9
     simp only[jp];rw[zK (by simp[h9];omega)];by_cases a6:k<es.length*S
     ·rw[zK (by simp;omega),zh a6,qy,zh a6];simp
     ·rw[zP (by simp;omega),zl a6];have:(List.take (es.length*S) cur.toList).length=es.length*S:=by simp;omega
      rw[this,zq,jd (by rw[h9];omega)];rfl
    have e4:∀b' o,b'≠b\/o<es.length*S->¬Mo M0 β st b' o->¬Mo M0 (upd β dst (some b)) (tokSt st src dst S (es.length+xs.length)) b' o:=by
     intro b' o k5 hn hm;rcases hm with hm | ⟨k,s',es',hk',a1⟩ | ⟨k,s',n',hk',a1,ho⟩
     ·exact hn (.inl hm)
     ·by_cases e':k=dst
      ·subst e';simp[tokSt,jab]at hk'
      ·rw[jav _ _ e']at a1;exact hn (.inr (.inl ⟨k,s',es',by simpa [tokSt,ja9 _ e']using hk',a1⟩))
     ·by_cases e':k=dst
      ·subst e';rw[jau]at a1;cases a1;simp only[tokSt,look,qA,qa,q7]at hk';obtain⟨rfl,rfl⟩:=hk';rw[qD]at ho;rcases k5 with k5 | k5
       ·exact k5 rfl
       ·omega
      ·rw[jav _ _ e']at a1;exact hn (.inr (.inr ⟨k,s',n',(jce e' hk').2,a1,ho⟩))
    have a8:Kept w (Mo M0 β st) (w.setRow b cells) (Mo M0 (upd β dst (some b)) (tokSt st src dst S (es.length+xs.length))):=by
     refine⟨fun b' o u hc hn=> ?_,fun b' p5 c hc hn=> ?_,e8⟩
     case refine_2=>
      have e':b'≠b:=fun e'=>by subst e';rw[hh]at hc;cases hc
      exact⟨by rw[b0 b' e'];exact hc,e4 _ _ (.inl e') hn⟩
     by_cases e':b'=b
     ·subst e';have k7:o<es.length*S:=by
       rcases zT o (es.length*S)with h' | h'
       ·exact h'
       ·exact absurd (.inr (.inr ⟨src,S,es.length,ht,hb,h'⟩)) hn
      refine⟨?_,e4 _ _ (.inr k7) hn⟩;rw[cell_of_row _ b' _ cells e _ c7,k1 o (by rw[qD];omega),zh k7];rw[cell_of_row _ b' _ cur e _ hh]at hc;exact hc
     ·refine⟨?_,e4 _ _ (.inl e') hn⟩;rw[World.cell?_of_block (w:=w) (a:=⟨b',o,none⟩) (b0 b' e')];exact hc
    have e7:=h.newTok (w':=w.setRow b cells) (src:=src) (dst:=dst) (s:=S) (n:=es.length+xs.length) (X:=some b) a8
     (h.below.set k4.1 rfl rfl rfl (by simp) b0 e8) e8 (by simp)
     (fun k b' a1 hd=>b0 b' (fun e'=>by
      subst e';rcases hd with hd | ⟨hd,e9⟩
      ·have:=h.inj k src b' (.inl hd) (.inr (by simp[ht])) a1 hb;subst this;rw[h.excl k hd]at ht;cases ht
      ·exact e9 (h.inj k src b' (.inr hd) (.inr (by simp[ht])) a1 hb)))
     (fun b' l7=>by cases l7;exact⟨k4.1,by simpa using k4.2,l1 _ hb ht⟩) e6 l5
    refine⟨_,_,_,b4,e7,?_,b9,fun _=> .inr ⟨b,sc,cells,jau _ _ _,by rw[hlen],c7,by rw[hlen];exact b8,l6,by rw[l0,c6]⟩⟩;have h7:=mk_sl (w:=w.setRow b cells) (M:=Mo M0 (upd β dst (some b)) (tokSt st src dst S (es.length+xs.length))) (b:=b) (o:=0) (c:=sc)
     (g:=fun k=>if k<es.flatten.length then gs k else gx (k-es.flatten.length)) k8 b9 (by rw[hlen];exact b8) (fun k x b5=> ?_)
    ·rw[hlen]at h7;exact h7
    have b7:=(zr.1 b5).1;obtain⟨h2,h3⟩:=k6 _ _ a8 k x b5;rw[qi];refine⟨h2,?_,?_,h3⟩
    ·rw[c5]at b7;rw[cell_of_row _ b _ cells e _ c7,k1 k b7,k0];by_cases a6:k<es.length*S
     ·rw[zh a6,zh a6];have b6:es≠[]:=fun e'=>by subst e';simp at a6
      obtain⟨b2,o2,e2,hc⟩:=c8 b6;simp only[qa,Addr.mk.injEq,vD]at e2;obtain⟨rfl,rfl⟩:=e2;obtain⟨_,h4,_⟩:=hc k _ (zw (by rw[k0];exact a6));rw[Addr.add_lit,qi,cell_of_row _ b _ cur e _ hh]at h4;exact h4
     ·rw[zl a6,zl a6]
    ·by_cases a6:k<es.length*S
     ·have b6:es≠[]:=fun e'=>by subst e';simp at a6
      rcases hs.sl_inv with ⟨e',_⟩ | ⟨s',b2,o2,c2,u2,_,o8,_,h4,_,n9⟩
      ·exact absurd e' b6
      ·simp only[Value.slice.injEq,qa,Addr.mk.injEq,vD,wA]at n9;obtain⟨⟨rfl,rfl⟩,rfl⟩:=n9;obtain⟨e3,h5,h6⟩:=je6 h1 hle (zw (l:=es.flatten) (i:=k) (by rw[k0];exact a6));have o6:s'=S:=by rw[<-o8 e3 (zk h5),hle e3 (zk h5)]
       subst o6;have:=(h4 _ e3 _ _ h5 h6).2.2;have n3:0+k/s'*s'+k % s'=k:=by have:=jK k s';rw[jv]at this;omega
       rw[n3]at this;exact e4 _ _ (.inr a6) this
     ·rw[c5]at b7;intro hm;rcases hm with hm | ⟨k2,s',es',hk',a1⟩ | ⟨k2,s',n',hk',a1,ho⟩
      ·exact k4.1 (h.m0 b k hm)
      ·by_cases e':k2=dst
       ·subst e';simp[tokSt,jab]at hk'
       ·rw[jav _ _ e']at a1;have h8:look st.rows k2=some (s',es'):=by simpa [tokSt,ja9 _ e']using hk'
        have:=h.inj k2 src b (.inl (by simp[h8])) (.inr (by simp[ht])) a1 hb;subst this;rw[h.excl k2 (by simp[h8])]at ht;cases ht
      ·by_cases e':k2=dst
       ·subst e';simp only[tokSt,look,qA,qa,q7]at hk';obtain⟨rfl,rfl⟩:=hk';omega
       ·rw[jav _ _ e']at a1;have h8:=jce e' hk';exact h8.1 (h.inj k2 src b (.inr (by simp[h8.2])) (.inr (by simp[ht])) a1 hb)
  ·
   have l4:∃cap cells,(Builtin.append_ #[t,t] ty #[.slice e5 es.length sc,.slice (some ⟨xb,xo,none⟩) xs.length xc]).run G.P w=
      .ok (.slice (some ⟨w.heap.size,0,none⟩) (es.length+xs.length) cap) (w.drew.alloc (.cells cells e))/\es.length+xs.length<=cap/\cap<=maxLen/\cells.size=cap*S/\
      ∃R:List Value,cells.toList=(List.range es.flatten.length).map gs++(List.range xs.flatten.length).map gx++R:=by
    have k9:es.length+xs.length<=maxLen:=by unfold maxLen;omega
    have c6:∀old,((List.range es.flatten.length).map gs++(List.range xs.flatten.length).map gx).length+(Builtin.zeroCells z.cells (grownCap w (es.length+xs.length) old e-(es.length+xs.length))).size=grownCap w (es.length+xs.length) old e*S:=by
     intro old;have p7:=grownCap_ge w (es.length+xs.length) old e;simp only[zB,za,q9,k0,h9,size_zeroCells,o3,<-qD];congr 1;omega
    cases e5 with
    | none=>
     have n4:es=[]:=by
      rcases Classical.em (es=[])with h' | h'
      ·exact h'
      ·obtain⟨_,_,e',_⟩:=c8 h';cases e'
     subst n4;have p2:sc=0:=by
      rcases a7 with ⟨ad,a7⟩ | ⟨_,b,cap,cur,_,a7,_⟩
      ·simp only[Value.slice.injEq]at a7;exact a7.2.2
      ·simp at a7
     subst p2;simp only[List.length_nil,qi,List.flatten_nil,List.range_zero,zF,List.nil_append]at*;have hr:=run_append_nil (P:=G.P) w t ty e i z hu hi hz ⟨xb,xo,none⟩ xs.length xc _ c3 c4 l2 (by omega) (by rw[o0];omega);refine⟨_,_,hr,grownCap_ge _ _ _ _,grownCap_le_maxLen _ _ _ _ k9,?_,(Builtin.zeroCells z.cells (grownCap w xs.length 0 e-xs.length)).toList,by rw[yV]⟩;rw[jc,qP];exact c6 0
    | some ad=>
     have holds:∀j u,((List.range es.flatten.length).map gs)[j]? =some u->w.cell? (ad.add j)=some u:=by
      rcases Classical.em (es=[])with h' | h'
      ·subst h';intro j u l3;simp at l3
      ·obtain⟨b,o,e',hc⟩:=c8 h';cases e';exact jf5 hc
     have hr:=run_append_grow (P:=G.P) w t ty e i z hu hi hz ad es.length sc _ o9 holds ⟨xb,xo,none⟩ xs.length xc _ c3 c4 (by omega) (by omega) (growslice_fits (by omega) (by rw[o0];exact hbound));refine⟨_,_,hr,grownCap_ge _ _ _ _,grownCap_le_maxLen _ _ _ _ k9,?_,(Builtin.zeroCells z.cells (grownCap w (es.length+xs.length) sc e-(es.length+xs.length))).toList,by rw[yV,yV]⟩;have:=c6 sc;rw[jc,jc,qP,qP,<-this,zB]
   obtain⟨cap,cells,b4,c0,l6,c6,R,hR⟩:=l4;have n0:∀b o,Mo M0 (upd β dst (some w.heap.size)) (tokSt st src dst S (es.length+xs.length)) b o->b≠w.heap.size->Mo M0 β st b o:=by
    rintro b o (hm | ⟨k,s',es',hk',a1⟩ | ⟨k,s',n',hk',a1,ho⟩) e9
    ·exact .inl hm
    ·by_cases e':k=dst
     ·subst e';simp[tokSt,jab]at hk'
     ·rw[jav _ _ e']at a1;exact .inr (.inl ⟨k,s',es',by simpa [tokSt,ja9 _ e']using hk',a1⟩)
    ·by_cases e':k=dst
     ·subst e';rw[jau]at a1;cases a1;exact absurd rfl e9
     ·rw[jav _ _ e']at a1;exact .inr (.inr ⟨k,s',n',(jce e' hk').2,a1,ho⟩)
   have hold:∀b,b<w.heap.size->(w.drew.alloc (.cells cells e)).heap[b]? =w.heap[b]? :=fun b hb=>Below.heap_alloc w.drew _ b hb;have a8:Kept w (Mo M0 β st) (w.drew.alloc (.cells cells e)) (Mo M0 (upd β dst (some w.heap.size)) (tokSt st src dst S (es.length+xs.length))):=by
    refine⟨fun b o u hc hn=> ?_,fun b p5 c hc hn=> ?_,Shp.old hold⟩
    ·have hb:b<w.heap.size:=World.block_lt_of_cell? (a:=⟨b,o,none⟩) w hc;exact⟨by rw[World.cell?_of_block (w:=w) (a:=⟨b,o,none⟩) (hold b hb)];exact hc,fun hm=>hn (n0 b o hm (by omega))⟩
    ·have hb:b<w.heap.size:=(zm.1 hc).1;exact⟨by rw[hold b hb];exact hc,fun hm=>hn (n0 b 0 hm (by omega))⟩
   have b1:∀k b,((look st.rows k).isSome\/(look st.toks k).isSome)->β k=some b->b<w.heap.size:=fun k b hd a1=>by
    rcases hd with hd | hd
    ·obtain⟨⟨s',es'⟩,hl⟩:=zD.1 hd;exact h.mlt (o:=0) (.inr (.inl ⟨k,s',es',hl,a1⟩))
    ·obtain⟨⟨s',n'⟩,hl⟩:=zD.1 hd;exact(h.toks k s' n' hl b a1).2
   have e7:=h.newTok (w':=w.drew.alloc (.cells cells e)) (src:=src) (dst:=dst) (s:=S) (n:=es.length+xs.length) (X:=some w.heap.size) a8
    ((h.below.drew).alloc _) (Shp.old hold) (by simp)
    (fun k b a1 hd=>hold b (b1 k b (hd.imp id (·.1)) a1))
    (fun b l7=>by cases l7;exact⟨fun hp=>absurd (qw (w0.lt _ hp) h.below.size) (q8 _),by simp,fun k _ _ hd a1=>absurd (b1 k _ hd a1) (by omega)⟩) e6 l5
   have c7:(w.drew.alloc (.cells cells e)).heap[w.heap.size]? =some (.cells cells e (0,0)):=heap_alloc_new w.drew _;refine⟨_,_,_,b4,e7,?_,b9,fun _=> .inr ⟨w.heap.size,cap,cells,jau _ _ _,by rw[hlen],c7,by rw[hlen];exact c0,l6,c6⟩⟩;have h7:=mk_sl (w:=w.drew.alloc (.cells cells e)) (M:=Mo M0 (upd β dst (some w.heap.size)) (tokSt st src dst S (es.length+xs.length))) (b:=w.heap.size) (o:=0) (c:=cap)
    (g:=fun k=>if k<es.flatten.length then gs k else gx (k-es.flatten.length)) k8 b9 (by rw[hlen];exact c0) (fun k x b5=> ?_)
   ·rw[hlen]at h7;exact h7
   have b7:=(zr.1 b5).1;obtain⟨h2,h3⟩:=k6 _ _ a8 k x b5;rw[qi];refine⟨h2,?_,?_,h3⟩
   ·rw[cell_of_row _ w.heap.size _ cells e _ c7,<-zR,hR];exact l9 R k b7
   ·rintro(hm | ⟨k2,s',es',hk',a1⟩ | ⟨k2,s',n',hk',a1,ho⟩)
    ·exact absurd (qw (w0.lt _ (h.m0 _ _ hm)) h.below.size) (q8 _)
    ·by_cases e':k2=dst
     ·subst e';simp[tokSt,jab]at hk'
     ·rw[jav _ _ e']at a1;exact absurd (b1 k2 _ (.inl (by(have:look st.rows k2=some (s',es'):=by simpa [tokSt,ja9 _ e']using hk');simp[this])) a1) (by omega)
    ·by_cases e':k2=dst
     ·subst e';simp only[tokSt,look,qA,qa,q7]at hk';obtain⟨rfl,rfl⟩:=hk';rw[c5]at b7;omega
     ·rw[jav _ _ e']at a1;exact absurd (b1 k2 _ (.inr (by simp[(jce e' hk').2])) a1) (by omega)
end
end
section
open Go.RowKit (Below)
section
variable{G:Ctx}{N:Nat}{w0:Base}{w w':World}{M M' M0:Nat->Nat->Prop}{β β':Nat->Option Nat}{st:St}{a:Act}{toks toks':List (Nat×Nat×Nat)}{av:AV}{v:Value}
def jdw(st:St)(src X s:Nat)(es:List (List IV)):St:=⟨st.fr,(hp X,s,es)::del st.rows src,st.toks⟩
theorem jf8{src X s:Nat}{es:List (List IV)}{k:Nat}{x:Nat×List (List IV)}(hk:k≠hp X)(h:look (jdw st src X s es).rows k=some x):k≠src/\look st.rows k=some x:=by
 simp only[jdw,look,hk,qp]at h;by_cases e:k=src
 ·subst e;rw[jab]at h;cases h
 ·exact⟨e,by rwa [ja9 _ e]at h⟩
theorem Mo_growStH(hβ:∀b,β (hp b)=some b){src s X:Nat}{es:List (List IV)}{b o:Nat}(h:Mo M0 β (jdw st src X s es) b o)(hb:b≠X):Mo M0 β st b o:=by
 rcases h with hm | ⟨k,s',es',hk,hkb⟩ | ⟨k,s',n',hk,hkb,ho⟩
 ·exact .inl hm
 ·by_cases e:k=hp X
  ·subst e;rw[hβ]at hkb;cases hkb;exact absurd rfl hb
  ·exact .inr (.inl ⟨k,s',es',(jf8 e hk).2,hkb⟩)
 ·exact .inr (.inr ⟨k,s',n',hk,hkb,ho⟩)
theorem Sim.growH(h:Sim N w0 M0 β st a w){src s X:Nat}{es:List (List IV)}
  (hk:Kept w (Mo M0 β st) w' (Mo M0 β (jdw st src X s es))) (b1:w0.Fr w') (b5:Shp w w') (b7:w.heap.size<=w'.heap.size)
  (a7:∀k b,β k=some b->k≠src->((look st.rows k).isSome\/(look st.toks k).isSome)->w'.heap[b]? =w.heap[b]?)
  (hX:¬w0.P X/\∀k,k≠src->((look st.rows k).isSome\/(look st.toks k).isSome)->β k≠some X)
  (b4:look st.toks src=none) (b6:RowRep w' (Mo M0 β (jdw st src X s es)) X s es):
  Sim N w0 M0 β (jdw st src X s es) a w':=by
 have a6:∀k,(look st.toks k).isSome->k≠src:=fun k hq e=>by rw[e,b4]at hq;cases hq
 refine⟨h.size,h.defers,b1,h.m0,fun t=> ?_,fun k s' es' a1=> ?_,fun k s' n' a1 b hb=> ?_,fun k k' b h1 h2 hb b2=> ?_,fun k a1=> ?_,fun k hN b8 a1=> ?_,h.np,h.perm⟩
 case refine_6=>
  have e:k≠hp X:=fun e=>by unfold hp at e;omega
  obtain⟨x,hx⟩:=zD.1 a1;exact h.nam k hN b8 (by rw[(jf8 e hx).2];rfl)
 ·exact(h.fr t).move hk (fun k hr=>rfl) (fun k s' n' hr hl=>hl) (fun k b hl hr hb=>a7 k b hb (a6 k hl) (.inr hl)) b5
 ·by_cases e:k=hp X
  ·subst e;simp only[jdw,look,qA,qa,q7]at a1;obtain⟨rfl,rfl⟩:=a1;exact⟨X,h.perm X,hX.1,b6⟩
  ·obtain⟨a8,b0⟩:=jf8 e a1;obtain⟨b,h1,h2,h3⟩:=h.rows k s' es' b0;exact⟨b,h1,h2,h3.move hk (a7 k b h1 a8 (.inl (by simp[b0])))⟩
 ·obtain⟨h1,h2⟩:=h.toks k s' n' a1 b hb;exact⟨h1,by omega⟩
 ·have b3:∀k,((look (jdw st src X s es).rows k).isSome\/(look (jdw st src X s es).toks k).isSome)->k≠hp X->((look st.rows k).isSome\/(look st.toks k).isSome)/\k≠src:=fun k hk a8=>by
   rcases hk with hk | hk
   ·obtain⟨x,hx⟩:=zD.1 hk;have:=jf8 a8 hx;exact⟨.inl (by simp[this.2]),this.1⟩
   ·exact⟨.inr hk,a6 k hk⟩
  by_cases e:k=hp X<;>by_cases e':k'=hp X
  ·omega
  ·subst e;rw[h.perm]at hb;cases hb;obtain⟨d1,d2⟩:=b3 k' h2 e';exact absurd b2 (hX.2 k' d2 d1)
  ·subst e';rw[h.perm]at b2;cases b2;obtain⟨d1,d2⟩:=b3 k h1 e;exact absurd hb (hX.2 k d2 d1)
  ·exact h.inj k k' b (b3 k h1 e).1 (b3 k' h2 e').1 hb b2
 ·obtain⟨x,hx⟩:=zD.1 a1;by_cases e:k=hp X
  ·subst e;cases ht:look st.toks (hp X)with
   | none=>exact ht
   | some y=>exact absurd (h.perm X) (hX.2 _ (a6 _ (by simp[ht])) (.inr (by simp[ht])))
  ·obtain⟨a8,b0⟩:=jf8 e hx;exact h.excl k (by simp[b0])
theorem appendX_run(hG:G.Ok)(h:Sim N w0 M0 β st a w){t e ty:TypeId}{sv xv:Value}{es xs:List (List IV)}{src n:Nat}(ST:Nat->St)(B':Nat->Nat->Option Nat)
  (h8:∀X b o,Mo M0 (B' X) (ST X) b o->b≠X->Mo M0 β st b o)
  (c8:∀X w',Kept w (Mo M0 β st) w' (Mo M0 (B' X) (ST X))->w0.Fr w'->Shp w w'->w.heap.size<=w'.heap.size->
   (∀k b,β k=some b->k≠src->((look st.rows k).isSome\/(look st.toks k).isSome)->w'.heap[b]? =w.heap[b]?)->
   (¬w0.P X/\∀k,k≠src->((look st.rows k).isSome\/(look st.toks k).isSome)->β k≠some X)->look st.toks src=none->RowRep w' (Mo M0 (B' X) (ST X)) X (G.ti e).size (es.take n++xs)->Sim N w0 M0 (B' X) (ST X) a w')
  (h0:(G.ti t).size≠0) (hk:(G.ti t).kind= .sl e) (h1:(G.ti e).size≠0) (o3:(G.ti e).bytes≠0) (k4:∀c∈xs,c.length=(G.ti e).size)
  (hd:look st.rows src=some ((G.ti e).size,es)) (hn:n<=es.length) (hbound:(n+xs.length)*(G.ti e).bytes<=140737488355328)
  (hs:RepA w (Mo M0 β st) β st.toks (.gsl src e (G.ti e).size n) sv) (hx:Rep w (Mo M0 β st) (.sl xs) xv):
  ∃v' w' X,(Builtin.append_ #[t,t] ty #[sv,xv]).run G.P w= .ok v' w'/\(∀k,k≠src->((look st.rows k).isSome\/(look st.toks k).isSome)->β k≠some X)/\Sim N w0 M0 (B' X) (ST X) a w'/\
   ∃cap cur,v'= .slice (some ⟨X,0,none⟩) (n+xs.length) cap/\w'.heap[X]? =some (.cells cur e (0,0))/\n+xs.length<=cap/\cap<=maxLen/\cur.size=cap*(G.ti e).size:=by
 have hu:=hG.sl h0 hk;obtain⟨i,z,hi,e3,o5,hz,_,l9⟩:=hG.info h1;obtain⟨k9,xc,gx,rfl,_,l1⟩:=jip h1 hx k4;obtain⟨b,cap,cur,hb,rfl,b1,h7,l8,h9⟩:=hs;obtain⟨b',b8,k8,k2,T',h6,n4,k6⟩:=h.rows src _ es hd;rw[hb]at b8;cases b8;rw[b1]at h6;cases h6;have e2:look st.toks src=none:=h.excl src (by simp[hd]);generalize hS:(G.ti e).size=S at*;have l3:(es.take n).length=n:=by simp;omega
 have hle:∀c∈es.take n,c.length=S:=fun c hc=>n4 c (yz hc);have k0:∀c∈es.take n++xs,c.length=S:=fun c hc=>(qk.1 hc).elim (hle c) (k4 c);have b6:(es.take n).flatten.length=n*S:=by rw[jd2 hle,l3]
 have c9:xs.flatten.length=xs.length*S:=jd2 k4;have hlen:(es.take n++xs).length=n+xs.length:=by rw[zB,l3]
 have o8:n+xs.length<=140737488355328:=qH (jg _ (jN o3)) hbound;have e8:∀o,Mo M0 β st b o:=fun o=> .inr (.inl ⟨src,S,es,hd,hb⟩);have hold:∀k x,(es.take n).flatten[k]? =some x->x.one=true/\cur[k]? =some (cur.getD k undef)/\Rep w (Mo M0 β st) x (cur.getD k undef):=by
  intro k x n2;obtain⟨c,h2,h3⟩:=je6 h1 hle n2;rw[qy]at h2;split at h2
  ·obtain⟨ho,u,c0,hr⟩:=k6 _ c _ x h2 h3;have l6:k/S*S+k % S=k:=by have:=jK k S;rw[jv]at this;omega
   rw[l6]at c0;have:cur.getD k undef=u:=by simp[c0]
   exact⟨ho,by rw[this];exact c0,by rw[this];exact hr⟩
  ·cases h2
 have e0:∀k,k≠src->((look st.rows k).isSome\/(look st.toks k).isSome)->β k≠some b:=fun k b4 b5 b0=>b4 (h.inj k src b b5 (.inl (by simp[hd])) b0 hb);have p0:n*S<=cur.size:=by rw[h9];exact qj _ h7
 have c6:∀(w2:World) (M2:Nat->Nat->Prop) (cells:Array Value) (X:Nat),w2.heap[X]? =some (.cells cells e (0,0))->Kept w (Mo M0 β st) w2 M2->
   (∀k,k<n*S->cells[k]? =some (cur.getD k undef))->(∀k,k<xs.length*S->cells[n*S+k]? =some (gx k))->RowRep w2 M2 X S (es.take n++xs):=by
  intro w2 M2 cells X hX l4 o1 o0;refine⟨cells,e,hX,k0,fun i' c j x n3 hj=> ?_⟩;have c5:=jdm k0 n3 hj;have o9:=c5;rw[vI]at c5;by_cases a8:i'*S+j<n*S
  ·rw[zK (by omega)]at c5;obtain⟨h2,h3,h4⟩:=hold _ x c5;exact⟨h2,_,o1 _ a8,h4.kept l4⟩
  ·rw[zP (by omega),b6]at c5;have l0:xs≠[]:=fun e'=>by subst e';simp at c5
   obtain⟨b2,o2,_,n9⟩:=l1 l0;obtain⟨h2,_,h3⟩:=n9 _ x c5;have p1:=(zr.1 c5).1;have:=o0 (i'*S+j-n*S) (by omega);rw[show n*S+(i'*S+j-n*S)=i'*S+j by omega]at this;exact⟨h2,_,this,h3.kept l4⟩
 by_cases k3:xs=[]
 ·
  subst k3;have c3:(Builtin.append_ #[t,t] ty #[.slice (some ⟨b,0,none⟩) n cap,.slice k9 0 xc]).run G.P w= .ok (.slice (some ⟨b,0,none⟩) n cap) w:=by
   cases k9<;>simp[Builtin.append_,run_underlying hu,sizeOf,typeInfo,hi,Builtin.lenOf,Builtin.firstCells,loadCells,loadCellsFrom,storeCells,h7]
  have a6:Kept w (Mo M0 β st) w (Mo M0 (B' b) (ST b)):=Kept.less w fun b' o hm=>by
   by_cases e':b'=b
   ·subst e';exact e8 o
   ·exact h8 _ _ _ hm e'
  refine⟨_,w,b,c3,e0,c8 b w a6 h.below (Shp.refl _) (zu _) (fun _ _ _ _ _=>rfl) ⟨k8,e0⟩ e2 ?_,cap,cur,rfl,b1,by simpa using h7,l8,h9⟩;exact c6 w _ cur b b1 a6 (fun k a8=>by(have:k<cur.size:=by omega);simp[this]) (fun k a8=>by simp at a8)
 ·have n0:0<xs.length:=qG.2 k3;obtain⟨xb,xo,rfl,b9⟩:=l1 k3;have e7:∀j u,((List.range xs.flatten.length).map gx)[j]? =some u->w.cell? ((⟨xb,xo,none⟩:Addr).add j)=some u:=jf5 b9;have e6:((List.range xs.flatten.length).map gx).length=xs.length*i.size:=by simp[c9,e3]
  have o6:∀u∈(List.range xs.flatten.length).map gx,u.oneCell'=true:=by
   intro u c0;obtain⟨j,hj,rfl⟩:=z8.1 c0;have k5:j<xs.flatten.length:=by simpa using hj
   obtain⟨h2,_,h3⟩:=b9 j _ (zw k5);exact h3.oneCell h2
  by_cases c7:n+xs.length<=cap
  ·
   have k1:n*i.size+((List.range xs.flatten.length).map gx).length<=cur.size:=by
    rw[e6,h9,<-qD,e3];exact qj _ c7
   have c3:=run_append_room (P:=G.P) w t ty e i hu hi b n cap cur b1 ⟨xb,xo,none⟩ xs.length xc _ e6 e7 o6 c7 k1;rw[e6,e3]at c3;rw[e6,e3]at k1;generalize a1:(cur.toList.take (n*S)++(List.range xs.flatten.length).map gx++cur.toList.drop (n*S+xs.length*S)).toArray=cells at c3;have a7:∀k,k≠b->(w.setRow b cells).heap[k]? =w.heap[k]? :=fun k hk=>setRow_other w b k cells hk;have b8:(w.setRow b cells).heap[b]? =some (.cells cells e (0,0)):=jgm w b cells cur e b1;have e1:cells.size=cur.size:=by
    rw[<-a1];simp only[qP,zB,qb,ji,Array.length_toList,za,q9,c9];omega
   have e5:Shp w (w.setRow b cells):=fun k k2 T' hk=>by
    by_cases e:k=b
    ·subst e;rw[b1]at hk;cases hk;exact⟨cells,b8,e1⟩
    ·exact⟨k2,by rw[a7 k e];exact hk,rfl⟩
   have a6:Kept w (Mo M0 β st) (w.setRow b cells) (Mo M0 (B' b) (ST b)):=by
    refine⟨fun b' o u hc b3=> ?_,fun b' o7 c hc b3=> ?_,e5⟩
    ·have b4:b'≠b:=fun e'=>by subst e';exact b3 (e8 o)
     exact⟨by rw[World.cell?_of_block (w:=w) (a:=⟨b',o,none⟩) (a7 b' b4)];exact hc,fun hm=>b3 (h8 _ _ _ hm b4)⟩
    ·have b4:b'≠b:=fun e'=>by subst e';exact b3 (e8 0)
     exact⟨by rw[a7 b' b4];exact hc,fun hm=>b3 (h8 _ _ _ hm b4)⟩
   have e4:=c8 b _ a6 (h.below.set k8 rfl rfl rfl (by simp) a7 e5) e5 (by simp)
    (fun k b' b0 b4 b5=>a7 b' (fun e'=>by subst e';exact b4 (h.inj k src b' b5 (.inl (by simp[hd])) b0 hb))) ⟨k8,e0⟩ e2
    (c6 _ _ cells b b8 a6 (fun k a8=>by
     rw[<-a1];simp only[jp];rw[qe,zK (by simp;omega),qy,zh a8];have:k<cur.size:=by omega
     simp[this]) (fun k a8=>by
     rw[<-a1];simp only[jp];have hl:(List.take (n*S) cur.toList).length=n*S:=by simp;omega
     rw[qe,zP (by omega),hl,vi,zK (by simp[c9];exact a8),zq,jd (by rw[c9];exact a8)];rfl))
   exact⟨_,_,_,c3,e0,e4,cap,cells,rfl,b8,c7,l8,by rw[e1,h9]⟩
  ·
   have holds:∀j u,((List.range (es.take n).flatten.length).map fun k=>cur.getD k undef)[j]? =some u->w.cell? ((⟨b,0,none⟩:Addr).add j)=some u:=by
    intro j u c0;rw[zq]at c0;obtain⟨j',l5,rfl⟩:=qz.1 c0;have k5:j<(es.take n).flatten.length:=by have:=(zr.1 l5).1;simpa using this
    obtain rfl:j=j':=by have:=(zr.1 l5).2;rw[List.getElem_range]at this;exact this
    obtain⟨_,h3,_⟩:=hold j _ (zw k5);rw[Addr.add_lit,qi,cell_of_row w b _ cur e _ b1];exact h3
   have n1:((List.range (es.take n).flatten.length).map fun k=>cur.getD k undef).length=n*i.size:=by simp[b6,e3]
   have l2:n+xs.length<=maxLen:=by unfold maxLen;omega
   have hr:=run_append_grow (P:=G.P) w t ty e i z hu hi hz ⟨b,0,none⟩ n cap _ n1 holds ⟨xb,xo,none⟩ xs.length xc _ e6 e7 (by omega) (by omega) (growslice_fits (by omega) (by rw[o5];exact hbound));have k7:=grownCap_ge w (n+xs.length) cap e;have l7:=grownCap_le_maxLen w (n+xs.length) cap e l2;generalize a1:(((List.range (es.take n).flatten.length).map fun k=>cur.getD k undef).toArray++((List.range xs.flatten.length).map gx).toArray++Builtin.zeroCells z.cells (grownCap w (n+xs.length) cap e-(n+xs.length)))=cells at hr;have e1:cells.size=grownCap w (n+xs.length) cap e*S:=by
    rw[<-a1];simp only[jc,qP,za,q9,b6,c9,size_zeroCells,l9];rw[<-qD,<-qD];congr 1;omega
   have c4:∀k,k<w.heap.size->(w.drew.alloc (.cells cells e)).heap[k]? =w.heap[k]? :=fun k hk=>Below.heap_alloc w.drew _ k hk;have b8:(w.drew.alloc (.cells cells e)).heap[w.heap.size]? =some (.cells cells e (0,0)):=heap_alloc_new w.drew _;have a6:Kept w (Mo M0 β st) (w.drew.alloc (.cells cells e)) (Mo M0 (B' w.heap.size) (ST w.heap.size)):=by
    refine⟨fun b' o u hc b3=> ?_,fun b' o7 c hc b3=> ?_,Shp.old c4⟩
    ·have e9:b'<w.heap.size:=World.block_lt_of_cell? (a:=⟨b',o,none⟩) w hc;exact⟨by rw[World.cell?_of_block (w:=w) (a:=⟨b',o,none⟩) (c4 b' e9)];exact hc,fun hm=>b3 (h8 _ _ _ hm (by omega))⟩
    ·have e9:b'<w.heap.size:=(zm.1 hc).1;exact⟨by rw[c4 b' e9];exact hc,fun hm=>b3 (h8 _ _ _ hm (by omega))⟩
   have b7:∀k b,((look st.rows k).isSome\/(look st.toks k).isSome)->β k=some b->b<w.heap.size:=fun k b h5 b0=>by
    rcases h5 with h5 | h5
    ·obtain⟨⟨s',es'⟩,hl⟩:=zD.1 h5;exact h.mlt (o:=0) (.inr (.inl ⟨k,s',es',hl,b0⟩))
    ·obtain⟨⟨s',n'⟩,hl⟩:=zD.1 h5;exact(h.toks k s' n' hl b b0).2
   have e4:=c8 w.heap.size (w.drew.alloc (.cells cells e)) a6 ((h.below.drew).alloc _) (Shp.old c4) (by simp)
    (fun k b' b0 _ b5=>c4 b' (b7 k b' b5 b0)) ⟨fun hp=>absurd (qw (w0.lt _ hp) h.below.size) (q8 _),fun k _ b5 b0=>absurd (b7 k _ b5 b0) (q8 _)⟩ e2
    (c6 _ _ cells w.heap.size b8 a6 (fun k a8=>by
     rw[<-a1,ym (by simp[b6];omega),ym (by simp[b6];omega)];simp[b6,a8]) (fun k a8=>by
     rw[<-a1,ym (by simp[b6,c9];omega),Array.getElem?_append_right (by simp[b6])];simp[b6,c9,a8]))
   exact⟨_,_,_,hr,fun k _ b5 b0=>absurd (b7 k _ b5 b0) (q8 _),e4,_,cells,rfl,b8,k7,l7,e1⟩
theorem appendH_run(hG:G.Ok)(h:Sim N w0 M0 β st a w){t e ty:TypeId}{sv xv:Value}{es xs:List (List IV)}{b n:Nat}
  (h0:(G.ti t).size≠0) (hk:(G.ti t).kind= .sl e) (h1:(G.ti e).size≠0) (a7:(G.ti e).bytes≠0) (a6:∀c∈xs,c.length=(G.ti e).size)
  (hd:look st.rows (hp b)=some ((G.ti e).size,es)) (hn:n<=es.length) (hbound:(n+xs.length)*(G.ti e).bytes<=140737488355328)
  (hs:Rep w (Mo M0 β st) (.ref b e (G.ti e).size n) sv) (hx:Rep w (Mo M0 β st) (.sl xs) xv):
  ∃v' w' X,(Builtin.append_ #[t,t] ty #[sv,xv]).run G.P w= .ok v' w'/\look (del st.rows (hp b)) (hp X)=none/\Sim N w0 M0 β (jdw st (hp b) X (G.ti e).size (es.take n++xs)) a w'/\
   Rep w' (Mo M0 β (jdw st (hp b) X (G.ti e).size (es.take n++xs))) (.ref X e (G.ti e).size (n+xs.length)) v':=by
 have a1:RepA w (Mo M0 β st) β st.toks (.gsl (hp b) e (G.ti e).size n) sv:=by
  cases hs with
  | ref _ _ _ _ cap cur g1 g2 g3 g4=>exact⟨b,cap,cur,h.perm b,rfl,g1,g2,g3,g4⟩
 obtain⟨v',w',X,h2,hf,h3,cap,cur,rfl,h4,h5,h6,h7⟩:=appendX_run (ty:=ty) hG h (fun X=>jdw st (hp b) X (G.ti e).size (es.take n++xs)) (fun X=>β) (fun X b o=>Mo_growStH h.perm)
  (fun X w' g1 g2 g3 g4 g5 g6 g7 g8=>h.growH g1 g2 g3 g4 g5 g6 g7 g8) h0 hk h1 a7 a6 hd hn hbound a1 hx
 refine⟨_,w',X,h2,?_,h3,.ref X e _ _ cap cur h4 h5 h6 h7⟩;by_cases e':hp X=hp b
 ·rw[e',jab]
 ·rw[ja9 _ e'];cases hl:look st.rows (hp X)with
  | none=>rfl
  | some x=>exact absurd (h.perm X) (hf (hp X) e' (.inl (by simp[hl])))
end
end
section
open Go.RowKit (Below)
abbrev Rows:=List (Nat×Nat×List (List IV))
def AV.toArg:AV->AV
 | .sx es=> .im (.sl es)
 | .vec _ _ _ es=> .im (.sl es)
 | .mpo _ _ _=> .und
 | x=>x
end
section
open Go.RowKit (Below)
def AV.setM(d:Nat)(sc:Nat×Bool)(kvs:List (List Int×List Int)):AV->AV
 | .mpo d' sc' kvs'=>if d'=d then .mpo d sc kvs else .mpo d' sc' kvs'
 | .vec d' e s es=> .vec d' e s es
 | .osl d' s i n=> .osl d' s i n
 | .gsl d' e s n=> .gsl d' e s n
 | .loc d' s i j=> .loc d' s i j
 | .im x=> .im x
 | .und=> .und
 | .sx es=> .sx es
def jf7(d:Nat)(sc:Nat×Bool)(kvs:List (List Int×List Int)):List (Nat×AV)->List (Nat×AV)
 | []=>[]
 | (k,v)::r=>(k,v.setM d sc kvs)::jf7 d sc kvs r
theorem jfa(d:Nat)(sc:Nat×Bool)(kvs:List (List Int×List Int))(k:Nat)(l:List (Nat×AV)):look (jf7 d sc kvs l) k=(look l k).map (AV.setM d sc kvs):=by
 induction l with
 | nil=>rfl
 | cons p l ih=>
  obtain⟨j,v⟩:=p;by_cases hk:k=j
  ·subst hk;simp[jf7,look]
  ·simp[jf7,look,hk,ih]
section
variable{G:Ctx}{N:Nat}{w0:Base}{w w':World}{M M' M0:Nat->Nat->Prop}{β β':Nat->Option Nat}{st:St}{a:Act}{toks toks':List (Nat×Nat×Nat)}{av:AV}{v:Value}
theorem Born.push{es:Array MapEntry}{c:Nat}(h:Born es c)(e:MapEntry)(he:e.born=c):Born (es.push e) (c+1):=by
 obtain⟨h1,h2⟩:=h;refine⟨?_,fun x hx=> ?_⟩
 ·rw[ve,qv];refine js.2 ⟨h1,by simp,fun x hx y hy=> ?_⟩;rw[zt,zF,zE]at hy;subst hy;obtain⟨z,hz,rfl⟩:=z8.1 hx;have:=h2 z hz;omega
 ·rw[ve]at hx;rcases qk.1 hx with hx | hx
  ·have:=h2 x hx;omega
  ·rw[zE]at hx;subst hx;omega
theorem Born.modify{es:Array MapEntry}{c:Nat}(h:Born es c)(i:Nat)(f:MapEntry->MapEntry)(hf:∀e,(f e).born=e.born):Born (es.modify i f) c:=by
 have e:(es.modify i f).toList.map (·.born)=es.toList.map (·.born):=by
  refine ju fun j=> ?_;rw[zq,zq,zR,zR,y8];by_cases a1:i=j
  ·subst a1;rw[zh rfl,Option.map_map];congr 1;exact funext fun e=>hf e
  ·rw[zl a1]
 refine⟨by rw[e];exact h.1,fun x hx=> ?_⟩;have hm:x.born∈(es.modify i f).toList.map (·.born):=z8.2 ⟨x,hx,rfl⟩;rw[e]at hm;obtain⟨y,hy,a6⟩:=z8.1 hm;rw[<-a6];exact h.2 y hy
theorem Sim.setMap(h:Sim N w0 M0 β st a w){d b:Nat}{sc:Nat×Bool}{kvs:List (List Int×List Int)}{es es':Array MapEntry}{c c':Nat}(ht:look st.toks d=some (0,0))(hb:β d=some b)
  (hm:w.heap[b]? =some (.map es c)) (he:Ents sc kvs es') (hn:Born es' c'):
  Sim N w0 M0 β {st with fr:=jf7 d sc kvs st.fr} a {w with heap:=w.heap.setIfInBounds b (.map es' c')}:=by
 have b5:b<w.heap.size:=(zm.1 hm).1;have a1:∀k,k≠b->({w with heap:=w.heap.setIfInBounds b (.map es' c')}:World).heap[k]? =w.heap[k]? :=fun k hk=>by
  simp[ql (zH hk)]
 have b3:({w with heap:=w.heap.setIfInBounds b (.map es' c')}:World).heap[b]? =some (.map es' c'):=by simp[b5]
 have a7:∀(b':Nat) (cur:Array Value) (T:TypeId),w.heap[b']? =some (.cells cur T (0,0))->b'≠b:=fun b' cur T h1 e=>by
  subst e;rw[hm]at h1;cases h1
 have a8:Shp w {w with heap:=w.heap.setIfInBounds b (.map es' c')}:=fun k cur T hk=>⟨cur,by rw[a1 k (a7 k cur T hk)];exact hk,rfl⟩;have b0:∀o,Mo M0 β st b o:=fun o=> .inr (.inr ⟨d,0,0,ht,hb,by simp⟩);have hk:Kept w (Mo M0 β st) {w with heap:=w.heap.setIfInBounds b (.map es' c')} (Mo M0 β {st with fr:=jf7 d sc kvs st.fr}):=
  ⟨fun b' o u hc hn=>by
   have e:b'≠b:=fun e=>by subst e;exact hn (b0 o)
   exact⟨by rw[World.cell?_of_block (w:=w) (a:=⟨b',o,none⟩) (a1 b' e)];exact hc,hn⟩,
   fun b' b2 c2 hc hn=>by
   have e:b'≠b:=fun e=>by subst e;exact hn (b0 0)
   exact⟨by rw[a1 b' e];exact hc,hn⟩,a8⟩
 refine⟨h.size,h.defers,h.below.set (h.toks d 0 0 ht b hb).1 rfl rfl rfl (by simp) a1 a8,h.m0,fun t=> ?_,fun k s b2 b1=> ?_,fun k s n b1 b' b6=> ?_,h.inj,h.excl,h.nam,h.np,h.perm⟩
 ·have hg:({st with fr:=jf7 d sc kvs st.fr}:St).get t=(st.get t).setM d sc kvs:=by
   simp only[St.get];rw[jfa];cases look st.fr t<;>rfl
  rw[hg];have a6:=h.fr t;generalize st.get t=av at a6;generalize a.tmps.getD t undef=v at a6;cases av with
  | im x=>exact Rep.kept (w:=w) a6 hk
  | und=>trivial
  | sx es=>exact⟨Rep.kept a6.1 hk,a6.2⟩
  | vec d' e s b2=>
   refine⟨Rep.kept a6.1 hk,a6.2.1,fun hl=> ?_⟩;rcases a6.2.2 hl with hc | ⟨b',cap,cur,h1,h2,h3,h4⟩
   ·exact .inl hc
   ·exact .inr ⟨b',cap,cur,h1,h2,by rw[a1 b' (a7 b' cur e h3)];exact h3,h4⟩
  | osl d' s i n=>exact a6
  | gsl d' e s n=>
   obtain⟨b',cap,cur,h1,h2,h3,h4⟩:=a6;exact⟨b',cap,cur,h1,h2,by rw[a1 b' (a7 b' cur e h3)];exact h3,h4⟩
  | loc d' s i j=>exact a6
  | mpo d' sc' kvs'=>
   obtain⟨b',h1,rfl,h3⟩:=a6;simp only[AV.setM];split
   ·rename_i e;subst e;rw[hb]at h1;cases h1;exact⟨b,hb,rfl,fun _=>⟨es',c',b3,he,hn⟩⟩
   ·rename_i e;refine⟨b',h1,rfl,fun hl=> ?_⟩;have b4:b'≠b:=fun e'=>by
     subst e';exact e (h.inj d' d b' (.inr (by rw[hl];rfl)) (.inr (by rw[ht];rfl)) h1 hb)
    rw[a1 b' b4];exact h3 hl
 ·obtain⟨b',h1,h2,h3⟩:=h.rows k s b2 b1;refine⟨b',h1,h2,h3.move hk (a1 b' ?_)⟩;obtain⟨cur,T,h4,_⟩:=h3;exact a7 b' cur T h4
 ·obtain⟨h1,h2⟩:=h.toks k s n b1 b' b6;exact⟨h1,by simpa using h2⟩
theorem valI_rep{x:AV}{v:Value}{b:Bool}{vs:List Int}(hi:valI x=some (b,vs))(h:RepA w M β toks x v):v=elemV b vs:=by
 unfold valI at hi;split at hi
 ·cases hi;exact Rep.sc_inv h
 ·split at hi
  ·rename_i ns a1;cases hi;obtain⟨us,e,hu,_⟩:=Rep.agg_inv h;rw[e];have:=jqn a1 hu;show _=keyV _;unfold keyV;rw[<-this]
  ·cases hi
 ·cases hi
theorem mfind_some:∀{l:List (List Int×List Int)} {x v u:List Int} {j i:Nat},mfind l x j=some (i,v)->∃k,i=j+k/\l[k]? =some (x,v)/\mput l x u=l.set k (x,u)
 | [],x,v,u,j,i,h=>by cases h
 | (k,y)::r,x,v,u,j,i,h=>by
  simp only[mfind]at h;split at h
  ·rename_i e;cases h;subst e;exact⟨0,rfl,rfl,by simp[mput]⟩
  ·rename_i e;obtain⟨k',h1,h2,h3⟩:=mfind_some (u:=u) h;exact⟨k'+1,by omega,by simpa using h2,by simp[mput,e,h3]⟩
theorem jhv:∀{l:List (List Int×List Int)} {x u:List Int} {j:Nat},mfind l x j=none->mput l x u=l++[(x,u)]
 | [],x,u,j,h=>rfl
 | (k,y)::r,x,u,j,h=>by
  simp only[mfind]at h;split at h
  ·cases h
  ·rename_i e;simp[mput,e,jhv (u:=u) h]
theorem mapUpdate_run(hG:G.Ok){t kt e:TypeId}{n b c:Nat}{sc:Nat×Bool}{kvs:List (List Int×List Int)}{es:Array MapEntry}{ks vs:List Int}(hu:G.P.underlying t=some (.map kt e))(hk:keyN G kt=some n)(a7:ks.length=n)
  (b3:sc.1=n) (hb:w.heap[b]? =some (.map es c)) (he:Ents sc kvs es) (b1:Born es c):
  ∃es' c',(Instr.mapUpdate t (.map (some b)) (keyV ks) (elemV sc.2 vs)).run G.P w= .ok () {w with heap:=w.heap.setIfInBounds b (.map es' c')}/\Ents sc (mput kvs ks vs) es'/\Born es' c':=by
 have hg:(getObj b).run G.P w= .ok (.map es c) w:=by simp[getObj,Sem.run,hb]
 have hs:∀o,(setObj b o).run G.P w= .ok () {w with heap:=w.heap.setIfInBounds b o}:=fun o=>by simp[setObj,Sem.run,hb]
 have hf:=run_findKey_rows (w:=w) hG hk a7 (sc:=sc) (kvs:=kvs) (es:=es) (fun _=>b3) he;have b6:=run_key_check hG hk a7 false w;have hlen:es.toList.length=kvs.length:=by have:=zS List.length he.2;simpa using this
 have b2:∀(i:Nat),(es.toList[i]?).map (fun e=>(e.key,e.val))=(kvs[i]?).map (fun p=>(keyV p.1,elemV sc.2 p.2)):=fun i=>by
  rw[<-zq,<-zq,he.2]
 unfold Instr.mapUpdate;rw[Sem.run_bind,run_underlying hu,Result.andThen_ok];simp only[Sem.run_bind,hg,Result.andThen_ok,b6,hf];cases a6:mfind kvs ks 0 with
 | none=>
  refine⟨es.push {key:=keyV ks,val:=elemV sc.2 vs,born:=c},c+1,?_,⟨?_,?_⟩,b1.push _ rfl⟩
  ·simp only[Option.map_none,hs]
  ·rw[jhv a6];intro p hp;rcases qk.1 hp with hp | hp
   ·exact he.1 p hp
   ·rw[zE]at hp;subst hp;show ks.length=_;omega
  ·rw[jhv a6,ve,qv,qv,he.2];rfl
 | some p=>
  obtain⟨i,v⟩:=p;obtain⟨k,h1,h2,h3⟩:=mfind_some (u:=vs) a6;rw[qi]at h1;subst h1;have a8:((es[i]?).map (·.key)).getD (keyV ks)=keyV ks:=by
   have:=b2 i;rw[h2]at this;simp only[zR,Option.map_some]at this;cases b5:es[i]? with
   | none=>rfl
   | some e0=>
    rw[b5]at this;simp only[Option.map_some,qa,q7]at this;simp[this.1]
  refine⟨es.modify i fun e=>{e with key:=keyV ks,val:=elemV sc.2 vs},c,?_,⟨?_,?_⟩,b1.modify i _ fun _=>rfl⟩
  ·simp only[Option.map_some,Sem.run_bind,a8,Instr.keyThatStays,jk6,qA,Sem.run_pure,Result.andThen_ok,hs]
  ·rw[h3];intro p hp;rcases yy hp with hp | hp
   ·exact he.1 p hp
   ·subst hp;show ks.length=_;omega
  ·rw[h3];apply ju;intro j;have hj:=b2 j;rw[zq,zq,zR,y8,jt];rw[zR]at hj;by_cases b0:i=j
   ·subst b0;have a1:i<kvs.length:=(zr.1 h2).1;have b4:i<es.size:=by rw[<-hlen,Array.length_toList]at a1;exact a1
    simp[a1,b4]
   ·simp only[zl b0];exact hj
theorem Sim.newMap(h:Sim N w0 M0 β st a w){d:Nat}{sc:Nat×Bool}(hd:d<N):
  Sim N w0 M0 (upd β d (some w.heap.size)) ((tokSt st d d 0 0).put (some d) (.mpo d sc [])) (a.put (some d) (.map (some w.heap.size))) (w.alloc (.map #[] 0)):=by
 have hold:∀b,b<w.heap.size->(w.alloc (.map #[] 0)).heap[b]? =w.heap[b]? :=fun b hb=>heap_alloc_old w _ hb;have a6:∀k b,((look st.rows k).isSome\/(look st.toks k).isSome)->β k=some b->b<w.heap.size:=fun k b hk hb=>by
  rcases hk with hk | hk
  ·obtain⟨⟨s,es⟩,hl⟩:=zD.1 hk;obtain⟨b',b0,_,cur,T',h1,_⟩:=h.rows k s es hl;rw[hb]at b0;cases b0;exact(zm.1 h1).1
  ·obtain⟨⟨s,n⟩,hl⟩:=zD.1 hk;exact(h.toks k s n hl b hb).2
 have a8:∀b o,b<w.heap.size->¬Mo M0 β st b o->¬Mo M0 (upd β d (some w.heap.size)) (tokSt st d d 0 0) b o:=by
  intro b o hb hn hm;rcases hm with hm | ⟨k,s',es',hk,a1⟩ | ⟨k,s',n,hk,a1,ho⟩
  ·exact hn (.inl hm)
  ·have a7:k≠d:=fun e=>by subst e;simp[tokSt,jab]at hk
   rw[jav _ _ a7]at a1;simp only[tokSt,ja9 _ a7]at hk;exact hn (.inr (.inl ⟨k,s',es',hk,a1⟩))
  ·by_cases a7:k=d
   ·subst a7;rw[jau]at a1;cases a1;exact q8 _ hb
   ·rw[jav _ _ a7]at a1;exact hn (.inr (.inr ⟨k,s',n,(jce a7 hk).2,a1,ho⟩))
 have h1:=h.newTok (w':=w.alloc (.map #[] 0)) (src:=d) (dst:=d) (s:=0) (n:=0) (X:=some w.heap.size)
  ⟨fun b o u hc hn=>by
   have hb:b<w.heap.size:=World.block_lt_of_cell? (a:=⟨b,o,none⟩) w hc;exact⟨by rw[World.cell?_alloc_lt w _ _ hb];exact hc,a8 b o hb hn⟩,
   fun b es c hc hn=>by
   have hb:=(zm.1 hc).1;exact⟨by rw[hold b hb];exact hc,a8 b 0 hb hn⟩,Shp.old hold⟩
  (h.below.alloc _) (Shp.old hold) (by simp) (fun k b a1 hk=>hold b (a6 k b (hk.imp id And.left) a1))
  (fun b hb=>by
   cases hb;exact⟨fun hp=>absurd (qw (w0.lt _ hp) h.below.size) (q8 _),by simp,fun k _ _ hk a1=>absurd (a6 k _ hk a1) (q8 _)⟩) (.inl rfl) (qw hd h.np)
 exact h1.put (dst:=some d) (fun d' e=>by cases e;exact hd) ⟨w.heap.size,jau _ _ _,rfl,fun _=>⟨#[],0,heap_alloc_new w _,⟨by simp,rfl⟩,by simp,by simp⟩⟩
def jks(G:Ctx)(K:St->Prop)(st:St)(dst:Option Nat)(t:TypeId):Prop:=
 match dst,(G.ti t).kind with
 | some d,.mp kt e=>match keyN G kt with
  | some n=>(G.ti t).size≠0/\K ((tokSt st d d 0 0).put (some d) (.mpo d (n,intK G e) []))
  | none=>False
 | _,_=>False
def jr0(G:Ctx)(K:St->Prop)(st:St)(dst:Option Nat)(t:TypeId)(m k x:AV):Prop:=
 match m,keyI k,valI x with
 | .mpo d sc kvs,some ks,some (b,vs)=>match(G.ti t).kind with
  | .mp kt e=>(G.ti t).size≠0/\look st.toks d=some (0,0)/\keyN G kt=some (nlen ks)/\sc=(nlen ks,b)/\K (St.put {st with fr:=jf7 d sc (mput kvs ks vs) st.fr} dst (.im (.sc undef)))
  | _=>False
 | _,_,_=>False
