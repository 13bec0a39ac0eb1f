/- A part of the proof. No further condition. -/
import Derived.Test.YtgnflpkmpoghbaaKU2
set_option linter.all false
set_option maxRecDepth 10000000
set_option maxHeartbeats 16000000
namespace Go.Abs
section
open Go.RowKit (Below)
section
variable{G:Ctx}{N:Nat}{w0:Base}{w w':World}{M M' M0:Nat->Nat->Prop}{β β':Nat->Option Nat}{st:St}{a:Act}{toks toks':List (Nat×Nat×Nat)}{av:AV}{v:Value}
def jfs(w:World)(M:Nat->Nat->Prop)(ad:Addr)(l:List IV)(g:Nat->Value):Prop:=
 ∀(k:Nat) x,l[k]? =some x->x.one=true/\w.cell? (ad.add k)=some (g k)/\Rep w M x (g k)
theorem jbe{α:Type}{s:Nat}:∀{es:List (List α)},(∀e∈es,e.length=s)->es.flatten.length=es.length*s
 | [],_=>by simp
 | e::es,h=>by
  have h0:e.length=s:=h e (by simp);simp only[List.flatten_cons,List.length_append,List.length_cons,Nat.add_mul,Nat.one_mul];rw[jbe (fun x hx=>h x (by simp[hx])),h0];omega
theorem jc2{α:Type}{s:Nat}(hs:s≠0):∀{es:List (List α)} {k:Nat} {x:α},(∀e∈es,e.length=s)->es.flatten[k]? =some x->∃e,es[k/s]? =some e/\e[k % s]? =some x
 | [],k,x,_,h=>by simp at h
 | e::es,k,x,hl,h=>by
  have h0:e.length=s:=hl e (by simp);simp only[List.flatten_cons]at h;by_cases hk:k<s
  ·rw[List.getElem?_append_left (by omega)]at h;exact⟨e,by rw[Nat.div_eq_of_lt hk];rfl,by rw[Nat.mod_eq_of_lt hk];exact h⟩
  ·rw[List.getElem?_append_right (by omega),h0]at h;obtain⟨e',h1,h2⟩:=jc2 hs (fun x hx=>hl x (by simp[hx])) h;have e1:k/s=(k-s)/s+1:=by rw[<-Nat.add_div_right (k-s) (by omega)];congr 1;omega
   have e2:k % s=(k-s) % s:=by rw[Nat.mod_eq_sub_mod (by omega)]
   exact⟨e',by rw[e1];simpa using h1,by rw[e2];exact h2⟩
theorem jex{es:List (List IV)}{s:Nat}(hs:s≠0)(h:Rep w M (.sl es) v)(hl:∀e∈es,e.length=s):
  ∃ad c g,v= .slice ad es.length c/\es.length<=c/\(es≠[]->∃b o,ad=some ⟨b,o,none⟩/\jfs w M ⟨b,o,none⟩ es.flatten g):=by
 rcases h.sl_inv with ⟨rfl,ad,c,rfl⟩ | ⟨s',b,o,c,u,hne,hs',hc,h4,h5,rfl⟩
 ·exact⟨ad,c,fun _=>undef,rfl,Nat.zero_le _,fun h=>absurd rfl h⟩
 ·have hss:s=s':=by
   cases es with
   | nil=>exact absurd rfl hne
   | cons e es=>rw[<-hl e (by simp),hs' e (by simp)]
  subst hss;refine⟨_,c,fun k=>u (k/s) (k % s),rfl,hc,fun _=>⟨b,o,rfl,fun k x hx=> ?_⟩⟩;obtain⟨e,h1,h2⟩:=jc2 hs hl hx;obtain⟨h6,h7,_⟩:=h4 _ e _ x h1 h2;refine⟨h6,?_,h5 _ e _ x h1 h2⟩;rw[Addr.add_lit];have:o+k=o+k/s*s+k % s:=by have:=Nat.div_add_mod k s;rw[Nat.mul_comm]at this;omega
  rw[this];exact h7
theorem mk_sl{es:List (List IV)}{s b o c:Nat}{g:Nat->Value}(hne:es≠[])(hl:∀e∈es,e.length=s)(hc:es.length<=c)
  (h:∀(k:Nat) x,es.flatten[k]? =some x->x.one=true/\w.cell? ⟨b,o+k,none⟩=some (g k)/\¬M b (o+k)/\Rep w M x (g k)):
  Rep w M (.sl es) (.slice (some ⟨b,o,none⟩) es.length c):=
 .sl es s b o c (fun i j=>g (i*s+j)) hne hl hc
  (fun i e j x hi hj=>by
   obtain⟨h1,h2,h3,_⟩:=h _ x (jbn hl hi hj);rw[<-Nat.add_assoc]at h2 h3;exact⟨h1,h2,h3⟩)
  (fun i e j x hi hj=>(h _ x (jbn hl hi hj)).2.2.2)
def tokSt(st:St)(src dst s n:Nat):St:=⟨st.fr.map fun p=>(p.1,p.2.purge dst),del st.rows dst,(dst,s,n)::del (del st.toks src) dst⟩
theorem jgw(st:St)(src dst s n t:Nat):(tokSt st src dst s n).get t=(st.get t).purge dst:=by
 simp only[St.get,tokSt];rw[je9];cases look st.fr t<;>rfl
theorem jb1{src dst s n k:Nat}{x:Nat×Nat}(hk:k≠dst)(h:look (tokSt st src dst s n).toks k=some x):k≠src/\look st.toks k=some x:=by
 simp only[tokSt,look,hk,if_false,ja6 _ hk]at h;by_cases e:k=src
 ·subst e;rw[ja2]at h;cases h
 ·exact⟨e,by rwa [ja6 _ e]at h⟩
theorem Sim.newTok(h:Sim N w0 M0 β st a w){src dst s n:Nat}{X:Option Nat}
  (hk:Kept w (Mo M0 β st) w' (Mo M0 (upd β dst X) (tokSt st src dst s n))) (hbelow:w0.Fr w') (hshp:Shp w w') (hsize:w.heap.size<=w'.heap.size)
  (hheap:∀k b,β k=some b->((look st.rows k).isSome\/((look st.toks k).isSome/\k≠src))->w'.heap[b]? =w.heap[b]?)
  (hX:∀b,X=some b->¬w0.P b/\b<w'.heap.size/\∀k,k≠src->k≠dst->((look st.rows k).isSome\/(look st.toks k).isSome)->β k≠some b):
  (src=dst\/(look st.rows src)=none)->dst<100000->Sim N w0 M0 (upd β dst X) (tokSt st src dst s n) a w':=fun hsrc hdN=>by
 have hrow:∀k x,look (tokSt st src dst s n).rows k=some x->k≠dst/\look st.rows k=some x:=fun k x hk=>by
  by_cases e:k=dst
  ·subst e;simp[tokSt,ja2]at hk
  ·exact⟨e,by simpa [tokSt,ja6 _ e]using hk⟩
 refine⟨h.size,h.defers,hbelow,h.m0,fun t=> ?_,fun k s' es hk'=> ?_,fun k s' n' hk' b hb=> ?_,fun k k' b h1 h2 hb hb'=> ?_,fun k hk'=> ?_,fun k hN hN' hk'=> ?_,h.np,je7 h.perm (.inl hdN)⟩
 case refine_6=>
  obtain⟨x,hx⟩:=Option.isSome_iff_exists.1 hk';obtain⟨hne,hk2⟩:=hrow k x hx;rw[ja9 _ _ hne];exact h.nam k hN hN' (by simp[hk2])
 ·rw[jgw];refine((h.fr t).purge dst).move hk (fun k hr=>ja9 _ _ (jbl hr).2) (fun k s' n' hr hl=>(jb1 (jbl hr).2 hl).2) (fun k b hl hr hb=> ?_) hshp;obtain⟨⟨s',n'⟩,hl'⟩:=Option.isSome_iff_exists.1 hl;obtain⟨h1,h2⟩:=jb1 (jbl hr).2 hl';exact hheap k b hb (.inr ⟨by simp[h2],h1⟩)
 ·obtain⟨hne,hk2⟩:=hrow k _ hk';obtain⟨b,h1,h2,h3⟩:=h.rows k s' es hk2;exact⟨b,by rw[ja9 _ _ hne];exact h1,h2,h3.move hk (hheap k b h1 (.inl (by simp[hk2])))⟩
 ·by_cases e:k=dst
  ·subst e;rw[jaa]at hb;exact⟨(hX b hb).1,(hX b hb).2.1⟩
  ·rw[ja9 _ _ e]at hb;obtain⟨h1,h2⟩:=h.toks k s' n' (jb1 e hk').2 b hb;exact⟨h1,by omega⟩
 ·have dom:∀k,((look (tokSt st src dst s n).rows k).isSome\/(look (tokSt st src dst s n).toks k).isSome)->k≠dst->((look st.rows k).isSome\/(look st.toks k).isSome)/\(k≠src\/(look st.rows k).isSome):=fun k hk hne=>by
   rcases hk with hk | hk
   ·obtain⟨x,hx⟩:=Option.isSome_iff_exists.1 hk;have:=(hrow k x hx).2;exact⟨.inl (by simp[this]),.inr (by simp[this])⟩
   ·obtain⟨x,hx⟩:=Option.isSome_iff_exists.1 hk;have:=jb1 hne hx;exact⟨.inr (by simp[this.2]),.inl this.1⟩
  have ns:∀k,k≠dst->(k≠src\/(look st.rows k).isSome)->k≠src:=fun k hne hk e=>by
   subst e;rcases hsrc with e | e
   ·exact hne e
   ·simp[e]at hk
  by_cases e:k=dst<;>by_cases e':k'=dst
  ·omega
  ·subst e;rw[jaa]at hb;rw[ja9 _ _ e']at hb';obtain⟨d1,d2⟩:=dom k' h2 e';exact absurd hb' ((hX b hb).2.2 k' (ns k' e' d2) e' d1)
  ·subst e';rw[jaa]at hb';rw[ja9 _ _ e]at hb;obtain⟨d1,d2⟩:=dom k h1 e;exact absurd hb ((hX b hb').2.2 k (ns k e d2) e d1)
  ·rw[ja9 _ _ e]at hb;rw[ja9 _ _ e']at hb';exact h.inj k k' b (dom k h1 e).1 (dom k' h2 e').1 hb hb'
 ·obtain⟨x,hx⟩:=Option.isSome_iff_exists.1 hk';obtain⟨hne,hk2⟩:=hrow k x hx;have:=h.excl k (by simp[hk2]);simp only[tokSt,look,hne,if_false,ja6 _ hne];by_cases e:k=src
  ·subst e;exact ja2 _ _
  ·rw[ja6 _ e];exact this
def Spare(w:World)(β:Nat->Option Nat)(st:St)(e:TypeId)(src s n:Nat)(v:Value):Prop:=
 (∃ad,v= .slice ad n n)\/
 (look st.toks src=some (s,n)/\∃b cap cur,β src=some b/\v= .slice (some ⟨b,0,none⟩) n cap/\w.heap[b]? =some (.cells cur e (0,0))/\n<=cap/\cap<=maxLen/\cur.size=cap*s)
theorem jcq{ad:Addr}{l:List IV}{g:Nat->Value}(h:jfs w M ad l g):∀j u,((List.range l.length).map g)[j]? =some u->w.cell? (ad.add j)=some u:=by
 intro j u hu;rw[List.getElem?_map]at hu;obtain⟨j',hj',rfl⟩:=Option.map_eq_some_iff.1 hu;have hjl:j<l.length:=by have:=(List.getElem?_eq_some_iff.1 hj').1;simpa using this
 obtain rfl:j=j':=by simpa [hjl]using hj'
 exact(h j _ (List.getElem?_eq_getElem hjl)).2.1
theorem append_run(hG:G.Ok)(h:Sim N w0 M0 β st a w){t e ty:TypeId}{sv xv:Value}{es xs:List (List IV)}{src dst:Nat}
  (h0:(G.ti t).size≠0) (hk:(G.ti t).kind= .sl e) (h1:(G.ti e).size≠0) (hby:(G.ti e).bytes≠0) (hle:∀c∈es,c.length=(G.ti e).size) (hlx:∀c∈xs,c.length=(G.ti e).size)
  (hbound:(es.length+xs.length)*(G.ti e).bytes<=140737488355328)
  (hs:Rep w (Mo M0 β st) (.sl es) sv) (hsp:Spare w β st e src (G.ti e).size es.length sv) (hsrc:src=dst\/look st.rows src=none) (hdN:dst<100000)
  (hx:∃ad c g,xv= .slice ad xs.length c/\(xs≠[]->∃b o,ad=some ⟨b,o,none⟩/\jfs w (Mo M0 β st) ⟨b,o,none⟩ xs.flatten g)):
  ∃v' w' β',(Builtin.append_ #[t,t] ty #[sv,xv]).run G.P w= .ok v' w'/\Sim N w0 M0 β' (tokSt st src dst (G.ti e).size (es.length+xs.length)) a w'/\
   RepA w' (Mo M0 β' (tokSt st src dst (G.ti e).size (es.length+xs.length))) β' (tokSt st src dst (G.ti e).size (es.length+xs.length)).toks (.vec dst e (G.ti e).size (es++xs)) v':=by
 have hu:=hG.sl h0 hk;obtain⟨i,z,hi,hsz,hbt,hz,_,hzs⟩:=hG.info h1;obtain⟨xad,xc,gx,rfl,hxc⟩:=hx;obtain⟨sad,sc,gs,rfl,hsc,hsc'⟩:=jex h1 hs hle;have hle2:∀c∈es++xs,c.length=(G.ti e).size:=fun c hc=>(List.mem_append.1 hc).elim (hle c) (hlx c);have hlen:(es++xs).length=es.length+xs.length:=List.length_append;generalize hS:(G.ti e).size=S at*;have hfe:es.flatten.length=es.length*S:=jbe hle;have hfx:xs.flatten.length=xs.length*S:=jbe hlx;have hmax:es.length+xs.length<=140737488355328:=Nat.le_trans (Nat.le_mul_of_pos_right _ (Nat.pos_of_ne_zero hby)) hbound;have hXlt:∀b,β src=some b->look st.toks src=some (S,es.length)->∀k,k≠src->k≠dst->((look st.rows k).isSome\/(look st.toks k).isSome)->β k≠some b:=
  fun b hb ht k hne _ hd hkb=>hne (h.inj k src b hd (.inr (by simp[ht])) hkb hb)
 by_cases hx0:xs=[]
 ·
  subst hx0;simp only[List.append_nil,List.length_nil,Nat.add_zero]at*;have hrun:(Builtin.append_ #[t,t] ty #[.slice sad es.length sc,.slice xad 0 xc]).run G.P w= .ok (.slice sad es.length sc) w:=by
   cases xad<;>cases sad<;>simp[Builtin.append_,run_underlying hu,sizeOf,typeInfo,hi,Builtin.lenOf,Builtin.firstCells,loadCells,loadCellsFrom,storeCells,hsc]
  let X:Option Nat:=if look st.toks src=some (S,es.length)then β src else none
  have hMo:∀b o,Mo M0 (upd β dst X) (tokSt st src dst S es.length) b o->Mo M0 β st b o:=by
   rintro b o (hm | ⟨k,s',es',hk',hkb⟩ | ⟨k,s',n',hk',hkb,ho⟩)
   ·exact .inl hm
   ·by_cases e':k=dst
    ·subst e';simp[tokSt,ja2]at hk'
    ·rw[ja9 _ _ e']at hkb;exact .inr (.inl ⟨k,s',es',by simpa [tokSt,ja6 _ e']using hk',hkb⟩)
   ·by_cases e':k=dst
    ·subst e';rw[jaa]at hkb;simp only[tokSt,look,if_true,Option.some.injEq,Prod.mk.injEq]at hk';obtain⟨rfl,rfl⟩:=hk';by_cases ht:look st.toks src=some (S,es.length)
     ·have:X=β src:=if_pos ht;rw[this]at hkb;exact .inr (.inr ⟨src,S,es.length,ht,hkb,ho⟩)
     ·have:X=none:=if_neg ht;rw[this]at hkb;cases hkb
    ·rw[ja9 _ _ e']at hkb;exact .inr (.inr ⟨k,s',n',(jb1 e' hk').2,hkb,ho⟩)
  have hkept:Kept w (Mo M0 β st) w (Mo M0 (upd β dst X) (tokSt st src dst S es.length)):=Kept.less w hMo;refine⟨_,w,upd β dst X,hrun,h.newTok hkept h.below (Shp.refl _) (Nat.le_refl _) (fun _ _ _ _=>rfl) (fun b hb=> ?_) hsrc hdN,hs.kept hkept,hle,fun _=> ?_⟩
  ·by_cases ht:look st.toks src=some (S,es.length)
   ·have:X=β src:=if_pos ht;rw[this]at hb;obtain⟨h2,h3⟩:=h.toks src _ _ ht b hb;exact⟨h2,h3,hXlt b hb ht⟩
   ·have:X=none:=if_neg ht;rw[this]at hb;cases hb
  ·rcases hsp with ⟨ad,hsp⟩ | ⟨ht,b,cap,cur,hb,hsp,hh,hcap⟩
   ·exact .inl ⟨ad,hsp⟩
   ·refine .inr ⟨b,cap,cur,?_,hsp,hh,hcap⟩;rw[jaa];have:X=β src:=if_pos ht;rw[this];exact hb
 ·have hxpos:0<xs.length:=List.length_pos_iff.2 hx0;obtain⟨xb,xo,rfl,hxcells⟩:=hxc hx0;have hne2:es++xs≠[]:=by simp[hx0]
  have hnews:∀j u,((List.range xs.flatten.length).map gx)[j]? =some u->w.cell? ((⟨xb,xo,none⟩:Addr).add j)=some u:=jcq hxcells;have hnl:((List.range xs.flatten.length).map gx).length=xs.length*i.size:=by simp[hfx,hsz]
  have hol:((List.range es.flatten.length).map gs).length=es.length*i.size:=by simp[hfe,hsz]
  have h1c:∀u∈(List.range xs.flatten.length).map gx,u.oneCell'=true:=by
   intro u hu';obtain⟨j,hj,rfl⟩:=List.mem_map.1 hu';have hjl:j<xs.flatten.length:=by simpa using hj
   obtain⟨h2,_,h3⟩:=hxcells j _ (List.getElem?_eq_getElem hjl);exact h3.oneCell h2
  have hval:∀(w2:World) (M2:Nat->Nat->Prop),Kept w (Mo M0 β st) w2 M2->∀k x,(es++xs).flatten[k]? =some x->
    x.one=true/\Rep w2 M2 x (if k<es.flatten.length then gs k else gx (k-es.flatten.length)):=by
   intro w2 M2 hkp k x hkx;rw[List.flatten_append]at hkx;by_cases hlt:k<es.flatten.length
   ·rw[List.getElem?_append_left hlt]at hkx;have hesne:es≠[]:=fun e'=>by subst e';simp at hlt
    obtain⟨b,o,_,hc⟩:=hsc' hesne;obtain⟨h2,_,h3⟩:=hc k x hkx;rw[if_pos hlt];exact⟨h2,h3.kept hkp⟩
   ·rw[List.getElem?_append_right (by omega)]at hkx;obtain⟨h2,_,h3⟩:=hxcells _ x hkx;rw[if_neg hlt];exact⟨h2,h3.kept hkp⟩
  have hflen:(es++xs).flatten.length=(es.length+xs.length)*S:=by rw[jbe hle2,hlen]
  have hseq:∀(R:List Value) k,k<(es++xs).flatten.length->((List.range es.flatten.length).map gs++(List.range xs.flatten.length).map gx++R)[k]? =some (if k<es.flatten.length then gs k else gx (k-es.flatten.length)):=by
   intro R k hkl;rw[List.flatten_append,List.length_append]at hkl;rw[List.getElem?_append_left (by simp only[List.length_append,List.length_map,List.length_range];omega)];by_cases hlt:k<es.flatten.length
   ·rw[List.getElem?_append_left (by simp only[List.length_map,List.length_range];exact hlt),if_pos hlt,List.getElem?_map,List.getElem?_range hlt];rfl
   ·rw[List.getElem?_append_right (by simp only[List.length_map,List.length_range];omega),if_neg hlt];simp only[List.length_map,List.length_range];rw[List.getElem?_map,List.getElem?_range (by omega)];rfl
  by_cases hroom:es.length+xs.length<=sc
  ·
   rcases hsp with ⟨ad,hsp⟩ | ⟨ht,b,cap,cur,hb,hsp,hh,hcap,hcm,hcs⟩
   ·exfalso;simp only[Value.slice.injEq]at hsp;omega
   ·simp only[Value.slice.injEq,true_and]at hsp;obtain⟨rfl,rfl⟩:=hsp;have hfit:es.length*i.size+((List.range xs.flatten.length).map gx).length<=cur.size:=by
     rw[hnl,hcs,<-Nat.add_mul,hsz];exact Nat.mul_le_mul_right _ hroom
    have hrun:=run_append_room (P:=G.P) w t ty e i hu hi b es.length sc cur hh ⟨xb,xo,none⟩ xs.length xc _ hnl hnews h1c hroom hfit;rw[hnl,hsz]at hrun;generalize hcells:(cur.toList.take (es.length*S)++(List.range xs.flatten.length).map gx++cur.toList.drop (es.length*S+xs.length*S)).toArray=cells at hrun;have hbw:=h.toks src _ _ ht b hb;have hother:∀k,k≠b->(w.setRow b cells).heap[k]? =w.heap[k]? :=fun k hk=>setRow_other w b k cells hk;have hb':(w.setRow b cells).heap[b]? =some (.cells cells e (0,0)):=jdm w b cells cur e hh;have hcsz:cells.size=cur.size:=by
     rw[<-hcells];simp only[List.size_toArray,List.length_append,List.length_take,List.length_drop,Array.length_toList,List.length_map,List.length_range,hfx];rw[hnl,hsz]at hfit;omega
    have hshp:Shp w (w.setRow b cells):=fun k cur' T' hk=>by
     by_cases e:k=b
     ·subst e;rw[hh]at hk;cases hk;exact⟨cells,hb',hcsz⟩
     ·exact⟨cur',by rw[hother k e];exact hk,rfl⟩
    have hcell:∀k,k<(es.length+xs.length)*S->cells[k]? =if k<es.length*S then cur[k]? else some (gx (k-es.length*S)):=by
     intro k hkl;rw[Nat.add_mul]at hkl;rw[<-hcells];have hfit':es.length*S+xs.length*S<=cur.size:=by rw[hnl,hsz]at hfit;exact hfit
     simp only[List.getElem?_toArray];rw[List.getElem?_append_left (by simp[hfx];omega)];by_cases hlt:k<es.length*S
     ·rw[List.getElem?_append_left (by simp;omega),if_pos hlt,List.getElem?_take,if_pos hlt];simp
     ·rw[List.getElem?_append_right (by simp;omega),if_neg hlt];have:(List.take (es.length*S) cur.toList).length=es.length*S:=by simp;omega
      rw[this,List.getElem?_map,List.getElem?_range (by rw[hfx];omega)];rfl
    have hMo:∀b' o,b'≠b\/o<es.length*S->¬Mo M0 β st b' o->¬Mo M0 (upd β dst (some b)) (tokSt st src dst S (es.length+xs.length)) b' o:=by
     intro b' o hbo hn hm;rcases hm with hm | ⟨k,s',es',hk',hkb⟩ | ⟨k,s',n',hk',hkb,ho⟩
     ·exact hn (.inl hm)
     ·by_cases e':k=dst
      ·subst e';simp[tokSt,ja2]at hk'
      ·rw[ja9 _ _ e']at hkb;exact hn (.inr (.inl ⟨k,s',es',by simpa [tokSt,ja6 _ e']using hk',hkb⟩))
     ·by_cases e':k=dst
      ·subst e';rw[jaa]at hkb;cases hkb;simp only[tokSt,look,if_true,Option.some.injEq,Prod.mk.injEq]at hk';obtain⟨rfl,rfl⟩:=hk';rw[Nat.add_mul]at ho;rcases hbo with hbo | hbo
       ·exact hbo rfl
       ·omega
      ·rw[ja9 _ _ e']at hkb;exact hn (.inr (.inr ⟨k,s',n',(jb1 e' hk').2,hkb,ho⟩))
    have hkept:Kept w (Mo M0 β st) (w.setRow b cells) (Mo M0 (upd β dst (some b)) (tokSt st src dst S (es.length+xs.length))):=by
     refine⟨fun b' o u hc hn=> ?_,fun b' es2 c hc hn=> ?_,hshp⟩
     case refine_2=>
      have e':b'≠b:=fun e'=>by subst e';rw[hh]at hc;cases hc
      exact⟨by rw[hother b' e'];exact hc,hMo _ _ (.inl e') hn⟩
     by_cases e':b'=b
     ·subst e';have holt:o<es.length*S:=by
       rcases Nat.lt_or_ge o (es.length*S)with h' | h'
       ·exact h'
       ·exact absurd (.inr (.inr ⟨src,S,es.length,ht,hb,h'⟩)) hn
      refine⟨?_,hMo _ _ (.inr holt) hn⟩;rw[cell_of_row _ b' _ cells e _ hb',hcell o (by rw[Nat.add_mul];omega),if_pos holt];rw[cell_of_row _ b' _ cur e _ hh]at hc;exact hc
     ·refine⟨?_,hMo _ _ (.inl e') hn⟩;rw[World.cell?_of_block (w:=w) (a:=⟨b',o,none⟩) (hother b' e')];exact hc
    have hsim:=h.newTok (w':=w.setRow b cells) (src:=src) (dst:=dst) (s:=S) (n:=es.length+xs.length) (X:=some b) hkept
     (h.below.set hbw.1 rfl rfl rfl (by simp) hother hshp) hshp (by simp)
     (fun k b' hkb hd=>hother b' (fun e'=>by
      subst e';rcases hd with hd | ⟨hd,hne⟩
      ·have:=h.inj k src b' (.inl hd) (.inr (by simp[ht])) hkb hb;subst this;rw[h.excl k hd]at ht;cases ht
      ·exact hne (h.inj k src b' (.inr hd) (.inr (by simp[ht])) hkb hb)))
     (fun b' hb2=>by cases hb2;exact⟨hbw.1,by simpa using hbw.2,hXlt _ hb ht⟩) hsrc hdN
    refine⟨_,_,_,hrun,hsim,?_,hle2,fun _=> .inr ⟨b,sc,cells,jaa _ _ _,by rw[hlen],hb',by rw[hlen];exact hroom,hcm,by rw[hcsz,hcs]⟩⟩;have hmk:=mk_sl (w:=w.setRow b cells) (M:=Mo M0 (upd β dst (some b)) (tokSt st src dst S (es.length+xs.length))) (b:=b) (o:=0) (c:=sc)
     (g:=fun k=>if k<es.flatten.length then gs k else gx (k-es.flatten.length)) hne2 hle2 (by rw[hlen];exact hroom) (fun k x hkx=> ?_)
    ·rw[hlen]at hmk;exact hmk
    have hkl:=(List.getElem?_eq_some_iff.1 hkx).1;obtain⟨h2,h3⟩:=hval _ _ hkept k x hkx;rw[Nat.zero_add];refine⟨h2,?_,?_,h3⟩
    ·rw[hflen]at hkl;rw[cell_of_row _ b _ cells e _ hb',hcell k hkl,hfe];by_cases hlt:k<es.length*S
     ·rw[if_pos hlt,if_pos hlt];have hesne:es≠[]:=fun e'=>by subst e';simp at hlt
      obtain⟨b2,o2,e2,hc⟩:=hsc' hesne;simp only[Option.some.injEq,Addr.mk.injEq,and_true]at e2;obtain⟨rfl,rfl⟩:=e2;obtain⟨_,h4,_⟩:=hc k _ (List.getElem?_eq_getElem (by rw[hfe];exact hlt));rw[Addr.add_lit,Nat.zero_add,cell_of_row _ b _ cur e _ hh]at h4;exact h4
     ·rw[if_neg hlt,if_neg hlt]
    ·by_cases hlt:k<es.length*S
     ·have hesne:es≠[]:=fun e'=>by subst e';simp at hlt
      rcases hs.sl_inv with ⟨e',_⟩ | ⟨s',b2,o2,c2,u2,_,hs2,_,h4,_,he2⟩
      ·exact absurd e' hesne
      ·simp only[Value.slice.injEq,Option.some.injEq,Addr.mk.injEq,and_true,true_and]at he2;obtain⟨⟨rfl,rfl⟩,rfl⟩:=he2;obtain⟨e3,h5,h6⟩:=jc2 h1 hle (List.getElem?_eq_getElem (l:=es.flatten) (i:=k) (by rw[hfe];exact hlt));have hss:s'=S:=by rw[<-hs2 e3 (List.mem_of_getElem? h5),hle e3 (List.mem_of_getElem? h5)]
       subst hss;have:=(h4 _ e3 _ _ h5 h6).2.2;have hidx:0+k/s'*s'+k % s'=k:=by have:=Nat.div_add_mod k s';rw[Nat.mul_comm]at this;omega
       rw[hidx]at this;exact hMo _ _ (.inr hlt) this
     ·rw[hflen]at hkl;intro hm;rcases hm with hm | ⟨k2,s',es',hk',hkb⟩ | ⟨k2,s',n',hk',hkb,ho⟩
      ·exact hbw.1 (h.m0 b k hm)
      ·by_cases e':k2=dst
       ·subst e';simp[tokSt,ja2]at hk'
       ·rw[ja9 _ _ e']at hkb;have hk2:look st.rows k2=some (s',es'):=by simpa [tokSt,ja6 _ e']using hk'
        have:=h.inj k2 src b (.inl (by simp[hk2])) (.inr (by simp[ht])) hkb hb;subst this;rw[h.excl k2 (by simp[hk2])]at ht;cases ht
      ·by_cases e':k2=dst
       ·subst e';simp only[tokSt,look,if_true,Option.some.injEq,Prod.mk.injEq]at hk';obtain⟨rfl,rfl⟩:=hk';omega
       ·rw[ja9 _ _ e']at hkb;have hk2:=jb1 e' hk';exact hk2.1 (h.inj k2 src b (.inr (by simp[hk2.2])) (.inr (by simp[ht])) hkb hb)
  ·
   have hgrow:∃cap cells,(Builtin.append_ #[t,t] ty #[.slice sad es.length sc,.slice (some ⟨xb,xo,none⟩) xs.length xc]).run G.P w=
      .ok (.slice (some ⟨w.heap.size,0,none⟩) (es.length+xs.length) cap) (w.drew.alloc (.cells cells e))/\es.length+xs.length<=cap/\cap<=maxLen/\cells.size=cap*S/\
      ∃R:List Value,cells.toList=(List.range es.flatten.length).map gs++(List.range xs.flatten.length).map gx++R:=by
    have hm63:es.length+xs.length<=maxLen:=by unfold maxLen;omega
    have hcs:∀old,((List.range es.flatten.length).map gs++(List.range xs.flatten.length).map gx).length+(Builtin.zeroCells z.cells (grownCap w (es.length+xs.length) old e-(es.length+xs.length))).size=grownCap w (es.length+xs.length) old e*S:=by
     intro old;have hge:=grownCap_ge w (es.length+xs.length) old e;simp only[List.length_append,List.length_map,List.length_range,hfe,hfx,size_zeroCells,hzs,<-Nat.add_mul];congr 1;omega
    cases sad with
    | none=>
     have hes0:es=[]:=by
      rcases Classical.em (es=[])with h' | h'
      ·exact h'
      ·obtain⟨_,_,e',_⟩:=hsc' h';cases e'
     subst hes0;have hc0:sc=0:=by
      rcases hsp with ⟨ad,hsp⟩ | ⟨_,b,cap,cur,_,hsp,_⟩
      ·simp only[Value.slice.injEq]at hsp;exact hsp.2.2
      ·simp at hsp
     subst hc0;simp only[List.length_nil,Nat.zero_add,List.flatten_nil,List.range_zero,List.map_nil,List.nil_append]at*;have hr:=run_append_nil (P:=G.P) w t ty e i z hu hi hz ⟨xb,xo,none⟩ xs.length xc _ hnl hnews hxpos (by omega) (by rw[hbt];omega);refine⟨_,_,hr,grownCap_ge _ _ _ _,grownCap_le_maxLen _ _ _ _ hm63,?_,(Builtin.zeroCells z.cells (grownCap w xs.length 0 e-xs.length)).toList,by rw[Array.toList_append]⟩;rw[Array.size_append,List.size_toArray];exact hcs 0
    | some ad=>
     have holds:∀j u,((List.range es.flatten.length).map gs)[j]? =some u->w.cell? (ad.add j)=some u:=by
      rcases Classical.em (es=[])with h' | h'
      ·subst h';intro j u hu';simp at hu'
      ·obtain⟨b,o,e',hc⟩:=hsc' h';cases e';exact jcq hc
     have hr:=run_append_grow (P:=G.P) w t ty e i z hu hi hz ad es.length sc _ hol holds ⟨xb,xo,none⟩ xs.length xc _ hnl hnews (by omega) (by omega) (growslice_fits (by omega) (by rw[hbt];exact hbound));refine⟨_,_,hr,grownCap_ge _ _ _ _,grownCap_le_maxLen _ _ _ _ hm63,?_,(Builtin.zeroCells z.cells (grownCap w (es.length+xs.length) sc e-(es.length+xs.length))).toList,by rw[Array.toList_append,Array.toList_append]⟩;have:=hcs sc;rw[Array.size_append,Array.size_append,List.size_toArray,List.size_toArray,<-this,List.length_append]
   obtain⟨cap,cells,hrun,hcap,hcm,hcs,R,hR⟩:=hgrow;have hnb:∀b o,Mo M0 (upd β dst (some w.heap.size)) (tokSt st src dst S (es.length+xs.length)) b o->b≠w.heap.size->Mo M0 β st b o:=by
    rintro b o (hm | ⟨k,s',es',hk',hkb⟩ | ⟨k,s',n',hk',hkb,ho⟩) hne
    ·exact .inl hm
    ·by_cases e':k=dst
     ·subst e';simp[tokSt,ja2]at hk'
     ·rw[ja9 _ _ e']at hkb;exact .inr (.inl ⟨k,s',es',by simpa [tokSt,ja6 _ e']using hk',hkb⟩)
    ·by_cases e':k=dst
     ·subst e';rw[jaa]at hkb;cases hkb;exact absurd rfl hne
     ·rw[ja9 _ _ e']at hkb;exact .inr (.inr ⟨k,s',n',(jb1 e' hk').2,hkb,ho⟩)
   have hold:∀b,b<w.heap.size->(w.drew.alloc (.cells cells e)).heap[b]? =w.heap[b]? :=fun b hb=>Below.heap_alloc w.drew _ b hb;have hkept:Kept w (Mo M0 β st) (w.drew.alloc (.cells cells e)) (Mo M0 (upd β dst (some w.heap.size)) (tokSt st src dst S (es.length+xs.length))):=by
    refine⟨fun b o u hc hn=> ?_,fun b es2 c hc hn=> ?_,Shp.old hold⟩
    ·have hb:b<w.heap.size:=World.block_lt_of_cell? (a:=⟨b,o,none⟩) w hc;exact⟨by rw[World.cell?_of_block (w:=w) (a:=⟨b,o,none⟩) (hold b hb)];exact hc,fun hm=>hn (hnb b o hm (by omega))⟩
    ·have hb:b<w.heap.size:=(Array.getElem?_eq_some_iff.1 hc).1;exact⟨by rw[hold b hb];exact hc,fun hm=>hn (hnb b 0 hm (by omega))⟩
   have hdomlt:∀k b,((look st.rows k).isSome\/(look st.toks k).isSome)->β k=some b->b<w.heap.size:=fun k b hd hkb=>by
    rcases hd with hd | hd
    ·obtain⟨⟨s',es'⟩,hl⟩:=Option.isSome_iff_exists.1 hd;exact h.mlt (o:=0) (.inr (.inl ⟨k,s',es',hl,hkb⟩))
    ·obtain⟨⟨s',n'⟩,hl⟩:=Option.isSome_iff_exists.1 hd;exact(h.toks k s' n' hl b hkb).2
   have hsim:=h.newTok (w':=w.drew.alloc (.cells cells e)) (src:=src) (dst:=dst) (s:=S) (n:=es.length+xs.length) (X:=some w.heap.size) hkept
    ((h.below.drew).alloc _) (Shp.old hold) (by simp)
    (fun k b hkb hd=>hold b (hdomlt k b (hd.imp id (·.1)) hkb))
    (fun b hb2=>by cases hb2;exact⟨fun hp=>absurd (Nat.lt_of_lt_of_le (w0.lt _ hp) h.below.size) (Nat.lt_irrefl _),by simp,fun k _ _ hd hkb=>absurd (hdomlt k _ hd hkb) (by omega)⟩) hsrc hdN
   have hb':(w.drew.alloc (.cells cells e)).heap[w.heap.size]? =some (.cells cells e (0,0)):=heap_alloc_new w.drew _;refine⟨_,_,_,hrun,hsim,?_,hle2,fun _=> .inr ⟨w.heap.size,cap,cells,jaa _ _ _,by rw[hlen],hb',by rw[hlen];exact hcap,hcm,hcs⟩⟩;have hmk:=mk_sl (w:=w.drew.alloc (.cells cells e)) (M:=Mo M0 (upd β dst (some w.heap.size)) (tokSt st src dst S (es.length+xs.length))) (b:=w.heap.size) (o:=0) (c:=cap)
    (g:=fun k=>if k<es.flatten.length then gs k else gx (k-es.flatten.length)) hne2 hle2 (by rw[hlen];exact hcap) (fun k x hkx=> ?_)
   ·rw[hlen]at hmk;exact hmk
   have hkl:=(List.getElem?_eq_some_iff.1 hkx).1;obtain⟨h2,h3⟩:=hval _ _ hkept k x hkx;rw[Nat.zero_add];refine⟨h2,?_,?_,h3⟩
   ·rw[cell_of_row _ w.heap.size _ cells e _ hb',<-Array.getElem?_toList,hR];exact hseq R k hkl
   ·rintro(hm | ⟨k2,s',es',hk',hkb⟩ | ⟨k2,s',n',hk',hkb,ho⟩)
    ·exact absurd (Nat.lt_of_lt_of_le (w0.lt _ (h.m0 _ _ hm)) h.below.size) (Nat.lt_irrefl _)
    ·by_cases e':k2=dst
     ·subst e';simp[tokSt,ja2]at hk'
     ·rw[ja9 _ _ e']at hkb;exact absurd (hdomlt k2 _ (.inl (by(have:look st.rows k2=some (s',es'):=by simpa [tokSt,ja6 _ e']using hk');simp[this])) hkb) (by omega)
    ·by_cases e':k2=dst
     ·subst e';simp only[tokSt,look,if_true,Option.some.injEq,Prod.mk.injEq]at hk';obtain⟨rfl,rfl⟩:=hk';rw[hflen]at hkl;omega
     ·rw[ja9 _ _ e']at hkb;exact absurd (hdomlt k2 _ (.inr (by simp[(jb1 e' hk').2])) hkb) (by omega)
end
end
section
open Go.RowKit (Below)
section
variable{G:Ctx}{N:Nat}{w0:Base}{w w':World}{M M' M0:Nat->Nat->Prop}{β β':Nat->Option Nat}{st:St}{a:Act}{toks toks':List (Nat×Nat×Nat)}{av:AV}{v:Value}
def jbp(st:St)(src dst s:Nat)(es:List (List IV)):St:=⟨st.fr.map fun p=>(p.1,(p.2.purge src).purge dst),(dst,s,es)::del (del st.rows src) dst,del st.toks dst⟩
theorem get_growSt(st:St)(src dst s:Nat)(es:List (List IV))(t:Nat):(jbp st src dst s es).get t=((st.get t).purge src).purge dst:=by
 simp only[St.get,jbp];rw[je9 st.fr (fun v=>(v.purge src).purge dst)];cases look st.fr t<;>rfl
theorem jdd{src dst s:Nat}{es:List (List IV)}{k:Nat}{x:Nat×List (List IV)}(hk:k≠dst)(h:look (jbp st src dst s es).rows k=some x):k≠src/\look st.rows k=some x:=by
 simp only[jbp,look,hk,if_false,ja6 _ hk]at h;by_cases e:k=src
 ·subst e;rw[ja2]at h;cases h
 ·exact⟨e,by rwa [ja6 _ e]at h⟩
theorem jdb{src dst s:Nat}{es:List (List IV)}{k:Nat}{x:Nat×Nat}(h:look (jbp st src dst s es).toks k=some x):k≠dst/\look st.toks k=some x:=by
 simp only[jbp]at h;by_cases e:k=dst
 ·subst e;rw[ja2]at h;cases h
 ·exact⟨e,by rwa [ja6 _ e]at h⟩
theorem Mo_growSt{src dst s X:Nat}{es:List (List IV)}{b o:Nat}(h:Mo M0 (upd β dst (some X)) (jbp st src dst s es) b o)(hb:b≠X):Mo M0 β st b o:=by
 rcases h with hm | ⟨k,s',es',hk,hkb⟩ | ⟨k,s',n',hk,hkb,ho⟩
 ·exact .inl hm
 ·by_cases e:k=dst
  ·subst e;rw[jaa]at hkb;cases hkb;exact absurd rfl hb
  ·rw[ja9 _ _ e]at hkb;exact .inr (.inl ⟨k,s',es',(jdd e hk).2,hkb⟩)
 ·obtain⟨e,hk'⟩:=jdb hk;rw[ja9 _ _ e]at hkb;exact .inr (.inr ⟨k,s',n',hk',hkb,ho⟩)
theorem Sim.grow(h:Sim N w0 M0 β st a w){src dst s X:Nat}{es:List (List IV)}
  (hk:Kept w (Mo M0 β st) w' (Mo M0 (upd β dst (some X)) (jbp st src dst s es))) (hbelow:w0.Fr w') (hshp:Shp w w') (hsize:w.heap.size<=w'.heap.size)
  (hheap:∀k b,β k=some b->k≠src->((look st.rows k).isSome\/(look st.toks k).isSome)->w'.heap[b]? =w.heap[b]?)
  (hX:¬w0.P X/\∀k,k≠src->k≠dst->((look st.rows k).isSome\/(look st.toks k).isSome)->β k≠some X)
  (htok:look st.toks src=none) (hdN:dst<N) (hrow:RowRep w' (Mo M0 (upd β dst (some X)) (jbp st src dst s es)) X s es):
  Sim N w0 M0 (upd β dst (some X)) (jbp st src dst s es) a w':=by
 refine⟨h.size,h.defers,hbelow,h.m0,fun t=> ?_,fun k s' es' hk'=> ?_,fun k s' n' hk' b hb=> ?_,fun k k' b h1 h2 hb hb'=> ?_,fun k hk'=> ?_,fun k hN hN' hk'=> ?_,h.np,je7 h.perm (.inl (Nat.lt_of_lt_of_le hdN h.np))⟩
 case refine_6=>
  have e:k≠dst:=by omega
  obtain⟨x,hx⟩:=Option.isSome_iff_exists.1 hk';rw[ja9 _ _ e];exact h.nam k hN hN' (by rw[(jdd e hx).2];rfl)
 ·rw[get_growSt];refine(((h.fr t).purge src).purge dst).move hk (fun k hr=>ja9 _ _ (jbl hr).2) (fun k s' n' hr hl=>(jdb hl).2) (fun k b hl hr hb=> ?_) hshp;obtain⟨⟨s',n'⟩,hl'⟩:=Option.isSome_iff_exists.1 hl;obtain⟨h1,h2⟩:=jdb hl';exact hheap k b hb (fun e=>by subst e;rw[htok]at h2;cases h2) (.inr (by simp[h2]))
 ·by_cases e:k=dst
  ·subst e;simp only[jbp,look,if_true,Option.some.injEq,Prod.mk.injEq]at hk';obtain⟨rfl,rfl⟩:=hk';exact⟨X,jaa _ _ _,hX.1,hrow⟩
  ·obtain⟨hne,hk2⟩:=jdd e hk';obtain⟨b,h1,h2,h3⟩:=h.rows k s' es' hk2;exact⟨b,by rw[ja9 _ _ e];exact h1,h2,h3.move hk (hheap k b h1 hne (.inl (by simp[hk2])))⟩
 ·obtain⟨hne,hk2⟩:=jdb hk';rw[ja9 _ _ hne]at hb;obtain⟨h1,h2⟩:=h.toks k s' n' hk2 b hb;exact⟨h1,by omega⟩
 ·have dom:∀k,((look (jbp st src dst s es).rows k).isSome\/(look (jbp st src dst s es).toks k).isSome)->k≠dst->((look st.rows k).isSome\/(look st.toks k).isSome)/\k≠src:=fun k hk hne=>by
   rcases hk with hk | hk
   ·obtain⟨x,hx⟩:=Option.isSome_iff_exists.1 hk;have:=jdd hne hx;exact⟨.inl (by simp[this.2]),this.1⟩
   ·obtain⟨x,hx⟩:=Option.isSome_iff_exists.1 hk;have:=jdb hx;exact⟨.inr (by simp[this.2]),fun e=>by subst e;rw[htok]at this;cases this.2⟩
  by_cases e:k=dst<;>by_cases e':k'=dst
  ·omega
  ·subst e;rw[jaa]at hb;rw[ja9 _ _ e']at hb';cases hb;obtain⟨d1,d2⟩:=dom k' h2 e';exact absurd hb' (hX.2 k' d2 e' d1)
  ·subst e';rw[jaa]at hb';rw[ja9 _ _ e]at hb;cases hb';obtain⟨d1,d2⟩:=dom k h1 e;exact absurd hb (hX.2 k d2 e d1)
  ·rw[ja9 _ _ e]at hb;rw[ja9 _ _ e']at hb';exact h.inj k k' b (dom k h1 e).1 (dom k' h2 e').1 hb hb'
 ·obtain⟨x,hx⟩:=Option.isSome_iff_exists.1 hk';by_cases e:k=dst
  ·subst e;simp only[jbp,ja2]
  ·obtain⟨hne,hk2⟩:=jdd e hx;simp only[jbp,ja6 _ e];exact h.excl k (by simp[hk2])
def jc1(st:St)(src X s:Nat)(es:List (List IV)):St:=⟨st.fr,(hp X,s,es)::del st.rows src,st.toks⟩
theorem jcv{src X s:Nat}{es:List (List IV)}{k:Nat}{x:Nat×List (List IV)}(hk:k≠hp X)(h:look (jc1 st src X s es).rows k=some x):k≠src/\look st.rows k=some x:=by
 simp only[jc1,look,hk,if_false]at h;by_cases e:k=src
 ·subst e;rw[ja2]at h;cases h
 ·exact⟨e,by rwa [ja6 _ e]at h⟩
theorem Mo_growStH(hβ:∀b,β (hp b)=some b){src s X:Nat}{es:List (List IV)}{b o:Nat}(h:Mo M0 β (jc1 st src X s es) b o)(hb:b≠X):Mo M0 β st b o:=by
 rcases h with hm | ⟨k,s',es',hk,hkb⟩ | ⟨k,s',n',hk,hkb,ho⟩
 ·exact .inl hm
 ·by_cases e:k=hp X
  ·subst e;rw[hβ]at hkb;cases hkb;exact absurd rfl hb
  ·exact .inr (.inl ⟨k,s',es',(jcv e hk).2,hkb⟩)
 ·exact .inr (.inr ⟨k,s',n',hk,hkb,ho⟩)
theorem Sim.growH(h:Sim N w0 M0 β st a w){src s X:Nat}{es:List (List IV)}
  (hk:Kept w (Mo M0 β st) w' (Mo M0 β (jc1 st src X s es))) (hbelow:w0.Fr w') (hshp:Shp w w') (hsize:w.heap.size<=w'.heap.size)
  (hheap:∀k b,β k=some b->k≠src->((look st.rows k).isSome\/(look st.toks k).isSome)->w'.heap[b]? =w.heap[b]?)
  (hX:¬w0.P X/\∀k,k≠src->((look st.rows k).isSome\/(look st.toks k).isSome)->β k≠some X)
  (htok:look st.toks src=none) (hrow:RowRep w' (Mo M0 β (jc1 st src X s es)) X s es):
  Sim N w0 M0 β (jc1 st src X s es) a w':=by
 have hsrc:∀k,(look st.toks k).isSome->k≠src:=fun k hq e=>by rw[e,htok]at hq;cases hq
 refine⟨h.size,h.defers,hbelow,h.m0,fun t=> ?_,fun k s' es' hk'=> ?_,fun k s' n' hk' b hb=> ?_,fun k k' b h1 h2 hb hb'=> ?_,fun k hk'=> ?_,fun k hN hN' hk'=> ?_,h.np,h.perm⟩
 case refine_6=>
  have e:k≠hp X:=fun e=>by unfold hp at e;omega
  obtain⟨x,hx⟩:=Option.isSome_iff_exists.1 hk';exact h.nam k hN hN' (by rw[(jcv e hx).2];rfl)
 ·exact(h.fr t).move hk (fun k hr=>rfl) (fun k s' n' hr hl=>hl) (fun k b hl hr hb=>hheap k b hb (hsrc k hl) (.inr hl)) hshp
 ·by_cases e:k=hp X
  ·subst e;simp only[jc1,look,if_true,Option.some.injEq,Prod.mk.injEq]at hk';obtain⟨rfl,rfl⟩:=hk';exact⟨X,h.perm X,hX.1,hrow⟩
  ·obtain⟨hne,hk2⟩:=jcv e hk';obtain⟨b,h1,h2,h3⟩:=h.rows k s' es' hk2;exact⟨b,h1,h2,h3.move hk (hheap k b h1 hne (.inl (by simp[hk2])))⟩
 ·obtain⟨h1,h2⟩:=h.toks k s' n' hk' b hb;exact⟨h1,by omega⟩
 ·have dom:∀k,((look (jc1 st src X s es).rows k).isSome\/(look (jc1 st src X s es).toks k).isSome)->k≠hp X->((look st.rows k).isSome\/(look st.toks k).isSome)/\k≠src:=fun k hk hne=>by
   rcases hk with hk | hk
   ·obtain⟨x,hx⟩:=Option.isSome_iff_exists.1 hk;have:=jcv hne hx;exact⟨.inl (by simp[this.2]),this.1⟩
   ·exact⟨.inr hk,hsrc k hk⟩
  by_cases e:k=hp X<;>by_cases e':k'=hp X
  ·omega
  ·subst e;rw[h.perm]at hb;cases hb;obtain⟨d1,d2⟩:=dom k' h2 e';exact absurd hb' (hX.2 k' d2 d1)
  ·subst e';rw[h.perm]at hb';cases hb';obtain⟨d1,d2⟩:=dom k h1 e;exact absurd hb (hX.2 k d2 d1)
  ·exact h.inj k k' b (dom k h1 e).1 (dom k' h2 e').1 hb hb'
 ·obtain⟨x,hx⟩:=Option.isSome_iff_exists.1 hk';by_cases e:k=hp X
  ·subst e;cases ht:look st.toks (hp X)with
   | none=>exact ht
   | some y=>exact absurd (h.perm X) (hX.2 _ (hsrc _ (by simp[ht])) (.inr (by simp[ht])))
  ·obtain⟨hne,hk2⟩:=jcv e hx;exact h.excl k (by simp[hk2])
theorem jh6(hG:G.Ok)(h:Sim N w0 M0 β st a w){t e ty:TypeId}{sv xv:Value}{es xs:List (List IV)}{src n:Nat}(ST:Nat->St)(B':Nat->Nat->Option Nat)
  (hMo:∀X b o,Mo M0 (B' X) (ST X) b o->b≠X->Mo M0 β st b o)
  (hgrow:∀X w',Kept w (Mo M0 β st) w' (Mo M0 (B' X) (ST X))->w0.Fr w'->Shp w w'->w.heap.size<=w'.heap.size->
   (∀k b,β k=some b->k≠src->((look st.rows k).isSome\/(look st.toks k).isSome)->w'.heap[b]? =w.heap[b]?)->
   (¬w0.P X/\∀k,k≠src->((look st.rows k).isSome\/(look st.toks k).isSome)->β k≠some X)->look st.toks src=none->RowRep w' (Mo M0 (B' X) (ST X)) X (G.ti e).size (es.take n++xs)->Sim N w0 M0 (B' X) (ST X) a w')
  (h0:(G.ti t).size≠0) (hk:(G.ti t).kind= .sl e) (h1:(G.ti e).size≠0) (hby:(G.ti e).bytes≠0) (hlx:∀c∈xs,c.length=(G.ti e).size)
  (hd:look st.rows src=some ((G.ti e).size,es)) (hn:n<=es.length) (hbound:(n+xs.length)*(G.ti e).bytes<=140737488355328)
  (hs:RepA w (Mo M0 β st) β st.toks (.gsl src e (G.ti e).size n) sv) (hx:Rep w (Mo M0 β st) (.sl xs) xv):
  ∃v' w' X,(Builtin.append_ #[t,t] ty #[sv,xv]).run G.P w= .ok v' w'/\(∀k,k≠src->((look st.rows k).isSome\/(look st.toks k).isSome)->β k≠some X)/\Sim N w0 M0 (B' X) (ST X) a w'/\
   ∃cap cur,v'= .slice (some ⟨X,0,none⟩) (n+xs.length) cap/\w'.heap[X]? =some (.cells cur e (0,0))/\n+xs.length<=cap/\cap<=maxLen/\cur.size=cap*(G.ti e).size:=by
 have hu:=hG.sl h0 hk;obtain⟨i,z,hi,hsz,hbt,hz,_,hzs⟩:=hG.info h1;obtain⟨xad,xc,gx,rfl,_,hxc⟩:=jex h1 hx hlx;obtain⟨b,cap,cur,hb,rfl,hcur,hcap,hcm,hcs⟩:=hs;obtain⟨b',hb',hPb,cur',T',hcur',hes,hcell⟩:=h.rows src _ es hd;rw[hb]at hb';cases hb';rw[hcur]at hcur';cases hcur';have htok:look st.toks src=none:=h.excl src (by simp[hd]);generalize hS:(G.ti e).size=S at*;have hlt:(es.take n).length=n:=by simp;omega
 have hle:∀c∈es.take n,c.length=S:=fun c hc=>hes c (List.mem_of_mem_take hc);have hle2:∀c∈es.take n++xs,c.length=S:=fun c hc=>(List.mem_append.1 hc).elim (hle c) (hlx c);have hfe:(es.take n).flatten.length=n*S:=by rw[jbe hle,hlt]
 have hfx:xs.flatten.length=xs.length*S:=jbe hlx;have hlen:(es.take n++xs).length=n+xs.length:=by rw[List.length_append,hlt]
 have hmax:n+xs.length<=140737488355328:=Nat.le_trans (Nat.le_mul_of_pos_right _ (Nat.pos_of_ne_zero hby)) hbound;have hmob:∀o,Mo M0 β st b o:=fun o=> .inr (.inl ⟨src,S,es,hd,hb⟩);have hold:∀k x,(es.take n).flatten[k]? =some x->x.one=true/\cur[k]? =some (cur.getD k undef)/\Rep w (Mo M0 β st) x (cur.getD k undef):=by
  intro k x hkx;obtain⟨c,h2,h3⟩:=jc2 h1 hle hkx;rw[List.getElem?_take]at h2;split at h2
  ·obtain⟨ho,u,hu',hr⟩:=hcell _ c _ x h2 h3;have hidx:k/S*S+k % S=k:=by have:=Nat.div_add_mod k S;rw[Nat.mul_comm]at this;omega
   rw[hidx]at hu';have:cur.getD k undef=u:=by simp[hu']
   exact⟨ho,by rw[this];exact hu',by rw[this];exact hr⟩
  ·cases h2
 have hinj:∀k,k≠src->((look st.rows k).isSome\/(look st.toks k).isSome)->β k≠some b:=fun k hne hlk hkb=>hne (h.inj k src b hlk (.inl (by simp[hd])) hkb hb);have hnS:n*S<=cur.size:=by rw[hcs];exact Nat.mul_le_mul_right _ hcap
 have mkRow:∀(w2:World) (M2:Nat->Nat->Prop) (cells:Array Value) (X:Nat),w2.heap[X]? =some (.cells cells e (0,0))->Kept w (Mo M0 β st) w2 M2->
   (∀k,k<n*S->cells[k]? =some (cur.getD k undef))->(∀k,k<xs.length*S->cells[n*S+k]? =some (gx k))->RowRep w2 M2 X S (es.take n++xs):=by
  intro w2 M2 cells X hX hkp hc1 hc2;refine⟨cells,e,hX,hle2,fun i' c j x hi' hj=> ?_⟩;have hfl:=jbn hle2 hi' hj;have hfl':=hfl;rw[List.flatten_append]at hfl;by_cases hk':i'*S+j<n*S
  ·rw[List.getElem?_append_left (by omega)]at hfl;obtain⟨h2,h3,h4⟩:=hold _ x hfl;exact⟨h2,_,hc1 _ hk',h4.kept hkp⟩
  ·rw[List.getElem?_append_right (by omega),hfe]at hfl;have hxne:xs≠[]:=fun e'=>by subst e';simp at hfl
   obtain⟨b2,o2,_,hcx⟩:=hxc hxne;obtain⟨h2,_,h3⟩:=hcx _ x hfl;have hkl:=(List.getElem?_eq_some_iff.1 hfl).1;have:=hc2 (i'*S+j-n*S) (by omega);rw[show n*S+(i'*S+j-n*S)=i'*S+j by omega]at this;exact⟨h2,_,this,h3.kept hkp⟩
 by_cases hx0:xs=[]
 ·
  subst hx0;have hrun:(Builtin.append_ #[t,t] ty #[.slice (some ⟨b,0,none⟩) n cap,.slice xad 0 xc]).run G.P w= .ok (.slice (some ⟨b,0,none⟩) n cap) w:=by
   cases xad<;>simp[Builtin.append_,run_underlying hu,sizeOf,typeInfo,hi,Builtin.lenOf,Builtin.firstCells,loadCells,loadCellsFrom,storeCells,hcap]
  have hkept:Kept w (Mo M0 β st) w (Mo M0 (B' b) (ST b)):=Kept.less w fun b' o hm=>by
   by_cases e':b'=b
   ·subst e';exact hmob o
   ·exact hMo _ _ _ hm e'
  refine⟨_,w,b,hrun,hinj,hgrow b w hkept h.below (Shp.refl _) (Nat.le_refl _) (fun _ _ _ _ _=>rfl) ⟨hPb,hinj⟩ htok ?_,cap,cur,rfl,hcur,by simpa using hcap,hcm,hcs⟩;exact mkRow w _ cur b hcur hkept (fun k hk'=>by(have:k<cur.size:=by omega);simp[this]) (fun k hk'=>by simp at hk')
 ·have hxpos:0<xs.length:=List.length_pos_iff.2 hx0;obtain⟨xb,xo,rfl,hxcells⟩:=hxc hx0;have hnews:∀j u,((List.range xs.flatten.length).map gx)[j]? =some u->w.cell? ((⟨xb,xo,none⟩:Addr).add j)=some u:=jcq hxcells;have hnl:((List.range xs.flatten.length).map gx).length=xs.length*i.size:=by simp[hfx,hsz]
  have h1c:∀u∈(List.range xs.flatten.length).map gx,u.oneCell'=true:=by
   intro u hu';obtain⟨j,hj,rfl⟩:=List.mem_map.1 hu';have hjl:j<xs.flatten.length:=by simpa using hj
   obtain⟨h2,_,h3⟩:=hxcells j _ (List.getElem?_eq_getElem hjl);exact h3.oneCell h2
  by_cases hroom:n+xs.length<=cap
  ·
   have hfit:n*i.size+((List.range xs.flatten.length).map gx).length<=cur.size:=by
    rw[hnl,hcs,<-Nat.add_mul,hsz];exact Nat.mul_le_mul_right _ hroom
   have hrun:=run_append_room (P:=G.P) w t ty e i hu hi b n cap cur hcur ⟨xb,xo,none⟩ xs.length xc _ hnl hnews h1c hroom hfit;rw[hnl,hsz]at hrun;rw[hnl,hsz]at hfit;generalize hcells:(cur.toList.take (n*S)++(List.range xs.flatten.length).map gx++cur.toList.drop (n*S+xs.length*S)).toArray=cells at hrun;have hother:∀k,k≠b->(w.setRow b cells).heap[k]? =w.heap[k]? :=fun k hk=>setRow_other w b k cells hk;have hb':(w.setRow b cells).heap[b]? =some (.cells cells e (0,0)):=jdm w b cells cur e hcur;have hcsz:cells.size=cur.size:=by
    rw[<-hcells];simp only[List.size_toArray,List.length_append,List.length_take,List.length_drop,Array.length_toList,List.length_map,List.length_range,hfx];omega
   have hshp:Shp w (w.setRow b cells):=fun k cur' T' hk=>by
    by_cases e:k=b
    ·subst e;rw[hcur]at hk;cases hk;exact⟨cells,hb',hcsz⟩
    ·exact⟨cur',by rw[hother k e];exact hk,rfl⟩
   have hkept:Kept w (Mo M0 β st) (w.setRow b cells) (Mo M0 (B' b) (ST b)):=by
    refine⟨fun b' o u hc hnm=> ?_,fun b' es2 c hc hnm=> ?_,hshp⟩
    ·have hne:b'≠b:=fun e'=>by subst e';exact hnm (hmob o)
     exact⟨by rw[World.cell?_of_block (w:=w) (a:=⟨b',o,none⟩) (hother b' hne)];exact hc,fun hm=>hnm (hMo _ _ _ hm hne)⟩
    ·have hne:b'≠b:=fun e'=>by subst e';exact hnm (hmob 0)
     exact⟨by rw[hother b' hne];exact hc,fun hm=>hnm (hMo _ _ _ hm hne)⟩
   have hsim:=hgrow b _ hkept (h.below.set hPb rfl rfl rfl (by simp) hother hshp) hshp (by simp)
    (fun k b' hkb hne hlk=>hother b' (fun e'=>by subst e';exact hne (h.inj k src b' hlk (.inl (by simp[hd])) hkb hb))) ⟨hPb,hinj⟩ htok
    (mkRow _ _ cells b hb' hkept (fun k hk'=>by
     rw[<-hcells];simp only[List.getElem?_toArray];rw[List.append_assoc,List.getElem?_append_left (by simp;omega),List.getElem?_take,if_pos hk'];have:k<cur.size:=by omega
     simp[this]) (fun k hk'=>by
     rw[<-hcells];simp only[List.getElem?_toArray];have hl:(List.take (n*S) cur.toList).length=n*S:=by simp;omega
     rw[List.append_assoc,List.getElem?_append_right (by omega),hl,Nat.add_sub_cancel_left,List.getElem?_append_left (by simp[hfx];exact hk'),List.getElem?_map,List.getElem?_range (by rw[hfx];exact hk')];rfl))
   exact⟨_,_,_,hrun,hinj,hsim,cap,cells,rfl,hb',hroom,hcm,by rw[hcsz,hcs]⟩
  ·
   have holds:∀j u,((List.range (es.take n).flatten.length).map fun k=>cur.getD k undef)[j]? =some u->w.cell? ((⟨b,0,none⟩:Addr).add j)=some u:=by
    intro j u hu';rw[List.getElem?_map]at hu';obtain⟨j',hj',rfl⟩:=Option.map_eq_some_iff.1 hu';have hjl:j<(es.take n).flatten.length:=by have:=(List.getElem?_eq_some_iff.1 hj').1;simpa using this
    obtain rfl:j=j':=by have:=(List.getElem?_eq_some_iff.1 hj').2;rw[List.getElem_range]at this;exact this
    obtain⟨_,h3,_⟩:=hold j _ (List.getElem?_eq_getElem hjl);rw[Addr.add_lit,Nat.zero_add,cell_of_row w b _ cur e _ hcur];exact h3
   have hol:((List.range (es.take n).flatten.length).map fun k=>cur.getD k undef).length=n*i.size:=by simp[hfe,hsz]
   have hm63:n+xs.length<=maxLen:=by unfold maxLen;omega
   have hr:=run_append_grow (P:=G.P) w t ty e i z hu hi hz ⟨b,0,none⟩ n cap _ hol holds ⟨xb,xo,none⟩ xs.length xc _ hnl hnews (by omega) (by omega) (growslice_fits (by omega) (by rw[hbt];exact hbound));have hcap':=grownCap_ge w (n+xs.length) cap e;have hcm':=grownCap_le_maxLen w (n+xs.length) cap e hm63;generalize hcells:(((List.range (es.take n).flatten.length).map fun k=>cur.getD k undef).toArray++((List.range xs.flatten.length).map gx).toArray++Builtin.zeroCells z.cells (grownCap w (n+xs.length) cap e-(n+xs.length)))=cells at hr;have hcsz:cells.size=grownCap w (n+xs.length) cap e*S:=by
    rw[<-hcells];simp only[Array.size_append,List.size_toArray,List.length_map,List.length_range,hfe,hfx,size_zeroCells,hzs];rw[<-Nat.add_mul,<-Nat.add_mul];congr 1;omega
   have hnew:∀k,k<w.heap.size->(w.drew.alloc (.cells cells e)).heap[k]? =w.heap[k]? :=fun k hk=>Below.heap_alloc w.drew _ k hk;have hb':(w.drew.alloc (.cells cells e)).heap[w.heap.size]? =some (.cells cells e (0,0)):=heap_alloc_new w.drew _;have hkept:Kept w (Mo M0 β st) (w.drew.alloc (.cells cells e)) (Mo M0 (B' w.heap.size) (ST w.heap.size)):=by
    refine⟨fun b' o u hc hnm=> ?_,fun b' es2 c hc hnm=> ?_,Shp.old hnew⟩
    ·have hlt':b'<w.heap.size:=World.block_lt_of_cell? (a:=⟨b',o,none⟩) w hc;exact⟨by rw[World.cell?_of_block (w:=w) (a:=⟨b',o,none⟩) (hnew b' hlt')];exact hc,fun hm=>hnm (hMo _ _ _ hm (by omega))⟩
    ·have hlt':b'<w.heap.size:=(Array.getElem?_eq_some_iff.1 hc).1;exact⟨by rw[hnew b' hlt'];exact hc,fun hm=>hnm (hMo _ _ _ hm (by omega))⟩
   have hdomlt:∀k b,((look st.rows k).isSome\/(look st.toks k).isSome)->β k=some b->b<w.heap.size:=fun k b hd' hkb=>by
    rcases hd' with hd' | hd'
    ·obtain⟨⟨s',es'⟩,hl⟩:=Option.isSome_iff_exists.1 hd';exact h.mlt (o:=0) (.inr (.inl ⟨k,s',es',hl,hkb⟩))
    ·obtain⟨⟨s',n'⟩,hl⟩:=Option.isSome_iff_exists.1 hd';exact(h.toks k s' n' hl b hkb).2
   have hsim:=hgrow w.heap.size (w.drew.alloc (.cells cells e)) hkept ((h.below.drew).alloc _) (Shp.old hnew) (by simp)
    (fun k b' hkb _ hlk=>hnew b' (hdomlt k b' hlk hkb)) ⟨fun hp=>absurd (Nat.lt_of_lt_of_le (w0.lt _ hp) h.below.size) (Nat.lt_irrefl _),fun k _ hlk hkb=>absurd (hdomlt k _ hlk hkb) (Nat.lt_irrefl _)⟩ htok
    (mkRow _ _ cells w.heap.size hb' hkept (fun k hk'=>by
     rw[<-hcells,Array.getElem?_append_left (by simp[hfe];omega),Array.getElem?_append_left (by simp[hfe];omega)];simp[hfe,hk']) (fun k hk'=>by
     rw[<-hcells,Array.getElem?_append_left (by simp[hfe,hfx];omega),Array.getElem?_append_right (by simp[hfe])];simp[hfe,hfx,hk']))
   exact⟨_,_,_,hr,fun k _ hlk hkb=>absurd (hdomlt k _ hlk hkb) (Nat.lt_irrefl _),hsim,_,cells,rfl,hb',hcap',hcm',hcsz⟩
theorem appendG_run(hG:G.Ok)(h:Sim N w0 M0 β st a w){t e ty:TypeId}{sv xv:Value}{es xs:List (List IV)}{src dst n:Nat}(hdN:dst<N)
  (h0:(G.ti t).size≠0) (hk:(G.ti t).kind= .sl e) (h1:(G.ti e).size≠0) (hby:(G.ti e).bytes≠0) (hlx:∀c∈xs,c.length=(G.ti e).size)
  (hd:look st.rows src=some ((G.ti e).size,es)) (hn:n<=es.length) (hbound:(n+xs.length)*(G.ti e).bytes<=140737488355328)
  (hs:RepA w (Mo M0 β st) β st.toks (.gsl src e (G.ti e).size n) sv) (hx:Rep w (Mo M0 β st) (.sl xs) xv):
  ∃v' w' β',(Builtin.append_ #[t,t] ty #[sv,xv]).run G.P w= .ok v' w'/\Sim N w0 M0 β' (jbp st src dst (G.ti e).size (es.take n++xs)) a w'/\
   RepA w' (Mo M0 β' (jbp st src dst (G.ti e).size (es.take n++xs))) β' (jbp st src dst (G.ti e).size (es.take n++xs)).toks (.gsl dst e (G.ti e).size (n+xs.length)) v':=by
 obtain⟨v',w',X,h2,_,h3,cap,cur,rfl,h4,h5,h6,h7⟩:=jh6 (ty:=ty) hG h (fun _=>jbp st src dst (G.ti e).size (es.take n++xs)) (fun X=>upd β dst (some X)) (fun X b o=>Mo_growSt)
  (fun X w' g1 g2 g3 g4 g5 g6 g7 g8=>h.grow g1 g2 g3 g4 g5 ⟨g6.1,fun k hk _=>g6.2 k hk⟩ g7 hdN g8) h0 hk h1 hby hlx hd hn hbound hs hx
 exact⟨_,w',_,h2,h3,X,cap,cur,jaa _ _ _,rfl,h4,h5,h6,h7⟩
theorem appendH_run(hG:G.Ok)(h:Sim N w0 M0 β st a w){t e ty:TypeId}{sv xv:Value}{es xs:List (List IV)}{b n:Nat}
  (h0:(G.ti t).size≠0) (hk:(G.ti t).kind= .sl e) (h1:(G.ti e).size≠0) (hby:(G.ti e).bytes≠0) (hlx:∀c∈xs,c.length=(G.ti e).size)
  (hd:look st.rows (hp b)=some ((G.ti e).size,es)) (hn:n<=es.length) (hbound:(n+xs.length)*(G.ti e).bytes<=140737488355328)
  (hs:Rep w (Mo M0 β st) (.ref b e (G.ti e).size n) sv) (hx:Rep w (Mo M0 β st) (.sl xs) xv):
  ∃v' w' X,(Builtin.append_ #[t,t] ty #[sv,xv]).run G.P w= .ok v' w'/\look (del st.rows (hp b)) (hp X)=none/\Sim N w0 M0 β (jc1 st (hp b) X (G.ti e).size (es.take n++xs)) a w'/\
   Rep w' (Mo M0 β (jc1 st (hp b) X (G.ti e).size (es.take n++xs))) (.ref X e (G.ti e).size (n+xs.length)) v':=by
 have hs':RepA w (Mo M0 β st) β st.toks (.gsl (hp b) e (G.ti e).size n) sv:=by
  cases hs with
  | ref _ _ _ _ cap cur g1 g2 g3 g4=>exact⟨b,cap,cur,h.perm b,rfl,g1,g2,g3,g4⟩
 obtain⟨v',w',X,h2,hf,h3,cap,cur,rfl,h4,h5,h6,h7⟩:=jh6 (ty:=ty) hG h (fun X=>jc1 st (hp b) X (G.ti e).size (es.take n++xs)) (fun X=>β) (fun X b o=>Mo_growStH h.perm)
  (fun X w' g1 g2 g3 g4 g5 g6 g7 g8=>h.growH g1 g2 g3 g4 g5 g6 g7 g8) h0 hk h1 hby hlx hd hn hbound hs' hx
 refine⟨_,w',X,h2,?_,h3,.ref X e _ _ cap cur h4 h5 h6 h7⟩;by_cases e':hp X=hp b
 ·rw[e',ja2]
 ·rw[ja6 _ e'];cases hl:look st.rows (hp X)with
  | none=>rfl
  | some x=>exact absurd (h.perm X) (hf (hp X) e' (.inl (by simp[hl])))
