/- A part of the proof. No further condition. -/
import Derived.Test.YthahgoopboilkaaGreatKE30
set_option linter.all false
set_option maxRecDepth 10000000
set_option maxHeartbeats 16000000
namespace Go.Proofs.YthahgoopboilkaaGreat
section
open Go.Abs
open Go.LP (Rw RT tsum Sol S cf cfU)
attribute [local go_sem] ints ic big frac fc rwC tmC
def mcU(ws:List Rw)(y:Nat->Rat)(i k:Nat):Rat:=S i fun r=>match ws[r]? with
 | some w=>y r*cf w.ts k
 | none=>0
def mvU(ws:List Rw)(y:Nat->Rat)(i:Nat):Rat:=S i fun r=>match ws[r]? with
 | some w=>y r*w.val
 | none=>0
def mixU(f:Nat->Rat):Nat->List (Nat×Rat)
 | 0=>[]
 | v+1=>if f v=0 then mixU f v else mixU f v++[(v,f v)]
section
variable{N:Nat}{ws:List Rw}{y:Nat->Rat}
theorem jrr{i k:Nat}{w:Rw}(h:ws[i]? =some w):mcU ws y (i+1) k=mcU ws y i k+y i*cf w.ts k:=by
 show mcU ws y i k+(match ws[i]? with | some w=>y i*cf w.ts k | none=>0)=_;rw[h]
theorem jrm{i:Nat}{w:Rw}(h:ws[i]? =some w):mvU ws y (i+1)=mvU ws y i+y i*w.val:=by
 show mvU ws y i+(match ws[i]? with | some w=>y i*w.val | none=>0)=_;rw[h]
theorem cfU_fresh{ts:List (Nat×Rat)}{lo N j:Nat}{t:Nat×Rat}(h:RT ts lo N)(ht:ts[j]? =some t):cfU ts j t.1=0:=by
 have hj:=(zu.1 ht).1;rw[LP.cfU_take h j (by omega)];have hf:=h.fresh ht;generalize ts.take j=us at hf
 induction us with
 | nil=>rfl
 | cons u us ih=>
  rw[cf,zn (fun e=>hf u zN e.symm)];exact ih fun v hv=>hf v (zQ _ hv)
theorem jt0{ts:List (Nat×Rat)}{c:Nat}(hc:4<=c)(h:∀t∈ts,FL c t.2):∀j k,FL c (cfU ts j k)
 | 0,k=>(jb3 (n:=0) (by omega)).mono hc
 | j+1,k=>by
  rw[cfU];split
  ·rename_i t ht;split
   ·exact h t (zk ht)
   ·exact jt0 hc h j k
  ·exact jt0 hc h j k
theorem SysOk.row6(hs:SysOk N ws):∀w∈ws,FL 6 w.val/\∀t∈w.ts,FL 6 t.2:=fun w hw=>
 ⟨FL_ov (hs.ov w hw).1 (by decide) (by decide) (by decide),fun t ht=>FL_ov ((hs.ov w hw).2 t ht) (by decide) (by decide) (by decide)⟩
variable{A:Nat}
theorem jsy(hs:SysOk N ws)(hy:∀j,FL A (y j))(k:Nat):∀i,FL (4+i*(A+7)) (mcU ws y i k)
 | 0=>(jb3 (n:=0) (by omega)).mono (by omega)
 | i+1=>by
  have ih:=jsy hs hy k i;have e1:(i+1)*(A+7)=i*(A+7)+(A+7):=yB i (A+7);cases hw:ws[i]? with
  | none=>
   have:mcU ws y (i+1) k=mcU ws y i k+0:=by
    show mcU ws y i k+(match ws[i]? with | some w=>y i*cf w.ts k | none=>0)=_;rw[hw]
   rw[this,yI];exact ih.mono (by omega)
  | some w=>
   rw[jrr hw];have hw6:=(hs.row6 w (zk hw)).2;have hc:FL 6 (cf w.ts k):=by rw[<-LP.cfU_all (hs.ok w (zk hw)).ts];exact jt0 (by omega) hw6 _ _
   exact(jfc ih (jh4 (hy i) hc)).mono (by omega)
theorem FL_mvU(hs:SysOk N ws)(hy:∀j,FL A (y j)):∀i,FL (4+i*(A+7)) (mvU ws y i)
 | 0=>(jb3 (n:=0) (by omega)).mono (by omega)
 | i+1=>by
  have ih:=FL_mvU hs hy i;have e1:(i+1)*(A+7)=i*(A+7)+(A+7):=yB i (A+7);cases hw:ws[i]? with
  | none=>
   have:mvU ws y (i+1)=mvU ws y i+0:=by
    show mvU ws y i+(match ws[i]? with | some w=>y i*w.val | none=>0)=_;rw[hw]
   rw[this,yI];exact ih.mono (by omega)
  | some w=>
   rw[jrm hw];exact(jfc ih (jh4 (hy i) (hs.row6 w (zk hw)).1)).mono (by omega)
theorem joe{f:Nat->Rat}:∀v,RT (mixU f v) 0 v
 | 0=>trivial
 | v+1=>by
  rw[mixU];split
  ·exact RT_up (joe v) (by omega)
  ·rename_i h;exact jod (joe v) (zE _) (zB _) (qE _) h
theorem jnq{f:Nat->Rat}:∀v,(mixU f v).length<=v
 | 0=>zB _
 | v+1=>by
  have:=jnq (f:=f) v;rw[mixU];split
  ·omega
  ·rw[zH,List.length_singleton];omega
theorem jqp{f:Nat->Rat}{k:Nat}:∀v,cf (mixU f v) k=if k<v then f k else 0
 | 0=>by rw[zn (yC k)];rfl
 | v+1=>by
  have ih:=jqp (f:=f) (k:=k) v;rw[mixU];by_cases h:f v=0
  ·rw[zm h,ih];by_cases e:k=v
   ·subst e;rw[zn (qO k),zm (qE k),h]
   ·by_cases hk:k<v
    ·rw[zm hk,zm (by omega)]
    ·rw[zn hk,zn (by omega)]
  ·rw[zn h,LP.cf_snoc fun u hu=>by have:=(joe (f:=f) v).mem u hu;omega,ih];by_cases e:k=v
   ·subst e;rw[zm rfl,zm (qE k)]
   ·rw[zn e];by_cases hk:k<v
    ·rw[zm hk,zm (by omega)]
    ·rw[zn hk,zn (by omega)]
theorem jnp{f:Nat->Rat}:∀{v:Nat} {t:Nat×Rat},t∈mixU f v->t.2=f t.1
 | 0,_,h=>by cases h
 | v+1,t,h=>by
  rw[mixU]at h;split at h
  ·exact jnp h
  ·rcases qu.1 h with h | h
   ·exact jnp h
   ·rw[zF.1 h]
def zq4:List IV:=[.int 0,.sl [],.int 0,.sl []]
def fillQ(N i:Nat):List (List IV):=tab N fun k=>if k<i then qc ((0:Int):Rat)else zq4
theorem fillQ_full(N:Nat):fillQ N N=tab N fun k=>qc (mcU ws y 0 k):=jak fun k hk=>by rw[zm hk];rfl
theorem fillQ_zero(N:Nat):fillQ N 0=List.replicate N [.int 0,.sl [],.int 0,.sl []]:=by
 unfold fillQ;rw[ji1];exact jak fun k _=>by rw[zn (yC k)];rfl
theorem fillQ_set{N i:Nat}:(fillQ N i).set i (fc ((0:Int):Rat))=fillQ N (i+1):=by
 unfold fillQ;rw[jkh];refine jak fun k _=> ?_;by_cases e:k=i
 ·subst e;rw[zm rfl,zm (qE k)];rfl
 ·rw[zn e];by_cases h:k<i
  ·rw[zm h,zm (by omega)]
  ·rw[zn h,zn (by omega)]
theorem fillQ_len(N i:Nat):(fillQ N i).length=N:=ja6
theorem d_mix1(hs:SysOk N ws){Y:List Raw}(hk:RawL 50000000000 Y)(hl:Y.length=ws.length)(hR:Y.all rwR=true)(hy:Y.map Raw.c=tab ws.length fun j=>qc (y j))(hA:A<=10000000)(hf:∀j,FL A (y j)):
  Ctr G.P 190 [.agg [.int N,.sl (ws.map rwC)],.sl (Y.map Raw.c)] (· = .tup [.sl ((mixU (mcU ws y ws.length) N).map tmC),frac (mvU ws y ws.length)]):=by
 have hlen:=hs.len;have hN:=hs.n;have km:=d_mult (Y:=Y) hs (by omega) hk;rw[za hl,hR,Bool.and_self]at km;rw[hy]at km⊢;have o1:=jbt 0 (by omega);simp only[frac,ints]at o1;have hb:∀i,i<=900->4+i*(A+7)<=9100000000:=fun i hi=>by
  have:i*(A+7)<=900*10000007:=qL hi (by omega);omega
 refine ja5 [.tmp 4,.cell 5 35] Tryz.func190 ?_;simp only[go_sem];refine ja1 km ?_;simp only[ja6,zW,go_sem];refine And.intro (by omega) ?_;refine jal [1,2,5,6,24,25,26] [23,2,5] (fun i:Nat=>⟨[(1,.im (.sl (tab ws.length fun j=>qc (y j)))),(2,.loc 2 2 0 0),(5,.loc 5 4 0 0),(6,.gsl 23 35 4 N),(24,.gsl 23 35 4 N),(25,.im (.int N)),(26,.im (.int i))],
   [(23,4,fillQ N i),(5,4,[[.int 0,.sl [],.int 0,.sl []]]),(2,2,[[.int N,.sl (ws.map rwC)]])],[]⟩) (fun i=>i<=N) (fun i=>N-i) 0 ?_ (zE _) ?_
 ·simp only[Int.natCast_zero,fillQ_zero,go_sem]
 intro i hi;by_cases hp':(i:Int)<N
 ·have hdl:decide ((i:Int)<N)=true:=za hp';have h1:=ja9 (n:=(i:Int)+1) (by omega);have hi0:(0:Int)<=i:=by omega
  have hgz:(fillQ N i)[i]? =some [.int 0,.sl [],.int 0,.sl []]:=by unfold fillQ;rw[jfm (by omega),zn (qO i)];rfl
  have hset:=fillQ_set (N:=N) (i:=i);simp only[fc]at hset;simp only[hdl,go_sem];refine ja1 o1 ?_;simp only[hp',hi0,hgz,Int.toNat_natCast,fillQ_len,hset,go_sem];refine jab (i+1) ?_ (by omega) (by omega);simp only[h1,Int.natCast_add,go_sem]
 have hdl:decide ((i:Int)<N)=false:=zq hp';have e1:i=N:=by omega
 rw[e1,fillQ_full (ws:=ws) (y:=y)];rw[e1]at hdl;clear e1 hp' hi;simp only[hdl,go_sem];refine ja1 o1 ?_;simp only[ja6,go_sem];clear hdl o1 km;refine jal [2,5,6,8,35,36,37] [23,8,2,5] (fun i:Nat=>⟨[(2,.loc 2 2 0 0),(5,.loc 5 4 0 0),(6,.gsl 23 35 4 N),(8,.loc 8 4 0 0),(35,.im (.sl (tab ws.length fun j=>qc (y j)))),(36,.im (.int ws.length)),(37,.im (.int i))],
   [(8,4,[fc (mvU ws y i)]),(23,4,tab N fun k=>qc (mcU ws y i k)),(5,4,[[.int 0,.sl [],.int 0,.sl []]]),(2,2,[[.int N,.sl (ws.map rwC)]])],[]⟩) (fun i=>i<=ws.length) (fun i=>ws.length-i) 0 ?_ (zE _) ?_
 ·have e0:mvU ws y 0=((0:Int):Rat):=rfl;simp only[Int.natCast_zero,e0,go_sem]
 intro i hi;by_cases hp':(i:Int)<ws.length
 ·have hdl:decide ((i:Int)<ws.length)=true:=za hp';obtain⟨w,hw⟩:=jby hp';have h1:=ja9 (n:=(i:Int)+1) (by omega);have hi0:(0:Int)<=i:=by omega
  have hil:i<ws.length:=by omega
  have hg:=qget (f:=y) hil;have hgw:=rget hw;have ks:=jgl ((hf i).mono (by omega:A<=19000000000));have hwm:=zk hw;have hw6:=hs.row6 w hwm;have hrt:=(hs.ok w hwm).ts;have hwl:=(hs.row w hwm).1;have hbi:=hb i (by omega);have hsv:mvU ws y (i+1)=mvU ws y i+y i*w.val:=jrm hw;have hsc:∀k,mcU ws y (i+1) k=mcU ws y i k+y i*cf w.ts k:=fun k=>jrr hw;simp only[frac,ints]at ks;simp only[fc]at hg;by_cases hy0:y i=0
  ·have ds:decide ((y i).num.sign=0)=true:=za (sign_zero.2 hy0);have e1:mvU ws y (i+1)=mvU ws y i:=by rw[hsv,hy0];grind
   have e2:(tab N fun k=>qc (mcU ws y (i+1) k))=tab N fun k=>qc (mcU ws y i k):=jak fun k _=>by rw[hsc,hy0];congr 1;grind
   simp only[hdl,hp',hi0,hg,Int.toNat_natCast,ja6,go_sem];refine ja1 ks ?_;simp only[ds,go_sem];refine jab (i+1) ?_ (by omega) (by omega);simp only[h1,Int.natCast_add,e1,e2,go_sem]
  have ds:decide ((y i).num.sign=0)=false:=zq fun h=>hy0 (sign_zero.1 h);simp only[hdl,hp',hi0,hg,Int.toNat_natCast,ja6,go_sem];refine ja1 ks ?_;simp only[ds,hp',hi0,hgw,Int.toNat_natCast,zw,go_sem];have e0:(tab N fun k=>qc (mcU ws y i k))=tab N fun k=>qc (mcU ws y i k+y i*cfU w.ts 0 k):=jak fun k _=>by
   congr 1;rw[show cfU w.ts 0 k=0 from rfl,Rat.mul_zero,yI]
  rw[e0];refine jal [2,5,6,8,9,10,35,36,37,50,51,52] [23,8,10,2,5] (fun j:Nat=>⟨[(2,.loc 2 2 0 0),(5,.loc 5 4 0 0),(6,.gsl 23 35 4 N),(8,.loc 8 4 0 0),(9,.im (.int i)),(10,.loc 10 4 0 0),(35,.im (.sl (tab ws.length fun j=>qc (y j)))),(36,.im (.int ws.length)),(37,.im (.int i)),(50,.im (.sl (w.ts.map tmC))),(51,.im (.int w.ts.length)),(52,.im (.int j))],
    [(10,4,[fc (y i)]),(8,4,[fc (mvU ws y i)]),(23,4,tab N fun k=>qc (mcU ws y i k+y i*cfU w.ts j k)),(5,4,[[.int 0,.sl [],.int 0,.sl []]]),(2,2,[[.int N,.sl (ws.map rwC)]])],[]⟩) (fun j=>j<=w.ts.length) (fun j=>w.ts.length-j) 0 ?_ (zE _) ?_
  ·simp only[Int.natCast_zero,go_sem]
  intro j hj;by_cases hq':(j:Int)<w.ts.length
  ·have hql:decide ((j:Int)<w.ts.length)=true:=za hq';obtain⟨t,ht⟩:=jby hq';have h2:=ja9 (n:=(j:Int)+1) (by omega);have hj0:(0:Int)<=j:=by omega
   have hgt:=tget ht;have htN:=(jm1 hrt ht).2.1;have hv0:(0:Int)<=t.1:=by omega
   have hvN:(t.1:Int)<N:=by omega
   have hgr:=qget (f:=fun k=>mcU ws y i k+y i*cfU w.ts j k) htN;have ht6:=hw6.2 t (zk ht);have hF:FL (4+i*(A+7)+(A+6)+1) (mcU ws y i t.1+y i*cfU w.ts j t.1):=jfc (jsy hs hf t.1 i) (jh4 (hf i) (jt0 (by omega) hw6.2 j t.1));have ka:=d_add hF (hf i) ht6 (by omega);have e3:mcU ws y i t.1+y i*cfU w.ts j t.1+y i*t.2=mcU ws y i t.1+y i*cfU w.ts (j+1) t.1:=by
    rw[LP.cfU_succ ht,zm rfl,cfU_fresh hrt ht];grind
   rw[e3]at ka;have hset:(tab N fun k=>qc (mcU ws y i k+y i*cfU w.ts j k)).set t.1 (fc (mcU ws y i t.1+y i*cfU w.ts (j+1) t.1))=tab N fun k=>qc (mcU ws y i k+y i*cfU w.ts (j+1) k):=by
    rw[qset];refine jak fun k _=> ?_;congr 1;by_cases e:k=t.1
    ·rw[zm e,e]
    ·rw[zn e,LP.cfU_succ ht,zn e]
   generalize mcU ws y i t.1+y i*cfU w.ts (j+1) t.1=X at*;generalize mcU ws y i t.1+y i*cfU w.ts j t.1=X0 at*;simp only[frac,ints,fc]at ka hset hgr hgt;simp only[hql,hq',hj0,hgt,Int.toNat_natCast,zw,go_sem];refine jaf ?_;simp only[hv0,hvN,hgr,Int.toNat_natCast,ja6,go_sem];refine ja4 ka (by decide) ?_;simp only[hv0,hvN,hgr,Int.toNat_natCast,ja6,hset,go_sem];refine jab (j+1) ?_ (by omega) (by omega);simp only[h2,Int.natCast_add,go_sem]
  have hql:decide ((j:Int)<w.ts.length)=false:=zq hq';have e4:j=w.ts.length:=by omega
  have e5:(tab N fun k=>qc (mcU ws y i k+y i*cfU w.ts j k))=tab N fun k=>qc (mcU ws y (i+1) k):=jak fun k _=>by
   rw[e4,LP.cfU_all hrt,hsc]
  have kv:=d_add (FL_mvU hs hf i) (hf i) hw6.1 (by omega);rw[<-hsv]at kv;rw[e5];simp only[frac,ints]at kv;simp only[hql,go_sem];refine jaf ?_;simp only[hp',hi0,hgw,Int.toNat_natCast,zw,go_sem];refine ja4 kv (by decide) ?_;simp only[hp',hi0,hgw,Int.toNat_natCast,zw,go_sem];refine jab (i+1) ?_ (by omega) (by omega);simp only[h1,Int.natCast_add,go_sem]
 have hdl:decide ((i:Int)<ws.length)=false:=zq hp';have e1:i=ws.length:=by omega
 rw[e1];rw[e1]at hdl;clear hi hp' e1;simp only[hdl,go_sem];obtain⟨f,hfe⟩:∃f,mcU ws y ws.length=f:=⟨_,rfl⟩;rw[show(tab N fun k=>qc (mcU ws y ws.length k))=tab N fun k=>qc (f k)by rw[hfe],hfe];have hff:∀k,FL 19000000000 (f k):=fun k=>by
  rw[<-hfe];exact(jsy hs hf k ws.length).mono (qn (hb _ (by omega)) (by omega))
 clear hfe;generalize mvU ws y ws.length=vv at*;refine jh3 [5,8,13,80,81,82] [23,8,5,95] [(13,95,155,5)] (fun v:Nat=>⟨[(5,.loc 5 4 0 0),(8,.loc 8 4 0 0),(13,.vec 95 155 5 ((mixU f v).map tmC)),(80,.gsl 23 35 4 N),(81,.im (.int N)),(82,.im (.int v))],
   [(8,4,[fc vv]),(23,4,tab N fun k=>qc (f k)),(5,4,[[.int 0,.sl [],.int 0,.sl []]])],[(95,5,(mixU f v).length)]⟩) (fun v=>v<=N) (fun v=>N-v) 0 ?_ ?_ (zE _) ?_
 ·simp only[go_sem];exact fun c hc=>by cases hc
 ·simp only[Int.natCast_zero,mixU,zC,List.length_nil,go_sem]
 intro v hv;by_cases hp':(v:Int)<N
 ·have hdl:decide ((v:Int)<N)=true:=za hp';have h1:=ja9 (n:=(v:Int)+1) (by omega);have hv0:(0:Int)<=v:=by omega
  have hgr:=qget (f:=f) (show v<N by omega);have ks:=jgl (hff v);simp only[frac,ints]at ks;simp only[fc]at hgr;have hml:=jnq (f:=f) v;by_cases hz:f v=0
  ·have ds:decide ((f v).num.sign=0)=true:=za (sign_zero.2 hz);have e1:mixU f (v+1)=mixU f v:=by rw[mixU,zm hz]
   simp only[hdl,hp',hv0,hgr,Int.toNat_natCast,ja6,go_sem];refine ja1 ks ?_;simp only[ds,go_sem];refine jab (v+1) ?_ (by omega) (by omega);simp only[h1,Int.natCast_add,e1,go_sem]
  ·have ds:decide ((f v).num.sign=0)=false:=zq fun h=>hz (sign_zero.1 h);have e1:mixU f (v+1)=mixU f v++[(v,f v)]:=by rw[mixU,zn hz]
   have e2:(mixU f v++[(v,f v)]).map tmC=(mixU f v).map tmC++[tmC (v,f v)]:=by rw[qW];rfl
   simp only[tmC,fc,List.cons_append,List.nil_append]at e2;simp only[hdl,hp',hv0,hgr,Int.toNat_natCast,ja6,go_sem];refine ja1 ks ?_;simp only[ds,zw,go_sem];refine⟨fun c hc=>tmC_len _ c hc,fun c hc=>(by rw[zF.1 hc];rfl),by omega,?_⟩;refine jab (v+1) ?_ (by omega) (by omega);simp only[h1,Int.natCast_add,e1,e2,zH,List.length_cons,List.length_nil,go_sem]
 have hdl:decide ((v:Int)<N)=false:=zq hp';have e1:v=N:=by omega
 rw[e1];rw[e1]at hdl;simp only[hdl,go_sem];refine jaf ?_;simp only[go_sem]
end
end
section
open Go.Abs
open Go.LP (Rw RT tsum Sol S cf cfU)
attribute [local go_sem] ints ic big frac fc rwC tmC
def jbs:List (Nat×Rat)->List (Nat×Rat)->Bool
 | [],[]=>true
 | u::a,[]=>decide (u.2<=0)&&jbs a []
 | [],v::b=>decide (0<=v.2)&&jbs [] b
 | u::a,v::b=>if u.1<v.1 then decide (u.2<=0)&&jbs a (v::b)else if v.1<u.1 then decide (0<=v.2)&&jbs (u::a) b else decide (u.2<=v.2)&&jbs a b
 termination_by a b=>a.length+b.length
theorem jjo(a:List (Nat×Rat)):((a.map tmC).all fun c=>c.length==5)=true:=List.all_eq_true.2 fun c hc=>by rw[tmC_len a c hc];rfl
def SBw(z:Rat)(A B:List (List IV))(g:Nat×Nat):St:=⟨[(0,.im (.sl A)),(1,.im (.sl B)),(5,.loc 5 4 0 0),(6,.loc (hp g.1) 4 0 0),(7,.loc (hp g.2) 4 0 0)],[(hp g.1,4,[fc z]),(hp g.2,4,[fc z]),(5,4,[fc z])],[]⟩
def jf8:Code->Code
 | .loop c=>c
 | .seq (.loop c) _=>c
 | .seq (.block _ c) _=>jf8 c
 | .seq _ b=>jf8 b
 | .block _ c=>jf8 c
 | c=>c
theorem ji9{G:Ctx}{fn:Func}{c:Code}(hb:fn.body=some c){Q:Exit->St->Prop}{st:St}(h:awp G (jf8 c) Q st):awp G (jf8 (jbm fn)) Q st:=by
 unfold jbm;rw[hb];exact h
theorem d_b2{z:Rat}(hz:FL 19000000000 z)(v:Nat×Rat)(b:List (Nat×Rat))(hv:FL 19000000000 v.2)(lb:(v::b).length<=100000){Q:Exit->St->Prop}
  (hn:∀s:St,[0,1,5].map (fun t=>(t,s.get t))=[(0,.im (.sl (([]).map tmC))),(1,.im (.sl ((b).map tmC))),(5,.loc 5 4 0 0)]->SubR [(5,4,[fc z])] s.rows->z<=v.2->Q .normal s)
  (hr:∀s:St,Abs.look s.fr 4=some (.im (.bool false))->v.2<z->Q .ret s):
  awp (GH [6,7] []) (jf8 (jbm Tryz.f191)) Q ⟨[(0,.im (.sl (([]).map tmC))),(1,.im (.sl ((v::b).map tmC))),(5,.loc 5 4 0 0)],[(5,4,[fc z])],[]⟩:=by
 refine ji9 rfl ?_;have e1:decide ((0:Int)<((b.length+1:Nat):Int))=true:=za (by omega);have e2:decide (((b.length+1:Nat):Int)=0)=false:=zq (by omega);have e3:(0:Int)<((b.length+1:Nat):Int):=by omega
 have e4:(1:Int)<=((b.length+1:Nat):Int):=by omega
 have e5:=jjo (v::b);have e6:List.take b.length (b.map tmC)=b.map tmC:=zt (by rw[zw];exact zB _);simp only[zl,tmC,fc,List.cons_append,List.nil_append]at e5;have kc:=f_cmp hz hv;simp only[frac,ints]at kc;simp only[jf8,e1,e2,e3,e4,e5,e6,zC,List.length_nil,zl,List.length_cons,zw,List.getElem?_cons_zero,zO,zX,zV,Int.toNat_natCast,qj,go_sem];refine jiv (SBw z [] (tmC v::b.map tmC)) (fun g=>¬g.1=g.2) ?_ ?_
 ·refine jiu [false,false,true,true,true,true] (.alt 2 (.alt 3 (.alt 4 (.alt 5 .fin .none) .none) .none) (.alt 3 (.alt 2 (.alt 4 (.alt 5 .fin .none) .none) .none) .none)) [(5,4,[fc z])] (by decide+kernel) (jag rfl jad) ?_;simp only[go_sem];refine And.intro ?_ ?_
  ·refine jce (fun X hX=>And.intro (jag (by rw[ja0 _ _ (hp_ne (by decide))];rfl) jad) ?_);simp only[go_sem];refine jce (fun Y hY=>And.intro (jag (by rw[ja0 _ _ (hp_ne (by decide)),ja0 _ _ (hp_ne (by decide))];rfl) jad) ?_);have hXY:¬X=Y:=fun e=>by rw[e,ja2]at hY;cases hY
   simp only[hXY,zD hXY,go_sem];refine And.intro (jag (by rw[ja0 _ _ (hp_ne (by decide)),ja0 _ _ (hp_ne (by decide))];rfl) jad) (And.intro (jag (by rw[ja0 _ _ (hp_ne (by decide)),ja0 _ _ (hp_ne (by decide))];rfl) jad) ?_);refine jef (X,Y) hXY ?_ ?_ rfl
   ·simp only[SBw,go_sem]
   ·exact jag ((ja0 _ _ (hpne hXY)).trans (ja2 _ _ _)) (jag (ja2 _ _ _) (jag (by rw[ja0 _ _ (hp_ne (by decide)),ja0 _ _ (hp_ne (by decide))];rfl) jad))
  ·refine jce (fun Y hY=>And.intro (jag (by rw[ja0 _ _ (hp_ne (by decide))];rfl) jad) ?_);simp only[go_sem];refine jce (fun X hX=>And.intro (jag (by rw[ja0 _ _ (hp_ne (by decide)),ja0 _ _ (hp_ne (by decide))];rfl) jad) ?_);have hXY:¬X=Y:=fun e=>by rw[<-e,ja2]at hX;cases hX
   simp only[hXY,zD hXY,go_sem];refine And.intro (jag (by rw[ja0 _ _ (hp_ne (by decide)),ja0 _ _ (hp_ne (by decide))];rfl) jad) (And.intro (jag (by rw[ja0 _ _ (hp_ne (by decide)),ja0 _ _ (hp_ne (by decide))];rfl) jad) ?_);refine jef (X,Y) hXY ?_ ?_ rfl
   ·simp only[SBw,go_sem]
   ·exact jag (ja2 _ _ _) (jag ((ja0 _ _ (hpne (zD hXY))).trans (ja2 _ _ _)) (jag (by rw[ja0 _ _ (hp_ne (by decide)),ja0 _ _ (hp_ne (by decide))];rfl) jad))
 rintro⟨X,Y⟩ hXY;dsimp only at hXY;unfold SBw;simp only[hXY,zD hXY,e1,e2,e3,e4,e5,e6,zC,List.length_nil,zl,List.length_cons,zw,List.getElem?_cons_zero,zO,zX,zV,Int.toNat_natCast,qj,go_sem];refine jac 20 ?_;simp only[hXY,zD hXY,e1,e2,e3,e4,e5,e6,zC,List.length_nil,zl,List.length_cons,zw,List.getElem?_cons_zero,zO,zX,zV,Int.toNat_natCast,qj,go_sem];refine jac 20 ?_;simp only[hXY,zD hXY,e1,e2,e3,e4,e5,e6,zC,List.length_nil,zl,List.length_cons,zw,List.getElem?_cons_zero,zO,zX,zV,Int.toNat_natCast,qj,go_sem];refine jaf ?_;simp only[hXY,zD hXY,e1,e2,e3,e4,e5,e6,zC,List.length_nil,zl,List.length_cons,zw,List.getElem?_cons_zero,zO,zX,zV,Int.toNat_natCast,qj,go_sem];refine ja1 kc ?_;rcases dc:decide (0<cmpR z v.2)with _ | _
 ·simp only[dc,go_sem];refine hn _ ?_ (jag ?_ jad) (yH.1 fun h=>zJ dc (cmpR_pos.2 h))
  ·simp only[hXY,zD hXY,e1,e2,e3,e4,e5,e6,zC,List.length_nil,zl,List.length_cons,zw,List.getElem?_cons_zero,zO,zX,zV,Int.toNat_natCast,qj,go_sem]
  ·dsimp only;simp only[zn hXY,zn (zD hXY)];rw[ja0 _ _ (hp_ne (by decide)),ja0 _ _ (hp_ne (by decide))];rfl
 ·simp only[dc,go_sem];refine hr _ ?_ (cmpR_pos.1 (zI dc));simp only[go_sem]
theorem d_b3{z:Rat}(hz:FL 19000000000 z)(u:Nat×Rat)(a:List (Nat×Rat))(hu:FL 19000000000 u.2)(la:(u::a).length<=100000){Q:Exit->St->Prop}
  (hn:∀s:St,[0,1,5].map (fun t=>(t,s.get t))=[(0,.im (.sl ((a).map tmC))),(1,.im (.sl (([]).map tmC))),(5,.loc 5 4 0 0)]->SubR [(5,4,[fc z])] s.rows->u.2<=z->Q .normal s)
  (hr:∀s:St,Abs.look s.fr 4=some (.im (.bool false))->z<u.2->Q .ret s):
  awp (GH [6,7] []) (jf8 (jbm Tryz.f191)) Q ⟨[(0,.im (.sl ((u::a).map tmC))),(1,.im (.sl (([]).map tmC))),(5,.loc 5 4 0 0)],[(5,4,[fc z])],[]⟩:=by
 refine ji9 rfl ?_;have f1:decide ((0:Int)<((a.length+1:Nat):Int))=true:=za (by omega);have f2:decide (((a.length+1:Nat):Int)=0)=false:=zq (by omega);have f3:(0:Int)<((a.length+1:Nat):Int):=by omega
 have f4:(1:Int)<=((a.length+1:Nat):Int):=by omega
 have f5:=jjo (u::a);have f6:List.take a.length (a.map tmC)=a.map tmC:=zt (by rw[zw];exact zB _);simp only[zl,tmC,fc,List.cons_append,List.nil_append]at f5;have kc:=f_cmp hu hz;simp only[frac,ints]at kc;simp only[jf8,f1,f2,f3,f4,f5,f6,zC,List.length_nil,zl,List.length_cons,zw,List.getElem?_cons_zero,zO,zX,zV,Int.toNat_natCast,qj,go_sem];refine jiv (SBw z (tmC u::a.map tmC) []) (fun g=>¬g.1=g.2) ?_ ?_
 ·refine jiu [false,false,true,true,true,true] (.alt 2 (.alt 3 (.alt 4 (.alt 5 .fin .none) .none) .none) (.alt 3 (.alt 2 (.alt 4 (.alt 5 .fin .none) .none) .none) .none)) [(5,4,[fc z])] (by decide+kernel) (jag rfl jad) ?_;simp only[go_sem];refine And.intro ?_ ?_
  ·refine jce (fun X hX=>And.intro (jag (by rw[ja0 _ _ (hp_ne (by decide))];rfl) jad) ?_);simp only[go_sem];refine jce (fun Y hY=>And.intro (jag (by rw[ja0 _ _ (hp_ne (by decide)),ja0 _ _ (hp_ne (by decide))];rfl) jad) ?_);have hXY:¬X=Y:=fun e=>by rw[e,ja2]at hY;cases hY
   simp only[hXY,zD hXY,go_sem];refine And.intro (jag (by rw[ja0 _ _ (hp_ne (by decide)),ja0 _ _ (hp_ne (by decide))];rfl) jad) (And.intro (jag (by rw[ja0 _ _ (hp_ne (by decide)),ja0 _ _ (hp_ne (by decide))];rfl) jad) ?_);refine jef (X,Y) hXY ?_ ?_ rfl
   ·simp only[SBw,go_sem]
   ·exact jag ((ja0 _ _ (hpne hXY)).trans (ja2 _ _ _)) (jag (ja2 _ _ _) (jag (by rw[ja0 _ _ (hp_ne (by decide)),ja0 _ _ (hp_ne (by decide))];rfl) jad))
  ·refine jce (fun Y hY=>And.intro (jag (by rw[ja0 _ _ (hp_ne (by decide))];rfl) jad) ?_);simp only[go_sem];refine jce (fun X hX=>And.intro (jag (by rw[ja0 _ _ (hp_ne (by decide)),ja0 _ _ (hp_ne (by decide))];rfl) jad) ?_);have hXY:¬X=Y:=fun e=>by rw[<-e,ja2]at hX;cases hX
   simp only[hXY,zD hXY,go_sem];refine And.intro (jag (by rw[ja0 _ _ (hp_ne (by decide)),ja0 _ _ (hp_ne (by decide))];rfl) jad) (And.intro (jag (by rw[ja0 _ _ (hp_ne (by decide)),ja0 _ _ (hp_ne (by decide))];rfl) jad) ?_);refine jef (X,Y) hXY ?_ ?_ rfl
   ·simp only[SBw,go_sem]
   ·exact jag (ja2 _ _ _) (jag ((ja0 _ _ (hpne (zD hXY))).trans (ja2 _ _ _)) (jag (by rw[ja0 _ _ (hp_ne (by decide)),ja0 _ _ (hp_ne (by decide))];rfl) jad))
 rintro⟨X,Y⟩ hXY;dsimp only at hXY;unfold SBw;simp only[hXY,zD hXY,f1,f2,f3,f4,f5,f6,zC,List.length_nil,zl,List.length_cons,zw,List.getElem?_cons_zero,zO,zX,zV,Int.toNat_natCast,qj,go_sem];refine jac 20 ?_;simp only[hXY,zD hXY,f1,f2,f3,f4,f5,f6,zC,List.length_nil,zl,List.length_cons,zw,List.getElem?_cons_zero,zO,zX,zV,Int.toNat_natCast,qj,go_sem];refine jac 20 ?_;simp only[hXY,zD hXY,f1,f2,f3,f4,f5,f6,zC,List.length_nil,zl,List.length_cons,zw,List.getElem?_cons_zero,zO,zX,zV,Int.toNat_natCast,qj,go_sem];refine jaf ?_;simp only[hXY,zD hXY,f1,f2,f3,f4,f5,f6,zC,List.length_nil,zl,List.length_cons,zw,List.getElem?_cons_zero,zO,zX,zV,Int.toNat_natCast,qj,go_sem];refine ja1 kc ?_;rcases dc:decide (0<cmpR u.2 z)with _ | _
 ·simp only[dc,go_sem];refine hn _ ?_ (jag ?_ jad) (yH.1 fun h=>zJ dc (cmpR_pos.2 h))
  ·simp only[hXY,zD hXY,f1,f2,f3,f4,f5,f6,zC,List.length_nil,zl,List.length_cons,zw,List.getElem?_cons_zero,zO,zX,zV,Int.toNat_natCast,qj,go_sem]
  ·dsimp only;simp only[zn hXY,zn (zD hXY)];rw[ja0 _ _ (hp_ne (by decide)),ja0 _ _ (hp_ne (by decide))];rfl
 ·simp only[dc,go_sem];refine hr _ ?_ (cmpR_pos.1 (zI dc));simp only[go_sem]
theorem d_b4{z:Rat}(hz:FL 19000000000 z)(u:Nat×Rat)(a:List (Nat×Rat))(hu:FL 19000000000 u.2)(la:(u::a).length<=100000)(v:Nat×Rat)(b:List (Nat×Rat))(hv:FL 19000000000 v.2)(lb:(v::b).length<=100000)(hc:u.1<v.1){Q:Exit->St->Prop}
  (hn:∀s:St,[0,1,5].map (fun t=>(t,s.get t))=[(0,.im (.sl ((a).map tmC))),(1,.im (.sl ((v::b).map tmC))),(5,.loc 5 4 0 0)]->SubR [(5,4,[fc z])] s.rows->u.2<=z->Q .normal s)
  (hr:∀s:St,Abs.look s.fr 4=some (.im (.bool false))->z<u.2->Q .ret s):
  awp (GH [6,7] []) (jf8 (jbm Tryz.f191)) Q ⟨[(0,.im (.sl ((u::a).map tmC))),(1,.im (.sl ((v::b).map tmC))),(5,.loc 5 4 0 0)],[(5,4,[fc z])],[]⟩:=by
 refine ji9 rfl ?_;have e1:decide ((0:Int)<((b.length+1:Nat):Int))=true:=za (by omega);have e2:decide (((b.length+1:Nat):Int)=0)=false:=zq (by omega);have e3:(0:Int)<((b.length+1:Nat):Int):=by omega
 have e4:(1:Int)<=((b.length+1:Nat):Int):=by omega
 have e5:=jjo (v::b);have e6:List.take b.length (b.map tmC)=b.map tmC:=zt (by rw[zw];exact zB _);simp only[zl,tmC,fc,List.cons_append,List.nil_append]at e5;have f1:decide ((0:Int)<((a.length+1:Nat):Int))=true:=za (by omega);have f2:decide (((a.length+1:Nat):Int)=0)=false:=zq (by omega);have f3:(0:Int)<((a.length+1:Nat):Int):=by omega
 have f4:(1:Int)<=((a.length+1:Nat):Int):=by omega
 have f5:=jjo (u::a);have f6:List.take a.length (a.map tmC)=a.map tmC:=zt (by rw[zw];exact zB _);simp only[zl,tmC,fc,List.cons_append,List.nil_append]at f5;have g1:decide ((u.1:Int)<=v.1)=true:=za (by omega);have g2:decide ((v.1:Int)<=u.1)=false:=zq (by omega);have kc:=f_cmp hu hz;simp only[frac,ints]at kc;simp only[jf8,g1,g2,e1,e2,e3,e4,e5,e6,f1,f2,f3,f4,f5,f6,zC,List.length_nil,zl,List.length_cons,zw,List.getElem?_cons_zero,zO,zX,zV,Int.toNat_natCast,qj,go_sem];refine jiv (SBw z (tmC u::a.map tmC) (tmC v::b.map tmC)) (fun g=>¬g.1=g.2) ?_ ?_
 ·refine jiu [false,false,true,true,true,true] (.alt 2 (.alt 3 (.alt 4 (.alt 5 .fin .none) .none) .none) (.alt 3 (.alt 2 (.alt 4 (.alt 5 .fin .none) .none) .none) .none)) [(5,4,[fc z])] (by decide+kernel) (jag rfl jad) ?_;simp only[go_sem];refine And.intro ?_ ?_
  ·refine jce (fun X hX=>And.intro (jag (by rw[ja0 _ _ (hp_ne (by decide))];rfl) jad) ?_);simp only[go_sem];refine jce (fun Y hY=>And.intro (jag (by rw[ja0 _ _ (hp_ne (by decide)),ja0 _ _ (hp_ne (by decide))];rfl) jad) ?_);have hXY:¬X=Y:=fun e=>by rw[e,ja2]at hY;cases hY
   simp only[hXY,zD hXY,go_sem];refine And.intro (jag (by rw[ja0 _ _ (hp_ne (by decide)),ja0 _ _ (hp_ne (by decide))];rfl) jad) (And.intro (jag (by rw[ja0 _ _ (hp_ne (by decide)),ja0 _ _ (hp_ne (by decide))];rfl) jad) ?_);refine jef (X,Y) hXY ?_ ?_ rfl
   ·simp only[SBw,go_sem]
   ·exact jag ((ja0 _ _ (hpne hXY)).trans (ja2 _ _ _)) (jag (ja2 _ _ _) (jag (by rw[ja0 _ _ (hp_ne (by decide)),ja0 _ _ (hp_ne (by decide))];rfl) jad))
  ·refine jce (fun Y hY=>And.intro (jag (by rw[ja0 _ _ (hp_ne (by decide))];rfl) jad) ?_);simp only[go_sem];refine jce (fun X hX=>And.intro (jag (by rw[ja0 _ _ (hp_ne (by decide)),ja0 _ _ (hp_ne (by decide))];rfl) jad) ?_);have hXY:¬X=Y:=fun e=>by rw[<-e,ja2]at hX;cases hX
   simp only[hXY,zD hXY,go_sem];refine And.intro (jag (by rw[ja0 _ _ (hp_ne (by decide)),ja0 _ _ (hp_ne (by decide))];rfl) jad) (And.intro (jag (by rw[ja0 _ _ (hp_ne (by decide)),ja0 _ _ (hp_ne (by decide))];rfl) jad) ?_);refine jef (X,Y) hXY ?_ ?_ rfl
   ·simp only[SBw,go_sem]
   ·exact jag (ja2 _ _ _) (jag ((ja0 _ _ (hpne (zD hXY))).trans (ja2 _ _ _)) (jag (by rw[ja0 _ _ (hp_ne (by decide)),ja0 _ _ (hp_ne (by decide))];rfl) jad))
 rintro⟨X,Y⟩ hXY;dsimp only at hXY;unfold SBw;simp only[hXY,zD hXY,g1,g2,e1,e2,e3,e4,e5,e6,f1,f2,f3,f4,f5,f6,zC,List.length_nil,zl,List.length_cons,zw,List.getElem?_cons_zero,zO,zX,zV,Int.toNat_natCast,qj,go_sem];refine jac 20 ?_;simp only[hXY,zD hXY,g1,g2,e1,e2,e3,e4,e5,e6,f1,f2,f3,f4,f5,f6,zC,List.length_nil,zl,List.length_cons,zw,List.getElem?_cons_zero,zO,zX,zV,Int.toNat_natCast,qj,go_sem];refine jac 20 ?_;simp only[hXY,zD hXY,g1,g2,e1,e2,e3,e4,e5,e6,f1,f2,f3,f4,f5,f6,zC,List.length_nil,zl,List.length_cons,zw,List.getElem?_cons_zero,zO,zX,zV,Int.toNat_natCast,qj,go_sem];refine jaf ?_;simp only[hXY,zD hXY,g1,g2,e1,e2,e3,e4,e5,e6,f1,f2,f3,f4,f5,f6,zC,List.length_nil,zl,List.length_cons,zw,List.getElem?_cons_zero,zO,zX,zV,Int.toNat_natCast,qj,go_sem];refine ja1 kc ?_;rcases dc:decide (0<cmpR u.2 z)with _ | _
 ·simp only[dc,go_sem];refine hn _ ?_ (jag ?_ jad) (yH.1 fun h=>zJ dc (cmpR_pos.2 h))
  ·simp only[hXY,zD hXY,g1,g2,e1,e2,e3,e4,e5,e6,f1,f2,f3,f4,f5,f6,zC,List.length_nil,zl,List.length_cons,zw,List.getElem?_cons_zero,zO,zX,zV,Int.toNat_natCast,qj,go_sem]
  ·dsimp only;simp only[zn hXY,zn (zD hXY)];rw[ja0 _ _ (hp_ne (by decide)),ja0 _ _ (hp_ne (by decide))];rfl
 ·simp only[dc,go_sem];refine hr _ ?_ (cmpR_pos.1 (zI dc));simp only[go_sem]
theorem d_b5{z:Rat}(hz:FL 19000000000 z)(u:Nat×Rat)(a:List (Nat×Rat))(hu:FL 19000000000 u.2)(la:(u::a).length<=100000)(v:Nat×Rat)(b:List (Nat×Rat))(hv:FL 19000000000 v.2)(lb:(v::b).length<=100000)(hc:v.1<u.1){Q:Exit->St->Prop}
  (hn:∀s:St,[0,1,5].map (fun t=>(t,s.get t))=[(0,.im (.sl ((u::a).map tmC))),(1,.im (.sl ((b).map tmC))),(5,.loc 5 4 0 0)]->SubR [(5,4,[fc z])] s.rows->z<=v.2->Q .normal s)
  (hr:∀s:St,Abs.look s.fr 4=some (.im (.bool false))->v.2<z->Q .ret s):
  awp (GH [6,7] []) (jf8 (jbm Tryz.f191)) Q ⟨[(0,.im (.sl ((u::a).map tmC))),(1,.im (.sl ((v::b).map tmC))),(5,.loc 5 4 0 0)],[(5,4,[fc z])],[]⟩:=by
 refine ji9 rfl ?_;have e1:decide ((0:Int)<((b.length+1:Nat):Int))=true:=za (by omega);have e2:decide (((b.length+1:Nat):Int)=0)=false:=zq (by omega);have e3:(0:Int)<((b.length+1:Nat):Int):=by omega
 have e4:(1:Int)<=((b.length+1:Nat):Int):=by omega
 have e5:=jjo (v::b);have e6:List.take b.length (b.map tmC)=b.map tmC:=zt (by rw[zw];exact zB _);simp only[zl,tmC,fc,List.cons_append,List.nil_append]at e5;have f1:decide ((0:Int)<((a.length+1:Nat):Int))=true:=za (by omega);have f2:decide (((a.length+1:Nat):Int)=0)=false:=zq (by omega);have f3:(0:Int)<((a.length+1:Nat):Int):=by omega
 have f4:(1:Int)<=((a.length+1:Nat):Int):=by omega
 have f5:=jjo (u::a);have f6:List.take a.length (a.map tmC)=a.map tmC:=zt (by rw[zw];exact zB _);simp only[zl,tmC,fc,List.cons_append,List.nil_append]at f5;have g1:decide ((u.1:Int)<=v.1)=false:=zq (by omega);have g2:decide ((v.1:Int)<=u.1)=true:=za (by omega);have kc:=f_cmp hz hv;simp only[frac,ints]at kc;simp only[jf8,g1,g2,e1,e2,e3,e4,e5,e6,f1,f2,f3,f4,f5,f6,zC,List.length_nil,zl,List.length_cons,zw,List.getElem?_cons_zero,zO,zX,zV,Int.toNat_natCast,qj,go_sem];refine jiv (SBw z (tmC u::a.map tmC) (tmC v::b.map tmC)) (fun g=>¬g.1=g.2) ?_ ?_
 ·refine jiu [false,false,true,true,true,true] (.alt 2 (.alt 3 (.alt 4 (.alt 5 .fin .none) .none) .none) (.alt 3 (.alt 2 (.alt 4 (.alt 5 .fin .none) .none) .none) .none)) [(5,4,[fc z])] (by decide+kernel) (jag rfl jad) ?_;simp only[go_sem];refine And.intro ?_ ?_
  ·refine jce (fun X hX=>And.intro (jag (by rw[ja0 _ _ (hp_ne (by decide))];rfl) jad) ?_);simp only[go_sem];refine jce (fun Y hY=>And.intro (jag (by rw[ja0 _ _ (hp_ne (by decide)),ja0 _ _ (hp_ne (by decide))];rfl) jad) ?_);have hXY:¬X=Y:=fun e=>by rw[e,ja2]at hY;cases hY
   simp only[hXY,zD hXY,go_sem];refine And.intro (jag (by rw[ja0 _ _ (hp_ne (by decide)),ja0 _ _ (hp_ne (by decide))];rfl) jad) (And.intro (jag (by rw[ja0 _ _ (hp_ne (by decide)),ja0 _ _ (hp_ne (by decide))];rfl) jad) ?_);refine jef (X,Y) hXY ?_ ?_ rfl
   ·simp only[SBw,go_sem]
   ·exact jag ((ja0 _ _ (hpne hXY)).trans (ja2 _ _ _)) (jag (ja2 _ _ _) (jag (by rw[ja0 _ _ (hp_ne (by decide)),ja0 _ _ (hp_ne (by decide))];rfl) jad))
  ·refine jce (fun Y hY=>And.intro (jag (by rw[ja0 _ _ (hp_ne (by decide))];rfl) jad) ?_);simp only[go_sem];refine jce (fun X hX=>And.intro (jag (by rw[ja0 _ _ (hp_ne (by decide)),ja0 _ _ (hp_ne (by decide))];rfl) jad) ?_);have hXY:¬X=Y:=fun e=>by rw[<-e,ja2]at hX;cases hX
   simp only[hXY,zD hXY,go_sem];refine And.intro (jag (by rw[ja0 _ _ (hp_ne (by decide)),ja0 _ _ (hp_ne (by decide))];rfl) jad) (And.intro (jag (by rw[ja0 _ _ (hp_ne (by decide)),ja0 _ _ (hp_ne (by decide))];rfl) jad) ?_);refine jef (X,Y) hXY ?_ ?_ rfl
   ·simp only[SBw,go_sem]
   ·exact jag (ja2 _ _ _) (jag ((ja0 _ _ (hpne (zD hXY))).trans (ja2 _ _ _)) (jag (by rw[ja0 _ _ (hp_ne (by decide)),ja0 _ _ (hp_ne (by decide))];rfl) jad))
 rintro⟨X,Y⟩ hXY;dsimp only at hXY;unfold SBw;simp only[hXY,zD hXY,g1,g2,e1,e2,e3,e4,e5,e6,f1,f2,f3,f4,f5,f6,zC,List.length_nil,zl,List.length_cons,zw,List.getElem?_cons_zero,zO,zX,zV,Int.toNat_natCast,qj,go_sem];refine jac 20 ?_;simp only[hXY,zD hXY,g1,g2,e1,e2,e3,e4,e5,e6,f1,f2,f3,f4,f5,f6,zC,List.length_nil,zl,List.length_cons,zw,List.getElem?_cons_zero,zO,zX,zV,Int.toNat_natCast,qj,go_sem];refine jac 20 ?_;simp only[hXY,zD hXY,g1,g2,e1,e2,e3,e4,e5,e6,f1,f2,f3,f4,f5,f6,zC,List.length_nil,zl,List.length_cons,zw,List.getElem?_cons_zero,zO,zX,zV,Int.toNat_natCast,qj,go_sem];refine jaf ?_;simp only[hXY,zD hXY,g1,g2,e1,e2,e3,e4,e5,e6,f1,f2,f3,f4,f5,f6,zC,List.length_nil,zl,List.length_cons,zw,List.getElem?_cons_zero,zO,zX,zV,Int.toNat_natCast,qj,go_sem];refine ja1 kc ?_;rcases dc:decide (0<cmpR z v.2)with _ | _
 ·simp only[dc,go_sem];refine hn _ ?_ (jag ?_ jad) (yH.1 fun h=>zJ dc (cmpR_pos.2 h))
  ·simp only[hXY,zD hXY,g1,g2,e1,e2,e3,e4,e5,e6,f1,f2,f3,f4,f5,f6,zC,List.length_nil,zl,List.length_cons,zw,List.getElem?_cons_zero,zO,zX,zV,Int.toNat_natCast,qj,go_sem]
  ·dsimp only;simp only[zn hXY,zn (zD hXY)];rw[ja0 _ _ (hp_ne (by decide)),ja0 _ _ (hp_ne (by decide))];rfl
 ·simp only[dc,go_sem];refine hr _ ?_ (cmpR_pos.1 (zI dc));simp only[go_sem]
theorem d_b6{z:Rat}(hz:FL 19000000000 z)(u:Nat×Rat)(a:List (Nat×Rat))(hu:FL 19000000000 u.2)(la:(u::a).length<=100000)(v:Nat×Rat)(b:List (Nat×Rat))(hv:FL 19000000000 v.2)(lb:(v::b).length<=100000)(hc:¬u.1<v.1)(hc2:¬v.1<u.1){Q:Exit->St->Prop}
  (hn:∀s:St,[0,1,5].map (fun t=>(t,s.get t))=[(0,.im (.sl ((a).map tmC))),(1,.im (.sl ((b).map tmC))),(5,.loc 5 4 0 0)]->SubR [(5,4,[fc z])] s.rows->u.2<=v.2->Q .normal s)
  (hr:∀s:St,Abs.look s.fr 4=some (.im (.bool false))->v.2<u.2->Q .ret s):
  awp (GH [6,7] []) (jf8 (jbm Tryz.f191)) Q ⟨[(0,.im (.sl ((u::a).map tmC))),(1,.im (.sl ((v::b).map tmC))),(5,.loc 5 4 0 0)],[(5,4,[fc z])],[]⟩:=by
 refine ji9 rfl ?_;have e1:decide ((0:Int)<((b.length+1:Nat):Int))=true:=za (by omega);have e2:decide (((b.length+1:Nat):Int)=0)=false:=zq (by omega);have e3:(0:Int)<((b.length+1:Nat):Int):=by omega
 have e4:(1:Int)<=((b.length+1:Nat):Int):=by omega
 have e5:=jjo (v::b);have e6:List.take b.length (b.map tmC)=b.map tmC:=zt (by rw[zw];exact zB _);simp only[zl,tmC,fc,List.cons_append,List.nil_append]at e5;have f1:decide ((0:Int)<((a.length+1:Nat):Int))=true:=za (by omega);have f2:decide (((a.length+1:Nat):Int)=0)=false:=zq (by omega);have f3:(0:Int)<((a.length+1:Nat):Int):=by omega
 have f4:(1:Int)<=((a.length+1:Nat):Int):=by omega
 have f5:=jjo (u::a);have f6:List.take a.length (a.map tmC)=a.map tmC:=zt (by rw[zw];exact zB _);simp only[zl,tmC,fc,List.cons_append,List.nil_append]at f5;have g1:decide ((u.1:Int)<=v.1)=true:=za (by omega);have g2:decide ((v.1:Int)<=u.1)=true:=za (by omega);have kc:=f_cmp hu hv;simp only[frac,ints]at kc;simp only[jf8,g1,g2,e1,e2,e3,e4,e5,e6,f1,f2,f3,f4,f5,f6,zC,List.length_nil,zl,List.length_cons,zw,List.getElem?_cons_zero,zO,zX,zV,Int.toNat_natCast,qj,go_sem];refine jiv (SBw z (tmC u::a.map tmC) (tmC v::b.map tmC)) (fun g=>¬g.1=g.2) ?_ ?_
 ·refine jiu [false,false,true,true,true,true] (.alt 2 (.alt 3 (.alt 4 (.alt 5 .fin .none) .none) .none) (.alt 3 (.alt 2 (.alt 4 (.alt 5 .fin .none) .none) .none) .none)) [(5,4,[fc z])] (by decide+kernel) (jag rfl jad) ?_;simp only[go_sem];refine And.intro ?_ ?_
  ·refine jce (fun X hX=>And.intro (jag (by rw[ja0 _ _ (hp_ne (by decide))];rfl) jad) ?_);simp only[go_sem];refine jce (fun Y hY=>And.intro (jag (by rw[ja0 _ _ (hp_ne (by decide)),ja0 _ _ (hp_ne (by decide))];rfl) jad) ?_);have hXY:¬X=Y:=fun e=>by rw[e,ja2]at hY;cases hY
   simp only[hXY,zD hXY,go_sem];refine And.intro (jag (by rw[ja0 _ _ (hp_ne (by decide)),ja0 _ _ (hp_ne (by decide))];rfl) jad) (And.intro (jag (by rw[ja0 _ _ (hp_ne (by decide)),ja0 _ _ (hp_ne (by decide))];rfl) jad) ?_);refine jef (X,Y) hXY ?_ ?_ rfl
   ·simp only[SBw,go_sem]
   ·exact jag ((ja0 _ _ (hpne hXY)).trans (ja2 _ _ _)) (jag (ja2 _ _ _) (jag (by rw[ja0 _ _ (hp_ne (by decide)),ja0 _ _ (hp_ne (by decide))];rfl) jad))
  ·refine jce (fun Y hY=>And.intro (jag (by rw[ja0 _ _ (hp_ne (by decide))];rfl) jad) ?_);simp only[go_sem];refine jce (fun X hX=>And.intro (jag (by rw[ja0 _ _ (hp_ne (by decide)),ja0 _ _ (hp_ne (by decide))];rfl) jad) ?_);have hXY:¬X=Y:=fun e=>by rw[<-e,ja2]at hX;cases hX
   simp only[hXY,zD hXY,go_sem];refine And.intro (jag (by rw[ja0 _ _ (hp_ne (by decide)),ja0 _ _ (hp_ne (by decide))];rfl) jad) (And.intro (jag (by rw[ja0 _ _ (hp_ne (by decide)),ja0 _ _ (hp_ne (by decide))];rfl) jad) ?_);refine jef (X,Y) hXY ?_ ?_ rfl
   ·simp only[SBw,go_sem]
   ·exact jag (ja2 _ _ _) (jag ((ja0 _ _ (hpne (zD hXY))).trans (ja2 _ _ _)) (jag (by rw[ja0 _ _ (hp_ne (by decide)),ja0 _ _ (hp_ne (by decide))];rfl) jad))
 rintro⟨X,Y⟩ hXY;dsimp only at hXY;unfold SBw;simp only[hXY,zD hXY,g1,g2,e1,e2,e3,e4,e5,e6,f1,f2,f3,f4,f5,f6,zC,List.length_nil,zl,List.length_cons,zw,List.getElem?_cons_zero,zO,zX,zV,Int.toNat_natCast,qj,go_sem];refine jac 20 ?_;simp only[hXY,zD hXY,g1,g2,e1,e2,e3,e4,e5,e6,f1,f2,f3,f4,f5,f6,zC,List.length_nil,zl,List.length_cons,zw,List.getElem?_cons_zero,zO,zX,zV,Int.toNat_natCast,qj,go_sem];refine jac 20 ?_;simp only[hXY,zD hXY,g1,g2,e1,e2,e3,e4,e5,e6,f1,f2,f3,f4,f5,f6,zC,List.length_nil,zl,List.length_cons,zw,List.getElem?_cons_zero,zO,zX,zV,Int.toNat_natCast,qj,go_sem];refine jaf ?_;simp only[hXY,zD hXY,g1,g2,e1,e2,e3,e4,e5,e6,f1,f2,f3,f4,f5,f6,zC,List.length_nil,zl,List.length_cons,zw,List.getElem?_cons_zero,zO,zX,zV,Int.toNat_natCast,qj,go_sem];refine jaf ?_
 simp only[hXY,zD hXY,g1,g2,e1,e2,e3,e4,e5,e6,f1,f2,f3,f4,f5,f6,zC,List.length_nil,zl,List.length_cons,zw,List.getElem?_cons_zero,zO,zX,zV,Int.toNat_natCast,qj,go_sem];refine ja1 kc ?_;rcases dc:decide (0<cmpR u.2 v.2)with _ | _
 ·simp only[dc,go_sem];refine hn _ ?_ (jag ?_ jad) (yH.1 fun h=>zJ dc (cmpR_pos.2 h))
  ·simp only[hXY,zD hXY,g1,g2,e1,e2,e3,e4,e5,e6,f1,f2,f3,f4,f5,f6,zC,List.length_nil,zl,List.length_cons,zw,List.getElem?_cons_zero,zO,zX,zV,Int.toNat_natCast,qj,go_sem]
  ·dsimp only;simp only[zn hXY,zn (zD hXY)];rw[ja0 _ _ (hp_ne (by decide)),ja0 _ _ (hp_ne (by decide))];rfl
 ·simp only[dc,go_sem];refine hr _ ?_ (cmpR_pos.1 (zI dc));simp only[go_sem]
theorem d_below(a0 b0:List (Nat×Rat))(ha:∀t∈a0,FL 19000000000 t.2)(hb:∀t∈b0,FL 19000000000 t.2)(la:a0.length<=100000)(lb:b0.length<=100000):
  Ctr G.P 191 [.sl (a0.map tmC),.sl (b0.map tmC)] (· = .bool (jbs a0 b0)):=by
 have o1:=jbt 0 (by omega);have hz:FL 19000000000 ((0:Int):Rat):=(jb3 (by omega)).mono (by omega);obtain⟨z,hze⟩:∃z,((0:Int):Rat)=z:=⟨_,rfl⟩;rw[hze]at o1 hz;simp only[frac,ints]at o1;refine jo2 (goodH [6,7] []) _ _ [.tmp 4] Tryz.func191 rfl rfl (by decide+kernel) rfl ?_;simp only[go_sem];refine ja1 o1 ?_;simp only[go_sem];refine jaz [0,1,5] (fun g:List (Nat×Rat)×List (Nat×Rat)=>⟨[(0,.im (.sl (g.1.map tmC))),(1,.im (.sl (g.2.map tmC))),(5,.loc 5 4 0 0)],[(5,4,[fc z])],[]⟩)
  (fun g=>jbs a0 b0=jbs g.1 g.2/\(∀t∈g.1,FL 19000000000 t.2)/\(∀t∈g.2,FL 19000000000 t.2)/\g.1.length<=100000/\g.2.length<=100000) (fun g=>g.1.length+g.2.length) (a0,b0) ?_ (SubR.of_eq rfl) rfl ⟨rfl,ha,hb,la,lb⟩ ?_
 ·simp only[go_sem]
 clear ha hb la lb;rintro⟨a,b⟩ ⟨he,ha,hb,la,lb⟩;dsimp only at he ha hb la lb;rw[he];clear he;rcases a with _ | ⟨u,a⟩<;>rcases b with _ | ⟨v,b⟩
 ·simp only[zC,List.length_nil,go_sem];refine jea [] ?_;simp only[go_sem];rw[jbs]
 ·refine d_b2 hz v b (hb v zN) lb (fun s h1 h2 hle=> ?_) (fun s h1 hlt=> ?_)
  ·have hbel:jbs [] (v::b)=jbs [] b:=by
    rw[jbs];rw[<-hze]at hle;rw[za (show 0<=v.2 from hle),qe]
   rw[hbel];exact jaa ([],b) h1 h2 rfl (by simp only[List.length_cons,List.length_nil];omega) ⟨rfl,fun t h=>(by cases h),fun t h=>hb t (zQ _ h),zE _,by dsimp only;rw[List.length_cons]at lb;omega⟩
  ·have hbel:jbs [] (v::b)=false:=by
    rw[jbs];rw[<-hze]at hlt;rw[zq (fun h:0<=v.2=>yH.2 h hlt),qp]
   rw[hbel];refine jea [] ?_;simp only[h1,Option.getD_some,go_sem]
 ·refine d_b3 hz u a (ha u zN) la (fun s h1 h2 hle=> ?_) (fun s h1 hlt=> ?_)
  ·have hbel:jbs (u::a) []=jbs a []:=by
    rw[jbs];rw[<-hze]at hle;rw[za (show u.2<=0 from hle),qe]
   rw[hbel];exact jaa (a,[]) h1 h2 rfl (by simp only[List.length_cons,List.length_nil];omega) ⟨rfl,fun t h=>ha t (zQ _ h),fun t h=>(by cases h),by dsimp only;rw[List.length_cons]at la;omega,zE _⟩
  ·have hbel:jbs (u::a) []=false:=by
    rw[jbs];rw[<-hze]at hlt;rw[zq (fun h:u.2<=0=>yH.2 h hlt),qp]
   rw[hbel];refine jea [] ?_;simp only[h1,Option.getD_some,go_sem]
 ·by_cases hc:u.1<v.1
  ·refine d_b4 hz u a (ha u zN) la v b (hb v zN) lb hc (fun s h1 h2 hle=> ?_) (fun s h1 hlt=> ?_)
   ·have hbel:jbs (u::a) (v::b)=jbs a (v::b):=by
     rw[jbs,zm hc];rw[<-hze]at hle;rw[za (show u.2<=0 from hle),qe]
    rw[hbel];exact jaa (a,v::b) h1 h2 rfl (by simp only[List.length_cons,List.length_nil];omega) ⟨rfl,fun t h=>ha t (zQ _ h),hb,by dsimp only;rw[List.length_cons]at la;omega,lb⟩
   ·have hbel:jbs (u::a) (v::b)=false:=by
     rw[jbs,zm hc];rw[<-hze]at hlt;rw[zq (fun h:u.2<=0=>yH.2 h hlt),qp]
    rw[hbel];refine jea [] ?_;simp only[h1,Option.getD_some,go_sem]
  by_cases hc2:v.1<u.1
  ·refine d_b5 hz u a (ha u zN) la v b (hb v zN) lb hc2 (fun s h1 h2 hle=> ?_) (fun s h1 hlt=> ?_)
   ·have hbel:jbs (u::a) (v::b)=jbs (u::a) b:=by
     rw[jbs,zn hc,zm hc2];rw[<-hze]at hle;rw[za (show 0<=v.2 from hle),qe]
    rw[hbel];exact jaa (u::a,b) h1 h2 rfl (by simp only[List.length_cons,List.length_nil];omega) ⟨rfl,ha,fun t h=>hb t (zQ _ h),la,by dsimp only;rw[List.length_cons]at lb;omega⟩
   ·have hbel:jbs (u::a) (v::b)=false:=by
     rw[jbs,zn hc,zm hc2];rw[<-hze]at hlt;rw[zq (fun h:0<=v.2=>yH.2 h hlt),qp]
    rw[hbel];refine jea [] ?_;simp only[h1,Option.getD_some,go_sem]
  ·refine d_b6 hz u a (ha u zN) la v b (hb v zN) lb hc hc2 (fun s h1 h2 hle=> ?_) (fun s h1 hlt=> ?_)
   ·have hbel:jbs (u::a) (v::b)=jbs a b:=by
     rw[jbs,zn hc,zn hc2];rw[za hle,qe]
    rw[hbel];exact jaa (a,b) h1 h2 rfl (by simp only[List.length_cons,List.length_nil];omega) ⟨rfl,fun t h=>ha t (zQ _ h),fun t h=>hb t (zQ _ h),by dsimp only;rw[List.length_cons]at la;omega,by dsimp only;rw[List.length_cons]at lb;omega⟩
   ·have hbel:jbs (u::a) (v::b)=false:=by
     rw[jbs,zn hc,zn hc2];rw[zq (fun h=>yH.2 h hlt),qp]
    rw[hbel];refine jea [] ?_;simp only[h1,Option.getD_some,go_sem]
end
section
open Go.Abs
open Go.LP (Rw RT tsum Sol S cf cfU)
attribute [local go_sem] ints ic big frac fc zc rwC tmC
theorem cf_high:∀{ts:List (Nat×Rat)} {lo N k:Nat},RT ts lo N->N<=k->cf ts k=0
 | [],_,_,_,_,_=>rfl
 | t::ts,lo,N,k,h,hk=>by
  rw[cf,zn (by have:=h.2.1;omega)];exact cf_high h.2.2.2 hk
theorem jer{t:Nat×Rat}{ts:List (Nat×Rat)}:cf (t::ts) t.1=t.2:=by rw[cf,zm rfl]
theorem jeq{t:Nat×Rat}{ts:List (Nat×Rat)}{k:Nat}(h:k≠t.1):cf (t::ts) k=cf ts k:=by rw[cf,zn h]
theorem jfz:∀{a b:List (Nat×Rat)} {lo lo' N:Nat},RT a lo N->RT b lo' N->(jbs a b=true↔∀k,cf a k<=cf b k)
 | [],[],_,_,_,_,_=>by rw[jbs];exact⟨fun _ _=>jx,fun _=>rfl⟩
 | u::a,[],lo,lo',N,ha,hb=>by
  have ih:=jfz ha.2.2.2 hb;rw[jbs,zr,zK,ih];constructor
  ·rintro⟨h1,h2⟩ k;by_cases e:k=u.1
   ·subst e;rw[jer];exact h1
   ·rw[jeq e];exact h2 k
  ·intro h;refine⟨by have:=h u.1;rwa [jer]at this,fun k=> ?_⟩;by_cases e:k=u.1
   ·rw[e,LP.cf_low ha.2.2.2 (qE u.1)];exact jx
   ·have:=h k;rwa [jeq e]at this
 | [],v::b,lo,lo',N,ha,hb=>by
  have ih:=jfz ha hb.2.2.2;rw[jbs,zr,zK,ih];constructor
  ·rintro⟨h1,h2⟩ k;by_cases e:k=v.1
   ·subst e;rw[jer];exact h1
   ·rw[jeq e];exact h2 k
  ·intro h;refine⟨by have:=h v.1;rwa [jer]at this,fun k=> ?_⟩;by_cases e:k=v.1
   ·rw[e,LP.cf_low hb.2.2.2 (qE v.1)];exact jx
   ·have:=h k;rwa [jeq e]at this
 | u::a,v::b,lo,lo',N,ha,hb=>by
  rw[jbs];by_cases h1:u.1<v.1
  ·have hvb:RT (v::b) v.1 N:=⟨zB _,hb.2⟩;have ih:=jfz ha.2.2.2 hvb;rw[zm h1,zr,zK,ih];have z:cf (v::b) u.1=0:=LP.cf_low hvb h1;constructor
   ·rintro⟨h2,h3⟩ k;by_cases e:k=u.1
    ·rw[e,jer,z];exact h2
    ·rw[jeq e];exact h3 k
   ·intro h;refine⟨by have:=h u.1;rwa [jer,z]at this,fun k=> ?_⟩;by_cases e:k=u.1
    ·rw[e,LP.cf_low ha.2.2.2 (qE u.1),z];exact jx
    ·have:=h k;rwa [jeq e]at this
  ·rw[zn h1];by_cases h2:v.1<u.1
   ·have hua:RT (u::a) u.1 N:=⟨zB _,ha.2⟩;have ih:=jfz hua hb.2.2.2;rw[zm h2,zr,zK,ih];have z:cf (u::a) v.1=0:=LP.cf_low hua h2;constructor
    ·rintro⟨h3,h4⟩ k;by_cases e:k=v.1
     ·rw[e,jer,z];exact h3
     ·rw[jeq (t:=v) e];exact h4 k
    ·intro h;refine⟨by have:=h v.1;rwa [jer,z]at this,fun k=> ?_⟩;by_cases e:k=v.1
     ·rw[e,LP.cf_low hb.2.2.2 (qE v.1),z];exact jx
     ·have:=h k;rwa [jeq (t:=v) e]at this
   ·have he:u.1=v.1:=by omega
    have ih:=jfz ha.2.2.2 hb.2.2.2;rw[zn h2,zr,zK,ih];constructor
    ·rintro⟨h3,h4⟩ k;by_cases e:k=u.1
     ·rw[e,jer,he,jer];exact h3
     ·rw[jeq e,jeq (by omega)];exact h4 k
    ·intro h;refine⟨by have:=h u.1;rwa [jer,he,jer]at this,fun k=> ?_⟩;by_cases e:k=u.1
     ·rw[e,LP.cf_low ha.2.2.2 (qE u.1),LP.cf_low hb.2.2.2 (by omega)];exact jx
     ·have:=h k;rwa [jeq e,jeq (by omega)]at this
 termination_by a b=>a.length+b.length
section
variable{N:Nat}{ws:List Rw}{goal:List (Nat×Rat)}{y:Nat->Rat}{Y:List Raw}{A:Nat}
theorem lowr_iff(hg:RT goal 0 N):(SgnW ws y/\jbs (mixU (mcU ws y ws.length) N) goal=true)↔Lowr N ws goal y (mvU ws y ws.length):=by
 rw[jfz (joe N) hg];constructor
 ·rintro⟨h1,h2⟩;exact⟨h1,fun k hk=>by have:=h2 k;rwa [jqp,zm hk]at this,rfl⟩
 ·rintro⟨h1,h2,_⟩;refine⟨h1,fun k=> ?_⟩;rw[jqp];by_cases hk:k<N
  ·rw[zm hk];exact h2 k hk
  ·rw[zn hk,cf_high hg (by omega)];exact jx
theorem GoalOk.right(hg:GoalOk N goal)(hs:SysOk N ws):Ctr G.P 127 [.sl (goal.map tmC),.int N] (· = .bool true):=
 x_rt goal N hg.rt (by have:=hg.len;have:=hs.n;omega) (by have:=hs.n;omega) hg.fl
theorem jsg(kS:Ctr G.P 189 [.agg [.int N,.sl (ws.map rwC)],.sl (Y.map Raw.c)] (· = .bool false)):Ctr G.P 136 [.agg [.int N,.sl (ws.map rwC)],.sl (goal.map tmC),.sl (Y.map Raw.c)] (· = .tup [.agg zc,.bool false]):=by
 generalize ws.map rwC=R at*;generalize Y.map Raw.c=YC at*;generalize goal.map tmC=GC at*;refine ja5 [.cell 6 35,.tmp 7] Tryz.func136 ?_;simp only[go_sem];refine ja1 kS ?_;simp only[go_sem]
open Classical in
noncomputable def lowB(N:Nat)(ws:List Rw)(goal:List (Nat×Rat))(y:Nat->Rat):Bool:=decide (Lowr N ws goal y (mvU ws y ws.length))
theorem lowB_iff:lowB N ws goal y=true↔Lowr N ws goal y (mvU ws y ws.length):=by
 classical
 unfold lowB;exact qx
theorem jsf(hs:SysOk N ws)(hg:GoalOk N goal)(hk:RawL 50000000000 Y)(hl:Y.length=ws.length)(hR:Y.all rwR=true)(hy:Y.map Raw.c=tab ws.length fun j=>qc (y j))(hA:A<=10000000)(hf:∀j,FL A (y j)):
  Ctr G.P 136 [.agg [.int N,.sl (ws.map rwC)],.sl (goal.map tmC),.sl (Y.map Raw.c)] (· =if lowB N ws goal y=true then .tup [frac (mvU ws y ws.length),.bool true]else .tup [.agg zc,.bool false]):=by
 classical
 have hf':∀j,FL 19000000000 (y j):=fun j=>(hf j).mono (by omega);have hiff:=lowr_iff (ws:=ws) (y:=y) hg.rt;by_cases hsg:SgnW ws y
 case neg=>
  have hno:lowB N ws goal y=false:=qQ.2 fun h=>hsg (lowB_iff.1 h).sgn;rw[hno,zn (by decide)];exact jsg (jpw hs hk hl hR hy hf' ⟨fun h=>(by cases h),fun h=>absurd h hsg⟩)
 have kS:=jpw hs hk hl hR hy hf' (b:=true) ⟨fun _=>hsg,fun _=>rfl⟩;have kM:=d_mix1 hs hk hl hR hy hA hf;have kG:=hg.right hs;have hlen:=hs.len;have hN:=hs.n;have hm:∀k,FL 19000000000 (mcU ws y ws.length k):=fun k=>(jsy hs hf k ws.length).mono (by
  have:ws.length*(A+7)<=900*10000007:=qL hlen (by omega);omega)
 have kB:=d_below (mixU (mcU ws y ws.length) N) goal (fun t ht=>by rw[jnp ht];exact hm _) (fun t ht=>(hg.fl t ht).mono (by omega)) (by have:=jnq (f:=mcU ws y ws.length) N;omega) (by have:=hg.len;omega);rcases hb:jbs (mixU (mcU ws y ws.length) N) goal with _ | _
 ·have hno:lowB N ws goal y=false:=qQ.2 fun h=>by
   have:=(hiff.2 (lowB_iff.1 h)).2;rw[hb]at this;cases this
  rw[hb]at kB;rw[hno,zn (by decide)];clear hy hf hf' hm hiff hb hno;generalize (mixU (mcU ws y ws.length) N).map tmC=MC at*;generalize mvU ws y ws.length=vv at*;generalize ws.map rwC=R at*;generalize Y.map Raw.c=YC at*;generalize goal.map tmC=GC at*;simp only[frac,ints]at kM;refine ja5 [.cell 6 35,.tmp 7] Tryz.func136 ?_;simp only[go_sem];refine ja1 kS ?_;simp only[go_sem];refine ja1 kG ?_;simp only[go_sem];refine ja1 kM ?_;simp only[go_sem];refine ja1 kB ?_;simp only[go_sem]
 ·have hyes:lowB N ws goal y=true:=lowB_iff.2 (hiff.1 ⟨hsg,hb⟩);rw[hb]at kB;rw[hyes,zm rfl];clear hy hf hf' hm hiff hb hyes;generalize (mixU (mcU ws y ws.length) N).map tmC=MC at*;generalize mvU ws y ws.length=vv at*;generalize ws.map rwC=R at*;generalize Y.map Raw.c=YC at*;generalize goal.map tmC=GC at*;simp only[frac,ints]at kM;refine ja5 [.cell 6 35,.tmp 7] Tryz.func136 ?_;simp only[go_sem];refine ja1 kS ?_;simp only[go_sem];refine ja1 kG ?_;simp only[go_sem];refine ja1 kM ?_;simp only[go_sem];refine ja1 kB ?_;simp only[go_sem]
