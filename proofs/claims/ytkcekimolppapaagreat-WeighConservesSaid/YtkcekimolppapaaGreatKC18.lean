/- A part of the proof. No further condition. -/
import Derived.Test.YtkcekimolppapaaGreatKC17
set_option linter.all false
set_option maxRecDepth 10000000
set_option maxHeartbeats 16000000
namespace Go.Proofs.YtkcekimolppapaaGreat
section
open Go.Abs Go.Sort
section
variable{α:Type}[Inhabited α]{enc:α->List Value}{k:Nat}{w:World}{b n:Nat}{d:Array α}{os:Array Obj}
theorem sw_heap{cur:Array Value}{T:TypeId}{z:Nat×Nat}(h:w.heap[b]? =some (.cells cur T z)):(sortWorldK enc k w b 0 n d os).heap[b]? =some (.cells (putCells id 0 (flatK enc k d) cur) T z):=by
 have hb:b<w.heap.size:=(zE.1 h).1;unfold sortWorldK grow putRowK putRow mapBlock Go.Sort.ahead;dsimp only;rw[yw (by rw[vk];exact hb),j4,zm rfl,h];rfl
theorem jhm{b':Nat}(h:b'≠b)(hb:b'<w.heap.size):(sortWorldK enc k w b 0 n d os).heap[b']? =w.heap[b']? :=by
 unfold sortWorldK grow putRowK putRow mapBlock Go.Sort.ahead;dsimp only;rw[yw (by rw[vk];exact hb),j4,zn (zF h)]
theorem sw_size:w.heap.size<=(sortWorldK enc k w b 0 n d os).heap.size:=by
 unfold sortWorldK grow putRowK putRow mapBlock Go.Sort.ahead;dsimp only;rw[yX,vk];omega
theorem sw_cell{cur:Array Value}(hk:∀x,(enc x).length=k){i j:Nat}{x:α}{u:Value}(hi:d[i]? =some x)(hj:(enc x)[j]? =some u)(hc:i*k+j<cur.size):(putCells id 0 (flatK enc k d) cur)[i*k+j]? =some u:=by
 have hjk:j<k:=by rw[<-hk x];exact(zt.1 hj).1
 have hid:i<d.size:=(zE.1 hi).1;have hlt:i*k+j<d.size*k:=by
  have:=zZ k (show i+1<=d.size from hid);rw[qu,vo]at this;omega
 have e1:(i*k+j)/k=i:=by rw[yx,Nat.mul_add_div (by omega),js hjk,Nat.add_zero]
 have e2:(i*k+j) % k=j:=by rw[yx,vp,jx hjk]
 unfold putCells;rw[Array.getElem?_mapIdx,yu hc,Option.map_some,zm ⟨zH _,by rw[size_flatK];omega⟩,Nat.sub_zero,get_flatK _ _ _ _ hlt,e1,e2];rw[jK d i hid,(zE.1 hi).2];rw[id,List.getElem!_eq_getElem?_getD,hj];rfl
end
inductive F2{α β:Type}(R:α->β->Prop):List α->List β->Prop
 | nil:F2 R [] []
 | cons {x y l m}:R x y->F2 R l m->F2 R (x::l) (y::m)
theorem F2.of{α β:Type}{R:α->β->Prop}:∀{l:List α} {m:List β},l.length=m.length->(∀(i:Nat) (x:α) (y:β),l[i]? =some x->m[i]? =some y->R x y)->F2 R l m
 | [],[],_,_=> .nil
 | x::l,y::m,h,hr=> .cons (hr 0 x y rfl rfl) (F2.of (by simpa using h) fun i a c h1 h2=>hr (i+1) a c (by simpa using h1) (by simpa using h2))
theorem F2.get{α β:Type}{R:α->β->Prop}{l:List α}{m:List β}(h:F2 R l m):∀{i:Nat} {x:α} {y:β},l[i]? =some x->m[i]? =some y->R x y:=by
 induction h with
 | nil=>intro i x y h1;simp at h1
 | cons h1 _ ih=>
  intro i x y g1 g2;cases i with
  | zero=>simp at g1 g2;subst g1 g2;exact h1
  | succ i=>exact ih (by simpa using g1) (by simpa using g2)
theorem perm_rel{α β:Type}{R:α->β->Prop}{l l':List α}(hp:l.Perm l'):∀{m:List β},F2 R l m->∃m',m'.Perm m/\F2 R l' m':=by
 induction hp with
 | nil=>intro m h;exact⟨m,jN _,h⟩
 | cons x _ ih=>
  intro m h;cases h with
  | cons h1 h2=>
   obtain⟨m',g1,g2⟩:=ih h2;exact⟨_,g1.cons _,.cons h1 g2⟩
 | swap x y l=>
  intro m h;cases h with
  | cons h1 h2=>
   cases h2 with
   | cons h3 h4=>exact⟨_,List.Perm.swap _ _ _,.cons h3 (.cons h1 h4)⟩
 | trans _ _ ih1 ih2=>
  intro m h;obtain⟨m1,g1,g2⟩:=ih1 h;obtain⟨m2,g3,g4⟩:=ih2 g2;exact⟨m2,g3.trans g1,g4⟩
def keyC:List IV->Int
 | .sc (.int .i64 z)::_=>z
 | _=>0
theorem frozen0{w:World}{b o:Nat}{cur:Array Value}{T:TypeId}(h:w.heap[b]? =some (.cells cur T (0,0))):w.frozen? ⟨b,o,none⟩=false:=by
 simp[World.frozen?,h]
theorem cell0{w:World}{b o:Nat}{cur:Array Value}{T:TypeId}{u:Value}(h:w.heap[b]? =some (.cells cur T (0,0)))(hc:cur[o]? =some u):w.cell? ⟨b,o,none⟩=some u:=by
 simp[World.cell?,h,hc]
open Classical in
theorem w_sort{b:Nat}{es:List (List IV)}{L:Abs.Rows}(hL:Abs.look L (hp b)=some (5,es))(hlen:es.length<4611686018427387904)(hes:∀c∈es,∃z r,c= .int z::r):
  CtrH G.P 105 [.im (.ref b 117 5 es.length),.im (.clo 106 [])] L (fun r L'=>r= .im (.tup [])/\∃es':List (List IV),es'.Perm es/\(∀(i j:Nat) x y,i<j->es'[i]? =some x->es'[j]? =some y->keyC x<=keyC y)/\L'=setRow L (hp b) 5 es'):=by
 intro w M vs hM hrows hvl hargs;obtain⟨b',hb',hnM,cur,T,hcur,hclen,hcells⟩:=hrows _ _ _ hL;have hbb:=hp_inj.1 hb';subst hbb
 match vs,hvl with
 | [v0,v1],_=>
 have a0:Rep w (MoH M L) (.ref b 117 5 es.length) v0:=hargs 0 _ _ rfl rfl;have a1:Rep w (MoH M L) (.clo 106 []) v1:=hargs 1 _ _ rfl rfl;obtain⟨cp,rfl,hcp⟩:=a1.clo_inv;have hcp0:cp= #[]:=by
  have:=hcp.1;simp at this;exact vn this.symm
 subst hcp0;have a0':∃cap,v0= .slice (some ⟨b,0,none⟩) es.length cap/\es.length<=cap/\cur.size=cap*5:=by
  cases a0 with
  | ref _ _ _ _ cap cur2 g1 g2 g3 g4=>
   rw[hcur]at g1;cases g1;exact⟨cap,rfl,g2,g4⟩
 obtain⟨cap,rfl,hcap,hsz⟩:=a0';have hx:∀i,∃x:TermV,i<es.length->(∀j,j<5->cur[i*5+j]? =x.enc[j]?)/\(∀c,es[i]? =some c->x.z=keyC c):=by
  intro i;by_cases hi:i<es.length
  ·obtain⟨c,hc⟩:∃c,es[i]? =some c:=⟨_,ze hi⟩;obtain⟨z,r,rfl⟩:=hes c (zr hc);have hl5:=hclen _ (zr hc);have hr4:r.length=4:=by simpa using hl5
   match r,hr4 with
   | [r1,r2,r3,r4],_=>
    obtain⟨_,u0,c0,q0⟩:=hcells i _ 0 _ hc rfl;obtain⟨o1,u1,c1,q1⟩:=hcells i _ 1 _ hc rfl;obtain⟨o2,u2,c2,q2⟩:=hcells i _ 2 _ hc rfl;obtain⟨o3,u3,c3,q3⟩:=hcells i _ 3 _ hc rfl;obtain⟨o4,u4,c4,q4⟩:=hcells i _ 4 _ hc rfl;have e0:u0= .int .i64 z:=by cases q0;rfl
    subst e0;refine⟨⟨z,[u1,u2,u3,u4],rfl,fun v hv=> ?_⟩,fun _=>⟨fun j hj=> ?_,fun c' hc'=> ?_⟩⟩
    ·simp at hv;rcases hv with rfl | rfl | rfl | rfl
     ·exact q1.oneCell o1
     ·exact q2.oneCell o2
     ·exact q3.oneCell o3
     ·exact q4.oneCell o4
    ·match j,hj with
     | 0,_=>exact c0
     | 1,_=>exact c1
     | 2,_=>exact c2
     | 3,_=>exact c3
     | 4,_=>exact c4
    ·rw[hc]at hc';cases hc';rfl
  ·exact⟨default,fun h=>absurd h hi⟩
 obtain⟨f,hf⟩:=Classical.axiomOfChoice hx;obtain⟨d,hd⟩:∃d:Array TermV,d=((List.range es.length).map f).toArray:=⟨_,rfl⟩;have hds:d.size=es.length:=by rw[hd];simp
 have hdg:∀i,i<es.length->d[i]? =some (f i):=fun i hi=>by rw[hd];simp[hi]
 have hlen5:∀x:TermV,x.enc.length=5:=fun x=>by simp[TermV.enc,x.len]
 have hH:HoldsK TermV.enc 5 w b 0 d:=by
  unfold HoldsK Holds;intro t ht;rw[size_flatK,hds]at ht;have hi:t/5<es.length:=by omega
  have hj:t % 5<5:=by omega
  obtain⟨g1,_⟩:=hf (t/5) hi;have g2:=g1 (t % 5) hj;have ht5:t/5*5+t % 5=t:=by omega
  rw[ht5,ze (by rw[hlen5];exact hj)]at g2;refine⟨?_,frozen0 hcur⟩;rw[qE,cell0 hcur g2,get_flatK _ _ _ _ (by rw[hds];exact ht),jK d _ (by omega),(zE.1 (hdg _ hi)).2,jK _ _ (by rw[hlen5];exact hj)];rfl
 have hblk:b<w.heap.size:=(zE.1 hcur).1;have hcall:=sort_calls b 0 cap d w hH hblk (by omega);rw[hds]at hcall;refine hcall.mono ?_;rintro e w' ⟨rfl,d',n,os,hperm,hsorted,rfl⟩;have hR:F2 (fun(x:TermV) (c:List IV)=>x.z=keyC c/\c.length=5/\∀(j:Nat) y u,c[j]? =some y->x.enc[j]? =some u->y.one=true/\Rep w (MoH M L) y u) d.toList es:=by
  refine F2.of (by rw[Array.length_toList,hds]) fun i x c h1 h2=> ?_;have hi:=(zt.1 h2).1;have hxi:x=f i:=by
   have:=hdg i hi;rw[qo]at h1;rw[this]at h1;exact(jE h1).symm
  subst hxi;obtain⟨g1,g2⟩:=hf i hi;have hl5:=hclen c (zr h2);refine⟨g2 c h2,hl5,fun j y u hy hu=> ?_⟩;obtain⟨o,u',c',q⟩:=hcells i c j y h2 hy;have hj:j<5:=by rw[<-hl5];exact(zt.1 hy).1
  rw[g1 j hj,hu]at c';cases c';exact⟨o,q⟩
 obtain⟨hp1,_,hp2⟩:=hperm;have hd's:d'.size=es.length:=by rw[hp1,hds]
 have hpl:d.toList.Perm d'.toList:=by
  have e1:(d'.extract 0 es.length)=d':=by rw[<-hd's];simp
  have e2:(d.extract 0 es.length)=d:=by rw[<-hds];simp
  rw[e1,e2]at hp2;exact hp2.symm
 obtain⟨es',hpe,hR'⟩:=perm_rel hpl hR;have hle:es'.length=es.length:=hpe.length_eq;have hMo:MoH M (setRow L (hp b) 5 es')=MoH M L:=by
  funext b1 o;unfold MoH;rw[jbh]
 have hshp:Shp w (sortWorldK TermV.enc 5 w b 0 n d' os):=fun b1 c1 T1 h1=>by
  by_cases e:b1=b
  ·subst e;refine⟨_,sw_heap h1,?_⟩;unfold putCells;rw[Array.size_mapIdx]
  ·exact⟨c1,by rw[jhm e (zE.1 h1).1];exact h1,rfl⟩
 have hbM:∀o,MoH M L b o:=fun o=> .inr (by rw[hL];rfl);have hkept:Kept w (MoH M L) (sortWorldK TermV.enc 5 w b 0 n d' os) (MoH M L):=by
  refine⟨fun b1 o u hc hm=>⟨?_,hm⟩,fun b1 me c hc hm=>⟨?_,hm⟩,hshp⟩
  ·have e:b1≠b:=fun e=>by subst e;exact hm (hbM o)
   rw[World.cell?_of_block (w:=w) (a:=⟨b1,o,none⟩) (jhm e (World.block_lt_of_cell? (a:=⟨b1,o,none⟩) w hc))];exact hc
  ·have e:b1≠b:=fun e=>by subst e;exact hm (hbM 0)
   rw[jhm e (zE.1 hc).1];exact hc
 refine⟨.im (.tup []),.tuple #[],_,⟨rfl,es',hpe,fun i j x y hij h1 h2=> ?_,rfl⟩,rfl,rfl,⟨rfl,rfl,rfl,sw_size,fun k hk=> ?_,hshp⟩,fun k s es2 hk=> ?_,Rep.tup _ _ rfl fun k x v h=>(by simp at h)⟩
 ·have hi:=(zt.1 h1).1;have hj:=(zt.1 h2).1;have hdi:d'.toList[i]? =some d'[i]! :=by
   rw[qo,yu (by omega),jK d' i (by omega)]
  have hdj:d'.toList[j]? =some d'[j]! :=by
   rw[qo,yu (by omega),jK d' j (by omega)]
  have r1:=(hR'.get hdi h1).1;have r2:=(hR'.get hdj h2).1;have:=hsorted i j (zH _) hij (by omega);rw[TermV.lt]at this;have:=zN this;rw[<-r1,<-r2];omega
 ·obtain⟨k1,k2⟩:=hk;exact jhm (fun e=>by subst e;rw[hL]at k2;cases k2) k1
 ·by_cases e:k=hp b
  ·subst e;rw[jbr (by rw[hL];rfl)]at hk;cases hk;refine⟨b,rfl,.inl (by rw[hL];rfl),_,T,sw_heap hcur,fun c hc=> ?_,fun i c j y hi hj=> ?_⟩
   ·exact hclen c (hpe.mem_iff.1 hc)
   ·have hil:=(zt.1 hi).1;have hdi:d'.toList[i]? =some d'[i]! :=by
     rw[qo,yu (by omega),jK d' i (by omega)]
    obtain⟨_,r2,r3⟩:=hR'.get hdi hi;have hj5:j<5:=by rw[<-r2];exact(zt.1 hj).1
    have hu:(d'[i]!).enc[j]? =some ((d'[i]!).enc[j]'(by rw[hlen5];exact hj5)):=ze _;obtain⟨o,q⟩:=r3 j y _ hj hu;refine⟨o,_,sw_cell hlen5 (by rw[<-qo];exact hdi) hu (by omega),?_⟩;rw[hMo];exact q.kept hkept
  ·rw[jc2 e]at hk;obtain⟨b1,rfl,h2,c1,T1,g1,g2,g3⟩:=hrows k s es2 hk;have e1:b1≠b:=fun h=>e (by rw[h]);refine⟨b1,rfl,.inl (by rw[hk];rfl),c1,T1,by rw[jhm e1 (zE.1 g1).1];exact g1,g2,fun i c j y hi hj=> ?_⟩;obtain⟨o,u,q1,q2⟩:=g3 i c j y hi hj;exact⟨o,u,q1,by rw[hMo];exact q2.kept hkept⟩
theorem w_sort0:Ctr G.P 105 [.sl [],.clo 106 []] (· = .tup []):=by
 intro w M vs hM hr
 match vs,hr.1 with
 | [v0,v1],_=>
  have a0:Rep w M (.sl []) v0:=hr.2 0 _ _ rfl rfl;obtain⟨p,c,rfl⟩:∃p c,v0= .slice p 0 c:=by
   rcases a0.sl_inv with ⟨_,a,c,rfl⟩ | ⟨s',b,o,c,u,hne,_⟩
   ·exact⟨_,_,rfl⟩
   ·exact absurd rfl hne
  refine Calls.mono (AnyF.slices_SortFunc_none jnw p c v1 w) ?_;rintro e w' ⟨rfl,rfl⟩;exact⟨.tup [],_,rfl,rfl,Rep.tup _ _ rfl fun k x v h=>(by simp at h),Go.RowKit.Below.refl _ _⟩
end
section
open Go.Abs
open Go.LP (Rw RT tsum)
attribute [local go_sem] ints ic big frac fc
def tmC(t:Nat×Rat):List IV:= .int (t.1:Int)::fc t.2
attribute [local go_sem] tmC
def rwC(w:Rw):List IV:=[.sl (w.ts.map tmC),.int w.kind]++fc w.val
attribute [local go_sem] rwC
theorem tget{ts:List (Nat×Rat)}{i:Nat}{t:Nat×Rat}(h:ts[i]? =some t):(ts.map tmC)[i]? =some (.int (t.1:Int)::fc t.2):=by rw[zq,h];rfl
def lastF(ts:List (Nat×Rat)):Nat->Int
 | 0=> -1
 | i+1=>match ts[i]? with
  | some t=>(t.1:Int)
  | none=> -1
theorem jlx{ts:List (Nat×Rat)}{i:Nat}{t:Nat×Rat}(h:ts[i]? =some t):lastF ts (i+1)=(t.1:Int):=by rw[lastF,h]
theorem RT_at{ts:List (Nat×Rat)}{N:Nat}(h:RT ts 0 N):∀{i:Nat},i<=ts.length->∃lo:Nat,RT (ts.drop i) lo N/\lastF ts i<lo
 | 0,_=>⟨0,h,by show(-1:Int)<0;omega⟩
 | i+1,hi=>by
  obtain⟨lo,h1,h2⟩:=RT_at h (i:=i) (by omega);have hg:ts[i]? =some ts[i]:=ze (by omega);rw[yp (by omega)]at h1;refine⟨ts[i].1+1,h1.2.2.2,?_⟩;rw[jlx hg];omega
theorem jos{ts:List (Nat×Rat)}{N:Nat}(h:RT ts 0 N){i:Nat}{t:Nat×Rat}(ht:ts[i]? =some t):lastF ts i<t.1/\t.1<N/\t.2≠0:=by
 obtain⟨hi,rfl⟩:=zt.1 ht;obtain⟨lo,h1,h2⟩:=RT_at h (Nat.le_of_lt hi);rw[yp hi]at h1;have:=h1.1;exact⟨by omega,h1.2.1,h1.2.2.1⟩
def tsumU(ts:List (Nat×Rat))(x:Nat->Rat):Nat->Rat
 | 0=>((0:Int):Rat)
 | i+1=>match ts[i]? with
  | some t=>tsumU ts x i+t.2*x t.1
  | none=>tsumU ts x i
theorem jli{ts:List (Nat×Rat)}{x:Nat->Rat}{i:Nat}{t:Nat×Rat}(h:ts[i]? =some t):tsumU ts x (i+1)=tsumU ts x i+t.2*x t.1:=by rw[tsumU,h]
theorem jlh(x:Nat->Rat)(ts:List (Nat×Rat)):∀i,i<=ts.length->tsumU ts x i=tsum (ts.take i) x
 | 0,_=>by rw[List.take_zero];rfl
 | i+1,hi=>by
  have hg:ts[i]? =some ts[i]:=ze (by omega);rw[jli hg,jlh x ts i (by omega),yW,hg];rw[show(some ts[i]).toList=[ts[i]]from rfl,LP.tsum_app,tsum,tsum];grind
theorem jnn(x:Nat->Rat)(ts:List (Nat×Rat)):tsumU ts x ts.length=tsum ts x:=by rw[jlh x ts _ (zB _),qY]
theorem jnf{ts:List (Nat×Rat)}{x:Nat->Rat}{a b:Nat}(ht:∀t∈ts,FL a t.2)(hx:∀t∈ts,FL b (x t.1)):∀i,FL (4+i*(a+b+1)) (tsumU ts x i)
 | 0=>(jbv (n:=0) (by omega)).mono (by omega)
 | i+1=>by
  have ih:=jnf ht hx i;rw[tsumU];split
  ·rename_i t hg;have hm:=zr hg;refine(jje ih (FL_mul (ht t hm) (hx t hm))).mono ?_;rw[yC];omega
  ·exact ih.mono (by rw[yC];omega)
theorem x_rt(ts:List (Nat×Rat))(N:Nat)(h:RT ts 0 N)(hl:ts.length<=100000)(hN:N<=100000)(hf:∀t∈ts,FL 100000000 t.2):
  Ctr G.P 54 [.sl (ts.map tmC),.int N] (· = .bool true):=by
 have hN0:decide ((N:Int)<0)=false:=zw (by omega);refine ja5 [.tmp 4] Tryz.func54 ?_;simp only[hN0,go_sem];refine jau [1,5,10,11,12] [] (fun i:Nat=>⟨[(1,.im (.int N)),(5,.im (.int (lastF ts i))),(10,.im (.sl (ts.map tmC))),(11,.im (.int ts.length)),(12,.im (.int i))],[],[]⟩)
  (fun i=>i<=ts.length) (fun i=>ts.length-i) 0 ?_ (zH _) ?_
 ·simp only[lastF,Int.natCast_zero,go_sem]
 ·intro i hi;by_cases hp:(i:Int)<ts.length
  ·have hd:decide ((i:Int)<ts.length)=true:=zh hp;obtain⟨t,ht⟩:=jd6 hp;have h1:=ja8 (n:=(i:Int)+1) (by omega);obtain⟨g1,g2,g3⟩:=jos h ht;have d1:decide ((t.1:Int)<=lastF ts i)=false:=zw (by omega);have d2:decide ((N:Int)<=t.1)=false:=zw (by omega);have hs:=jqp ((hf t (zr ht)).mono (by omega:100000000<=19000000000));have hq:decide (t.2.num.sign=0)=false:=zw (fun e=>g3 (sign_zero.1 e));have hg:=tget ht;simp only[frac,ints,fc]at hs hg;simp only[hd,hg,d1,d2,go_sem];refine ja1 hs ?_;simp only[hd,hg,d1,d2,hq,go_sem];refine jac (i+1) ?_ (by omega) (by omega);rw[jlx ht];simp only[h1,Int.natCast_add,go_sem]
  ·have hd:decide ((i:Int)<ts.length)=false:=zw hp;simp only[hd,go_sem]
theorem x_right(ws:List Rw)(N:Nat)(h:∀w∈ws,w.Ok N)(hl:ws.length<=6000)(hN:N<=1500)(ht:∀w∈ws,w.ts.length<=100000/\FL 100000000 w.val/\∀t∈w.ts,FL 100000000 t.2):
  Ctr G.P 109 [.agg [.int N,.sl (ws.map rwC)]] (· = .bool true):=by
 have hN0:decide ((N:Int)<0)=false:=zw (by omega);have hN1:decide ((1500:Int)<N)=false:=zw (by omega);have hl1:decide ((6000:Int)<ws.length)=false:=zw (by omega);refine ja5 [.tmp 2] Tryz.func109 ?_;simp only[hN0,hN1,hl1,za,go_sem];refine jau [1,20,21,22] [1] (fun i:Nat=>⟨[(1,.loc 1 2 0 0),(20,.im (.sl (ws.map rwC))),(21,.im (.int ws.length)),(22,.im (.int i))],[(1,2,[[.int N,.sl (ws.map rwC)]])],[]⟩)
  (fun i=>i<=ws.length) (fun i=>ws.length-i) 0 ?_ (zH _) ?_
 ·simp only[Int.natCast_zero,go_sem]
 ·intro i hi;by_cases hp:(i:Int)<ws.length
  ·have hd:decide ((i:Int)<ws.length)=true:=zh hp;obtain⟨w,hw⟩:=jd6 hp;have hm:=zr hw;have h1:=ja8 (n:=(i:Int)+1) (by omega);obtain⟨k1,k2,k3⟩:=h w hm;obtain⟨l1,l2,l3⟩:=ht w hm;have c1:=x_rt w.ts N k1 l1 (by omega) l3;have c2:=f_right (l2.mono (by omega:100000000<=19000000000));have d1:decide (w.kind<0)=false:=zw (by omega);have d2:decide (3<=w.kind)=false:=zw (by omega);have hg:(ws.map rwC)[i]? =some (rwC w):=by rw[zq,hw];rfl
   simp only[rwC,fc,List.cons_append,List.nil_append]at hg;simp only[frac,ints]at c2;simp only[hd,hg,go_sem];refine ja1 c1 ?_;simp only[hd,hg,d1,d2,go_sem];refine ja1 c2 ?_;simp only[hd,hg,d1,d2,go_sem];refine jac (i+1) ?_ (by omega) (by omega);simp only[h1,Int.natCast_add,go_sem]
  ·have hd:decide ((i:Int)<ws.length)=false:=zw hp;simp only[hd,go_sem]
end
section
open Go.Abs
attribute [local go_sem] ints ic big frac fc
theorem jnk(r:Rat):Ctr G.P 189 [frac r] (· = .bool (decide (r=0))):=by
 have e:decide (r=0)=decide (r.num.sign=0):=ym.2 sign_zero.symm;rw[e];refine ja5 [.tmp 2] Tryz.func189 ?_;simp only[go_sem]
theorem x_over{a b:Rat}(h:b≠0)(ha:FL 19000000000 a)(hb:FL 19000000000 b):Ctr G.P 188 [frac a,frac b] (· =frac (a/b)):=by
 have k1:=f_div h ha hb;generalize a/b=c at*;simp only[frac,ints]at k1⊢;refine ja5 [.cell 4 35] Tryz.func188 ?_;simp only[go_sem];refine ja1 k1 ?_;simp only[go_sem]
theorem x_less{a b c:Rat}(ha:FL 6000000000 a)(hb:FL 6000000000 b)(hc:FL 6000000000 c):Ctr G.P 190 [frac a,frac b,frac c] (· =frac (a-b*c)):=by
 have z1:=jnk b;have z2:=jnk c;have m1:=f_mul (hb.mono (by omega)) (hc.mono (by omega));have s1:=f_sub (ha.mono (by omega)) ((FL_mul hb hc).mono (by omega));have e1:b=0->a-b*c=a:=fun h=>by rw[h];grind
 have e2:c=0->a-b*c=a:=fun h=>by rw[h];grind
 generalize a-b*c=x at*;generalize b*c=y at*;generalize hd1:decide (b=0)=d1 at*;generalize hd2:decide (c=0)=d2 at*;simp only[frac,ints]at z1 z2 m1 s1⊢;refine ja5 [.cell 6 35] Tryz.func190 ?_;simp only[go_sem];refine ja1 z1 ?_;simp only[go_sem];refine jd7 (fun h1=> ?_) (fun h1=> ?_)
 ·subst h1;have e1:=e1 (zK hd1);subst e1;simp only[go_sem]
 ·subst h1;simp only[go_sem];refine ja1 z2 ?_;simp only[go_sem];refine jd7 (fun h2=> ?_) (fun h2=> ?_)
  ·subst h2;have e2:=e2 (zK hd2);subst e2;simp only[go_sem]
  ·subst h2;simp only[go_sem];refine ja1 m1 ?_;simp only[go_sem];refine ja1 s1 ?_;simp only[go_sem]
end
section
open Go.Abs
attribute [local go_sem] ints ic big frac fc
def tkF(a row:Nat->Rat)(s j:Nat):Rat:=if j=s then 0-a s*row s else a j-a s*row j
theorem x_take(L:Abs.Rows)(A B n s:Nat)(a row:Nat->Rat)(hL:blks L)(hA:Abs.look L (hp A)=some (4,tab n fun j=>qc (a j)))(hB:Abs.look L (hp B)=some (4,tab n fun j=>qc (row j)))(hAB:A≠B)(hs:s<n)(hn:n<=100000)
  (ka:∀j,j<n->FL 1000000000 (a j)) (kr:∀j,j<n->FL 1000000000 (row j)):
  CtrH G.P 191 [.im (.ref A 35 4 n),.im (.ref B 35 4 n),.im (.int s)] L
   (fun r L'=>r= .im (.tup [])/\blks L'/\Abs.look L' (hp A)=some (4,tab n fun j=>qc (tkF a row s j))/\∀k,k≠hp A->Abs.look L' k=Abs.look L k):=by
 have hs':(s:Int)<n:=by omega
 have h0:(0:Int)<=s:=by omega
 have hgs:=qget (f:=a) hs;have F1:=bF hL;have K1:=bK hL;refine jav [] [] [] Tryz.func191 ?_;simp only[hA,hs',h0,hgs,Int.toNat_natCast,ja9,F1,K1,go_sem];refine jay [0,1,2,6,13,14] (fun g:Nat×Abs.Rows=>⟨[(0,.im (.ref A 35 4 n)),(1,.im (.ref B 35 4 n)),(2,.im (.int s)),(6,.loc 6 4 0 0),(13,.im (.int n)),(14,.im (.int g.1))],(6,4,[fc (a s)])::g.2,[]⟩)
  (fun g=>g.1<=n/\blks g.2/\Abs.look g.2 (hp A)=some (4,tab n fun j=>qc (if j<g.1/\j≠s then a j-a s*row j else a j))/\∀k,k≠hp A->Abs.look g.2 k=Abs.look L k) (fun g=>n-g.1) (0,L) ?_ ?_ rfl ⟨zH _,hL,by simpa using hA,fun _ _=>rfl⟩ ?_
 ·simp only[Int.natCast_zero,go_sem]
 ·exact SubR.of_eq rfl
 ·intro⟨j,M⟩ ⟨hj,hM,hMA,hMo⟩;dsimp only at hj hM hMA hMo;have F2:=bF hM;have K2:=bK hM;have G2:=bN hM;have hMB:Abs.look M (hp B)=some (4,tab n fun j=>qc (row j)):=(hMo _ (fun e=>hAB (hp_inj.1 e).symm)).trans hB;by_cases hlt:j<n
  ·have hd:decide ((j:Int)<n)=true:=zh (by omega);have hjn:(j:Int)<n:=by omega
   have h1:=ja8 (n:=(j:Int)+1) (by omega);have hga:(tab n fun k=>qc (if k<j/\k≠s then a k-a s*row k else a k))[j]? =some (fc (a j)):=by
    rw[qget hlt,zn (by omega)]
   have hgb:=qget (f:=row) hlt;by_cases hjs:j=s
   ·have hd2:decide ((j:Int)=s)=true:=zh (by omega);simp only[hd,hd2,Int.toNat_natCast,F2,K2,go_sem];refine jaa (j+1,M) ?_ ?_ rfl (by show n-(j+1)<n-j;omega) ⟨hlt,hM,hMA.trans ?_,hMo⟩
    ·simp only[h1,Int.natCast_add,go_sem]
    ·exact SubR.of_eq rfl
    ·congr 2;refine jam fun k _=> ?_;have e:(k<j/\k≠s)↔(k<(j+1,M).1/\k≠s):=by dsimp only;omega
     simp only[e]
   ·have hd2:decide ((j:Int)=s)=false:=zw (by omega);have kl:=x_less (ka j hlt |>.mono (by omega)) (ka s hs |>.mono (by omega)) (kr j hlt |>.mono (by omega));generalize hx:a j-a s*row j=x at*;simp only[frac,ints]at kl;simp only[hd,hd2,Int.toNat_natCast,F2,K2,go_sem];refine jap ?_;simp only[hMA,hMB,hga,hgb,hjn,ja9,Int.toNat_natCast,F2,K2,G2,go_sem];refine ja4 kl (by decide) ?_;simp only[hMA,hMB,hga,hgb,hjn,ja9,Int.toNat_natCast,F2,K2,G2,go_sem];refine jaa (j+1,M.map (fun p=>if p.1=hp A then(p.1,4,(tab n fun k=>qc (if k<j/\k≠s then a k-a s*row k else a k)).set j (fc x))else p)) ?_ ?_ rfl (by show n-(j+1)<n-j;omega)
     ⟨hlt,jb5 hM,(jad hMA).trans ?_,fun k hk=>(jai hk).trans (hMo k hk)⟩
    ·simp only[h1,Int.natCast_add,go_sem]
    ·exact SubR.of_eq rfl
    ·rw[qset];congr 2;refine jam fun k _=>qa qc ?_;by_cases e:k=j
     ·subst e;rw[zm rfl,zm ⟨by show k<k+1;omega,hjs⟩,hx]
     ·have e':(k<j/\k≠s)↔(k<j+1/\k≠s):=by omega
      rw[zn e];simp only[e']
  ·have hd:decide ((j:Int)<n)=false:=zw (by omega);have hjn:j=n:=by omega
   subst hjn;have o1:=jbz 0 (by omega);have hga:(tab j fun k=>qc (if k<j/\k≠s then a k-a s*row k else a k))[s]? =some (fc (a s)):=by
    rw[qget hs,zn (by omega)]
   have hgb:=qget (f:=row) hs;have kl:=x_less (a:=((0:Int):Rat)) ((jbv (by omega)).mono (by omega)) (ka s hs |>.mono (by omega)) (kr s hs |>.mono (by omega));generalize hz:((0:Int):Rat)=z at*;generalize hx:z-a s*row s=x at*;simp only[frac,ints]at kl o1;simp only[hd,go_sem];refine jap ?_;simp only[F2,K2,G2,go_sem];refine ja4 o1 (by decide) ?_;simp only[hMA,hMB,hga,hgb,hs',h0,ja9,Int.toNat_natCast,F2,K2,G2,go_sem];refine ja4 kl (by decide) ?_;simp only[hMA,hMB,hga,hgb,hs',h0,ja9,Int.toNat_natCast,F2,K2,G2,go_sem];obtain⟨M',hM',hb,hl,ho⟩:∃M',M'=M.map (fun p=>if p.1=hp A then(p.1,4,(tab j fun k=>qc (if k<j/\k≠s then a k-a s*row k else a k)).set s (fc x))else p)/\blks M'/\
     Abs.look M' (hp A)=some (4,tab j fun j=>qc (tkF a row s j))/\∀k,k≠hp A->Abs.look M' k=Abs.look L k:=by
    refine⟨_,rfl,jb5 hM,(jad hMA).trans ?_,fun k hk=>(jai hk).trans (hMo k hk)⟩;rw[qset];congr 2;refine jam fun k hk=>qa qc ?_;unfold tkF;by_cases e:k=s
    ·rw[zm e,zm e,<-hx,<-hz];rfl
    ·rw[zn e,zn e,zm ⟨hk,e⟩]
   refine jbe M' hb (ja3 (by decide) hb (SubR.of_eq hM')) ?_;simp only[go_sem];exact⟨hb,hl,ho⟩
end
section
open Go.Abs
attribute [local go_sem] ints ic big frac fc
def x4:List IV:=[.int 0,.emp,.int 0,.emp]
theorem jic(n:Nat)(hn:n<=100000):
  CtrH G.P 152 [.im (.int n)] []
   (fun r L'=>∃b,r= .im (.ref b 35 4 n)/\blks L'/\Abs.look L' (hp b)=some (4,tab n fun _=>qc 0)/\∀k,k≠hp b->Abs.look L' k=none):=by
 have o1:=jbz 0 (by omega);rw[show((0:Int):Rat)=0 from rfl]at o1;simp only[frac,ints]at o1;refine jav [6] [] [.tmp 2] Tryz.func152 ?_;simp only[go_sem];refine⟨by omega,jhi (fun b hb=> ?_)⟩;clear hb;simp only[zY,go_sem];refine jay [3,8,9] (fun g:Nat×Abs.Rows=>⟨[(3,.im (.ref b 35 4 n)),(8,.im (.int n)),(9,.im (.int g.1))],g.2,[]⟩)
  (fun g=>g.1<=n/\blks g.2/\Abs.look g.2 (hp b)=some (4,tab n fun k=>if k<g.1 then qc 0 else x4)/\∀k,k≠hp b->Abs.look g.2 k=none) (fun g=>n-g.1) (0,[(hp b,4,tab n fun _=>x4)]) ?_ ?_ rfl
  ⟨zH _,jaq jby,by rw[ja2];simp,fun k hk=>by rw[ja0 _ _ hk];rfl⟩ ?_
 ·simp only[Int.natCast_zero,go_sem]
 ·exact SubR.of_eq (by rw[<-tab_replicate];rfl)
 ·intro⟨j,M⟩ ⟨hj,hM,hMA,hMo⟩;dsimp only at hj hM hMA hMo;have F2:=bF hM;have K2:=bK hM;have G2:=bN hM;by_cases hlt:j<n
  ·have hd:decide ((j:Int)<n)=true:=zh (by omega);have hjn:(j:Int)<n:=by omega
   have h1:=ja8 (n:=(j:Int)+1) (by omega);have hga:(tab n fun k=>if k<j then qc 0 else x4)[j]? =some [.int 0,.emp,.int 0,.emp]:=by rw[jfp hlt,zn (by omega)];rfl
   simp only[hd,F2,K2,go_sem];refine ja1 o1 ?_;simp only[hMA,hga,hjn,ja9,Int.toNat_natCast,F2,K2,G2,go_sem];refine jaa (j+1,M.map (fun p=>if p.1=hp b then(p.1,4,(tab n fun k=>if k<j then qc 0 else x4).set j (fc 0))else p)) ?_ ?_ rfl (by show n-(j+1)<n-j;omega)
    ⟨hlt,jb5 hM,(jad hMA).trans ?_,fun k hk=>(jai hk).trans (hMo k hk)⟩
   ·simp only[h1,Int.natCast_add,go_sem]
   ·exact SubR.of_eq rfl
   ·rw[jmm];congr 2;refine jam fun k _=> ?_;by_cases e:k=j
    ·subst e;rw[zm rfl,zm (by show k<k+1;omega)];rfl
    ·have e':(k<j)↔(k<j+1):=by omega
     rw[zn e];simp only[e']
  ·have hd:decide ((j:Int)<n)=false:=zw (by omega);have hjn:j=n:=by omega
   subst hjn;have hl:Abs.look M (hp b)=some (4,tab j fun _=>qc 0):=hMA.trans (by congr 2;exact jam fun k hk=>zm hk);simp only[hd,go_sem];refine jbe M hM (SubR.of_eq rfl) ?_;simp only[go_sem];exact⟨b,rfl,hM,hl,hMo⟩
end
section
open Go.Abs
open Go.LP (Dic)
structure DN where
 (d r g o f s:Nat)
 a:Nat->Nat
def sl0(b e s k:Nat):IV:=if k=0 then .emp else .ref b e s k
def oc(k:Nat):List IV:=[.int (k:Int)]
def lineC(v:Rat)(b n:Nat):List IV:=fc v++[.ref b 35 4 n]
def srcC(s:Int×Bool):List IV:=[.int s.1,.bool s.2]
theorem jaj{b e s k:Nat}(h:k≠0):sl0 b e s k= .ref b e s k:=zn h
theorem jb8{b e s:Nat}:sl0 b e s 0= .emp:=rfl
structure HasD(L:Abs.Rows)(nm:DN)(N:Nat)(D:Dic)(src:Nat->Int×Bool):Prop where
 blk:blks L
 nd:(nm.d::nm.r::nm.g::nm.o::nm.f::nm.s::tab D.m nm.a).Nodup
 hd:Abs.look L (hp nm.d)=some (6,[[.int N,sl0 nm.r 219 5 D.m,.ref nm.g 35 4 D.n,sl0 nm.o 3 1 D.m,sl0 nm.f 3 1 D.n,sl0 nm.s 248 2 D.m]])
 hg:Abs.look L (hp nm.g)=some (4,tab D.n fun j=>qc (D.g j))
 hr:D.m≠0->Abs.look L (hp nm.r)=some (5,tab D.m fun i=>lineC (D.v i) (nm.a i) D.n)
 ho:D.m≠0->Abs.look L (hp nm.o)=some (1,tab D.m fun i=>oc (D.own i))
 hf:D.n≠0->Abs.look L (hp nm.f)=some (1,tab D.n fun j=>oc (D.free j))
 hs:D.m≠0->Abs.look L (hp nm.s)=some (2,tab D.m fun i=>srcC (src i))
 ha:∀i,i<D.m->Abs.look L (hp (nm.a i))=some (4,tab D.n fun j=>qc (D.a i j))
section
variable{L L':Abs.Rows}{nm:DN}{N:Nat}{D:Dic}{src:Nat->Int×Bool}
structure DN.Ap(nm:DN)(m:Nat):Prop where
 dr:nm.d≠nm.r
 dg:nm.d≠nm.g
 d_o:nm.d≠nm.o
 df:nm.d≠nm.f
 ds:nm.d≠nm.s
 rg:nm.r≠nm.g
 ro:nm.r≠nm.o
 rf:nm.r≠nm.f
 rs:nm.r≠nm.s
 go:nm.g≠nm.o
 gf:nm.g≠nm.f
 gs:nm.g≠nm.s
 of':nm.o≠nm.f
 os:nm.o≠nm.s
 fs:nm.f≠nm.s
 da:∀i,i<m->nm.d≠nm.a i
 ra:∀i,i<m->nm.r≠nm.a i
 ga:∀i,i<m->nm.g≠nm.a i
 oa:∀i,i<m->nm.o≠nm.a i
 fa:∀i,i<m->nm.f≠nm.a i
 sa:∀i,i<m->nm.s≠nm.a i
 aa:∀i j,i<m->j<m->nm.a i=nm.a j->i=j
theorem ap_of{m:Nat}(h:(nm.d::nm.r::nm.g::nm.o::nm.f::nm.s::tab m nm.a).Nodup):nm.Ap m:=by
 simp only[qH,zU,not_or]at h;obtain⟨⟨h1,h2,h3,h4,h5,h6⟩,⟨g1,g2,g3,g4,g5⟩,⟨k1,k2,k3,k4⟩,⟨l1,l2,l3⟩,⟨m1,m2⟩,n1,o1⟩:=h;have no:∀{x:Nat},x∉tab m nm.a->∀i,i<m->x≠nm.a i:=fun hx i hi e=>hx (e▸mem_tab hi);exact⟨h1,h2,h3,h4,h5,g1,g2,g3,g4,k1,k2,k3,l1,l2,m1,no h6,no g5,no k4,no l3,no m2,no n1,fun i j hi hj e=>tab_nodup o1 hi hj e⟩
theorem HasD.ap(h:HasD L nm N D src):nm.Ap D.m:=ap_of h.nd
theorem hpne{a b:Nat}(h:a≠b):hp a≠hp b:=fun e=>h (hp_inj.1 e)
theorem HasD.withA(h:HasD L nm N D src)(hb:blks L'){i:Nat}(hi:i<D.m){f:Nat->Rat}(hl:Abs.look L' (hp (nm.a i))=some (4,tab D.n fun j=>qc (f j)))(ho:∀k,k≠hp (nm.a i)->Abs.look L' k=Abs.look L k):
  HasD L' nm N {D with a:=fun i'=>if i'=i then f else D.a i'} src:=by
 have ap:=h.ap;refine⟨hb,h.nd,?_,?_,fun hm=> ?_,fun hm=> ?_,fun hm=> ?_,fun hm=> ?_,fun i' hi'=> ?_⟩
 ·rw[ho _ (hpne (ap.da i hi))];exact h.hd
 ·rw[ho _ (hpne (ap.ga i hi))];exact h.hg
 ·rw[ho _ (hpne (ap.ra i hi))];exact h.hr hm
 ·rw[ho _ (hpne (ap.oa i hi))];exact h.ho hm
 ·rw[ho _ (hpne (ap.fa i hi))];exact h.hf hm
 ·rw[ho _ (hpne (ap.sa i hi))];exact h.hs hm
 ·by_cases e:i'=i
  ·subst e;dsimp only;rw[zm rfl];exact hl
  ·dsimp only;rw[zn e,ho _ (hpne fun e'=>e (ap.aa i' i hi' hi e'))];exact h.ha i' hi'
theorem HasD.withV(h:HasD L nm N D src)(hb:blks L'){v:Nat->Rat}(hl:Abs.look L' (hp nm.r)=some (5,tab D.m fun i=>lineC (v i) (nm.a i) D.n))(ho:∀k,k≠hp nm.r->Abs.look L' k=Abs.look L k):
  HasD L' nm N {D with v:=v} src:=by
 have ap:=h.ap;refine⟨hb,h.nd,?_,?_,fun hm=> ?_,fun hm=> ?_,fun hm=> ?_,fun hm=> ?_,fun i' hi'=> ?_⟩
 ·rw[ho _ (hpne ap.dr)];exact h.hd
 ·rw[ho _ (hpne ap.rg.symm)];exact h.hg
 ·exact hl
 ·rw[ho _ (hpne ap.ro.symm)];exact h.ho hm
 ·rw[ho _ (hpne ap.rf.symm)];exact h.hf hm
 ·rw[ho _ (hpne ap.rs.symm)];exact h.hs hm
 ·rw[ho _ (hpne (ap.ra i' hi').symm)];exact h.ha i' hi'
theorem HasD.withG(h:HasD L nm N D src)(hb:blks L'){g:Nat->Rat}(hl:Abs.look L' (hp nm.g)=some (4,tab D.n fun j=>qc (g j)))(ho:∀k,k≠hp nm.g->Abs.look L' k=Abs.look L k):
  HasD L' nm N {D with g:=g} src:=by
 have ap:=h.ap;refine⟨hb,h.nd,?_,?_,fun hm=> ?_,fun hm=> ?_,fun hm=> ?_,fun hm=> ?_,fun i' hi'=> ?_⟩
 ·rw[ho _ (hpne ap.dg)];exact h.hd
 ·exact hl
 ·rw[ho _ (hpne ap.rg)];exact h.hr hm
 ·rw[ho _ (hpne ap.go.symm)];exact h.ho hm
 ·rw[ho _ (hpne ap.gf.symm)];exact h.hf hm
 ·rw[ho _ (hpne ap.gs.symm)];exact h.hs hm
 ·rw[ho _ (hpne (ap.ga i' hi').symm)];exact h.ha i' hi'
theorem HasD.withO(h:HasD L nm N D src)(hb:blks L'){o:Nat->Nat}(hl:Abs.look L' (hp nm.o)=some (1,tab D.m fun i=>oc (o i)))(ho:∀k,k≠hp nm.o->Abs.look L' k=Abs.look L k):
  HasD L' nm N {D with own:=o} src:=by
 have ap:=h.ap;refine⟨hb,h.nd,?_,?_,fun hm=> ?_,fun hm=> ?_,fun hm=> ?_,fun hm=> ?_,fun i' hi'=> ?_⟩
 ·rw[ho _ (hpne ap.d_o)];exact h.hd
 ·rw[ho _ (hpne ap.go)];exact h.hg
 ·rw[ho _ (hpne ap.ro)];exact h.hr hm
 ·exact hl
 ·rw[ho _ (hpne ap.of'.symm)];exact h.hf hm
 ·rw[ho _ (hpne ap.os.symm)];exact h.hs hm
 ·rw[ho _ (hpne (ap.oa i' hi').symm)];exact h.ha i' hi'
theorem HasD.withF(h:HasD L nm N D src)(hb:blks L'){f:Nat->Nat}(hl:Abs.look L' (hp nm.f)=some (1,tab D.n fun i=>oc (f i)))(ho:∀k,k≠hp nm.f->Abs.look L' k=Abs.look L k):
  HasD L' nm N {D with free:=f} src:=by
 have ap:=h.ap;refine⟨hb,h.nd,?_,?_,fun hm=> ?_,fun hm=> ?_,fun hm=> ?_,fun hm=> ?_,fun i' hi'=> ?_⟩
 ·rw[ho _ (hpne ap.df)];exact h.hd
 ·rw[ho _ (hpne ap.gf)];exact h.hg
 ·rw[ho _ (hpne ap.rf)];exact h.hr hm
 ·rw[ho _ (hpne ap.of')];exact h.ho hm
 ·exact hl
 ·rw[ho _ (hpne ap.fs.symm)];exact h.hs hm
 ·rw[ho _ (hpne (ap.fa i' hi').symm)];exact h.ha i' hi'
theorem HasD.sub(h:HasD L nm N D src)(hb:blks L')(hs:SubR L L'):HasD L' nm N D src:=
 ⟨hb,h.nd,hs _ _ h.hd,hs _ _ h.hg,fun hm=>hs _ _ (h.hr hm),fun hm=>hs _ _ (h.ho hm),fun hm=>hs _ _ (h.hf hm),fun hm=>hs _ _ (h.hs hm),fun i hi=>hs _ _ (h.ha i hi)⟩
theorem lget{i m:Nat}{v:Nat->Rat}{A:Nat->Nat}{n:Nat}(h:i<m):(tab m fun i=>lineC (v i) (A i) n)[i]? =some [.int (v i).num.sign,.sl ((dig (v i).num.natAbs).map ic),.int ((v i).den:Int).sign,.sl ((dig ((v i).den:Int).natAbs).map ic),.ref (A i) 35 4 n]:=jfp h
theorem oget{i m:Nat}{o:Nat->Nat}(h:i<m):(tab m fun i=>oc (o i))[i]? =some [.int (o i:Int)]:=jfp h
theorem sget{i m:Nat}{o:Nat->Int×Bool}(h:i<m):(tab m fun i=>srcC (o i))[i]? =some [.int (o i).1,.bool (o i).2]:=jfp h
end
end
section
open Go.Abs
open Go.LP (Dic)
attribute [local go_sem] ints ic big frac fc
def jbm(vars:Nat->Nat)(ch:Nat->Bool):Nat->Int
 | 0=> -1
 | k+1=>if(ch k&&(decide (jbm vars ch k<0) || decide (vars k<vars (jbm vars ch k).toNat)))=true then(k:Int)else jbm vars ch k
theorem jda(vars:Nat->Nat)(ch:Nat->Bool):∀k,-1<=jbm vars ch k/\jbm vars ch k<k
 | 0=>by simp[jbm]
 | k+1=>by
  have:=jda vars ch k;rw[jbm];split<;>omega
theorem jcr{vars:Nat->Nat}{ch:Nat->Bool}:∀{k},jbm vars ch k<0->∀i,i<k->ch i=false
 | k+1,h,i,hi=>by
  rw[jbm]at h;split at h
  ·omega
  ·rename_i hc;rcases vj (vc hi)with h1 | h1
   ·exact jcr h i h1
   ·subst h1;rw[zh h,Bool.true_or,Bool.and_true]at hc
    simpa using hc
theorem jd3{vars:Nat->Nat}{ch:Nat->Bool}:∀{k},0<=jbm vars ch k->ch (jbm vars ch k).toNat=true/\∀i,i<k->ch i=true->vars (jbm vars ch k).toNat<=vars i
 | 0,h=>by simp[jbm]at h
 | k+1,h=>by
  have hl:=jda vars ch k;rw[jbm]at h⊢;split at h
  ·rename_i hc;rw[zm hc,Int.toNat_natCast];rw[zC,qJ,zT,zT]at hc;refine⟨hc.1,fun i hi hch=> ?_⟩;rcases vj (vc hi)with h1 | h1
   ·rcases hc.2 with h2 | h2
    ·rw[jcr h2 i h1]at hch;cases hch
    ·by_cases h0:0<=jbm vars ch k
     ·have:=(jd3 h0).2 i h1 hch;omega
     ·rw[jcr (vars:=vars) (ch:=ch) (k:=k) (by omega) i h1]at hch;cases hch
   ·subst h1;exact zB _
  ·rename_i hc;rw[zn hc];obtain⟨h1,h2⟩:=jd3 h;refine⟨h1,fun i hi hch=> ?_⟩;rcases vj (vc hi)with h3 | h3
   ·exact h2 i h3 hch
   ·subst h3;rw[hch,qG,qJ,zT,zT]at hc;omega
theorem caps_toH(caps:List IV):(caps.map AV.im).map AV.toH=caps.map AV.im:=by simp[AV.toH,Function.comp_def]
theorem jfm(L:Abs.Rows)(O m:Nat)(vars:Nat->Nat)(ch:Nat->Bool)(g:Nat)(caps:List IV)(hg:3<=g/\g<G.fns)(hL:blks L)(hO:m≠0->Abs.look L (hp O)=some (1,tab m fun i=>oc (vars i)))(hm:m<=100000)(hv:∀i,i<m->vars i<=1000000)
  (hc:∀i,i<m->CtrH G.P g (.im (.int (i:Int))::caps.map .im) L (fun r L'=>r= .im (.bool (ch i))/\L'=L)):
  CtrH G.P 154 [.im (sl0 O 3 1 m),.im (.clo g caps)] L (fun r L'=>r= .im (.int (jbm vars ch m))/\L'=L):=by
 have F1:=bF hL;have K1:=bK hL;have G1:=bN hL;rcases yR m with h0 | h0
 ·subst h0;rw[jb8];refine jav [] [] [.tmp 4] Tryz.func154 ?_;simp only[F1,K1,go_sem];refine jay [5,10,9] (fun g:Unit=>⟨[(5,.im (.int (-1))),(10,.im (.int 0)),(9,.im (.int 0))],L,[]⟩) (fun _=>True) (fun _=>0) () ?_ ?_ rfl trivial ?_
  ·simp only[go_sem]
  ·exact SubR.of_eq rfl
  ·intro _ _;simp only[go_sem];refine jbe L hL (SubR.of_eq rfl) ?_;simp only[jbm,go_sem]
 ·rw[jaj (by omega)];have hO:=hO (by omega);refine jav [] [] [.tmp 4] Tryz.func154 ?_;simp only[F1,K1,go_sem];refine jay [0,1,5,8,9,10] (fun k:Nat=>⟨[(0,.im (.ref O 3 1 m)),(1,.im (.clo g caps)),(5,.im (.int (jbm vars ch k))),(8,.im (.ref O 3 1 m)),(9,.im (.int m)),(10,.im (.int k))],L,[]⟩)
   (fun k=>k<=m) (fun k=>m-k) 0 ?_ ?_ rfl (zH _) ?_
  ·simp only[Int.natCast_zero,jbm,go_sem]
  ·exact SubR.of_eq rfl
  ·intro k hk;by_cases hlt:k<m
   ·have hd:decide ((k:Int)<m)=true:=zh (by omega);have hkm:(k:Int)<m:=by omega
    have h1:=ja8 (n:=(k:Int)+1) (by omega);have hlf:=jda vars ch k;have hgk:=oget (o:=vars) hlt;have hck:=hc k hlt;have hls:jbm vars ch (k+1)=if(ch k&&(decide (jbm vars ch k<0) || decide (vars k<vars (jbm vars ch k).toNat)))=true then(k:Int)else jbm vars ch k:=rfl
    generalize hr0:jbm vars ch k=r0 at*;have hgr:0<=r0->(tab m fun i=>oc (vars i))[r0.toNat]? =some [.int (vars r0.toNat:Int)]:=fun h=>oget (by omega);have hv1:=hv k hlt;generalize ch k=c at*;have hw: -9223372036854775808<=(k:Int)+1:=by omega
    simp only[hd,hO,hgk,hkm,ja9,Int.toNat_natCast,F1,K1,G1,go_sem];refine jcv hck hg (by rw[qw,caps_toH];rfl) hL (SubR.of_eq rfl) ?_;rintro r L' ⟨rfl,rfl⟩ hfr;refine⟨L',jbf,?_⟩;cases c
    ·rw[qW,zn yS]at hls;simp only[hd,hO,hgk,hkm,ja9,Int.toNat_natCast,F1,K1,G1,go_sem];refine jaa (k+1) ?_ (SubR.of_eq rfl) rfl (by omega) hlt;simp only[h1,hls,Int.natCast_add,go_sem]
    ·rw[qG]at hls;by_cases hneg:r0<0
     ·have hd1:decide (r0<0)=true:=zh hneg;rw[hd1,Bool.true_or,zm rfl]at hls;simp only[hd,hd1,hO,hgk,hkm,ja9,Int.toNat_natCast,F1,K1,G1,go_sem];refine jaa (k+1) ?_ (SubR.of_eq rfl) rfl (by omega) hlt;simp only[h1,hls,Int.natCast_add,go_sem]
     ·have hd1:decide (r0<0)=false:=zw hneg;have hgr:=hgr (by omega);have hr1:0<=r0:=by omega
      have hr2:r0<m:=by omega
      rw[hd1,yO]at hls;by_cases hlt2:vars k<vars r0.toNat
      ·have hd2:decide ((vars k:Int)<vars r0.toNat)=true:=zh (by omega);rw[zh hlt2,zm rfl]at hls;simp only[hd,hd1,hd2,hO,hgk,hgr,hr1,hr2,hkm,ja9,Int.toNat_natCast,F1,K1,G1,go_sem];refine jaa (k+1) ?_ (SubR.of_eq rfl) rfl (by omega) hlt;simp only[h1,hls,Int.natCast_add,go_sem]
      ·have hd2:decide ((vars k:Int)<vars r0.toNat)=false:=zw (by omega);rw[zw hlt2,zn yS]at hls;simp only[hd,hd1,hd2,hO,hgk,hgr,hr1,hr2,hkm,ja9,Int.toNat_natCast,F1,K1,G1,go_sem];refine jaa (k+1) ?_ (SubR.of_eq rfl) rfl (by omega) hlt;simp only[h1,hls,Int.natCast_add,go_sem]
   ·have hd:decide ((k:Int)<m)=false:=zw (by omega);have hkm:k=m:=by omega
    subst hkm;simp only[hd,go_sem];refine jbe L hL (SubR.of_eq rfl) ?_;simp only[go_sem]
end
end Go.Proofs.YtkcekimolppapaaGreat
namespace Go.Abs
section
theorem CtrH.loc{P:Program}{f:FuncId}{b s i j:Nat}{args:List AV}{L:Rows}{φ:AV->Rows->Prop}(h:CtrH P f (.im (.pr b s i j)::args) L φ):CtrH P f (.loc (hp b) s i j::args) L φ:=
 fun w M vs h1 h2 h3 h4=>h w M vs h1 h2 (by simpa using h3) fun k av v hk hv=>by
  cases k with
  | zero=>
   simp at hk;subst hk;obtain⟨b',e1,e2⟩:=h4 0 (.loc (hp b) s i j) v rfl hv;rw[pβ_hp]at e1;cases e1;rw[e2];exact Rep.pr b s i j
  | succ k=>exact h4 (k+1) av v (by simpa using hk) hv
theorem St.le_lend(s:St)(d:Nat):St.Le s (s.lend d):=fun _ _ _ β _ _ h=>⟨β,h.lend d⟩
theorem jiz{G:Ctx}{c:Code}{Q:Exit->St->Prop}{st:St}(d:Nat)(h: @LoopP G ⟨c⟩ ⟨Q⟩ (st.lend d)): @LoopP G ⟨c⟩ ⟨Q⟩ st:=by
 obtain⟨I,n,⟨s0,h1,h2⟩,h3⟩:=h;exact⟨I,n,⟨s0,(St.le_lend st d).trans h1,h2⟩,h3⟩
end
end Go.Abs
namespace Go.Proofs.YtkcekimolppapaaGreat
section
open Go.Abs
open Go.LP (Dic)
attribute [local go_sem] ints ic big frac fc
section
variable{L:Abs.Rows}{nm:DN}{N:Nat}{D:Dic}{src:Nat->Int×Bool}
theorem x_c1(h:HasD L nm N D src){i:Nat}(hi:i<D.m):
  CtrH G.P 155 [.im (.int i),.im (.ip [.pr nm.d 6 0 0] 0)] L (fun r L'=>r= .im (.bool (decide (D.v i<0)))/\L'=L):=by
 have hb:=h.blk;have F1:=bF hb;have G1:=bN hb;have h1:=h.hd;have h2:=h.hr (by omega);have hm0:D.m≠0:=by omega
 have hi':(i:Int)<D.m:=by omega
 have hg:=lget (v:=D.v) (A:=nm.a) (n:=D.n) hi;have e:decide (D.v i<0)=decide ((D.v i).num.sign<0):=ym.2 sign_neg.symm;rw[e];refine jav [] [] [.tmp 3] Tryz.func155 ?_;simp only[h1,h2,hg,hi',jaj hm0,ja9,Int.toNat_natCast,F1,G1,go_sem];refine jbe L hb (SubR.of_eq rfl) ?_;simp only[go_sem]
theorem x_c2(h:HasD L nm N D src){j:Nat}(hj:j<D.n):
  CtrH G.P 156 [.im (.int j),.im (.ip [.pr nm.d 6 0 0] 0)] L (fun r L'=>r= .im (.bool (decide (0<D.g j)))/\L'=L):=by
 have hb:=h.blk;have F1:=bF hb;have G1:=bN hb;have h1:=h.hd;have h2:=h.hg;have hj':(j:Int)<D.n:=by omega
 have hg:=qget (f:=D.g) hj;have e:decide (0<D.g j)=decide (0<(D.g j).num.sign):=ym.2 sign_pos.symm;rw[e];refine jav [] [] [.tmp 3] Tryz.func156 ?_;simp only[h1,h2,hg,hj',ja9,Int.toNat_natCast,F1,G1,go_sem];refine jbe L hb (SubR.of_eq rfl) ?_;simp only[go_sem]
theorem x_c3(h:HasD L nm N D src){r:Nat}(hr:r<D.m){j:Nat}(hj:j<D.n):
  CtrH G.P 157 [.im (.int j),.im (.ip [.pr nm.d 6 0 0] 0),.im (.ip [.int (r:Int)] 0)] L (fun x L'=>x= .im (.bool (decide (D.a r j<0)))/\L'=L):=by
 have hb:=h.blk;have F1:=bF hb;have G1:=bN hb;have h1:=h.hd;have h2:=h.hr (by omega);have h3:=h.ha r hr;have hm0:D.m≠0:=by omega
 have hr':(r:Int)<D.m:=by omega
 have hj':(j:Int)<D.n:=by omega
 have hg:=lget (v:=D.v) (A:=nm.a) (n:=D.n) hr;have hg2:=qget (f:=D.a r) hj;have e:decide (D.a r j<0)=decide ((D.a r j).num.sign<0):=ym.2 sign_neg.symm;rw[e];refine jav [] [] [.tmp 4] Tryz.func157 ?_;simp only[F1,go_sem];refine jab 15 ?_;simp only[h1,h2,h3,hg,hg2,hr',hj',jaj hm0,ja9,Int.toNat_natCast,F1,G1,go_sem];refine jbe L hb (SubR.of_eq rfl) ?_;simp only[go_sem]
theorem x_c4(h:HasD L nm N D src){s:Nat}(hs:s<D.n){i:Nat}(hi:i<D.m):
  CtrH G.P 158 [.im (.int i),.im (.ip [.pr nm.d 6 0 0] 0),.im (.ip [.int (s:Int)] 0)] L (fun x L'=>x= .im (.bool (decide (0<D.a i s)))/\L'=L):=by
 have hb:=h.blk;have F1:=bF hb;have G1:=bN hb;have h1:=h.hd;have h2:=h.hr (by omega);have h3:=h.ha i hi;have hm0:D.m≠0:=by omega
 have hi':(i:Int)<D.m:=by omega
 have hs':(s:Int)<D.n:=by omega
 have hg:=lget (v:=D.v) (A:=nm.a) (n:=D.n) hi;have hg2:=qget (f:=D.a i) hs;have e:decide (0<D.a i s)=decide (0<(D.a i s).num.sign):=ym.2 sign_pos.symm;rw[e];refine jav [] [] [.tmp 4] Tryz.func158 ?_;simp only[F1,go_sem];refine jab 15 ?_;simp only[h1,h2,h3,hg,hg2,hi',hs',jaj hm0,ja9,Int.toNat_natCast,F1,G1,go_sem];refine jbe L hb (SubR.of_eq rfl) ?_;simp only[go_sem]
