/- A part of the proof. No further condition. -/
import Derived.Test.YtkcekimolppapaaGreatKS10
set_option linter.all false
set_option maxRecDepth 10000000
set_option maxHeartbeats 16000000
namespace Go.Proofs.YtkcekimolppapaaGreat
section
open Go.Abs Go.Sort
section
variable{α:Type}[Inhabited α]{enc:α->List Value}{k:Nat}{w:World}{b n:Nat}{d:Array α}{os:Array Obj}
theorem sw_heap{cur:Array Value}{T:TypeId}{z:Nat×Nat}(h:w.heap[b]? =some (.cells cur T z)):(sortWorldK enc k w b 0 n d os).heap[b]? =some (.cells (putCells id 0 (flatK enc k d) cur) T z):=by
 have hb:b<w.heap.size:=(zI.1 h).1;unfold sortWorldK grow putRowK putRow mapBlock Go.Sort.ahead;dsimp only;rw[yi (by rw[vX];exact hb),vu,zm rfl,h];rfl
theorem jij{b':Nat}(h:b'≠b)(hb:b'<w.heap.size):(sortWorldK enc k w b 0 n d os).heap[b']? =w.heap[b']? :=by
 unfold sortWorldK grow putRowK putRow mapBlock Go.Sort.ahead;dsimp only;rw[yi (by rw[vX];exact hb),vu,zn (zK h)]
theorem sw_size:w.heap.size<=(sortWorldK enc k w b 0 n d os).heap.size:=by
 unfold sortWorldK grow putRowK putRow mapBlock Go.Sort.ahead;dsimp only;rw[jx,vX];omega
theorem sw_cell{cur:Array Value}(hk:∀x,(enc x).length=k){i j:Nat}{x:α}{u:Value}(hi:d[i]? =some x)(hj:(enc x)[j]? =some u)(hc:i*k+j<cur.size):(putCells id 0 (flatK enc k d) cur)[i*k+j]? =some u:=by
 have hjk:j<k:=by rw[<-hk x];exact(zl.1 hj).1
 have hid:i<d.size:=(zI.1 hi).1;have hlt:i*k+j<d.size*k:=by
  have:=qw k (show i+1<=d.size from hid);rw[qA,v7]at this;omega
 have e1:(i*k+j)/k=i:=by rw[jj,Nat.mul_add_div (by omega),jO hjk,Nat.add_zero]
 have e2:(i*k+j) % k=j:=by rw[jj,wj,jp hjk]
 unfold putCells;rw[Array.getElem?_mapIdx,yP hc,Option.map_some,zm ⟨zH _,by rw[size_flatK];omega⟩,Nat.sub_zero,get_flatK _ _ _ _ hlt,e1,e2];rw[j6 d i hid,(zI.1 hi).2];rw[id,List.getElem!_eq_getElem?_getD,hj];rfl
end
inductive F2{α β:Type}(R:α->β->Prop):List α->List β->Prop
 | nil:F2 R [] []
 | cons {x y l m}:R x y->F2 R l m->F2 R (x::l) (y::m)
theorem F2.of{α β:Type}{R:α->β->Prop}:∀{l:List α} {m:List β},l.length=m.length->(∀(i:Nat) (x:α) (y:β),l[i]? =some x->m[i]? =some y->R x y)->F2 R l m
 | [],[],_,_=> .nil
 | x::l,y::m,h,hr=> .cons (hr 0 x y rfl rfl) (F2.of (by simpa using h) fun i a c h1 h2=>hr (i+1) a c (by simpa using h1) (by simpa using h2))
theorem F2.get{α β:Type}{R:α->β->Prop}{l:List α}{m:List β}(h:F2 R l m):∀{i:Nat} {x:α} {y:β},l[i]? =some x->m[i]? =some y->R x y:=by
 induction h with
 | nil=>intro i x y h1;simp at h1
 | cons h1 _ ih=>
  intro i x y g1 g2;cases i with
  | zero=>simp at g1 g2;subst g1 g2;exact h1
  | succ i=>exact ih (by simpa using g1) (by simpa using g2)
theorem perm_rel{α β:Type}{R:α->β->Prop}{l l':List α}(hp:l.Perm l'):∀{m:List β},F2 R l m->∃m',m'.Perm m/\F2 R l' m':=by
 induction hp with
 | nil=>intro m h;exact⟨m,j9 _,h⟩
 | cons x _ ih=>
  intro m h;cases h with
  | cons h1 h2=>
   obtain⟨m',g1,g2⟩:=ih h2;exact⟨_,g1.cons _,.cons h1 g2⟩
 | swap x y l=>
  intro m h;cases h with
  | cons h1 h2=>
   cases h2 with
   | cons h3 h4=>exact⟨_,List.Perm.swap _ _ _,.cons h3 (.cons h1 h4)⟩
 | trans _ _ ih1 ih2=>
  intro m h;obtain⟨m1,g1,g2⟩:=ih1 h;obtain⟨m2,g3,g4⟩:=ih2 g2;exact⟨m2,g3.trans g1,g4⟩
def keyC:List IV->Int
 | .sc (.int .i64 z)::_=>z
 | _=>0
theorem frozen0{w:World}{b o:Nat}{cur:Array Value}{T:TypeId}(h:w.heap[b]? =some (.cells cur T (0,0))):w.frozen? ⟨b,o,none⟩=false:=by
 simp[World.frozen?,h]
theorem cell0{w:World}{b o:Nat}{cur:Array Value}{T:TypeId}{u:Value}(h:w.heap[b]? =some (.cells cur T (0,0)))(hc:cur[o]? =some u):w.cell? ⟨b,o,none⟩=some u:=by
 simp[World.cell?,h,hc]
open Classical in
theorem w_sort{b:Nat}{es:List (List IV)}{L:Abs.Rows}(hL:Abs.look L (hp b)=some (5,es))(hlen:es.length<4611686018427387904)(hes:∀c∈es,∃z r,c= .int z::r):
  CtrH G.P 105 [.im (.ref b 117 5 es.length),.im (.clo 106 [])] L (fun r L'=>r= .im (.tup [])/\∃es':List (List IV),es'.Perm es/\(∀(i j:Nat) x y,i<j->es'[i]? =some x->es'[j]? =some y->keyC x<=keyC y)/\L'=setRow L (hp b) 5 es'):=by
 intro w M vs hM hrows hvl hargs;obtain⟨b',hb',hnM,cur,T,hcur,hclen,hcells⟩:=hrows _ _ _ hL;have hbb:=hp_inj.1 hb';subst hbb
 match vs,hvl with
 | [v0,v1],_=>
 have a0:Rep w (MoH M L) (.ref b 117 5 es.length) v0:=hargs 0 _ _ rfl rfl;have a1:Rep w (MoH M L) (.clo 106 []) v1:=hargs 1 _ _ rfl rfl;obtain⟨cp,rfl,hcp⟩:=a1.clo_inv;have hcp0:cp= #[]:=by
  have:=hcp.1;simp at this;exact v6 this.symm
 subst hcp0;have a0':∃cap,v0= .slice (some ⟨b,0,none⟩) es.length cap/\es.length<=cap/\cur.size=cap*5:=by
  cases a0 with
  | ref _ _ _ _ cap cur2 g1 g2 g3 g4=>
   rw[hcur]at g1;cases g1;exact⟨cap,rfl,g2,g4⟩
 obtain⟨cap,rfl,hcap,hsz⟩:=a0';have hx:∀i,∃x:TermV,i<es.length->(∀j,j<5->cur[i*5+j]? =x.enc[j]?)/\(∀c,es[i]? =some c->x.z=keyC c):=by
  intro i;by_cases hi:i<es.length
  ·obtain⟨c,hc⟩:∃c,es[i]? =some c:=⟨_,ze hi⟩;obtain⟨z,r,rfl⟩:=hes c (zk hc);have hl5:=hclen _ (zk hc);have hr4:r.length=4:=by simpa using hl5
   match r,hr4 with
   | [r1,r2,r3,r4],_=>
    obtain⟨_,u0,c0,q0⟩:=hcells i _ 0 _ hc rfl;obtain⟨o1,u1,c1,q1⟩:=hcells i _ 1 _ hc rfl;obtain⟨o2,u2,c2,q2⟩:=hcells i _ 2 _ hc rfl;obtain⟨o3,u3,c3,q3⟩:=hcells i _ 3 _ hc rfl;obtain⟨o4,u4,c4,q4⟩:=hcells i _ 4 _ hc rfl;have e0:u0= .int .i64 z:=by cases q0;rfl
    subst e0;refine⟨⟨z,[u1,u2,u3,u4],rfl,fun v hv=> ?_⟩,fun _=>⟨fun j hj=> ?_,fun c' hc'=> ?_⟩⟩
    ·simp at hv;rcases hv with rfl | rfl | rfl | rfl
     ·exact q1.oneCell o1
     ·exact q2.oneCell o2
     ·exact q3.oneCell o3
     ·exact q4.oneCell o4
    ·match j,hj with
     | 0,_=>exact c0
     | 1,_=>exact c1
     | 2,_=>exact c2
     | 3,_=>exact c3
     | 4,_=>exact c4
    ·rw[hc]at hc';cases hc';rfl
  ·exact⟨default,fun h=>absurd h hi⟩
 obtain⟨f,hf⟩:=Classical.axiomOfChoice hx;obtain⟨d,hd⟩:∃d:Array TermV,d=((List.range es.length).map f).toArray:=⟨_,rfl⟩;have hds:d.size=es.length:=by rw[hd];simp
 have hdg:∀i,i<es.length->d[i]? =some (f i):=fun i hi=>by rw[hd];simp[hi]
 have hlen5:∀x:TermV,x.enc.length=5:=fun x=>by simp[TermV.enc,x.len]
 have hH:HoldsK TermV.enc 5 w b 0 d:=by
  unfold HoldsK Holds;intro t ht;rw[size_flatK,hds]at ht;have hi:t/5<es.length:=by omega
  have hj:t % 5<5:=by omega
  obtain⟨g1,_⟩:=hf (t/5) hi;have g2:=g1 (t % 5) hj;have ht5:t/5*5+t % 5=t:=by omega
  rw[ht5,ze (by rw[hlen5];exact hj)]at g2;refine⟨?_,frozen0 hcur⟩;rw[qI,cell0 hcur g2,get_flatK _ _ _ _ (by rw[hds];exact ht),j6 d _ (by omega),(zI.1 (hdg _ hi)).2,j6 _ _ (by rw[hlen5];exact hj)];rfl
 have hblk:b<w.heap.size:=(zI.1 hcur).1;have hcall:=sort_calls b 0 cap d w hH hblk (by omega);rw[hds]at hcall;refine hcall.mono ?_;rintro e w' ⟨rfl,d',n,os,hperm,hsorted,rfl⟩;have hR:F2 (fun(x:TermV) (c:List IV)=>x.z=keyC c/\c.length=5/\∀(j:Nat) y u,c[j]? =some y->x.enc[j]? =some u->y.one=true/\Rep w (MoH M L) y u) d.toList es:=by
  refine F2.of (by rw[Array.length_toList,hds]) fun i x c h1 h2=> ?_;have hi:=(zl.1 h2).1;have hxi:x=f i:=by
   have:=hdg i hi;rw[qp]at h1;rw[this]at h1;exact(yE h1).symm
  subst hxi;obtain⟨g1,g2⟩:=hf i hi;have hl5:=hclen c (zk h2);refine⟨g2 c h2,hl5,fun j y u hy hu=> ?_⟩;obtain⟨o,u',c',q⟩:=hcells i c j y h2 hy;have hj:j<5:=by rw[<-hl5];exact(zl.1 hy).1
  rw[g1 j hj,hu]at c';cases c';exact⟨o,q⟩
 obtain⟨hp1,_,hp2⟩:=hperm;have hd's:d'.size=es.length:=by rw[hp1,hds]
 have hpl:d.toList.Perm d'.toList:=by
  have e1:(d'.extract 0 es.length)=d':=by rw[<-hd's];simp
  have e2:(d.extract 0 es.length)=d:=by rw[<-hds];simp
  rw[e1,e2]at hp2;exact hp2.symm
 obtain⟨es',hpe,hR'⟩:=perm_rel hpl hR;have hle:es'.length=es.length:=hpe.length_eq;have hMo:MoH M (setRow L (hp b) 5 es')=MoH M L:=by
  funext b1 o;unfold MoH;rw[jbs]
 have hshp:Shp w (sortWorldK TermV.enc 5 w b 0 n d' os):=fun b1 c1 T1 h1=>by
  by_cases e:b1=b
  ·subst e;refine⟨_,sw_heap h1,?_⟩;unfold putCells;rw[Array.size_mapIdx]
  ·exact⟨c1,by rw[jij e (zI.1 h1).1];exact h1,rfl⟩
 have hbM:∀o,MoH M L b o:=fun o=> .inr (by rw[hL];rfl);have hkept:Kept w (MoH M L) (sortWorldK TermV.enc 5 w b 0 n d' os) (MoH M L):=by
  refine⟨fun b1 o u hc hm=>⟨?_,hm⟩,fun b1 me c hc hm=>⟨?_,hm⟩,hshp⟩
  ·have e:b1≠b:=fun e=>by subst e;exact hm (hbM o)
   rw[World.cell?_of_block (w:=w) (a:=⟨b1,o,none⟩) (jij e (World.block_lt_of_cell? (a:=⟨b1,o,none⟩) w hc))];exact hc
  ·have e:b1≠b:=fun e=>by subst e;exact hm (hbM 0)
   rw[jij e (zI.1 hc).1];exact hc
 refine⟨.im (.tup []),.tuple #[],_,⟨rfl,es',hpe,fun i j x y hij h1 h2=> ?_,rfl⟩,rfl,rfl,⟨rfl,rfl,rfl,sw_size,fun k hk=> ?_,hshp⟩,fun k s es2 hk=> ?_,Rep.tup _ _ rfl fun k x v h=>(by simp at h)⟩
 ·have hi:=(zl.1 h1).1;have hj:=(zl.1 h2).1;have hdi:d'.toList[i]? =some d'[i]! :=by
   rw[qp,yP (by omega),j6 d' i (by omega)]
  have hdj:d'.toList[j]? =some d'[j]! :=by
   rw[qp,yP (by omega),j6 d' j (by omega)]
  have r1:=(hR'.get hdi h1).1;have r2:=(hR'.get hdj h2).1;have:=hsorted i j (zH _) hij (by omega);rw[TermV.lt]at this;have:=zN this;rw[<-r1,<-r2];omega
 ·obtain⟨k1,k2⟩:=hk;exact jij (fun e=>by subst e;rw[hL]at k2;cases k2) k1
 ·by_cases e:k=hp b
  ·subst e;rw[jc0 (by rw[hL];rfl)]at hk;cases hk;refine⟨b,rfl,.inl (by rw[hL];rfl),_,T,sw_heap hcur,fun c hc=> ?_,fun i c j y hi hj=> ?_⟩
   ·exact hclen c (hpe.mem_iff.1 hc)
   ·have hil:=(zl.1 hi).1;have hdi:d'.toList[i]? =some d'[i]! :=by
     rw[qp,yP (by omega),j6 d' i (by omega)]
    obtain⟨_,r2,r3⟩:=hR'.get hdi hi;have hj5:j<5:=by rw[<-r2];exact(zl.1 hj).1
    have hu:(d'[i]!).enc[j]? =some ((d'[i]!).enc[j]'(by rw[hlen5];exact hj5)):=ze _;obtain⟨o,q⟩:=r3 j y _ hj hu;refine⟨o,_,sw_cell hlen5 (by rw[<-qp];exact hdi) hu (by omega),?_⟩;rw[hMo];exact q.kept hkept
  ·rw[jce e]at hk;obtain⟨b1,rfl,h2,c1,T1,g1,g2,g3⟩:=hrows k s es2 hk;have e1:b1≠b:=fun h=>e (by rw[h]);refine⟨b1,rfl,.inl (by rw[hk];rfl),c1,T1,by rw[jij e1 (zI.1 g1).1];exact g1,g2,fun i c j y hi hj=> ?_⟩;obtain⟨o,u,q1,q2⟩:=g3 i c j y hi hj;exact⟨o,u,q1,by rw[hMo];exact q2.kept hkept⟩
theorem w_sort0:Ctr G.P 105 [.sl [],.clo 106 []] (· = .tup []):=by
 intro w M vs hM hr
 match vs,hr.1 with
 | [v0,v1],_=>
  have a0:Rep w M (.sl []) v0:=hr.2 0 _ _ rfl rfl;obtain⟨p,c,rfl⟩:∃p c,v0= .slice p 0 c:=by
   rcases a0.sl_inv with ⟨_,a,c,rfl⟩ | ⟨s',b,o,c,u,hne,_⟩
   ·exact⟨_,_,rfl⟩
   ·exact absurd rfl hne
  refine Calls.mono (AnyF.slices_SortFunc_none jpq p c v1 w) ?_;rintro e w' ⟨rfl,rfl⟩;exact⟨.tup [],_,rfl,rfl,Rep.tup _ _ rfl fun k x v h=>(by simp at h),Go.RowKit.Below.refl _ _⟩
end
section
open Go.Abs
attribute [local go_sem] ints ic
theorem jfc(l:List Int)(hl:OkD l)(hlen:l.length<=1000000000000):Ctr G.P 151 [ints l] (· =ints (dig (val l).toNat)):=by
 refine ja5 [.tmp 2] Tryz.func151 ?_;simp only[go_sem];refine jan [0,3] [] (fun n:Nat=>⟨[(0,.im (.sl (l.map ic))),(3,.im (.int n))],[],[]⟩) (fun n=>n<=l.length/\∀i,n<=i->dgt l i=0) (fun n=>n) l.length ?_ ⟨zt _,fun i hi=>jf4 hi⟩ ?_
 ·simp only[go_sem]
 ·intro n ⟨hn,hz⟩;have fin:n=0\/dgt l (n-1)≠0->(l.map ic).take n=(dig (val l).toNat).map ic:=fun h=>by
   rw[<-jR,js0 hl hn hz h]
  have hnn:(n:Int)<=l.length:=by omega
  rcases n with _ | m
  ·have hd:decide ((0:Int)<((0:Nat):Int))=false:=by decide
   have hf:=fin (.inl rfl);rw[List.take_zero]at hf;have hg:dig (val l).toNat=[]:=qO.1 hf.symm;rw[hg];simp only[hd,Int.natCast_zero,vF,jsz,go_sem]
  ·have hd:decide ((0:Int)<((m+1:Nat):Int))=true:=zh (by omega);have h1:=ja7 (n:=(m:Int)) (by omega);have h2:((m+1:Nat):Int)-1=m:=by omega
   have h3:((m+1:Nat):Int).toNat=m+1:=by omega
   have h4:(0:Int)<=((m+1:Nat):Int):=by omega
   obtain⟨d,hx⟩:∃d,l[m]? =some d:=⟨_,ze (by omega)⟩;have hdm:=dgt_at hx;simp only[hd,h1,h2,za,hx,go_sem];refine jdi (fun hb hb'=> ?_) (fun hb hb'=> ?_)
   ·simp only[hd,h1,h2,hb,go_sem];refine jab m ?_ (by omega) ⟨by omega,fun i hi=> ?_⟩
    ·simp only[h1,h2,go_sem]
    ·rcases zU m i with h | h
     ·exact hz i h
     ·rw[show i=m by omega,hdm];exact hb'
   ·have hf:=fin (.inr (by rw[Nat.add_sub_cancel,hdm];exact hb'));simp only[jsz,hnn,h3,h4,hb,hf,Nat.sub_zero,go_sem]
theorem t_ptrimO(l:List Int)(hl:OkD l)(hlen:l.length<=1000000000000):CtrM G.P 151 [.gsl 900 3 1 l.length] [(900,1,l.map ic)] (fun r Es new=>r= .gsl 900 3 1 (dig (val l).toNat).length/\Es=[l.map ic]/\new=none):=by
 refine jop good _ _ [.tmp 2] Tryz.func151 rfl rfl (by decide+kernel) rfl rfl (by simp) ?_;simp only[go_sem];refine jan [0,3] [900] (fun n:Nat=>⟨[(0,.gsl 900 3 1 l.length),(3,.im (.int n))],[(900,1,l.map ic)],[]⟩) (fun n=>n<=l.length/\∀i,n<=i->dgt l i=0) (fun n=>n) l.length ?_ ⟨zt _,fun i hi=>jf4 hi⟩ ?_
 ·simp only[go_sem]
 ·intro n ⟨hn,hz⟩;have fin:n=0\/dgt l (n-1)≠0->(dig (val l).toNat).length=n:=fun h=>by
   rw[<-js0 hl hn hz h,zY];omega
  have hnn:(n:Int)<=l.length:=by omega
  rcases n with _ | m
  ·have hd:decide ((0:Int)<((0:Nat):Int))=false:=by decide
   have hf:=fin (.inl rfl);rw[hf];simp only[hd,Int.natCast_zero,vF,jsz,yq,Int.toNat_zero,vy,go_sem]
  ·have hd:decide ((0:Int)<((m+1:Nat):Int))=true:=zh (by omega);have h1:=ja7 (n:=(m:Int)) (by omega);have h2:((m+1:Nat):Int)-1=m:=by omega
   have h3:((m+1:Nat):Int).toNat=m+1:=by omega
   have h4:(0:Int)<=((m+1:Nat):Int):=by omega
   have h5:(m:Int)<l.length:=by omega
   obtain⟨d,hx⟩:∃d,l[m]? =some d:=⟨_,ze (by omega)⟩;have hdm:=dgt_at hx;simp only[hd,h1,h2,h5,za,hx,go_sem];refine jdi (fun hb hb'=> ?_) (fun hb hb'=> ?_)
   ·simp only[hd,h1,h2,hb,go_sem];refine jab m ?_ (by omega) ⟨by omega,fun i hi=> ?_⟩
    ·simp only[h1,h2,go_sem]
    ·rcases zU m i with h | h
     ·exact hz i h
     ·rw[show i=m by omega,hdm];exact hb'
   ·have hf:=fin (.inr (by rw[Nat.add_sub_cancel,hdm];exact hb'));rw[hf];simp only[jsz,hnn,h3,h4,hb,Nat.sub_zero,vy,go_sem]
theorem jh1(l:List Int)(hlen:l.length<=1000000000000):Ctr G.P 141 [ints l] (· =ints l):=by
 refine ja5 [.tmp 2] Tryz.func141 ?_;simp only[go_sem];refine jey (fun h=> ?_) ?_
 ·have:l=[]:=qO.1 h;subst this;simp only[zF,go_sem]
 ·simp only[go_sem];exact⟨by simp,jqf l,by omega⟩
theorem t_cloneO(l:List Int)(hne:l≠[])(hlen:l.length<=1000000000000):CtrM G.P 141 [.im (ints l)] [] (fun r Es new=>r= .gsl 901 3 1 l.length/\Es=[]/\new=some (1,l.map ic)):=by
 have hne':l.map ic≠[]:=fun h=>hne (qO.1 h);refine jop goodO _ _ [.tmp 2] Tryz.func141 rfl rfl (by decide+kernel) rfl rfl (by simp) ?_;simp only[go_sem];refine jey (fun h=>absurd h hne') ?_;simp only[hne',go_sem];exact⟨jqf l,by omega⟩
end
end Go.Proofs.YtkcekimolppapaaGreat
namespace Go.Abs
section
theorem jl6{a q:List Int}{m:Nat}{b R lo:Int}(hm:m<q.length)(h:val (a.drop (m+1))=val (q.drop (m+1))*b+R):
  val (a.drop m)=val ((q.set m lo).drop m)*b+(dgt a m+1048576*R-lo*b):=by
 rw[jd5 a m,jd5 (q.set m lo) m,h];have h1:dgt (q.set m lo) m=lo:=by simp[dgt,hm]
 have h2:(q.set m lo).drop (m+1)=q.drop (m+1):=by
  rw[List.drop_set_of_lt (by omega)]
 rw[h1,h2,yU,qU,qJ];omega
theorem jsg{x q b R:Int}(h:x=q*b+R)(h0:0<=R)(h1:R<b):q=x/b/\R=x % b:=by
 have hb:0<b:=by omega
 have h2:x/b=q:=by
  rw[h,Int.add_comm,Int.add_mul_ediv_right _ _ (by omega),Int.ediv_eq_zero_of_lt h0 h1,jt]
 refine⟨h2.symm,?_⟩;have:=qY x b;rw[h2]at this;rw[yF]at this;omega
end
section
theorem jcx(n:Int):(BitVec.ofInt 64 n).toNat=(n % 18446744073709551616).toNat:=by
 rw[BitVec.toNat_ofInt];rfl
theorem and20(n:Int):bits .and .i64 n 1048575=n % 1048576:=by
 have h1:(BitVec.ofInt 64 n&&&BitVec.ofInt 64 1048575).toNat=(n % 1048576).toNat:=by
  rw[BitVec.toNat_and,jcx,jcx];have e:((1048575:Int) % 18446744073709551616).toNat=2^20-1:=by decide
  rw[e,jP];have:(n % 18446744073709551616) % 1048576=n % 1048576:=Int.emod_emod_of_dvd n ⟨17592186044416,by decide⟩;omega
 have h2:bits .and .i64 n 1048575=IntKind.i64.wrap ((BitVec.ofInt 64 n&&&BitVec.ofInt 64 1048575).toNat:Nat):=rfl;rw[h2,h1];have h3:=jZ n (show(1048576:Int)≠0 by decide);have h4:=jE n (show(0:Int)<1048576 by decide);rw[yY h3];exact IntWalk.i64_in _ (by omega)
theorem or20(r a:Int)(hr:0<=r/\r<8796093022208)(ha:0<=a/\a<1048576):bits .or .i64 (r*1048576) a=r*1048576+a:=by
 have h1:(BitVec.ofInt 64 (r*1048576) ||| BitVec.ofInt 64 a).toNat=(r*1048576+a).toNat:=by
  rw[BitVec.toNat_or,jcx,jcx,jJ (by omega) (by omega),jJ (by omega) (by omega)];have e1:(r*1048576).toNat=2^20*r.toNat:=by omega
  rw[e1,<-ww (by omega:a.toNat<2^20)];omega
 have h2:bits .or .i64 (r*1048576) a=IntKind.i64.wrap ((BitVec.ofInt 64 (r*1048576) ||| BitVec.ofInt 64 a).toNat:Nat):=rfl;rw[h2,h1,yY (by omega)];exact IntWalk.i64_in _ (by omega)
theorem fd20(n:Int):n.fdiv 1048576=n/1048576:=jo n (by decide)
theorem and1(n:Int)(h: -9223372036854775808<=n/\n<=9223372036854775807):bits .and .i64 n 1=n % 2:=by
 have h1:(BitVec.ofInt 64 n&&&BitVec.ofInt 64 1).toNat=(n % 2).toNat:=by
  rw[BitVec.toNat_and,jcx,jcx];have e:((1:Int) % 18446744073709551616).toNat=2^1-1:=by decide
  rw[e,jP];omega
 have h2:bits .and .i64 n 1=IntKind.i64.wrap ((BitVec.ofInt 64 n&&&BitVec.ofInt 64 1).toNat:Nat):=rfl;rw[h2,h1,yY (by omega)];exact IntWalk.i64_in _ (by omega)
theorem jtn{out a b:List Int}{i:Nat}{c n:Int}(hi:i<out.length)(hz:dgt out i=0)(h:val out+1048576^i*c=val (a.take i)+val (b.take i))(hn:n=dgt a i+dgt b i+c):
  val (out.set i (n % 1048576))+1048576^(i+1)*(n/1048576)=val (a.take (i+1))+val (b.take (i+1)):=by
 rw[jgh _ _ _ hi,hz,jh,jco,jco,jdk];generalize (1048576:Int)^i=p at*;have e:p*(n % 1048576)+p*1048576*(n/1048576)=p*n:=by
  rw[qU,<-qJ,qY]
 have e2:p*n=p*dgt a i+p*dgt b i+p*c:=by rw[hn,qJ,qJ]
 omega
theorem sub_step{out b:List Int}{i:Nat}{c n V:Int}(hi:i<out.length)(h:val out-1048576^i*c=V-val (b.take i))(hn:n=dgt out i-dgt b i-c):
  val (out.set i (n % 1048576))-1048576^(i+1)* -(n/1048576)=V-val (b.take (i+1)):=by
 rw[jgh _ _ _ hi,jco,jdk];generalize (1048576:Int)^i=p at*;have e0:=qY n 1048576;have e:p*(n % 1048576-dgt out i)-p*1048576* -(n/1048576)=p*(n-dgt out i):=by
  rw[qU,<-vC];congr 1;omega
 have e2:p*(n-dgt out i)= -(p*dgt b i)-p*c:=by
  rw[hn,show dgt out i-dgt b i-c-dgt out i= -dgt b i-c by omega,vC,jf]
 omega
theorem jnd{l:List Int}{i j:Nat}{v:Int}(h:i≠j):dgt (l.set i v) j=dgt l j:=by
 unfold dgt;rw[yI h]
theorem mb20:min 20 64=(20:Nat):=rfl
theorem pw20:(2:Int)^20=1048576:=by decide
end
end Go.Abs
namespace Go.Proofs.YtkcekimolppapaaGreat
section
open Go.Abs
attribute [local go_sem] ints ic mb20 pw20 fd20
theorem t_short(a:List Int)(d:Int)(ha:OkD a)(hd:1<=d/\d<1048576)(la:a.length<=1000000000000):Ctr G.P 192 [ints a,.int d] (· = .tup [ints (dig (val a/d).toNat),.int (val a % d)]):=by
 have w1:=ja7 (n:=(a.length:Int)-1) (by omega);have w0:(a.length:Int)*8<=140737488355328:=by omega
 refine ja5 [.tmp 4,.tmp 5] Tryz.func192 ?_;simp only[w1,w0,go_sem];refine jan [0,1,6,7,8] [11] (fun g:Nat×List Int×Int=>⟨[(0,.im (.sl (a.map ic))),(1,.im (.int d)),(6,.gsl 11 3 1 a.length),(7,.im (.int g.2.2)),(8,.im (.int ((g.1:Int)-1)))],[(11,1,g.2.1.map ic)],[]⟩)
  (fun g=>g.1<=a.length/\g.2.1.length=a.length/\OkD g.2.1/\0<=g.2.2/\g.2.2<d/\val (a.drop g.1)=val (g.2.1.drop g.1)*d+g.2.2) (fun g=>g.1) (a.length,List.replicate a.length 0,0) ?_
  ⟨zt _,zT,OkD.replicate _,yq _,by dsimp only;omega,by
   dsimp only;rw[qy (zt _),qy (by rw[zT];exact zt _)];simp[val]⟩ ?_
 ·simp only[w1,yf,zT,go_sem]
 intro⟨n,q,r⟩ ⟨h1,h2,h3,h4,h5,h6⟩;dsimp only at h1 h2 h3 h4 h5 h6;rcases n with _ | m
 ·have hg:decide ((0:Int)<=((0:Nat):Int)-1)=false:=by decide
  rw[y8,y8]at h6;obtain⟨e1,e2⟩:=jsg h6 h4 h5;have ht:=jfc q h3 (by omega);rw[e1]at ht;rw[<-e2];simp only[ints]at ht;have hql:a.length<=q.length:=by omega
  have htk:(q.map ic).take a.length=q.map ic:=zu (by rw[zq];omega);simp only[hg,hql,htk,go_sem];refine ja1 ht ?_;simp only[go_sem]
 ·have e1:((m+1:Nat):Int)-1=m:=by omega
  have hg:decide ((0:Int)<=(m:Int))=true:=zh (by omega);have hx:=jb6 (l:=a) (i:=m) (by omega);have hda:=ha.dgt m;have hq:(m:Int)<a.length:=by omega
  have hqx:=jb6 (l:=q) (i:=m) (by omega);have w2:=ja7 (n:=r*1048576) (by omega);have w3:=or20 r (dgt a m) (by omega) hda;generalize hR:r*1048576+dgt a m=R at*;have hR0:0<=R:=by omega
  have hRd:R<d*1048576:=by omega
  have hlo:R/d<1048576:=vp (by omega) (by rw[yF];exact hRd);have hlo0:0<=R/d:=j0 hR0 (by omega);have w4:IntKind.i64.wrap (R.tdiv d)=R/d:=by
   rw[wd hR0];exact ja7 (by omega)
  have w5:R.tmod d=R % d:=wc hR0;have w6:decide (d=0)=false:=zw (by omega);have w7:=ja7 (n:=(m:Int)-1) (by omega);have d0:¬d=0:=by omega
  have hs:=jl6 (lo:=R/d) (by omega:m<q.length) h6;have hmod:=jZ R (by omega:d≠0);have hmod2:=jE R (by omega:0<d);have hdm:dgt a m+1048576*r-R/d*d=R % d:=by
   have:=qY R d;rw[yF (R/d) d];omega
  rw[hdm]at hs;simp only[e1,hg,hq,za,hx,hqx,w2,w3,w4,w5,w6,d0,<-qD,go_sem];refine jab (m,q.set m (R/d),R % d) ?_ ?_ ⟨?_,?_,?_,hmod,hmod2,hs⟩
  ·simp only[w7,qD,go_sem]
  ·show m<m+1;omega
  ·show m<=a.length;omega
  ·show(q.set m (R/d)).length=a.length;rw[qa];exact h2
  ·exact h3.set ⟨hlo0,hlo⟩
end
section
open Go.Abs
attribute [local go_sem] ints ic mb20 pw20 fd20
def padD(n v:Nat):List Int:=dig v++List.replicate (n-(dig v).length) 0
theorem val_zeros{l:List Int}(hl:OkD l)(h:val l=0):l=List.replicate l.length 0:=by
 induction l with
 | nil=>rfl
 | cons d l ih=>
  have h1:=hl.head;have h2:=jb3 hl.tail;simp only[val]at h;have h3:=ih hl.tail (by omega);rw[List.length_cons,List.replicate_succ,<-h3,show d=0 by omega]
theorem pad_eq{l:List Int}(hl:OkD l):l=padD l.length (val l).toNat:=by
 have hlen:(dig (val l).toNat).length<=l.length:=by
  refine jc3 ?_;rw[yY (jb3 hl)];exact jep hl
 have h0:=jb3 hl;have hv:val (dig (val l).toNat)=val l:=by rw[jb5];omega
 have h1:=jde l (dig (val l).toNat).length;have hlt:val l<1048576^(dig (val l).toNat).length:=by
  have:=jep (jc4 (val l).toNat);rw[hv]at this;exact this
 have h2:=jfk hl hlt;have h3:=val_zeros (hl.drop (dig (val l).toNat).length) h2;have h4:=jjb hl hlt;have h5:l.take (dig (val l).toNat).length=dig (val l).toNat:=by
  have:∀(a b:List Int),OkD a->OkD b->a.length=b.length->val a=val b->a=b:=by
   intro a
   induction a with
   | nil=>intro b _ _ h _;exact(zO h.symm).symm
   | cons d a ih=>
    intro b ha hb h hv;cases b with
    | nil=>simp at h
    | cons e b=>
     have g1:=ha.head;have g2:=hb.head;simp only[val]at hv;rw[show d=e by omega,ih b ha.tail hb.tail (by simpa using h) (by omega)]
  refine this _ _ (hl.take _) (jc4 _) (by rw[zY];omega) (by rw[h4,hv])
 conv=>lhs;rw[<-jm (dig (val l).toNat).length l]
 rw[h5,h3,yl];rfl
theorem jsp{a b out:List Int}{i:Nat}{c:Int}(hl:i+b.length<out.length)(ho:OkD out)(hz:∀j,i+b.length<=j->dgt out j=0)(hc:0<=c/\c<1048576)
  (hv:val out+1048576^(i+b.length)*c=val (a.take i)*val b+1048576^i*(dgt a i*val b)):
  OkD (out.set (i+b.length) c)/\(out.set (i+b.length) c).length=out.length/\val (out.set (i+b.length) c)=val (a.take (i+1))*val b/\∀j,i+1+b.length<=j->dgt (out.set (i+b.length) c) j=0:=by
 refine⟨ho.set hc,qa,?_,fun j hj=> ?_⟩
 ·rw[jgh _ _ _ hl,hz _ (zt _),jh,hv,jco,yU,qU]
 ·have:=hz j (by omega);unfold dgt at this⊢;rw[yI (by omega)];exact this
theorem t_pmul(a b:List Int)(ha:OkD a)(hb:OkD b)(la:a.length<=100000000000)(lb:b.length<=100000000000):Ctr G.P 164 [ints a,ints b] (· =ints (dig (val a*val b).toNat)):=by
 have w0:=ja7 (n:=(a.length:Int)+b.length) (by omega);have w00:((a.length:Int)+b.length)*8<=140737488355328:=by omega
 have w01:(0:Int)<=(a.length:Int)+b.length:=by omega
 have w02:((a.length:Int)+b.length).toNat=a.length+b.length:=by omega
 refine ja5 [.tmp 4] Tryz.func164 ?_;simp only[w0,w00,w01,w02,go_sem];refine jan [1,5,18,19,20] [17] (fun g:Nat×List Int=>⟨[(1,.im (.sl (b.map ic))),(5,.gsl 17 3 1 (a.length+b.length)),(18,.im (.sl (a.map ic))),(19,.im (.int a.length)),(20,.im (.int g.1))],[(17,1,g.2.map ic)],[]⟩)
  (fun g=>g.1<=a.length/\g.2.length=a.length+b.length/\OkD g.2/\val g.2=val (a.take g.1)*val b/\∀j,g.1+b.length<=j->dgt g.2 j=0) (fun g=>a.length-g.1) (0,List.replicate (a.length+b.length) 0) ?_
  ⟨zH _,zT,OkD.replicate _,by dsimp only;rw[jdx];simp[val],fun j _=>by
   unfold dgt;rw[qF];split<;>rfl⟩ ?_
 ·simp only[Int.natCast_zero,yf,zT,go_sem]
 intro⟨i,out0⟩ ⟨hi,hl0,ho0,hv0,hz0⟩;dsimp only at hi hl0 ho0 hv0 hz0;by_cases hp:(i:Int)<a.length
 case neg=>
  have hd:decide ((i:Int)<a.length)=false:=zw hp;rw[jc6 (l:=a) (i:=i) (by omega)]at hv0;have ht:=jfc out0 ho0 (by omega);rw[hv0]at ht;have hall:(out0.map ic).take (a.length+b.length)=out0.map ic:=zu (by rw[zq];omega);have hle:a.length+b.length<=out0.length:=by omega
  simp only[ints]at ht;simp only[hd,hle,hall,go_sem];refine ja1 ht ?_;simp only[go_sem]
 case pos=>
  have hd:decide ((i:Int)<a.length)=true:=zh hp;have hx:=jb6 hp;have h1:=ja7 (n:=(i:Int)+1) (by omega);simp only[hd,za,hx,go_sem];refine jan [1,5,6,7,8,18,19,20,25,26,27] [17] (fun g:Nat×List Int×Int=>⟨[(1,.im (.sl (b.map ic))),(5,.gsl 17 3 1 (a.length+b.length)),(6,.im (.int i)),(7,.im (.int (dgt a i))),(8,.im (.int g.2.2)),(18,.im (.sl (a.map ic))),(19,.im (.int a.length)),(20,.im (.int i)),(25,.im (.sl (b.map ic))),(26,.im (.int b.length)),(27,.im (.int g.1))],[(17,1,g.2.1.map ic)],[]⟩)
   (fun g=>g.1<=b.length/\g.2.1.length=a.length+b.length/\OkD g.2.1/\0<=g.2.2/\g.2.2<1048576/\val g.2.1+1048576^(i+g.1)*g.2.2=val (a.take i)*val b+1048576^i*(dgt a i*val (b.take g.1))/\∀j,i+b.length<=j->dgt g.2.1 j=0)
   (fun g=>b.length-g.1) (0,out0,0) ?_ ⟨zH _,hl0,ho0,yq _,by dsimp only;omega,by dsimp only;rw[List.take_zero,hv0];simp[val],hz0⟩ ?_
  ·simp only[Int.natCast_zero,go_sem]
  intro⟨k,out,c⟩ ⟨hk,hl,ho,hc0,hc1,hv,hz⟩;dsimp only at hk hl ho hc0 hc1 hv hz;by_cases hkl:(k:Int)<b.length
  case neg=>
   have d1:decide ((k:Int)<b.length)=false:=zw hkl;have hkb:k=b.length:=by omega
   subst hkb;rw[jc6 (l:=b) (zt _)]at hv;obtain⟨g1,g2,g3,g4⟩:=jsp (a:=a) (by omega) ho hz ⟨hc0,hc1⟩ hv;have w1:=ja7 (n:=(i:Int)+b.length) (by omega);have hjn:((i:Int)+b.length).toNat=i+b.length:=by omega
   have hj0:(0:Int)<=(i:Int)+b.length:=by omega
   have hjl:(i:Int)+b.length<((a.length+b.length:Nat):Int):=by omega
   have hy:out[i+b.length]? =some (dgt out (i+b.length)):=jb6 (by omega);rw[hz _ (zt _)]at hy;have w2:=ja7 (n:=0+c) (by omega);rw[jt]at w2;simp only[d1,w1,hjn,hj0,hjl,za,hy,w2,jt,go_sem];refine jab (i+1,out.set (i+b.length) c) ?_ ?_ ⟨?_,?_,g1,g3,g4⟩
   ·simp only[h1,Int.natCast_add,qD,go_sem]
   ·show a.length-(i+1)<a.length-i;omega
   ·show i+1<=a.length;omega
   ·show(out.set (i+b.length) c).length=_;rw[g2];exact hl
  case pos=>
   have d1:decide ((k:Int)<b.length)=true:=zh hkl;have hyb:=jb6 hkl;have hda:=ha.dgt i;have hdb:=hb.dgt k;have hdo:=ho.dgt (i+k);have hmul:=jlb hda hdb;have w1:=ja7 (n:=(i:Int)+k) (by omega);have w2:=ja7 (n:=dgt a i*dgt b k) (by omega);have w3:=ja7 (n:=dgt out (i+k)+dgt a i*dgt b k) (by omega);have w4:=ja7 (n:=dgt out (i+k)+dgt a i*dgt b k+c) (by omega);have w5:=ja7 (n:=(k:Int)+1) (by omega);have hjn:((i:Int)+k).toNat=i+k:=by omega
   have hj0:(0:Int)<=(i:Int)+k:=by omega
   have hjl:(i:Int)+k<((a.length+b.length:Nat):Int):=by omega
   have hy:out[i+k]? =some (dgt out (i+k)):=jb6 (by omega);have hs:=jmn (out:=out) (b:=b) (j:=i+k) (i:=i) (k:=k) (c:=c) (x:=dgt a i) (V:=val (a.take i)*val b) rfl (by omega) hv rfl;generalize hn:dgt out (i+k)+dgt a i*dgt b k+c=n at*;have a1:=and20 n;simp only[d1,za,hyb,w1,w2,hjn,hj0,hjl,hy,w3,hn,w4,a1,go_sem];refine jab (k+1,out.set (i+k) (n % 1048576),n/1048576) ?_ ?_ ⟨?_,?_,ho.set (by omega),?_,?_,hs,fun j hj=> ?_⟩
   ·simp only[w5,hn,w4,Int.natCast_add,qD,go_sem]
   ·show b.length-(k+1)<b.length-k;omega
   ·show k+1<=b.length;omega
   ·show(out.set (i+k) _).length=_;rw[qa];exact hl
   ·show 0<=n/1048576;omega
   ·show n/1048576<1048576;omega
   ·have:=hz j hj;unfold dgt at this⊢;rw[yI (by omega)];exact this
theorem t_pmulO(a b:List Int)(ha:OkD a)(hb:OkD b)(la:a.length<=100000000000)(lb:b.length<=100000000000):
  CtrM G.P 164 [.im (ints a),.im (ints b)] [] (fun r Es new=>r= .gsl 901 3 1 (dig (val a*val b).toNat).length/\Es=[]/\new=some (1,(padD (a.length+b.length) (val a*val b).toNat).map ic)):=by
 have w0:=ja7 (n:=(a.length:Int)+b.length) (by omega);have w00:((a.length:Int)+b.length)*8<=140737488355328:=by omega
 have w01:(0:Int)<=(a.length:Int)+b.length:=by omega
 have w02:((a.length:Int)+b.length).toNat=a.length+b.length:=by omega
 refine jop good _ _ [.tmp 4] Tryz.func164 rfl rfl (by decide+kernel) rfl rfl (by simp) ?_;simp only[w0,w00,w01,w02,go_sem];refine jan [1,5,18,19,20] [17] (fun g:Nat×List Int=>⟨[(1,.im (.sl (b.map ic))),(5,.gsl 17 3 1 (a.length+b.length)),(18,.im (.sl (a.map ic))),(19,.im (.int a.length)),(20,.im (.int g.1))],[(17,1,g.2.map ic)],[]⟩)
  (fun g=>g.1<=a.length/\g.2.length=a.length+b.length/\OkD g.2/\val g.2=val (a.take g.1)*val b/\∀j,g.1+b.length<=j->dgt g.2 j=0) (fun g=>a.length-g.1) (0,List.replicate (a.length+b.length) 0) ?_
  ⟨zH _,zT,OkD.replicate _,by dsimp only;rw[jdx];simp[val],fun j _=>by
   unfold dgt;rw[qF];split<;>rfl⟩ ?_
 ·simp only[Int.natCast_zero,yf,zT,go_sem]
 intro⟨i,out0⟩ ⟨hi,hl0,ho0,hv0,hz0⟩;dsimp only at hi hl0 ho0 hv0 hz0;by_cases hp:(i:Int)<a.length
 case neg=>
  have hd:decide ((i:Int)<a.length)=false:=zw hp;rw[jc6 (l:=a) (i:=i) (by omega)]at hv0;have ht:=t_ptrimO out0 ho0 (by omega);rw[hv0,hl0]at ht;have hpad:=pad_eq ho0;rw[hl0,hv0]at hpad;have hall:(out0.map ic).take (a.length+b.length)=out0.map ic:=zu (by rw[zq];omega);have hle:a.length+b.length<=out0.length:=by omega
  simp only[hd,hle,hall,go_sem];refine jmf [(900,17)] (ht) (by decide) (by simp) (by simp[rnm,look]) (by repeat' (first | exact trivial | refine⟨rfl,?_⟩)) rfl rfl rfl rfl ?_ rfl;simp only[hpad,vy,go_sem]
 case pos=>
  have hd:decide ((i:Int)<a.length)=true:=zh hp;have hx:=jb6 hp;have h1:=ja7 (n:=(i:Int)+1) (by omega);simp only[hd,za,hx,go_sem];refine jan [1,5,6,7,8,18,19,20,25,26,27] [17] (fun g:Nat×List Int×Int=>⟨[(1,.im (.sl (b.map ic))),(5,.gsl 17 3 1 (a.length+b.length)),(6,.im (.int i)),(7,.im (.int (dgt a i))),(8,.im (.int g.2.2)),(18,.im (.sl (a.map ic))),(19,.im (.int a.length)),(20,.im (.int i)),(25,.im (.sl (b.map ic))),(26,.im (.int b.length)),(27,.im (.int g.1))],[(17,1,g.2.1.map ic)],[]⟩)
   (fun g=>g.1<=b.length/\g.2.1.length=a.length+b.length/\OkD g.2.1/\0<=g.2.2/\g.2.2<1048576/\val g.2.1+1048576^(i+g.1)*g.2.2=val (a.take i)*val b+1048576^i*(dgt a i*val (b.take g.1))/\∀j,i+b.length<=j->dgt g.2.1 j=0)
   (fun g=>b.length-g.1) (0,out0,0) ?_ ⟨zH _,hl0,ho0,yq _,by dsimp only;omega,by dsimp only;rw[List.take_zero,hv0];simp[val],hz0⟩ ?_
  ·simp only[Int.natCast_zero,go_sem]
  intro⟨k,out,c⟩ ⟨hk,hl,ho,hc0,hc1,hv,hz⟩;dsimp only at hk hl ho hc0 hc1 hv hz;by_cases hkl:(k:Int)<b.length
  case neg=>
   have d1:decide ((k:Int)<b.length)=false:=zw hkl;have hkb:k=b.length:=by omega
   subst hkb;rw[jc6 (l:=b) (zt _)]at hv;obtain⟨g1,g2,g3,g4⟩:=jsp (a:=a) (by omega) ho hz ⟨hc0,hc1⟩ hv;have w1:=ja7 (n:=(i:Int)+b.length) (by omega);have hjn:((i:Int)+b.length).toNat=i+b.length:=by omega
   have hj0:(0:Int)<=(i:Int)+b.length:=by omega
   have hjl:(i:Int)+b.length<((a.length+b.length:Nat):Int):=by omega
   have hy:out[i+b.length]? =some (dgt out (i+b.length)):=jb6 (by omega);rw[hz _ (zt _)]at hy;have w2:=ja7 (n:=0+c) (by omega);rw[jt]at w2;simp only[d1,w1,hjn,hj0,hjl,za,hy,w2,jt,go_sem];refine jab (i+1,out.set (i+b.length) c) ?_ ?_ ⟨?_,?_,g1,g3,g4⟩
   ·simp only[h1,Int.natCast_add,qD,go_sem]
   ·show a.length-(i+1)<a.length-i;omega
   ·show i+1<=a.length;omega
   ·show(out.set (i+b.length) c).length=_;rw[g2];exact hl
  case pos=>
   have d1:decide ((k:Int)<b.length)=true:=zh hkl;have hyb:=jb6 hkl;have hda:=ha.dgt i;have hdb:=hb.dgt k;have hdo:=ho.dgt (i+k);have hmul:=jlb hda hdb;have w1:=ja7 (n:=(i:Int)+k) (by omega);have w2:=ja7 (n:=dgt a i*dgt b k) (by omega);have w3:=ja7 (n:=dgt out (i+k)+dgt a i*dgt b k) (by omega);have w4:=ja7 (n:=dgt out (i+k)+dgt a i*dgt b k+c) (by omega);have w5:=ja7 (n:=(k:Int)+1) (by omega);have hjn:((i:Int)+k).toNat=i+k:=by omega
   have hj0:(0:Int)<=(i:Int)+k:=by omega
   have hjl:(i:Int)+k<((a.length+b.length:Nat):Int):=by omega
   have hy:out[i+k]? =some (dgt out (i+k)):=jb6 (by omega);have hs:=jmn (out:=out) (b:=b) (j:=i+k) (i:=i) (k:=k) (c:=c) (x:=dgt a i) (V:=val (a.take i)*val b) rfl (by omega) hv rfl;generalize hn:dgt out (i+k)+dgt a i*dgt b k+c=n at*;have a1:=and20 n;simp only[d1,za,hyb,w1,w2,hjn,hj0,hjl,hy,w3,hn,w4,a1,go_sem];refine jab (k+1,out.set (i+k) (n % 1048576),n/1048576) ?_ ?_ ⟨?_,?_,ho.set (by omega),?_,?_,hs,fun j hj=> ?_⟩
   ·simp only[w5,hn,w4,Int.natCast_add,qD,go_sem]
   ·show b.length-(k+1)<b.length-k;omega
   ·show k+1<=b.length;omega
   ·show(out.set (i+k) _).length=_;rw[qa];exact hl
   ·show 0<=n/1048576;omega
   ·show n/1048576<1048576;omega
   ·have:=hz j hj;unfold dgt at this⊢;rw[yI (by omega)];exact this
end
section
open Go.Abs
attribute [local go_sem] ints ic big
theorem jhn{n k:Nat}(h:(dig n).length<=k):(n:Int)<1048576^k:=by
 have:=jep (jc4 n);rw[jb5]at this;exact vK this (by
  have h3:=vn.2 (qS (n:=1048576) (by omega) h);rw[Int.natCast_pow,Int.natCast_pow]at h3;exact h3)
theorem len_add{n a b k:Nat}(ha:(dig a).length<=k)(hb:(dig b).length<=k)(h:n<=a+b):(dig n).length<=k+1:=by
 refine jc3 ?_;have h1:=jhn ha;have h2:=jhn hb;rw[jdk];omega
end
section
open Go.Abs
attribute [local go_sem] ints ic
end
section
open Go.Abs
attribute [local go_sem] ints ic big
theorem jdl{n m k:Nat}(h:n<=m)(hm:(dig m).length<=k):(dig n).length<=k:=jc3 (by have:=jhn hm;omega)
end
section
open Go.Abs
attribute [local go_sem] ints ic mb20 pw20 fd20
theorem t_nan(x:Int):Ctr G.P 150 [.int x] (· = .bool false):=by
 refine ja5 [.tmp 2] Tryz.func150 ?_;simp only[vy,go_sem]
theorem t_cmp(x y:Int):Ctr G.P 107 [.int x,.int y] (· = .int (cmpI x y)):=by
 have h1:=t_nan x;have h2:=t_nan y;refine ja5 [.tmp 4] Tryz.func107 ?_;simp only[go_sem];refine ja1 h1 ?_;simp only[go_sem];refine ja1 h2 ?_;simp only[go_sem];refine jdi (fun d1 d1'=> ?_) (fun d1 d1'=> ?_)
 ·have:cmpI x y= -1:=zm d1';rw[this];simp only[d1,go_sem]
 ·simp only[d1,go_sem];refine jdi (fun d2 d2'=> ?_) (fun d2 d2'=> ?_)
  ·have:cmpI x y=1:=by rw[cmpI,zn d1',zn (by omega)]
   rw[this];simp only[d1,d2,go_sem]
  ·have:cmpI x y=0:=by rw[cmpI,zn d1',zm (by omega)]
   rw[this];simp only[d1,d2,go_sem]
theorem cmp_len{n m:Nat}(h:(dig n).length≠(dig m).length):cmpI ((dig n).length:Int) ((dig m).length:Int)=cmpI (n:Int) (m:Int):=by
 rcases vI h with h1 | h1
 ·have:n<m:=by
   rcases zU n m with h2 | h2
   ·exact h2
   ·have:=jdl h2 (zt _);omega
  rw[cmpI,cmpI,zm (by omega),zm (by omega)]
 ·have:m<n:=by
   rcases zU m n with h2 | h2
   ·exact h2
   ·have:=jdl h2 (zt _);omega
  rw[cmpI,cmpI,zn (by omega),zn (by omega),zn (by omega),zn (by omega)]
theorem cmp_dgt{a b:List Int}(ha:OkD a)(hb:OkD b){m:Nat}(h:∀j,m<j->dgt a j=dgt b j)(hne:dgt a m≠dgt b m):cmpI (dgt a m) (dgt b m)=cmpI (val a) (val b):=by
 rcases yh hne with h1 | h1
 ·have:=lt_at ha hb m h h1;rw[cmpI,cmpI,zm h1,zm this]
 ·have:=lt_at hb ha m (fun j hj=>(h j hj).symm) h1;rw[cmpI,cmpI,zn (by omega),zn (by omega),zn (by omega),zn (by omega)]
theorem jg3(x y:Nat)(lx:(dig x).length<=1000000000000)(ly:(dig y).length<=1000000000000):Ctr G.P 128 [ints (dig x),ints (dig y)] (· = .int (cmpI (x:Int) (y:Int))):=by
 by_cases hl:(dig x).length=(dig y).length
 case neg=>
  have hc:=t_cmp ((dig x).length:Int) ((dig y).length:Int);rw[cmp_len hl]at hc;have hd:decide (((dig x).length:Int)=(dig y).length)=false:=zw (by omega);refine ja5 [.tmp 4] Tryz.func128 ?_;simp only[hd,go_sem];refine ja1 hc ?_;simp only[go_sem]
 case pos=>
  have hvx:=jb5 x;have hvy:=jb5 y;have hox:=jc4 x;have hoy:=jc4 y;generalize dig x=a at*;generalize dig y=b at*;rw[<-hvx,<-hvy];have hli:(a.length:Int)=b.length:=by omega
  have hw:=ja7 (n:=(b.length:Int)-1) (by omega);refine ja5 [.tmp 4] Tryz.func128 ?_;simp only[hli,vy,hw,go_sem];refine jan [0,1,5] [] (fun n:Nat=>⟨[(0,.im (.sl (a.map ic))),(1,.im (.sl (b.map ic))),(5,.im (.int ((n:Int)-1)))],[],[]⟩) (fun n=>n<=b.length/\∀j,n<=j->dgt a j=dgt b j) (fun n=>n) b.length ?_
   ⟨zt _,fun j hj=>by rw[jf4 (by omega),jf4 (by omega)]⟩ ?_
  ·simp only[hw,go_sem]
  intro n ⟨hn,hz⟩;rcases n with _ | m
  ·have hd:decide ((0:Int)<=((0:Nat):Int)-1)=false:=by decide
   have hv:val a=val b:=js9 fun j=>hz j (zH _);have hv':cmpI (val a) (val b)=0:=by rw[cmpI,zn (by omega),zm hv]
   rw[hv'];simp only[hd,go_sem]
  ·have h2:((m+1:Nat):Int)-1=m:=by omega
   have hd:decide ((0:Int)<=(m:Int))=true:=zh (by omega);have h3:=ja7 (n:=(m:Int)-1) (by omega);have hx:=jb6 (l:=a) (i:=m) (by omega);have hy:=jb6 (l:=b) (i:=m) (by omega);simp only[h2,hd,go_sem];refine jae 9 ?_;simp only[h2,za,hx,hy,go_sem];refine jdi (fun he he'=> ?_) (fun he he'=> ?_)
   ·simp only[h2,he,go_sem];refine jab m ?_ (by omega) ⟨by omega,fun j hj=> ?_⟩
    ·simp only[h2,h3,go_sem]
    ·rcases zU m j with h | h
     ·exact hz j h
     ·rw[show j=m by omega];exact he'
   ·have hc:=t_cmp (dgt a m) (dgt b m);rw[cmp_dgt hox hoy (fun j hj=>hz j hj) he']at hc;simp only[h2,he,go_sem];refine jae 10 ?_;simp only[h2,za,hx,hy,go_sem];refine ja4 hc (by decide) ?_;simp only[go_sem]
end
section
open Go.Abs
attribute [local go_sem] ints ic mb20 pw20 fd20
def winL(U:List Int)(i:Nat)(X:List Int):List Int:=U.take i++X++U.drop (i+X.length)
theorem jrx{U X:List Int}{i:Nat}(h:i+X.length<=U.length):(winL U i X).length=U.length:=by
 simp only[winL,zG,zY,yl];omega
theorem jry{U X:List Int}{i k:Nat}(hi:i<=U.length)(hk:k<X.length):(winL U i X)[i+k]? =some (dgt X k):=by
 have hl:(U.take i).length=i:=by rw[zY];omega
 rw[winL,zS,zL (by omega),hl,ve,zM hk];exact jb6 (by omega)
theorem jrv{U X:List Int}{i k:Nat}{y:Int}(hi:i<=U.length)(hk:k<X.length):(winL U i X).set (i+k) y=winL U i (X.set k y):=by
 have hl:(U.take i).length=i:=by rw[zY];omega
 rw[winL,winL,qa,zS,zS,jK _ _ (by omega),hl,ve,List.set_append_left _ _ hk]
theorem winL_self{U:List Int}{i m:Nat}(h:i+m<=U.length):winL U i ((U.drop i).take m)=U:=by
 have hl:((U.drop i).take m).length=m:=by rw[zY,yl];omega
 rw[winL,hl,zS,<-je,jm,jm]
theorem mul_step{out v:List Int}{k:Nat}{c n g V:Int}(hi:k<out.length)(h:val out-1048576^k*c=V-g*val (v.take k))(hn:n=dgt out k-c-g*dgt v k):
  val (out.set k (n % 1048576))-1048576^(k+1)* -(n/1048576)=V-g*val (v.take (k+1)):=by
 rw[jgh _ _ _ hi,jco,jdk];generalize (1048576:Int)^k=p at*;have e0:=qY n 1048576;have e:p*(n % 1048576-dgt out k)-p*1048576* -(n/1048576)=p*(n-dgt out k):=by
  rw[qU,<-vC];congr 1;omega
 have e2:p*(n-dgt out k)= -(p*(g*dgt v k))-p*c:=by
  rw[hn,show dgt out k-c-g*dgt v k-dgt out k= -(g*dgt v k)-c by omega,vC,jf]
 have e3:g*(val (v.take k)+p*dgt v k)=g*val (v.take k)+p*(g*dgt v k):=by rw[qJ,vw]
 rw[e3];omega
theorem back_step{out v:List Int}{k:Nat}{c n V:Int}(hi:k<out.length)(h:val out+1048576^k*c=V+val (v.take k))(hn:n=c+dgt out k+dgt v k):
  val (out.set k (n % 1048576))+1048576^(k+1)*(n/1048576)=V+val (v.take (k+1)):=by
 rw[jgh _ _ _ hi,jco,jdk];generalize (1048576:Int)^k=p at*;have e0:=qY n 1048576;have e:p*(n % 1048576-dgt out k)+p*1048576*(n/1048576)=p*(n-dgt out k):=by
  rw[qU,<-qJ];congr 1;omega
 have e2:p*(n-dgt out k)=p*c+p*dgt v k:=by
  rw[hn,show c+dgt out k+dgt v k-dgt out k=c+dgt v k by omega,qJ]
 omega
def jh4(w v g:Int):Int:=if 0<=w-g*v then g else g-1
theorem js1(U W v:List Int)(i0 n:Nat)(g:Int)(hW:OkD W)(hv:OkD v)(lW:W.length=n+1)(lv:v.length=n)(hU:i0+(n+1)<=U.length)(hU2:U.length<=10000000000000)
  (hg:0<=g/\g<1048576) (hq:0<=val W-g*val v\/0<=val W-(g-1)*val v):
  CtrM G.P 193 [.osl 900 1 i0 (n+1),.im (ints v),.im (.int g)] [(900,1,(winL U i0 W).map ic)]
   (fun r Es new=>r= .im (.int (jh4 (val W) (val v) g))/\Es=[(winL U i0 (padD (n+1) (val W-jh4 (val W) (val v) g*val v).toNat)).map ic]/\new=none):=by
 have hWl:=jep hW;have hv0:=jb3 hv;have hgv:0<=g*val v:=qZ hg.1 hv0;rw[lW]at hWl;refine jop good _ _ [.tmp 6] Tryz.func193 rfl rfl (by decide+kernel) rfl rfl (by simp) ?_;simp only[go_sem];refine jan [0,1,2,7,12,13,14] [900] (fun s:Nat×List Int×Int=>⟨[(0,.osl 900 1 i0 (n+1)),(1,.im (.sl (v.map ic))),(2,.im (.int g)),(7,.im (.int s.2.2)),(12,.osl 900 1 i0 (n+1)),(13,.im (.int ((n+1:Nat):Int))),(14,.im (.int s.1))],[(900,1,(winL U i0 s.2.1).map ic)],[]⟩)
  (fun s=>s.1<=n+1/\s.2.1.length=n+1/\OkD s.2.1/\0<=s.2.2/\s.2.2<=1048576/\val s.2.1-1048576^s.1*s.2.2=val W-g*val (v.take s.1)) (fun s=>n+1-s.1) (0,W,0) ?_
  ⟨zH _,lW,hW,yq _,by dsimp only;omega,by dsimp only;simp[val]⟩ ?_
 ·simp only[Int.natCast_zero,go_sem]
 intro⟨k,X,c⟩ ⟨hk,lX,hX,hc0,hc1,hinv⟩;dsimp only at hk lX hX hc0 hc1 hinv;by_cases hp:(k:Int)<((n+1:Nat):Int)
 case pos=>
  have hd:decide ((k:Int)<((n+1:Nat):Int))=true:=zh hp;have hdX:=hX.dgt k;have hdv:=hv.dgt k;have hmul:=jlb hg hdv;have h1:=ja7 (n:=(k:Int)+1) (by omega);have hy:=jry (U:=U) (X:=X) (i:=i0) (k:=k) (by omega) (by omega);have w0:=ja7 (n:=g*dgt v k) (by omega);have w1:=ja7 (n:=dgt X k-c) (by omega);have w2:=ja7 (n:=dgt X k-c-g*dgt v k) (by omega);have hs:=mul_step (by omega:k<X.length) hinv rfl;generalize hN:dgt X k-c-g*dgt v k=t at*;have a1:=and20 t;have a2:=ja7 (n:=0-t/1048576) (by omega);have hset:((winL U i0 X).map ic).set (i0+k) [.sc (.int .i64 (t % 1048576))]=(winL U i0 (X.set k (t % 1048576))).map ic:=by
   rw[<-jrv (by omega) (by omega),qD];rfl
  have e0:0-t/1048576= -(t/1048576):=by omega
  rw[e0]at a2;have fin:(0<= -(t/1048576)/\ -(t/1048576)<=1048576)/\(X.set k (t % 1048576)).length=n+1/\OkD (X.set k (t % 1048576)):=
   ⟨by omega,by rw[qa];exact lX,hX.set (by omega)⟩
  obtain⟨f1,f2,f3⟩:=fin;by_cases hbl:(k:Int)<v.length
  ·have hd2:decide ((k:Int)<v.length)=true:=zh hbl;have hxb:=jb6 hbl;simp only[hd,hp,hd2,za,hxb,hy,w0,w1,hN,w2,a1,a2,hset,e0,go_sem];refine jab (k+1,X.set k (t % 1048576),-(t/1048576)) ?_ ?_ ⟨?_,f2,f3,f1.1,f1.2,hs⟩
   ·simp only[h1,Int.natCast_add,go_sem]
   ·show n+1-(k+1)<n+1-k;omega
   ·show k+1<=n+1;omega
  ·have hd2:decide ((k:Int)<v.length)=false:=zw hbl;have hb0:dgt v k=0:=jf4 (by omega);rw[hb0,yn,jh]at hN;rw[hN]at w1;simp only[hd,hp,hd2,za,hy,hN,w1,a1,a2,hset,e0,go_sem];refine jab (k+1,X.set k (t % 1048576),-(t/1048576)) ?_ ?_ ⟨?_,f2,f3,f1.1,f1.2,hs⟩
   ·simp only[h1,Int.natCast_add,go_sem]
   ·show n+1-(k+1)<n+1-k;omega
   ·show k+1<=n+1;omega
 case neg=>
  have hd:decide ((k:Int)<((n+1:Nat):Int))=false:=zw hp;have hkn:k=n+1:=by omega
  subst hkn;rw[jc6 (l:=v) (by omega)]at hinv;have hXl:=jep hX;have hX0:=jb3 hX;rw[lX]at hXl;by_cases hc:c=0
  ·subst hc;rw[yn,jh]at hinv;have hset:jh4 (val W) (val v) g=g:=zm (by omega);have hpad:=pad_eq hX;rw[lX,hinv]at hpad;rw[hset];simp only[hd,<-hpad,vy,go_sem]
  ·have hcd:decide (c=0)=false:=zw hc;have hP:=jds (n+1);have hcm:1048576^(n+1)*1<=1048576^(n+1)*c:=qg (by omega) (by omega);have hneg:¬0<=val W-g*val v:=by omega
   have hset:jh4 (val W) (val v) g=g-1:=zn hneg;have hq':=hq.resolve_left hneg;rw[hset];have wg:=ja7 (n:=g-1) (by omega);simp only[hd,hcd,go_sem];refine jan [0,1,2,10,47,48,49] [900] (fun s:Nat×List Int×Int=>⟨[(0,.osl 900 1 i0 (n+1)),(1,.im (.sl (v.map ic))),(2,.im (.int g)),(10,.im (.int s.2.2)),(47,.osl 900 1 i0 (n+1)),(48,.im (.int ((n+1:Nat):Int))),(49,.im (.int s.1))],[(900,1,(winL U i0 s.2.1).map ic)],[]⟩)
    (fun s=>s.1<=n+1/\s.2.1.length=n+1/\OkD s.2.1/\0<=s.2.2/\s.2.2<=1/\val s.2.1+1048576^s.1*s.2.2=val X+val (v.take s.1)) (fun s=>n+1-s.1) (0,X,0) ?_
    ⟨zH _,lX,hX,yq _,by dsimp only;omega,by dsimp only;simp[val]⟩ ?_
   ·simp only[Int.natCast_zero,go_sem]
   intro⟨k,Y,e⟩ ⟨hk2,lY,hY,he0,he1,hinv2⟩;dsimp only at hk2 lY hY he0 he1 hinv2;by_cases hp2:(k:Int)<((n+1:Nat):Int)
   case pos=>
    have hd3:decide ((k:Int)<((n+1:Nat):Int))=true:=zh hp2;have hdY:=hY.dgt k;have hdv:=hv.dgt k;have h1:=ja7 (n:=(k:Int)+1) (by omega);have hy:=jry (U:=U) (X:=Y) (i:=i0) (k:=k) (by omega) (by omega);have w1:=ja7 (n:=e+dgt Y k) (by omega);have w2:=ja7 (n:=e+dgt Y k+dgt v k) (by omega);have hs:=back_step (by omega:k<Y.length) hinv2 rfl;generalize hN:e+dgt Y k+dgt v k=t at*;have a1:=and20 t;have hset2:((winL U i0 Y).map ic).set (i0+k) [.sc (.int .i64 (t % 1048576))]=(winL U i0 (Y.set k (t % 1048576))).map ic:=by
     rw[<-jrv (by omega) (by omega),qD];rfl
    have fin:(0<=t/1048576/\t/1048576<=1)/\(Y.set k (t % 1048576)).length=n+1/\OkD (Y.set k (t % 1048576)):=
     ⟨by omega,by rw[qa];exact lY,hY.set (by omega)⟩
    obtain⟨f1,f2,f3⟩:=fin;by_cases hbl:(k:Int)<v.length
    ·have hd2:decide ((k:Int)<v.length)=true:=zh hbl;have hxb:=jb6 hbl;simp only[hd3,hp2,hd2,za,hxb,hy,w1,hN,w2,a1,hset2,go_sem];refine jab (k+1,Y.set k (t % 1048576),t/1048576) ?_ ?_ ⟨?_,f2,f3,f1.1,f1.2,hs⟩
     ·simp only[h1,Int.natCast_add,go_sem]
     ·show n+1-(k+1)<n+1-k;omega
     ·show k+1<=n+1;omega
    ·have hd2:decide ((k:Int)<v.length)=false:=zw hbl;have hb0:dgt v k=0:=jf4 (by omega);rw[hb0,yM]at hN;rw[hN]at w1;simp only[hd3,hp2,hd2,za,hy,hN,w1,a1,hset2,go_sem];refine jab (k+1,Y.set k (t % 1048576),t/1048576) ?_ ?_ ⟨?_,f2,f3,f1.1,f1.2,hs⟩
     ·simp only[h1,Int.natCast_add,go_sem]
     ·show n+1-(k+1)<n+1-k;omega
     ·show k+1<=n+1;omega
   case neg=>
    have hd3:decide ((k:Int)<((n+1:Nat):Int))=false:=zw hp2;have hkn:k=n+1:=by omega
    subst hkn;rw[jc6 (l:=v) (by omega)]at hinv2;have hYl:=jep hY;have hY0:=jb3 hY;rw[lY]at hYl;have hYv:val Y=val W-(g-1)*val v:=by
     have e1:(g-1)*val v=g*val v-val v:=by rw[jW];omega
     rw[e1]at hq'⊢;have e2:1048576^(n+1)*(c-e)=1048576^(n+1)*c-1048576^(n+1)*e:=vC ..;have hce:c-e=0:=by
      rcases q8 (c-e) 0 with h | h | h
      ·have:1048576^(n+1)*(c-e)<=1048576^(n+1)*(-1):=qg (by omega) (by omega);omega
      ·exact h
      ·have:1048576^(n+1)*1<=1048576^(n+1)*(c-e):=qg (by omega) (by omega);omega
     rw[hce,yn]at e2;omega
    have hpad:=pad_eq hY;rw[lY,hYv]at hpad;simp only[hd3,wg,<-hpad,vy,go_sem]
