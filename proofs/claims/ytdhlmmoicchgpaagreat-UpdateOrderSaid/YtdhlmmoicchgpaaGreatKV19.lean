/- A part of the proof. No further condition. -/
import Derived.Test.YtdhlmmoicchgpaaGreatKV17
import Derived.Shelf.SlSortCmp.WholeK
import Derived.Shelf.SlSortCmp.NoneTotal
import Derived.Shelf.SlicesG.Cmp
import Derived.Shelf.Small.Bits
set_option linter.all false
set_option maxRecDepth 10000000
set_option maxHeartbeats 16000000
namespace Go.Proofs.YtdhlmmoicchgpaaGreat
section
open Go.Shelf Go.RowKit Go.Lib Go.Sort
def sortTerms_ren:Go.Shelf.Ren:=⟨fun | 6=>64 | 15=>83 | 14=>82 | 28=>114 | 29=>115 | 20=>106 | 21=>107 | 22=>108 | 23=>109 | 24=>110 | 25=>111 | 26=>112 | 27=>113 | 46=>138 | 47=>139 | 48=>140 | 49=>141 | 50=>142 | 57=>158 | n=>n,fun | 22=>103 | 24=>132 | 25=>135 | 3=>3 | 39=>155 | 0=>0 | 53=>186 | 55=>176 | 4=>4 | 46=>179 | 45=>178 | 50=>183 | 5=>5 | 9=>9 | 66=>216 | 70=>220 | 76=>236 | 77=>162 | n=>n,fun | n=>n⟩
theorem joo:Go.Proofs.SlLaysF0.n6 Tryz.prog sortTerms_ren:={
 mixed:=by kernel_rfl
 f6:=⟨Tryz.f64.name,by decide,Tryz.func64.trans (qw some (by kernel_rfl))⟩
 f14:=⟨Tryz.f82.name,by decide,Tryz.func82.trans (qw some (by kernel_rfl))⟩
 f15:=Tryz.func83.trans (qw some (by kernel_rfl))
 f20:=⟨Tryz.f106.name,by decide,Tryz.func106.trans (qw some (by kernel_rfl))⟩
 f21:=⟨Tryz.f107.name,by decide,Tryz.func107.trans (qw some (by kernel_rfl))⟩
 f22:=⟨Tryz.f108.name,by decide,Tryz.func108.trans (qw some (by kernel_rfl))⟩
 f23:=⟨Tryz.f109.name,by decide,Tryz.func109.trans (qw some (by kernel_rfl))⟩
 f24:=⟨Tryz.f110.name,by decide,Tryz.func110.trans (qw some (by kernel_rfl))⟩
 f25:=⟨Tryz.f111.name,by decide,Tryz.func111.trans (qw some (by kernel_rfl))⟩
 f26:=⟨Tryz.f112.name,by decide,Tryz.func112.trans (qw some (by kernel_rfl))⟩
 f27:=⟨Tryz.f113.name,by decide,Tryz.func113.trans (qw some (by kernel_rfl))⟩
 f28:=Tryz.func114.trans (qw some (by kernel_rfl))
 f29:=Tryz.func115.trans (qw some (by kernel_rfl))
 f46:=⟨Tryz.f138.name,by decide,Tryz.func138.trans (qw some (by kernel_rfl))⟩
 f47:=Tryz.func139.trans (qw some (by kernel_rfl))
 f48:=Tryz.func140.trans (qw some (by kernel_rfl))
 f49:=⟨Tryz.f141.name,by decide,Tryz.func141.trans (qw some (by kernel_rfl))⟩
 f50:=⟨Tryz.f142.name,by decide,Tryz.func142.trans (qw some (by kernel_rfl))⟩
 f57:=⟨Tryz.f158.name,by decide,Tryz.func158.trans (qw some (by kernel_rfl))⟩
 t0:=Tryz.underlying0
 a0:=Tryz.isAgg0
 z0:=Tryz.sizeOf0
 v0:=Tryz.zeroValue0
 t3:=Tryz.underlying3
 a3:=Tryz.isAgg3
 z3:=Tryz.sizeOf3
 v3:=Tryz.zeroValue3
 t4:=Tryz.underlying4
 a4:=Tryz.isAgg4
 z4:=Tryz.sizeOf4
 v4:=Tryz.zeroValue4
 t5:=Tryz.underlying5
 a5:=Tryz.isAgg5
 z5:=Tryz.sizeOf5
 v5:=Tryz.zeroValue5
 t9:=Tryz.underlying9
 a9:=Tryz.isAgg9
 z9:=Tryz.sizeOf9
 v9:=Tryz.zeroValue9
 t22:=Tryz.underlying103
 a22:=Tryz.isAgg103
 z22:=Tryz.sizeOf103
 v22:=Tryz.zeroValue103
 t25:=Tryz.underlying135
 a25:=Tryz.isAgg135
 z25:=Tryz.sizeOf135
 v25:=Tryz.zeroValue135
 t39:=Tryz.underlying155
 a39:=Tryz.isAgg155
 z39:=Tryz.sizeOf155
 v39:=Tryz.zeroValue155
 t45:=Tryz.underlying178
 a45:=Tryz.isAgg178
 z45:=Tryz.sizeOf178
 v45:=Tryz.zeroValue178
 t46:=Tryz.underlying179
 a46:=Tryz.isAgg179
 z46:=Tryz.sizeOf179
 v46:=Tryz.zeroValue179
 t50:=Tryz.underlying183
 a50:=Tryz.isAgg183
 z50:=Tryz.sizeOf183
 v50:=Tryz.zeroValue183
 t53:=Tryz.underlying186
 a53:=Tryz.isAgg186
 z53:=Tryz.sizeOf186
 v53:=Tryz.zeroValue186
 t55:=Tryz.underlying176
 a55:=Tryz.isAgg176
 z55:=Tryz.sizeOf176
 v55:=Tryz.zeroValue176
 t66:=Tryz.underlying216
 a66:=Tryz.isAgg216
 z66:=Tryz.sizeOf216
 v66:=Tryz.zeroValue216
 t70:=Tryz.underlying220
 a70:=Tryz.isAgg220
 z70:=Tryz.sizeOf220
 v70:=Tryz.zeroValue220
 t76:=Tryz.underlying236
 a76:=Tryz.isAgg236
 z76:=Tryz.sizeOf236
 v76:=Tryz.zeroValue236
 t77:=Tryz.underlying162
 a77:=Tryz.isAgg162
 z77:=Tryz.sizeOf162
 v77:=Tryz.zeroValue162}
def cmpInts_ren:Go.Shelf.Ren:=⟨fun | 5=>66 | 7=>84 | n=>n,fun | 22=>3 | 3=>3 | 4=>4 | n=>n,fun | n=>n⟩
theorem cmpInts:Go.Proofs.SlLaysC2.n5 Tryz.prog cmpInts_ren:={
 mixed:=by kernel_rfl
 f5:=⟨Tryz.f66.name,by decide,Tryz.func66.trans (qw some (by kernel_rfl))⟩
 f7:=⟨Tryz.f84.name,by decide,Tryz.func84.trans (qw some (by kernel_rfl))⟩
 t3:=Tryz.underlying3
 a3:=Tryz.isAgg3
 z3:=Tryz.sizeOf3
 v3:=Tryz.zeroValue3
 t4:=Tryz.underlying4
 a4:=Tryz.isAgg4
 z4:=Tryz.sizeOf4
 v4:=Tryz.zeroValue4
 t22:=Tryz.underlying3
 a22:=Tryz.isAgg3
 z22:=Tryz.sizeOf3
 v22:=Tryz.zeroValue3}
structure TermV where
 z:Int
 r:List Value
 len:r.length=4
 one:∀v∈r,v.oneCell'=true
instance:Inhabited TermV:=⟨⟨0,[.int .i64 0,.int .i64 0,.int .i64 0,.int .i64 0],rfl,fun v hv=>by simp at hv;subst hv;rfl⟩⟩
def TermV.enc(x:TermV):List Value:= .int .i64 x.z::x.r
def TermV.cmp(x y:TermV):Int:=Lib.compareInt x.z y.z
theorem TermV.lt(x y:TermV):ltOf TermV.cmp x y=decide (x.z<y.z):=by
 unfold ltOf TermV.cmp Lib.compareInt;by_cases h1:x.z<y.z
 ·simp[h1]
 ·by_cases h2:y.z<x.z<;>simp[h1,h2]
theorem TermV.swo:SWO (ltOf TermV.cmp) where
 irrefl x:=by rw[TermV.lt];simp
 trans x y z h1 h2:=by rw[TermV.lt]at*;simp at*;omega
 ntrans x y z h1 h2:=by rw[TermV.lt]at*;simp at*;omega
theorem sort_closure(x y:TermV)(W:World):Calls Tryz.prog 65 #[.agg x.enc.toArray,.agg y.enc.toArray] W fun e w'=>e= .returned (.int .i64 (TermV.cmp x y))/\∃q os',w'=grow (W.drewN q) os':=by
 have hcon:=fun W'=>AnyG.cmp_Compare_int cmpInts x.z y.z W';change ∀W',Calls Tryz.prog 66 _ _ _ at hcon;obtain⟨a,r,hr,_⟩:=x;obtain⟨b,s,hs,_⟩:=y
 match r,hr,s,hs with
 | [r1,r2,r3,r4],_,[s1,s2,s3,s4],_=>
  unfold TermV.cmp TermV.enc;dsimp only at hcon⊢;generalize Lib.compareInt a b=c at hcon⊢
  go_enter Tryz.func65,Tryz.ntmps65
  go_wp2_with (go_at_call 66;refine(hcon _).mono ?_;rintro e w' ⟨rfl,rfl⟩)
  go_ret
  exact⟨rfl,0,_,by rw[alloc_eq_grow,alloc_eq_grow,grow_grow];rfl⟩
theorem sort_calls(blk off cap:Nat)(d:Array TermV)(w:World)(hH:HoldsK TermV.enc 5 w blk off d)(hblk:blk<w.heap.size)(hsz:d.size<4611686018427387904):
  Calls Tryz.prog 64 #[.slice (some ⟨blk,off,none⟩) d.size cap,.func (.func 65) #[] #[]] w fun e w'=>e= .returned (.tuple #[])/\∃d' n os,PermIn 0 d.size d d'/\SortedIn (ltOf TermV.cmp) 0 d.size d'/\w'=sortWorldK TermV.enc 5 w blk off n d' os:=by
 have eg:∀args w,(callFunc 65 args).run Tryz.prog w= .ok (.enter 65 args) w:=enters_of Tryz.func65 (by kernel_rfl) rfl;exact AnyQ.slices_SortFunc joo 5 Tryz.isAgg132 Tryz.sizeOf132 TermV.enc (fun x=>by simp[TermV.enc,x.len]) (fun x v hv=>by
  unfold TermV.enc at hv;rcases zN.1 hv with rfl | hv
  ·rfl
  ·exact x.one v hv) TermV.cmp TermV.swo 65 #[] blk off cap d w eg (fun _ _ _ _ x y=>sort_closure x y _) hH hblk hsz
end
section
open Go.Abs Go.Sort
section
variable{α:Type}[Inhabited α]{enc:α->List Value}{k:Nat}{w:World}{b n:Nat}{d:Array α}{os:Array Obj}
theorem sw_heap{cur:Array Value}{T:TypeId}{z:Nat×Nat}(h:w.heap[b]? =some (.cells cur T z)):(sortWorldK enc k w b 0 n d os).heap[b]? =some (.cells (putCells id 0 (flatK enc k d) cur) T z):=by
 have hb:b<w.heap.size:=(zH.1 h).1;unfold sortWorldK grow putRowK putRow mapBlock Go.Sort.ahead;dsimp only;rw[qY (by rw[vk];exact hb),j5,zm rfl,h];rfl
theorem jia{b':Nat}(h:b'≠b)(hb:b'<w.heap.size):(sortWorldK enc k w b 0 n d os).heap[b']? =w.heap[b']? :=by
 unfold sortWorldK grow putRowK putRow mapBlock Go.Sort.ahead;dsimp only;rw[qY (by rw[vk];exact hb),j5,zr (zG h)]
theorem sw_size:w.heap.size<=(sortWorldK enc k w b 0 n d os).heap.size:=by
 unfold sortWorldK grow putRowK putRow mapBlock Go.Sort.ahead;dsimp only;rw[yN,vk];omega
theorem sw_cell{cur:Array Value}(hk:∀x,(enc x).length=k){i j:Nat}{x:α}{u:Value}(hi:d[i]? =some x)(hj:(enc x)[j]? =some u)(hc:i*k+j<cur.size):(putCells id 0 (flatK enc k d) cur)[i*k+j]? =some u:=by
 have hjk:j<k:=by rw[<-hk x];exact(zt.1 hj).1
 have hid:i<d.size:=(zH.1 hi).1;have hlt:i*k+j<d.size*k:=by
  have:=zZ k (show i+1<=d.size from hid);rw[qr,vp]at this;omega
 have e1:(i*k+j)/k=i:=by rw[yX,Nat.mul_add_div (by omega),jY hjk,Nat.add_zero]
 have e2:(i*k+j) % k=j:=by rw[yX,Nat.mul_add_mod,jt hjk]
 unfold putCells;rw[Array.getElem?_mapIdx,yh hc,Option.map_some,zm ⟨zI _,by rw[size_flatK];omega⟩,Nat.sub_zero,get_flatK _ _ _ _ hlt,e1,e2];rw[jK d i hid,(zH.1 hi).2];rw[id,List.getElem!_eq_getElem?_getD,hj];rfl
end
inductive F2{α β:Type}(R:α->β->Prop):List α->List β->Prop
 | nil:F2 R [] []
 | cons {x y l m}:R x y->F2 R l m->F2 R (x::l) (y::m)
theorem F2.of{α β:Type}{R:α->β->Prop}:∀{l:List α} {m:List β},l.length=m.length->(∀(i:Nat) (x:α) (y:β),l[i]? =some x->m[i]? =some y->R x y)->F2 R l m
 | [],[],_,_=> .nil
 | x::l,y::m,h,hr=> .cons (hr 0 x y rfl rfl) (F2.of (by simpa using h) fun i a c h1 h2=>hr (i+1) a c (by simpa using h1) (by simpa using h2))
theorem F2.get{α β:Type}{R:α->β->Prop}{l:List α}{m:List β}(h:F2 R l m):∀{i:Nat} {x:α} {y:β},l[i]? =some x->m[i]? =some y->R x y:=by
 induction h with
 | nil=>intro i x y h1;simp at h1
 | cons h1 _ ih=>
  intro i x y g1 g2;cases i with
  | zero=>simp at g1 g2;subst g1 g2;exact h1
  | succ i=>exact ih (by simpa using g1) (by simpa using g2)
theorem perm_rel{α β:Type}{R:α->β->Prop}{l l':List α}(hp:l.Perm l'):∀{m:List β},F2 R l m->∃m',m'.Perm m/\F2 R l' m':=by
 induction hp with
 | nil=>intro m h;exact⟨m,jO _,h⟩
 | cons x _ ih=>
  intro m h;cases h with
  | cons h1 h2=>
   obtain⟨m',g1,g2⟩:=ih h2;exact⟨_,g1.cons _,.cons h1 g2⟩
 | swap x y l=>
  intro m h;cases h with
  | cons h1 h2=>
   cases h2 with
   | cons h3 h4=>exact⟨_,List.Perm.swap _ _ _,.cons h3 (.cons h1 h4)⟩
 | trans _ _ ih1 ih2=>
  intro m h;obtain⟨m1,g1,g2⟩:=ih1 h;obtain⟨m2,g3,g4⟩:=ih2 g2;exact⟨m2,g3.trans g1,g4⟩
def keyC:List IV->Int
 | .sc (.int .i64 z)::_=>z
 | _=>0
theorem frozen0{w:World}{b o:Nat}{cur:Array Value}{T:TypeId}(h:w.heap[b]? =some (.cells cur T (0,0))):w.frozen? ⟨b,o,none⟩=false:=by
 simp[World.frozen?,h]
theorem cell0{w:World}{b o:Nat}{cur:Array Value}{T:TypeId}{u:Value}(h:w.heap[b]? =some (.cells cur T (0,0)))(hc:cur[o]? =some u):w.cell? ⟨b,o,none⟩=some u:=by
 simp[World.cell?,h,hc]
open Classical in
theorem w_sort{b:Nat}{es:List (List IV)}{L:Abs.Rows}(hL:Abs.look L (hp b)=some (5,es))(hlen:es.length<4611686018427387904)(hes:∀c∈es,∃z r,c= .int z::r):
  CtrH G.P 64 [.im (.ref b 132 5 es.length),.im (.clo 65 [])] L (fun r L'=>r= .im (.tup [])/\∃es':List (List IV),es'.Perm es/\(∀(i j:Nat) x y,i<j->es'[i]? =some x->es'[j]? =some y->keyC x<=keyC y)/\L'=setRow L (hp b) 5 es'):=by
 intro w M vs hM hrows hvl hargs;obtain⟨b',hb',hnM,cur,T,hcur,hclen,hcells⟩:=hrows _ _ _ hL;have hbb:=hp_inj.1 hb';subst hbb
 match vs,hvl with
 | [v0,v1],_=>
 have a0:Rep w (MoH M L) (.ref b 132 5 es.length) v0:=hargs 0 _ _ rfl rfl;have a1:Rep w (MoH M L) (.clo 65 []) v1:=hargs 1 _ _ rfl rfl;obtain⟨cp,rfl,hcp⟩:=a1.clo_inv;have hcp0:cp= #[]:=by
  have:=hcp.1;simp at this;exact vo this.symm
 subst hcp0;have a0':∃cap,v0= .slice (some ⟨b,0,none⟩) es.length cap/\es.length<=cap/\cur.size=cap*5:=by
  cases a0 with
  | ref _ _ _ _ cap cur2 g1 g2 g3 g4=>
   rw[hcur]at g1;cases g1;exact⟨cap,rfl,g2,g4⟩
 obtain⟨cap,rfl,hcap,hsz⟩:=a0';have hx:∀i,∃x:TermV,i<es.length->(∀j,j<5->cur[i*5+j]? =x.enc[j]?)/\(∀c,es[i]? =some c->x.z=keyC c):=by
  intro i;by_cases hi:i<es.length
  ·obtain⟨c,hc⟩:∃c,es[i]? =some c:=⟨_,zk hi⟩;obtain⟨z,r,rfl⟩:=hes c (zE hc);have hl5:=hclen _ (zE hc);have hr4:r.length=4:=by simpa using hl5
   match r,hr4 with
   | [r1,r2,r3,r4],_=>
    obtain⟨_,u0,c0,q0⟩:=hcells i _ 0 _ hc rfl;obtain⟨o1,u1,c1,q1⟩:=hcells i _ 1 _ hc rfl;obtain⟨o2,u2,c2,q2⟩:=hcells i _ 2 _ hc rfl;obtain⟨o3,u3,c3,q3⟩:=hcells i _ 3 _ hc rfl;obtain⟨o4,u4,c4,q4⟩:=hcells i _ 4 _ hc rfl;have e0:u0= .int .i64 z:=by cases q0;rfl
    subst e0;refine⟨⟨z,[u1,u2,u3,u4],rfl,fun v hv=> ?_⟩,fun _=>⟨fun j hj=> ?_,fun c' hc'=> ?_⟩⟩
    ·simp at hv;rcases hv with rfl | rfl | rfl | rfl
     ·exact q1.oneCell o1
     ·exact q2.oneCell o2
     ·exact q3.oneCell o3
     ·exact q4.oneCell o4
    ·match j,hj with
     | 0,_=>exact c0
     | 1,_=>exact c1
     | 2,_=>exact c2
     | 3,_=>exact c3
     | 4,_=>exact c4
    ·rw[hc]at hc';cases hc';rfl
  ·exact⟨default,fun h=>absurd h hi⟩
 obtain⟨f,hf⟩:=Classical.axiomOfChoice hx;obtain⟨d,hd⟩:∃d:Array TermV,d=((List.range es.length).map f).toArray:=⟨_,rfl⟩;have hds:d.size=es.length:=by rw[hd];simp
 have hdg:∀i,i<es.length->d[i]? =some (f i):=fun i hi=>by rw[hd];simp[hi]
 have hlen5:∀x:TermV,x.enc.length=5:=fun x=>by simp[TermV.enc,x.len]
 have hH:HoldsK TermV.enc 5 w b 0 d:=by
  unfold HoldsK Holds;intro t ht;rw[size_flatK,hds]at ht;have hi:t/5<es.length:=by omega
  have hj:t % 5<5:=by omega
  obtain⟨g1,_⟩:=hf (t/5) hi;have g2:=g1 (t % 5) hj;have ht5:t/5*5+t % 5=t:=by omega
  rw[ht5,zk (by rw[hlen5];exact hj)]at g2;refine⟨?_,frozen0 hcur⟩;rw[qt,cell0 hcur g2,get_flatK _ _ _ _ (by rw[hds];exact ht),jK d _ (by omega),(zH.1 (hdg _ hi)).2,jK _ _ (by rw[hlen5];exact hj)];rfl
 have hblk:b<w.heap.size:=(zH.1 hcur).1;have hcall:=sort_calls b 0 cap d w hH hblk (by omega);rw[hds]at hcall;refine hcall.mono ?_;rintro e w' ⟨rfl,d',n,os,hperm,hsorted,rfl⟩;have hR:F2 (fun(x:TermV) (c:List IV)=>x.z=keyC c/\c.length=5/\∀(j:Nat) y u,c[j]? =some y->x.enc[j]? =some u->y.one=true/\Rep w (MoH M L) y u) d.toList es:=by
  refine F2.of (by rw[Array.length_toList,hds]) fun i x c h1 h2=> ?_;have hi:=(zt.1 h2).1;have hxi:x=f i:=by
   have:=hdg i hi;rw[qi]at h1;rw[this]at h1;exact(jG h1).symm
  subst hxi;obtain⟨g1,g2⟩:=hf i hi;have hl5:=hclen c (zE h2);refine⟨g2 c h2,hl5,fun j y u hy hu=> ?_⟩;obtain⟨o,u',c',q⟩:=hcells i c j y h2 hy;have hj:j<5:=by rw[<-hl5];exact(zt.1 hy).1
  rw[g1 j hj,hu]at c';cases c';exact⟨o,q⟩
 obtain⟨hp1,_,hp2⟩:=hperm;have hd's:d'.size=es.length:=by rw[hp1,hds]
 have hpl:d.toList.Perm d'.toList:=by
  have e1:(d'.extract 0 es.length)=d':=by rw[<-hd's];simp
  have e2:(d.extract 0 es.length)=d:=by rw[<-hds];simp
  rw[e1,e2]at hp2;exact hp2.symm
 obtain⟨es',hpe,hR'⟩:=perm_rel hpl hR;have hle:es'.length=es.length:=hpe.length_eq;have hMo:MoH M (setRow L (hp b) 5 es')=MoH M L:=by
  funext b1 o;unfold MoH;rw[jbr]
 have hshp:Shp w (sortWorldK TermV.enc 5 w b 0 n d' os):=fun b1 c1 T1 h1=>by
  by_cases e:b1=b
  ·subst e;refine⟨_,sw_heap h1,?_⟩;unfold putCells;rw[Array.size_mapIdx]
  ·exact⟨c1,by rw[jia e (zH.1 h1).1];exact h1,rfl⟩
 have hbM:∀o,MoH M L b o:=fun o=> .inr (by rw[hL];rfl);have hkept:Kept w (MoH M L) (sortWorldK TermV.enc 5 w b 0 n d' os) (MoH M L):=by
  refine⟨fun b1 o u hc hm=>⟨?_,hm⟩,fun b1 me c hc hm=>⟨?_,hm⟩,hshp⟩
  ·have e:b1≠b:=fun e=>by subst e;exact hm (hbM o)
   rw[World.cell?_of_block (w:=w) (a:=⟨b1,o,none⟩) (jia e (World.block_lt_of_cell? (a:=⟨b1,o,none⟩) w hc))];exact hc
  ·have e:b1≠b:=fun e=>by subst e;exact hm (hbM 0)
   rw[jia e (zH.1 hc).1];exact hc
 refine⟨.im (.tup []),.tuple #[],_,⟨rfl,es',hpe,fun i j x y hij h1 h2=> ?_,rfl⟩,rfl,rfl,⟨rfl,rfl,rfl,sw_size,fun k hk=> ?_,hshp⟩,fun k s es2 hk=> ?_,Rep.tup _ _ rfl fun k x v h=>(by simp at h)⟩
 ·have hi:=(zt.1 h1).1;have hj:=(zt.1 h2).1;have hdi:d'.toList[i]? =some d'[i]! :=by
   rw[qi,yh (by omega),jK d' i (by omega)]
  have hdj:d'.toList[j]? =some d'[j]! :=by
   rw[qi,yh (by omega),jK d' j (by omega)]
  have r1:=(hR'.get hdi h1).1;have r2:=(hR'.get hdj h2).1;have:=hsorted i j (zI _) hij (by omega);rw[TermV.lt]at this;have:=zJ this;rw[<-r1,<-r2];omega
 ·obtain⟨k1,k2⟩:=hk;exact jia (fun e=>by subst e;rw[hL]at k2;cases k2) k1
 ·by_cases e:k=hp b
  ·subst e;rw[jbx (by rw[hL];rfl)]at hk;cases hk;refine⟨b,rfl,.inl (by rw[hL];rfl),_,T,sw_heap hcur,fun c hc=> ?_,fun i c j y hi hj=> ?_⟩
   ·exact hclen c (hpe.mem_iff.1 hc)
   ·have hil:=(zt.1 hi).1;have hdi:d'.toList[i]? =some d'[i]! :=by
     rw[qi,yh (by omega),jK d' i (by omega)]
    obtain⟨_,r2,r3⟩:=hR'.get hdi hi;have hj5:j<5:=by rw[<-r2];exact(zt.1 hj).1
    have hu:(d'[i]!).enc[j]? =some ((d'[i]!).enc[j]'(by rw[hlen5];exact hj5)):=zk _;obtain⟨o,q⟩:=r3 j y _ hj hu;refine⟨o,_,sw_cell hlen5 (by rw[<-qi];exact hdi) hu (by omega),?_⟩;rw[hMo];exact q.kept hkept
  ·rw[jca e]at hk;obtain⟨b1,rfl,h2,c1,T1,g1,g2,g3⟩:=hrows k s es2 hk;have e1:b1≠b:=fun h=>e (by rw[h]);refine⟨b1,rfl,.inl (by rw[hk];rfl),c1,T1,by rw[jia e1 (zH.1 g1).1];exact g1,g2,fun i c j y hi hj=> ?_⟩;obtain⟨o,u,q1,q2⟩:=g3 i c j y hi hj;exact⟨o,u,q1,by rw[hMo];exact q2.kept hkept⟩
theorem w_sort0:Ctr G.P 64 [.sl [],.clo 65 []] (· = .tup []):=by
 intro w M vs hM hr
 match vs,hr.1 with
 | [v0,v1],_=>
  have a0:Rep w M (.sl []) v0:=hr.2 0 _ _ rfl rfl;obtain⟨p,c,rfl⟩:∃p c,v0= .slice p 0 c:=by
   rcases a0.sl_inv with ⟨_,a,c,rfl⟩ | ⟨s',b,o,c,u,hne,_⟩
   ·exact⟨_,_,rfl⟩
   ·exact absurd rfl hne
  refine Calls.mono (AnyF.slices_SortFunc_none joo p c v1 w) ?_;rintro e w' ⟨rfl,rfl⟩;exact⟨.tup [],_,rfl,rfl,Rep.tup _ _ rfl fun k x v h=>(by simp at h),Go.RowKit.Below.refl _ _⟩
end
section
open Go.Abs
attribute [local go_sem] Cert.c Recall.c ints ic big frac
theorem jip(n m:Int):Ctr G.P 162 [.int n,.int m] (· = .bool (btw n 0 m)):=by
 unfold btw;refine ja5 [.tmp 4] Tryz.func162 ?_;simp only[go_sem]
 repeat' (refine jd5 (fun hd hp=> ?_) (fun hd hp=> ?_)<;>simp only[hd,go_sem])
def jnx(c:Cert):Bool:=decide (0<=c.fr)&&decide (c.fr<=c.until')&&decide (c.until'<=100000)
def jg7(c:Cert):Bool:=jnx c&&btw c.scale 0 29&&btw c.grams 0 1099511627776&&btw c.perMille 0 1000&&btw c.drift 0 10000000
theorem h_right(c:Cert):Ctr G.P 169 [.agg c.c] (· = .bool (jg7 c)):=by
 have a1:=jip c.scale 29;have a2:=jip c.grams 1099511627776;have a3:=jip c.perMille 1000;have a4:=jip c.drift 10000000;generalize hb1:btw c.scale 0 29=b1 at*;generalize hb2:btw c.grams 0 1099511627776=b2 at*;generalize hb3:btw c.perMille 0 1000=b3 at*;generalize hb4:btw c.drift 0 10000000=b4 at*;generalize hd1:decide (0<=c.fr)=d1;generalize hd2:decide (c.fr<=c.until')=d2;generalize hd3:decide (c.until'<=100000)=d3;have hr:jg7 c=(d1&&d2&&d3&&b1&&b2&&b3&&b4):=by simp only[jg7,jnx,hb1,hb2,hb3,hb4,hd1,hd2,hd3]
 rw[hr];refine ja5 [.tmp 2] Tryz.func169 ?_;unfold Cert.c;simp only[hd1,hd2,hd3,go_sem]
 repeat' (first | (refine jdf (fun hd=> ?_) (fun hd=> ?_)<;>simp only[*,hd1,hd2,hd3,go_sem]) | (refine jbz (a1) (by first | decide | assumption) ?_;simp only[*,hd1,hd2,hd3,go_sem]) | (refine jbz (a2) (by first | decide | assumption) ?_;simp only[*,hd1,hd2,hd3,go_sem]) | (refine jbz (a3) (by first | decide | assumption) ?_;simp only[*,hd1,hd2,hd3,go_sem]) | (refine jbz (a4) (by first | decide | assumption) ?_;simp only[*,hd1,hd2,hd3,go_sem]) | (refine ja4 (a1) (by decide) ?_;simp only[*,hd1,hd2,hd3,go_sem]) | (refine ja4 (a2) (by decide) ?_;simp only[*,hd1,hd2,hd3,go_sem]) | (refine ja4 (a3) (by decide) ?_;simp only[*,hd1,hd2,hd3,go_sem]) | (refine ja4 (a4) (by decide) ?_;simp only[*,hd1,hd2,hd3,go_sem]))
 all_goals simp_all
def jde(c:Cert)(day:Int):Bool:=jg7 c&&decide (c.fr<=day)&&decide (day<=c.until')
theorem jrv(c:Cert)(day:Int):Ctr G.P 159 [.agg c.c,.int day] (· = .bool (jde c day)):=by
 have a1:=h_right c;generalize hb1:jg7 c=b1 at*;generalize hd1:decide (c.fr<=day)=d1;generalize hd2:decide (day<=c.until')=d2;have hr:jde c day=(b1&&d1&&d2):=by simp only[jde,hb1,hd1,hd2]
 rw[hr];refine ja5 [.tmp 4] Tryz.func159 ?_;unfold Cert.c at a1⊢;simp only[hd1,hd2,go_sem]
 repeat' (first | (refine jdf (fun hd=> ?_) (fun hd=> ?_)<;>simp only[*,hd1,hd2,go_sem]) | (refine jbz (a1) (by first | decide | assumption) ?_;simp only[*,hd1,hd2,go_sem]) | (refine ja4 (a1) (by decide) ?_;simp only[*,hd1,hd2,go_sem]))
 all_goals simp_all
def pickF(l:List Cert)(sc day:Int)(b:Nat×Bool)(c:Cert):Bool:=
 decide (c.scale=sc)&&jde c day&&(!b.2 || decide ((l[b.1]?.elim 0 Cert.fr)<=c.fr))
def jcj(l:List Cert)(sc day:Int):Nat->Nat×Bool
 | 0=>(0,false)
 | i+1=>if(l[i]?.elim false (pickF l sc day (jcj l sc day i)))=true then(i,true)else jcj l sc day i
theorem jfh(l:List Cert)(sc day:Int)(i:Nat):(jcj l sc day i).2=true->(jcj l sc day i).1<i/\∃c,l[(jcj l sc day i).1]? =some c/\jde c day=true:=by
 induction i with
 | zero=>intro h;cases h
 | succ i ih=>
  rw[jcj];split
  ·rename_i h;intro _;refine⟨by dsimp only;omega,?_⟩;dsimp only;rcases hx:l[i]? with _ | c
   ·rw[hx]at h;cases h
   ·rw[hx]at h;refine⟨c,rfl,?_⟩;simp only[Option.elim,pickF,zC]at h;exact h.1.2
  ·intro h;obtain⟨h1,h2⟩:=ih h;exact⟨by omega,h2⟩
theorem jek{l:List Cert}{sc day:Int}{i:Nat}{c:Cert}(h:l[i]? =some c):jcj l sc day (i+1)=if pickF l sc day (jcj l sc day i) c=true then(i,true)else jcj l sc day i:=by
 rw[jcj,h];rfl
def findF(l:List Cert)(sc day:Int):Nat×Bool:=jcj l sc day l.length
theorem h_find(l:List Cert)(sc day:Int)(hl:l.length<=100000):Ctr G.P 143 [.sl (l.map Cert.c),.int sc,.int day] (· = .tup [.int (findF l sc day).1,.bool (findF l sc day).2]):=by
 unfold findF;refine ja5 [.tmp 6,.tmp 7] Tryz.func143 ?_;simp only[go_sem];refine jaw [0,1,2,8,9,12,13,14] [] (fun i:Nat=>⟨[(0,.im (.sl (l.map Cert.c))),(1,.im (.int sc)),(2,.im (.int day)),(8,.im (.int (jcj l sc day i).1)),(9,.im (.bool (jcj l sc day i).2)),(12,.im (.sl (l.map Cert.c))),(13,.im (.int l.length)),(14,.im (.int i))],[],[]⟩)
  (fun i=>i<=l.length) (fun i=>l.length-i) 0 ?_ (zI _) ?_
 ·simp only[jcj,Int.natCast_zero,go_sem]
 ·intro i hi;by_cases hp:(i:Int)<l.length
  ·have hd:decide ((i:Int)<l.length)=true:=ze hp;obtain⟨x,hx⟩:=jby hp;have h1:=jaa (n:=(i:Int)+1) (by omega);have hc:=jrv x day;have hsp:=jfh l sc day i;rcases hbf:jcj l sc day i with ⟨b,f⟩;rw[hbf]at hsp;dsimp only at hsp⊢;simp only[Cert.c]at hc;rcases hs:decide (x.scale=sc)with _ | _
   ·simp only[hd,za,hx,go_sem];refine jaf 23 ?_;simp only[hs,za,hx,go_sem];refine jai (i+1) ?_ (by omega) (by omega);rw[jek hx,zr (by simp[pickF, *]),hbf];simp only[h1,Int.natCast_add,go_sem]
   ·rcases hv:jde x day with _ | _
    ·rw[hv]at hc;simp only[hd,za,hx,go_sem];refine jaf 23 ?_;simp only[hs,za,hx,go_sem];refine ja4 hc (by decide) ?_;simp only[go_sem];refine jai (i+1) ?_ (by omega) (by omega);rw[jek hx,zr (by simp[pickF, *]),hbf];simp only[h1,Int.natCast_add,go_sem]
    ·rw[hv]at hc;rcases f with _ | _
     ·simp only[hd,za,hx,go_sem];refine jaf 23 ?_;simp only[hs,za,hx,go_sem];refine ja4 hc (by decide) ?_;simp only[go_sem];refine jai (i+1) ?_ (by omega) (by omega);rw[jek hx,zm (by simp[pickF, *])];simp only[h1,Int.natCast_add,go_sem]
     ·obtain⟨_,y,hy,_⟩:=hsp rfl;have hg:l[b]?.elim 0 Cert.fr=y.fr:=by rw[hy];rfl
      rcases hk:decide (y.fr<=x.fr)with _ | _
      ·simp only[hd,za,hx,go_sem];refine jaf 23 ?_;simp only[hs,za,hx,hy,hk,go_sem];refine ja4 hc (by decide) ?_;simp only[hs,za,hx,hy,hk,go_sem];refine jai (i+1) ?_ (by omega) (by omega);rw[jek hx,zr (by simp[pickF, *]),hbf];simp only[h1,Int.natCast_add,go_sem]
      ·simp only[hd,za,hx,go_sem];refine jaf 23 ?_;simp only[hs,za,hx,hy,hk,go_sem];refine ja4 hc (by decide) ?_;simp only[hs,za,hx,hy,hk,go_sem];refine jai (i+1) ?_ (by omega) (by omega);rw[jek hx,zm (by simp[pickF, *])];simp only[h1,Int.natCast_add,go_sem]
  ·have hd:decide ((i:Int)<l.length)=false:=zw hp;have:i=l.length:=by omega
   subst this;simp only[hd,go_sem]
def recF(sc day:Int)(x:Recall):Bool:=decide (x.scale=sc)&&decide (x.since<=day)
theorem h_rec1(x:Recall)(sc day:Int):Ctr G.P 161 [.agg x.c,.ip [.int sc] 0,.ip [.int day] 0] (· = .bool (recF sc day x)):=by
 unfold recF;refine ja5 [.tmp 4] Tryz.func161 ?_;unfold Recall.c;simp only[go_sem]
 repeat' (refine jd5 (fun hd hp=> ?_) (fun hd hp=> ?_)<;>simp only[hd,go_sem])
theorem h_irec(l:List Recall)(hl:l.length<=100000)(p:Recall->Bool)(g:Nat)(caps:List IV)(hg:3<=g/\g<G.fns)(hc:∀x:Recall,Ctr G.P g (.agg x.c::caps) (· = .bool (p x))):
  Ctr G.P 170 [.sl (l.map Recall.c),.clo g caps] (fun r=>∃k:Int,r= .int k/\decide (0<=k)=l.any p):=by
 refine ja5 [.tmp 4] Tryz.func170 ?_;simp only[go_sem];refine jaw [0,1,7,8] [] (fun i:Nat=>⟨[(0,.im (.sl (l.map Recall.c))),(1,.im (.clo g caps)),(7,.im (.int l.length)),(8,.im (.int i))],[],[]⟩)
  (fun i=>i<=l.length/\(l.take i).any p=false) (fun i=>l.length-i) 0 ?_ ⟨zI _,rfl⟩ ?_
 ·simp only[Int.natCast_zero,go_sem]
 ·intro i ⟨hi,ha⟩;by_cases hp:(i:Int)<l.length
  ·have hd:decide ((i:Int)<l.length)=true:=ze hp;obtain⟨x,hx⟩:=jby hp;have h1:=jaa (n:=(i:Int)+1) (by omega);have hcx:=hc x;simp only[Recall.c]at hcx;simp only[hd,za,hx,go_sem];refine jbz hcx hg ?_;simp only[go_sem];refine jdf (fun he=> ?_) (fun he=> ?_)
   ·simp only[he,go_sem];exact⟨i,rfl,by rw[any_at hx he];simp⟩
   ·simp only[he,go_sem];refine jai (i+1) ?_ (by omega) ⟨by omega,by rw[any_take_succ hx,ha,he];rfl⟩;simp only[h1,Int.natCast_add,go_sem]
  ·have hd:decide ((i:Int)<l.length)=false:=zw hp;rw[zu (by omega)]at ha;simp only[hd,go_sem];exact⟨-1,rfl,by rw[ha];rfl⟩
theorem h_crec(l:List Recall)(hl:l.length<=100000)(p:Recall->Bool)(g:Nat)(caps:List IV)(hg:3<=g/\g<G.fns)(hc:∀x:Recall,Ctr G.P g (.agg x.c::caps) (· = .bool (p x))):
  Ctr G.P 160 [.sl (l.map Recall.c),.clo g caps] (· = .bool (l.any p)):=by
 have h:=h_irec l hl p g caps hg hc;refine ja5 [.tmp 4] Tryz.func160 ?_;simp only[go_sem];refine jhe h ?_;rintro r ⟨k,rfl,hk⟩;rw[<-hk];simp only[go_sem]
theorem h_recalled(l:List Recall)(sc day:Int)(hl:l.length<=100000):Ctr G.P 144 [.sl (l.map Recall.c),.int sc,.int day] (· = .bool (l.any (recF sc day))):=by
 have h:=h_crec l hl (recF sc day) 161 [.ip [.int sc] 0,.ip [.int day] 0] (by decide) (fun x=>h_rec1 x sc day);refine ja5 [.tmp 6] Tryz.func144 ?_;simp only[go_sem];refine ja2 h ?_;simp only[go_sem]
end
section
open Go.Abs
attribute [local go_sem] Cert.c Recall.c ints ic big frac
def zf:IV:= .agg [.int 0,.sl [],.int 0,.sl []]
def errF(c:Cert)(rd day:Int):Rat:=Rat.divInt (c.perMille*rd) 1000+((c.grams+c.drift*(day-c.fr):Int):Rat)
theorem FL_err{c:Cert}{rd day:Int}(h:jde c day=true)(hr:0<=rd/\rd<=1099511627776):
  FL 9 (errF c rd day)/\FL 4 (Rat.divInt (c.perMille*rd) 1000)/\FL 4 ((c.grams+c.drift*(day-c.fr):Int):Rat)/\(0<=c.perMille*rd/\c.perMille*rd<=1099511627776000)/\(0<=c.drift*(day-c.fr)/\c.drift*(day-c.fr)<=1000000000000)/\
  (0<=c.grams/\c.grams<=1099511627776)/\(0<=day-c.fr/\day-c.fr<=100000):=by
 simp only[jde,jg7,jnx,zC,zO,btw_iff]at h;obtain⟨⟨⟨⟨⟨⟨⟨⟨a1,a2⟩,a3⟩,_⟩,g1,g2⟩,p1,p2⟩,d1,d2⟩,f1⟩,u1⟩:=h;have m1:0<=c.perMille*rd:=qM p1 hr.1;have m2:c.perMille*rd<=1000*1099511627776:=jP p2 hr.2 hr.1 (by omega);have n1:0<=c.drift*(day-c.fr):=qM d1 (by omega);have n2:c.drift*(day-c.fr)<=10000000*100000:=jP d2 (by omega) (by omega) (by omega);have k1:FL 4 (Rat.divInt (c.perMille*rd) 1000):=jj4 (by omega) (jl5 (by omega)) (jl5 (by omega));have k2:FL 4 ((c.grams+c.drift*(day-c.fr):Int):Rat):=jcy (by omega);exact⟨jpt k1 k2,k1,k2,by omega,by omega,by omega,by omega⟩
def errIV(c:Cert)(rd day:Int):IV:=if(jde c day&&btw rd 0 1099511627776)=true then .tup [frac (errF c rd day),.bool true]else .tup [zf,.bool false]
theorem h_error(c:Cert)(rd day:Int):Ctr G.P 145 [.agg c.c,.int rd,.int day] (· =errIV c rd day):=by
 have hc:=jrv c day;have hw:=jip rd 1099511627776;unfold errIV;rcases hv:jde c day with _ | _
 ·rw[hv]at hc;rw[qm,zr qo];unfold zf;simp only[Cert.c]at hc⊢;refine ja5 [.cell 6 63,.tmp 7] Tryz.func145 ?_;simp only[go_sem];refine ja2 hc ?_;simp only[go_sem]
 ·rw[hv]at hc;rw[qg];rcases hb:btw rd 0 1099511627776 with _ | _
  ·rw[hb]at hw;rw[zr qo];unfold zf;simp only[Cert.c]at hc⊢;refine ja5 [.cell 6 63,.tmp 7] Tryz.func145 ?_;simp only[go_sem];refine ja2 hc ?_;simp only[go_sem];refine ja2 hw ?_;simp only[go_sem]
  ·rw[hb]at hw;rw[zm rfl];obtain⟨k0,k1,k2,m1,m2,m3,m4⟩:=FL_err hv (btw_iff.1 hb);have ho:=t_poff (c.perMille*rd) 1000 (by omega) (by omega) (by omega);have hi:=jck (c.grams+c.drift*(day-c.fr)) (by omega);have hs:=f_add (k1.mono (by omega:4<=19000000000)) (k2.mono (by omega:4<=19000000000));have w1:=jaa (n:=c.perMille*rd) (by omega);have w2:=jaa (n:=day-c.fr) (by omega);have w3:=jaa (n:=c.drift*(day-c.fr)) (by omega);have w4:=jaa (n:=c.grams+c.drift*(day-c.fr)) (by omega);unfold errF;generalize Rat.divInt (c.perMille*rd) 1000=r1 at*;generalize ((c.grams+c.drift*(day-c.fr):Int):Rat)=r2 at*;generalize r1+r2=r3 at*;simp only[Cert.c,big,frac,ints]at hc ho hi hs⊢;refine ja5 [.cell 6 63,.tmp 7] Tryz.func145 ?_;simp only[go_sem];refine ja2 hc ?_;simp only[go_sem];refine ja2 hw ?_;simp only[w1,go_sem];refine ja2 ho ?_;simp only[go_sem];refine jav ?_;simp only[w2,w3,w4,go_sem];refine ja4 hi (by decide) ?_;simp only[go_sem];refine ja4 hs (by decide) ?_;simp only[go_sem]
def ivlF(cs:List Cert)(rs:List Recall)(sc rd day:Int):Option (Rat×Rat):=
 if(findF cs sc day).2=false then none
 else if rs.any (recF sc day)=true then none
 else match cs[(findF cs sc day).1]? with
  | none=>none
  | some c=>if(jde c day&&btw rd 0 1099511627776)=true then
    some (if(rd:Rat)-errF c rd day<((0:Int):Rat)then((0:Int):Rat)else(rd:Rat)-errF c rd day,(rd:Rat)+errF c rd day)else none
def ivlIV(r:Option (Rat×Rat)):IV:=match r with
 | none=> .tup [zf,zf,.bool false]
 | some (a,b)=> .tup [frac a,frac b,.bool true]
theorem h_ivl(cs:List Cert)(rs:List Recall)(sc rd day:Int)(l1:cs.length<=100000)(l2:rs.length<=100000):
  Ctr G.P 118 [.sl (cs.map Cert.c),.sl (rs.map Recall.c),.int sc,.int rd,.int day] (· =ivlIV (ivlF cs rs sc rd day)):=by
 have hf:=h_find cs sc day l1;have hr:=h_recalled rs sc day l2;have hsp:=jfh cs sc day cs.length;unfold ivlF;rw[show jcj cs sc day cs.length=findF cs sc day from rfl]at hsp;generalize findF cs sc day=bf at*;obtain⟨b,f⟩:=bf;dsimp only at hf hsp⊢;rcases f with _ | _
 ·rw[zm rfl];unfold ivlIV zf;refine ja5 [.cell 10 63,.cell 11 63,.tmp 12] Tryz.func118 ?_;simp only[go_sem];refine ja2 hf ?_;simp only[go_sem]
 rw[zr (by decide)];rcases ha:rs.any (recF sc day)with _ | _
 ·rw[ha]at hr;rw[zr (by decide)];obtain⟨_,c,hx,_⟩:=hsp rfl;rw[hx];dsimp only;have he:=h_error c rd day;unfold errIV at he;rcases hv:(jde c day&&btw rd 0 1099511627776)with _ | _
  ·rw[hv,zr qo]at he;rw[zr qo];unfold ivlIV;unfold zf at he⊢;simp only[Cert.c]at he;refine ja5 [.cell 10 63,.cell 11 63,.tmp 12] Tryz.func118 ?_;simp only[go_sem];refine ja2 hf ?_;simp only[go_sem];refine ja2 hr ?_;simp only[za,hx,go_sem];refine ja2 he ?_;simp only[go_sem]
  ·rw[hv,zm rfl]at he;rw[zm rfl];unfold ivlIV;rw[zC]at hv;have hb:=btw_iff.1 hv.2;obtain⟨k0,_⟩:=FL_err hv.1 hb;have k4:FL 4 (rd:Rat):=jcy (by omega);have o1:=jck rd (by omega);have o2:=jck 0 (by omega);have z4:FL 4 ((0:Int):Rat):=jcy (by omega);generalize errF c rd day=e at*;have s1:=f_sub (k4.mono (by omega:4<=19000000000)) (k0.mono (by omega:9<=19000000000));have s2:=f_add (k4.mono (by omega:4<=19000000000)) (k0.mono (by omega:9<=19000000000));have s3:=f_max ((FL_sub k4 k0).mono (by omega:14<=19000000000)) (z4.mono (by omega:4<=19000000000));generalize hzz:((0:Int):Rat)=zz at*;generalize (rd:Rat)=rr at*;generalize rr-e=lo at*;generalize rr+e=hi at*;dsimp only;generalize (if lo<zz then zz else lo)=mx at*;simp only[Cert.c,big,frac,ints]at he o1 o2 s1 s2 s3⊢;refine ja5 [.cell 10 63,.cell 11 63,.tmp 12] Tryz.func118 ?_;simp only[go_sem];refine ja2 hf ?_;simp only[go_sem];refine ja2 hr ?_;simp only[za,hx,go_sem];refine ja2 he ?_;simp only[go_sem];refine ja2 o1 ?_;simp only[go_sem];refine ja2 s1 ?_;simp only[go_sem];refine ja2 s2 ?_;simp only[go_sem];refine jav ?_;simp only[go_sem];refine ja4 o2 (by decide) ?_;simp only[go_sem];refine ja4 s3 (by decide) ?_;simp only[go_sem];refine DrawE_of ?_;refine jsk 0 1 (by decide+kernel) rfl rfl ?_ ?_
   ·simp only[go_sem];refine jsk 1 2 (by decide+kernel) rfl rfl ?_ ?_
    ·simp only[go_sem];refine jet 2 (by decide+kernel) rfl ?_;simp only[go_sem];refine jet 3 (by decide+kernel) rfl ?_;simp only[go_sem];refine jet 4 (by decide+kernel) rfl ?_;simp only[go_sem];refine jo6 (by decide+kernel) ?_;simp only[go_sem]
    ·simp only[go_sem];refine jet 1 (by decide+kernel) rfl ?_;simp only[go_sem];refine jet 3 (by decide+kernel) rfl ?_;simp only[go_sem];refine jet 4 (by decide+kernel) rfl ?_;simp only[go_sem];refine jo6 (by decide+kernel) ?_;simp only[go_sem]
   ·simp only[go_sem];refine jet 0 (by decide+kernel) rfl ?_;simp only[go_sem];refine jet 2 (by decide+kernel) rfl ?_;simp only[go_sem];refine jet 3 (by decide+kernel) rfl ?_;simp only[go_sem];refine jet 4 (by decide+kernel) rfl ?_;simp only[go_sem];refine jo6 (by decide+kernel) ?_;simp only[go_sem]
 ·rw[ha]at hr;rw[zm rfl];unfold ivlIV zf;refine ja5 [.cell 10 63,.cell 11 63,.tmp 12] Tryz.func118 ?_;simp only[go_sem];refine ja2 hf ?_;simp only[go_sem];refine ja2 hr ?_;simp only[go_sem]
end
end Go.Proofs.YtdhlmmoicchgpaaGreat
namespace Go.LP
section
def Free(D:Dic)(k:Nat):Prop:=∃j,j<D.n/\D.free j=k
def SameV(D E:Dic):Prop:=∀k,(Own D k\/Free D k)↔(Own E k\/Free E k)
theorem SameV.refl(D:Dic):SameV D D:=fun _=>Iff.rfl
theorem SameV.trans{D E F:Dic}(h:SameV D E)(h':SameV E F):SameV D F:=fun k=>(h k).trans (h' k)
theorem SameV.symm{D E:Dic}(h:SameV D E):SameV E D:=fun k=>(h k).symm
theorem free_pivot{D:Dic}{r s k:Nat}(hs:s<D.n):Free (D.pivot r s) k↔(k=D.own r\/∃j,j<D.n/\j≠s/\D.free j=k):=by
 constructor
 ·rintro⟨j,hj,e⟩;simp only[Dic.pivot]at hj e;split at e
  ·exact .inl e.symm
  ·exact .inr ⟨j,hj,‹_›,e⟩
 ·rintro(e | ⟨j,hj,hne,e⟩)
  ·exact⟨s,hs,by simp[Dic.pivot,e]⟩
  ·exact⟨j,hj,by simp[Dic.pivot,hne,e]⟩
theorem jkp{D:Dic}(hD:D.Ok){r s:Nat}(hr:r<D.m)(hs:s<D.n):SameV D (D.pivot r s):=by
 intro k;rw[free_pivot hs];constructor
 ·rintro(⟨i,hi,e⟩ | ⟨j,hj,e⟩)
  ·by_cases h:i=r
   ·subst h;exact .inr (.inl e.symm)
   ·exact .inl ⟨i,hi,by simp[Dic.pivot,h,e]⟩
  ·by_cases h:j=s
   ·subst h;exact .inl ⟨r,hr,by simp[Dic.pivot,e]⟩
   ·exact .inr (.inr ⟨j,hj,h,e⟩)
 ·rintro(⟨i,hi,e⟩ | e | ⟨j,hj,_,e⟩)
  ·simp only[Dic.pivot]at hi e;split at e
   ·exact .inr ⟨s,hs,e⟩
   ·exact .inl ⟨i,hi,e⟩
  ·exact .inl ⟨r,hr,e.symm⟩
  ·exact .inr ⟨j,hj,e⟩
theorem js4{D E:Dic}(hD:D.Ok)(hq:Eqv D E)(hE:E.Ok){s:Nat}(hs:s<D.n)(h0:∀j,j<E.n->D.dir s (E.free j)=0):∀i,i<E.m->D.dir s (E.own i)=0:=by
 intro i hi;have h1:=jgz hD;have h2:=(hq.sat _).1 h1 i hi;have h3:=(hq.sat _).1 (jjh hD hs h1 1) i hi;unfold Dic.row at h2 h3;have e:S E.n (fun j=>E.a i j*(D.pt (E.free j)+1*D.dir s (E.free j)))=S E.n (fun j=>E.a i j*D.pt (E.free j)):=jdw fun j hj=>by rw[h0 j hj];grind
 rw[e]at h3;grind
def cntP(p:Nat->Prop)[DecidablePred p]:Nat->Nat
 | 0=>0
 | n+1=>cntP p n+(if p n then 1 else 0)
theorem cntP_le{p q:Nat->Prop}[DecidablePred p][DecidablePred q]:∀{n:Nat},(∀k,k<n->p k->q k)->cntP p n<=cntP q n
 | 0,_=>zn _
 | n+1,h=>by
  have ih:=cntP_le (n:=n) fun k hk=>h k (by omega);have:=h n (by omega);simp only[cntP];by_cases hp:p n
  ·rw[zm hp,zm (this hp)];omega
  ·rw[zr hp];split<;>omega
theorem cntP_lt{p q:Nat->Prop}[DecidablePred p][DecidablePred q]{i:Nat}:∀{n:Nat},i<n->(∀k,k<n->p k->q k)->¬p i->q i->cntP p n<cntP q n
 | n+1,hi,h,hp,hq=>by
  simp only[cntP];by_cases e:i=n
  ·subst e;have ih:=cntP_le (n:=i) (p:=p) (q:=q) fun k hk=>h k (by omega);rw[zr hp,zm hq];omega
  ·have ih:=cntP_lt (n:=n) (by omega) (fun k hk=>h k (by omega)) hp hq;have:=h n (by omega);by_cases hpn:p n
   ·rw[zm hpn,zm (this hpn)];omega
   ·rw[zr hpn];split<;>omega
open Classical in
noncomputable def dist(D E:Dic):Nat:=cntP (fun i=>¬Own D (E.own i)) E.m
inductive Path:Dic->Nat->Dic->Prop
 | nil (D:Dic):Path D 0 D
 | step (D:Dic) (r s t:Nat) (E:Dic):r<D.m->s<D.n->D.a r s≠0->Path (D.pivot r s) t E->Path D (t+1) E
theorem jew{D:Dic}(hD:D.Ok){k:Nat}(h1:Own D k)(h2:Free D k):False:=by
 obtain⟨i,hi,e⟩:=h1;obtain⟨j,hj,e'⟩:=h2;exact hD.apart i j hi hj (e.trans e'.symm)
theorem near_of{D E:Dic}(hD:D.Ok)(hE:E.Ok)(hq:Eqv D E)(hv:SameV D E)(h0:∀i,i<E.m->Own D (E.own i)):∀k,Own D k->Own E k:=by
 intro k ⟨r,hr,e⟩;subst e;rcases(hv (D.own r)).1 (.inl ⟨r,hr,rfl⟩)with h | ⟨s,hs,e⟩
 ·exact h
 ·exfalso;have h1:∀j,j<D.n->E.dir s (D.free j)=0:=by
   intro j hj;rcases(hv (D.free j)).1 (.inr ⟨j,hj,rfl⟩)with ⟨i,hi,e'⟩ | ⟨j',hj',e'⟩
   ·exact(jew hD (h0 i hi) ⟨j,hj,e'.symm⟩).elim
   ·rw[<-e',jfo hE hj' hs,zr];intro h;subst h;exact hD.apart r j hr hj (e.symm.trans e')
  have h2:=js4 hE hq.symm hD hs h1 r hr;rw[<-e,jfo hE hs hs,zm rfl]at h2;exact absurd h2 (by decide)
open Classical in
theorem joz:∀(t:Nat) (D E:Dic),D.Ok->E.Ok->Eqv D E->SameV D E->dist D E<=t->∃(t':Nat) (F:Dic),t'<=t/\Path D t' F/\F.Ok/\Eqv F E/\SameV F E/\∀k,Own F k↔Own E k
 | t,D,E,hD,hE,hq,hv,ht=>by
  by_cases h0:∀i,i<E.m->Own D (E.own i)
  ·exact⟨0,D,zI _,.nil D,hD,hq,hv,fun k=>⟨near_of hD hE hq hv h0 k,fun⟨i,hi,e⟩=>e▸h0 i hi⟩⟩
  ·obtain⟨i0,hi0,hno⟩:∃i,i<E.m/\¬Own D (E.own i):=by
    refine yL fun hc=>h0 fun i hi=>yL fun h=>hc ⟨i,hi,h⟩
   obtain⟨s,hs,es⟩:Free D (E.own i0):=((hv (E.own i0)).2 (.inl ⟨i0,hi0,rfl⟩)).resolve_left hno;obtain⟨r,hr,hrE,hrs⟩:∃r,r<D.m/\¬Own E (D.own r)/\D.a r s≠0:=by
    refine yL fun hc=> ?_;have h1:∀j,j<E.n->D.dir s (E.free j)=0:=by
     intro j hj;rcases(hv (E.free j)).2 (.inr ⟨j,hj,rfl⟩)with ⟨i,hi,e'⟩ | ⟨j',hj',e'⟩
     ·rw[<-e',jll hD hi];have:D.a i s=0:=yL fun h=>hc ⟨i,hi,fun ho=>jew hE ho ⟨j,hj,e'.symm⟩,h⟩;rw[this];grind
     ·rw[<-e',jfo hD hj' hs,zr];intro h;subst h;exact hE.apart i0 j hi0 hj (es.symm.trans e')
    have h2:=js4 hD hq hE hs h1 i0 hi0;rw[<-es,jfo hD hs hs,zm rfl]at h2;exact absurd h2 (by decide)
   have hD':=jnf hD hr hs;have hq':Eqv (D.pivot r s) E:=(jlh hr hs hrs).symm.trans hq;have hv':SameV (D.pivot r s) E:=(jkp hD hr hs).symm.trans hv;have hd':dist (D.pivot r s) E<dist D E:=by
    refine cntP_lt hi0 (fun k hk hp ho=>hp ?_) (fun h=>h ?_) hno
    ·by_cases e1:E.own k=D.own r
     ·exact(hrE (e1▸⟨k,hk,rfl⟩)).elim
     ·by_cases e2:E.own k=D.free s
      ·rw[e2];exact own_in hr
      ·exact(jp0 hD hr hs e1 e2).2 ho
    ·rw[<-es];exact own_in hr
   cases t with
   | zero=>omega
   | succ t=>
    obtain⟨t',F,h1,h2,h3⟩:=joz t (D.pivot r s) E hD' hE hq' hv' (by omega);exact⟨t'+1,F,by omega,.step D r s t' F hr hs hrs h2,h3⟩
open Classical in
theorem dist_le_n{D E:Dic}(hE:E.Ok)(hv:SameV D E):dist D E<=D.n:=by
 have key:∀(k n:Nat) (f:Nat->Nat) (p:Nat->Prop) [DecidablePred p],(∀i,i<k->p i->∃j,j<n/\f i=j)->(∀i i',i<k->i'<k->p i->p i'->f i=f i'->i=i')->cntP p k<=n:=by
  intro k
  induction k with
  | zero=>intros;exact zI _
  | succ k ih=>
   intro n f p _ h1 h2;simp only[cntP];by_cases hp:p k
   ·rw[zm hp];obtain⟨j,hj,e⟩:=h1 k (by omega) hp;obtain⟨n',rfl⟩:∃n',n=n'+1:=⟨n-1,by omega⟩;have:=ih n' (fun i=>if f i=n' then j else f i) p (fun i hi hpi=>⟨_,?_,rfl⟩) (fun i i' hi hi' hpi hpi' e'=> ?_)
    ·omega
    ·obtain⟨j',hj',e'⟩:=h1 i (by omega) hpi;have hne:f i≠f k:=fun e2=>by have:=h2 i k (by omega) (by omega) hpi hp e2;omega
     split<;>omega
    ·have hne:f i≠f k:=fun e2=>by have:=h2 i k (by omega) (by omega) hpi hp e2;omega
     have hne':f i'≠f k:=fun e2=>by have:=h2 i' k (by omega) (by omega) hpi' hp e2;omega
     obtain⟨a1,a2,a3⟩:=h1 i (by omega) hpi;obtain⟨b1,b2,b3⟩:=h1 i' (by omega) hpi';refine h2 i i' (by omega) (by omega) hpi hpi' ?_;split at e'<;>split at e'<;>omega
   ·rw[zr hp];exact ih n f p (fun i hi=>h1 i (by omega)) fun i i' hi hi'=>h2 i i' (by omega) (by omega)
 have hF:∀i,i<E.m->¬Own D (E.own i)->Free D (E.own i):=fun i hi hn=>((hv (E.own i)).2 (.inl ⟨i,hi,rfl⟩)).resolve_left hn;unfold dist;have pick:∀i,∃j,(i<E.m/\¬Own D (E.own i))->j<D.n/\D.free j=E.own i:=fun i=>by
  by_cases h:i<E.m/\¬Own D (E.own i)
  ·obtain⟨j,hj⟩:=hF i h.1 h.2;exact⟨j,fun _=>hj⟩
  ·exact⟨0,fun h'=>absurd h' h⟩
 refine @key E.m D.n (fun i=>Classical.choose (pick i)) _ _ (fun i hi hp=>⟨_,(jr (pick i) ⟨hi,hp⟩).1,rfl⟩) fun i i' hi hi' hp hp' e=> ?_;have a:=(jr (pick i) ⟨hi,hp⟩).2;have b:=(jr (pick i') ⟨hi',hp'⟩).2;rw[e,b]at a;exact hE.own i i' hi hi' a.symm
theorem same_v{D E:Dic}(hD:D.Ok)(hE:E.Ok)(hq:Eqv D E)(hv:SameV D E)(ho:∀k,Own D k↔Own E k){i i':Nat}(hi:i<D.m)(hi':i'<E.m)(e:D.own i=E.own i'):D.v i=E.v i':=by
 have h1:=(hq.sat _).1 (jgz hD) i' hi';unfold Dic.row at h1;have h2:S E.n (fun j=>E.a i' j*D.pt (E.free j))=0:=jmz fun j hj=>by
  have:Free D (E.free j):=((hv (E.free j)).2 (.inr ⟨j,hj,rfl⟩)).resolve_left fun h=>jew hE ((ho _).1 h) ⟨j,hj,rfl⟩;obtain⟨j',hj',e'⟩:=this;rw[<-e',jq0 hD hj'];grind
 rw[h2,<-e,jr8 hD hi]at h1;grind
theorem dir_of{D E:Dic}(hD:D.Ok)(hE:E.Ok)(hv:SameV D E)(ho:∀k,Own D k↔Own E k){s s':Nat}(hs:s<D.n)(hs':s'<E.n)(e:D.free s=E.free s'):∀j,j<E.n->D.dir s (E.free j)=if j=s' then 1 else 0:=by
 intro j hj;have:Free D (E.free j):=((hv (E.free j)).2 (.inr ⟨j,hj,rfl⟩)).resolve_left fun h=>jew hE ((ho _).1 h) ⟨j,hj,rfl⟩;obtain⟨j',hj',e'⟩:=this;rw[<-e',jfo hD hj' hs];by_cases h:j=s'
 ·subst h;rw[zm rfl,zm (hD.free j' s hj' hs (e'.trans e.symm))]
 ·rw[zr h,zr];intro h';subst h';exact h (hE.free j s' hj hs' (e'.symm.trans e))
theorem same_a{D E:Dic}(hD:D.Ok)(hE:E.Ok)(hq:Eqv D E)(hv:SameV D E)(ho:∀k,Own D k↔Own E k){i i' s s':Nat}(hi:i<D.m)(hi':i'<E.m)(hs:s<D.n)(hs':s'<E.n)(e:D.own i=E.own i')(e':D.free s=E.free s'):D.a i s=E.a i' s':=by
 have hx:=jgz hD;have h1:=(hq.sat _).1 hx i' hi';have h2:=(hq.sat _).1 (jjh hD hs hx 1) i' hi';unfold Dic.row at h1 h2;have hd:=dir_of hD hE hv ho hs hs' e';have h3:S E.n (fun j=>E.a i' j*(D.pt (E.free j)+1*D.dir s (E.free j)))=S E.n (fun j=>E.a i' j*D.pt (E.free j))+S E.n (fun j=>E.a i' j*D.dir s (E.free j)):=by
  rw[<-S_add];exact jdw fun j hj=>by grind
 have h4:S E.n (fun j=>E.a i' j*D.dir s (E.free j))=E.a i' s':=by
  rw[S_one hs' fun j hj hne=>by rw[hd j hj,zr hne];grind];rw[hd s' hs',zm rfl];grind
 dsimp only at h2;rw[h3,h4,<-e,jll hD hi]at h2;rw[<-e]at h1;grind
theorem same_g{D E:Dic}(hD:D.Ok)(hE:E.Ok)(hq:Eqv D E)(hv:SameV D E)(ho:∀k,Own D k↔Own E k){s s':Nat}(hs:s<D.n)(hs':s'<E.n)(e':D.free s=E.free s'):D.g s=E.g s':=by
 obtain⟨c,hc⟩:=hq.lin;have hx:=jgz hD;have h1:=hc _ hx;have h2:=hc _ (jjh hD hs hx 1);have hd:=dir_of hD hE hv ho hs hs' e';rw[jjf,jjf,jns hD hs]at h2;have h4:E.lin (D.dir s)=E.g s':=by
  unfold Dic.lin;rw[S_one hs' fun j hj hne=>by rw[hd j hj,zr hne];grind];rw[hd s' hs',zm rfl];grind
 rw[h4]at h2;grind
def Ov(B q:Nat)(x:Rat):Prop:=∃z:Int,x*(q:Rat)=(z:Rat)/\z.natAbs<=B
structure Small(B:Nat)(q:Nat)(D:Dic):Prop where
 q0:0<q
 qB:q<=B
 v:∀i,i<D.m->Ov B q (D.v i)
 g:∀j,j<D.n->Ov B q (D.g j)
 a:∀i j,i<D.m->j<D.n->Ov B q (D.a i j)
theorem je4{a b:Int}{A B:Nat}(ha:a.natAbs<=A)(hb:b.natAbs<=B):(a*b).natAbs<=A*B:=by
 rw[jj];exact yl ha hb
theorem jit(a b:Int):((a*b:Int):Rat)=(a:Rat)*(b:Rat):=jF a b
theorem cast_sub(a b:Int):((a-b:Int):Rat)=(a:Rat)-(b:Rat):=Rat.intCast_sub a b
theorem Ov.mono{B C q:Nat}{x:Rat}(h:Ov B q x)(hB:B<=C):Ov C q x:=by
 obtain⟨z,h1,h2⟩:=h;exact⟨z,h1,qh h2 hB⟩
theorem Ov_zero{B q:Nat}:Ov B q 0:=⟨0,by rw[show((0:Int):Rat)=0 from rfl];grind,zI _⟩
theorem Ov_one{B q:Nat}(h:q<=B):Ov B q 1:=⟨(q:Int),by rw[show(((q:Int)):Rat)=(q:Rat)from rfl];grind,by rw[Int.natAbs_natCast];exact h⟩
theorem jse(p:Int):∃s:Int,s.natAbs<=1/\((p.natAbs:Nat):Rat)=(s:Rat)*(p:Rat):=by
 rcases Int.natAbs_eq p with h | h
 ·refine⟨1,by decide,?_⟩;have e:((p.natAbs:Nat):Rat)=(((p.natAbs:Nat):Int):Rat):=rfl;rw[e,<-h,show((1:Int):Rat)=1 from rfl];grind
 ·refine⟨-1,by decide,?_⟩;have e:((p.natAbs:Nat):Rat)=(((p.natAbs:Nat):Int):Rat):=rfl;have h':((p.natAbs:Nat):Int)= -p:=by omega
  rw[e,h',<-jF];congr 1;omega
theorem jqd{B q:Nat}{a u w:Rat}{p:Int}(hq:q<=B)(ha:a*(q:Rat)=(p:Rat))(hw:w*a=u)(hu:Ov B q u):Ov (2*B*B) (q*p.natAbs) w:=by
 obtain⟨z,h1,h2⟩:=hu;obtain⟨s,hs,e⟩:=jse p;refine⟨s*((q:Int)*z),?_,?_⟩
 ·rw[Rat.natCast_mul,e,jit,jit,show(((q:Int)):Rat)=(q:Rat)from rfl,<-h1,<-hw,<-ha];grind
 ·have h3:(((q:Int))*z).natAbs<=B*B:=je4 (by rw[Int.natAbs_natCast];exact hq) h2;have h4:=je4 hs h3;have h5:1*(B*B)<=2*B*B:=by rw[jB];exact zZ _ (by omega)
  exact qh h4 h5
theorem jj1{B q:Nat}{a u w x y:Rat}{p:Int}(hp:p.natAbs<=B)(ha:a*(q:Rat)=(p:Rat))(hw:w*a=u)(hu:Ov B q u)(hx:Ov B q x)(hy:Ov B q y):Ov (2*B*B) (q*p.natAbs) (x-y*w):=by
 obtain⟨z,h1,h2⟩:=hu;obtain⟨zx,x1,x2⟩:=hx;obtain⟨zy,y1,y2⟩:=hy;obtain⟨s,hs,e⟩:=jse p;refine⟨s*(zx*p-zy*z),?_,?_⟩
 ·rw[Rat.natCast_mul,e,jit,cast_sub,jit,jit,<-h1,<-x1,<-y1,<-hw,<-ha];grind
 ·have h3:=je4 x2 hp;have h4:=je4 y2 h2;have h5:(zx*p-zy*z).natAbs<=2*B*B:=by rw[jB,Nat.two_mul];omega
  have:=je4 hs h5;omega
theorem small_pivot{D:Dic}{r s B q:Nat}(hr:r<D.m)(hs:s<D.n)(hp:D.a r s≠0)(h:Small B q D):∃q',Small (2*B*B) q' (D.pivot r s):=by
 obtain⟨p,hpe,hpB⟩:=h.a r s hr hs;have hp0:p≠0:=by
  intro e;rw[e,show((0:Int):Rat)=0 from rfl]at hpe;rcases Rat.mul_eq_zero.1 hpe with h1 | h1
  ·exact hp h1
  ·have h2:q=0:=by exact_mod_cast h1
   have:=h.q0;omega
 have hB1:1<=B:=qh h.q0 h.qB;have hqu:∀u:Rat,u/D.a r s*D.a r s=u:=fun u=>Rat.div_mul_cancel hp;refine⟨q*p.natAbs,Nat.mul_pos h.q0 (by omega),?_,fun i hi=> ?_,fun j hj=> ?_,fun i j hi hj=> ?_⟩
 ·have h1:=yl h.qB hpB;have h2:1*(B*B)<=2*B*B:=by rw[jB];exact zZ _ (by omega)
  omega
 ·show Ov _ _ (if i=r then D.v r/D.a r s else D.v i-D.a i s*(D.v r/D.a r s));split
  ·exact jqd h.qB hpe (hqu _) (h.v r hr)
  ·exact jj1 hpB hpe (hqu _) (h.v r hr) (h.v i hi) (h.a i s hi hs)
 ·show Ov _ _ (exch _ _ s D.g j);unfold exch;split
  ·exact jj1 hpB hpe (hqu _) (Ov_one h.qB) Ov_zero (h.g s hs)
  ·exact jj1 hpB hpe (hqu _) (h.a r j hr hj) (h.g j hj) (h.g s hs)
 ·simp only[Dic.pivot];by_cases e:i=r
  ·rw[zm e];split
   ·exact jqd h.qB hpe (hqu _) (Ov_one h.qB)
   ·exact jqd h.qB hpe (hqu _) (h.a r j hr hj)
  ·rw[zr e];unfold exch;split
   ·exact jj1 hpB hpe (hqu _) (Ov_one h.qB) Ov_zero (h.a i s hi hs)
   ·exact jj1 hpB hpe (hqu _) (h.a r j hr hj) (h.a i j hi hj) (h.a i s hi hs)
theorem path_small{D E:Dic}{t:Nat}(h:Path D t E):∀{e q:Nat},Small (2^e) q D->∃q',Small (2^(2^t*(e+1)-1)) q' E:=by
 induction h with
 | nil D=>intro e q h;exact⟨q,by simpa using h⟩
 | step D r s t E hr hs hp _ ih=>
  intro e q h;obtain⟨q1,h1⟩:=small_pivot hr hs hp h;rw[show 2*2^e*2^e=2^(2*e+1)by rw[Nat.pow_succ,Nat.two_mul e,Nat.pow_add,yX 2,jB,yX 2];exact(jB _ _ _).symm]at h1;obtain⟨q2,h2⟩:=ih h1;refine⟨q2,?_⟩
  rwa [show 2^t*(2*e+1+1)=2^(t+1)*(e+1)by rw[Nat.pow_succ,jB];congr 1]at h2
theorem Small.mono{B C q:Nat}{D:Dic}(h:Small B q D)(hB:B<=C):Small C q D:=
 ⟨h.q0,qh h.qB hB,fun i hi=>(h.v i hi).mono hB,fun j hj=>(h.g j hj).mono hB,fun i j hi hj=>(h.a i j hi hj).mono hB⟩
theorem small_all{D E:Dic}{e q:Nat}(hD:D.Ok)(hE:E.Ok)(hq:Eqv D E)(hv:SameV D E)(h:Small (2^e) q D):∃q',Small (2^(2^D.n*(e+1))) q' E:=by
 obtain⟨t,F,ht,hp,hF,hFE,hFv,ho⟩:=joz D.n D E hD hE hq hv (dist_le_n hE hv);obtain⟨q',h'⟩:=path_small hp h;have hle:2^(2^t*(e+1)-1)<=2^(2^D.n*(e+1)):=qV (by decide) (by
  have:2^t*(e+1)<=2^D.n*(e+1):=zZ _ (qV (by decide) ht);omega)
 have h':=h'.mono hle;have row:∀i,i<E.m->∃i',i'<F.m/\F.own i'=E.own i:=fun i hi=>(ho (E.own i)).2 ⟨i,hi,rfl⟩;have col:∀j,j<E.n->∃j',j'<F.n/\F.free j'=E.free j:=fun j hj=>((hFv (E.free j)).2 (.inr ⟨j,hj,rfl⟩)).resolve_left fun h=>jew hE ((ho _).1 h) ⟨j,hj,rfl⟩;refine⟨q',h'.q0,h'.qB,fun i hi=> ?_,fun j hj=> ?_,fun i j hi hj=> ?_⟩
 ·obtain⟨i',hi',e'⟩:=row i hi;rw[<-same_v hF hE hFE hFv ho hi' hi e'];exact h'.v i' hi'
 ·obtain⟨j',hj',e'⟩:=col j hj;rw[<-same_g hF hE hFE hFv ho hj' hj e'];exact h'.g j' hj'
 ·obtain⟨i',hi',e1⟩:=row i hi;obtain⟨j',hj',e2⟩:=col j hj;rw[<-same_a hF hE hFE hFv ho hi' hi hj' hj e1 e2];exact h'.a i' j' hi' hj'
