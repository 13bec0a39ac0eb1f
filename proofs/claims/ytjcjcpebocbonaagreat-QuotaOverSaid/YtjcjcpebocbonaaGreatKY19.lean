/- A part of the proof. No further condition. -/
import Derived.Test.YtjcjcpebocbonaaGreatKY18
import Derived.Shelf.SlSortCmp.WholeK
import Derived.Shelf.SlSortCmp.NoneTotal
import Derived.Shelf.SlicesG.Cmp
import Derived.Shelf.Small.Bits
set_option linter.all false
set_option maxRecDepth 10000000
set_option maxHeartbeats 16000000
namespace Go.Proofs.YtjcjcpebocbonaaGreat
section
set_option maxRecDepth 1000000
open Go.Shelf Go.RowKit Go.Lib Go.Sort
def sortTerms_ren:Go.Shelf.Ren:=⟨fun | 6=>115 | 15=>130 | 14=>133 | 28=>158 | 29=>159 | 20=>160 | 21=>161 | 22=>162 | 23=>163 | 24=>164 | 25=>165 | 26=>166 | 27=>167 | 46=>187 | 47=>183 | 48=>184 | 49=>188 | 50=>189 | 57=>197 | n=>n,fun | 22=>154 | 24=>180 | 25=>182 | 3=>3 | 39=>164 | 0=>0 | 53=>221 | 55=>132 | 4=>4 | 46=>215 | 45=>214 | 50=>99 | 5=>5 | 9=>9 | 66=>245 | 70=>249 | 76=>260 | 77=>43 | n=>n,fun | n=>n⟩
theorem jpq:Go.Proofs.SlLaysF0.n6 Tryz.prog sortTerms_ren:={
 mixed:=by kernel_rfl
 f6:=⟨Tryz.f115.name,by decide,Tryz.func115.trans (zT some (by kernel_rfl))⟩
 f14:=⟨Tryz.f133.name,by decide,Tryz.func133.trans (zT some (by kernel_rfl))⟩
 f15:=Tryz.func130.trans (zT some (by kernel_rfl))
 f20:=⟨Tryz.f160.name,by decide,Tryz.func160.trans (zT some (by kernel_rfl))⟩
 f21:=⟨Tryz.f161.name,by decide,Tryz.func161.trans (zT some (by kernel_rfl))⟩
 f22:=⟨Tryz.f162.name,by decide,Tryz.func162.trans (zT some (by kernel_rfl))⟩
 f23:=⟨Tryz.f163.name,by decide,Tryz.func163.trans (zT some (by kernel_rfl))⟩
 f24:=⟨Tryz.f164.name,by decide,Tryz.func164.trans (zT some (by kernel_rfl))⟩
 f25:=⟨Tryz.f165.name,by decide,Tryz.func165.trans (zT some (by kernel_rfl))⟩
 f26:=⟨Tryz.f166.name,by decide,Tryz.func166.trans (zT some (by kernel_rfl))⟩
 f27:=⟨Tryz.f167.name,by decide,Tryz.func167.trans (zT some (by kernel_rfl))⟩
 f28:=Tryz.func158.trans (zT some (by kernel_rfl))
 f29:=Tryz.func159.trans (zT some (by kernel_rfl))
 f46:=⟨Tryz.f187.name,by decide,Tryz.func187.trans (zT some (by kernel_rfl))⟩
 f47:=Tryz.func183.trans (zT some (by kernel_rfl))
 f48:=Tryz.func184.trans (zT some (by kernel_rfl))
 f49:=⟨Tryz.f188.name,by decide,Tryz.func188.trans (zT some (by kernel_rfl))⟩
 f50:=⟨Tryz.f189.name,by decide,Tryz.func189.trans (zT some (by kernel_rfl))⟩
 f57:=⟨Tryz.f197.name,by decide,Tryz.func197.trans (zT some (by kernel_rfl))⟩
 t0:=Tryz.underlying0
 a0:=Tryz.isAgg0
 z0:=Tryz.sizeOf0
 v0:=Tryz.zeroValue0
 t3:=Tryz.underlying3
 a3:=Tryz.isAgg3
 z3:=Tryz.sizeOf3
 v3:=Tryz.zeroValue3
 t4:=Tryz.underlying4
 a4:=Tryz.isAgg4
 z4:=Tryz.sizeOf4
 v4:=Tryz.zeroValue4
 t5:=Tryz.underlying5
 a5:=Tryz.isAgg5
 z5:=Tryz.sizeOf5
 v5:=Tryz.zeroValue5
 t9:=Tryz.underlying9
 a9:=Tryz.isAgg9
 z9:=Tryz.sizeOf9
 v9:=Tryz.zeroValue9
 t22:=Tryz.underlying154
 a22:=Tryz.isAgg154
 z22:=Tryz.sizeOf154
 v22:=Tryz.zeroValue154
 t25:=Tryz.underlying182
 a25:=Tryz.isAgg182
 z25:=Tryz.sizeOf182
 v25:=Tryz.zeroValue182
 t39:=Tryz.underlying164
 a39:=Tryz.isAgg164
 z39:=Tryz.sizeOf164
 v39:=Tryz.zeroValue164
 t45:=Tryz.underlying214
 a45:=Tryz.isAgg214
 z45:=Tryz.sizeOf214
 v45:=Tryz.zeroValue214
 t46:=Tryz.underlying215
 a46:=Tryz.isAgg215
 z46:=Tryz.sizeOf215
 v46:=Tryz.zeroValue215
 t50:=Tryz.underlying99
 a50:=Tryz.isAgg99
 z50:=Tryz.sizeOf99
 v50:=Tryz.zeroValue99
 t53:=Tryz.underlying221
 a53:=Tryz.isAgg221
 z53:=Tryz.sizeOf221
 v53:=Tryz.zeroValue221
 t55:=Tryz.underlying132
 a55:=Tryz.isAgg132
 z55:=Tryz.sizeOf132
 v55:=Tryz.zeroValue132
 t66:=Tryz.underlying245
 a66:=Tryz.isAgg245
 z66:=Tryz.sizeOf245
 v66:=Tryz.zeroValue245
 t70:=Tryz.underlying249
 a70:=Tryz.isAgg249
 z70:=Tryz.sizeOf249
 v70:=Tryz.zeroValue249
 t76:=Tryz.underlying260
 a76:=Tryz.isAgg260
 z76:=Tryz.sizeOf260
 v76:=Tryz.zeroValue260
 t77:=Tryz.underlying43
 a77:=Tryz.isAgg43
 z77:=Tryz.sizeOf43
 v77:=Tryz.zeroValue43}
def cmpInts_ren:Go.Shelf.Ren:=⟨fun | 5=>72 | 7=>99 | n=>n,fun | 22=>3 | 3=>3 | 4=>4 | n=>n,fun | n=>n⟩
theorem cmpInts:Go.Proofs.SlLaysC2.n5 Tryz.prog cmpInts_ren:={
 mixed:=by kernel_rfl
 f5:=⟨Tryz.f72.name,by decide,Tryz.func72.trans (zT some (by kernel_rfl))⟩
 f7:=⟨Tryz.f99.name,by decide,Tryz.func99.trans (zT some (by kernel_rfl))⟩
 t3:=Tryz.underlying3
 a3:=Tryz.isAgg3
 z3:=Tryz.sizeOf3
 v3:=Tryz.zeroValue3
 t4:=Tryz.underlying4
 a4:=Tryz.isAgg4
 z4:=Tryz.sizeOf4
 v4:=Tryz.zeroValue4
 t22:=Tryz.underlying3
 a22:=Tryz.isAgg3
 z22:=Tryz.sizeOf3
 v22:=Tryz.zeroValue3}
structure TermV where
 z:Int
 r:List Value
 len:r.length=4
 one:∀v∈r,v.oneCell'=true
instance:Inhabited TermV:=⟨⟨0,[.int .i64 0,.int .i64 0,.int .i64 0,.int .i64 0],rfl,fun v hv=>by simp at hv;subst hv;rfl⟩⟩
def TermV.enc(x:TermV):List Value:= .int .i64 x.z::x.r
def TermV.cmp(x y:TermV):Int:=Lib.compareInt x.z y.z
theorem TermV.lt(x y:TermV):ltOf TermV.cmp x y=decide (x.z<y.z):=by
 unfold ltOf TermV.cmp Lib.compareInt;by_cases h1:x.z<y.z
 ·simp[h1]
 ·by_cases h2:y.z<x.z<;>simp[h1,h2]
theorem TermV.swo:SWO (ltOf TermV.cmp) where
 irrefl x:=by rw[TermV.lt];simp
 trans x y z h1 h2:=by rw[TermV.lt]at*;simp at*;omega
 ntrans x y z h1 h2:=by rw[TermV.lt]at*;simp at*;omega
theorem sort_closure(x y:TermV)(W:World):Calls Tryz.prog 116 #[.agg x.enc.toArray,.agg y.enc.toArray] W fun e w'=>e= .returned (.int .i64 (TermV.cmp x y))/\∃q a6,w'=grow (W.drewN q) a6:=by
 have a1:=fun W'=>AnyG.cmp_Compare_int cmpInts x.z y.z W';change ∀W',Calls Tryz.prog 72 _ _ _ at a1;obtain⟨a,r,hr,_⟩:=x;obtain⟨b,s,hs,_⟩:=y
 match r,hr,s,hs with
 | [r1,r2,r3,r4],_,[s1,s2,s3,s4],_=>
  unfold TermV.cmp TermV.enc;dsimp only at a1⊢;generalize Lib.compareInt a b=c at a1⊢
  go_enter Tryz.func116,Tryz.ntmps116
  go_wp2_with (go_at_call 72;refine(a1 _).mono ?_;rintro e w' ⟨rfl,rfl⟩)
  go_ret
  exact⟨rfl,0,_,by rw[alloc_eq_grow,alloc_eq_grow,grow_grow];rfl⟩
theorem sort_calls(blk off cap:Nat)(d:Array TermV)(w:World)(hH:HoldsK TermV.enc 5 w blk off d)(hblk:blk<w.heap.size)(a1:d.size<4611686018427387904):
  Calls Tryz.prog 115 #[.slice (some ⟨blk,off,none⟩) d.size cap,.func (.func 116) #[] #[]] w fun e w'=>e= .returned (.tuple #[])/\∃d' n os,PermIn 0 d.size d d'/\SortedIn (ltOf TermV.cmp) 0 d.size d'/\w'=sortWorldK TermV.enc 5 w blk off n d' os:=by
 have eg:∀args w,(callFunc 116 args).run Tryz.prog w= .ok (.enter 116 args) w:=enters_of Tryz.func116 (by kernel_rfl) rfl;exact AnyQ.slices_SortFunc jpq 5 Tryz.isAgg180 Tryz.sizeOf180 TermV.enc (fun x=>by simp[TermV.enc,x.len]) (fun x v hv=>by
  unfold TermV.enc at hv;rcases zL.1 hv with rfl | hv
  ·rfl
  ·exact x.one v hv) TermV.cmp TermV.swo 116 #[] blk off cap d w eg (fun _ _ _ _ x y=>sort_closure x y _) hH hblk a1
end
section
set_option maxRecDepth 1000000
open Go.Abs Go.Sort
section
variable{α:Type}[Inhabited α]{enc:α->List Value}{k:Nat}{w:World}{b n:Nat}{d:Array α}{os:Array Obj}
theorem jr4{cur:Array Value}{T:TypeId}{z:Nat×Nat}(h:w.heap[b]? =some (.cells cur T z)):(sortWorldK enc k w b 0 n d os).heap[b]? =some (.cells (putCells id 0 (flatK enc k d) cur) T z):=by
 have hb:b<w.heap.size:=(zm.1 h).1;unfold sortWorldK grow putRowK putRow mapBlock Go.Sort.ahead;dsimp only;rw[yl (by rw[wc];exact hb),jz,ze rfl,h];rfl
theorem jhk{b':Nat}(h:b'≠b)(hb:b'<w.heap.size):(sortWorldK enc k w b 0 n d os).heap[b']? =w.heap[b']? :=by
 unfold sortWorldK grow putRowK putRow mapBlock Go.Sort.ahead;dsimp only;rw[yl (by rw[wc];exact hb),jz,zl (zH h)]
theorem sw_size:w.heap.size<=(sortWorldK enc k w b 0 n d os).heap.size:=by
 unfold sortWorldK grow putRowK putRow mapBlock Go.Sort.ahead;dsimp only;rw[jd,wc];omega
theorem sw_cell{cur:Array Value}(hk:∀x,(enc x).length=k){i j:Nat}{x:α}{u:Value}(hi:d[i]? =some x)(hj:(enc x)[j]? =some u)(hc:i*k+j<cur.size):(putCells id 0 (flatK enc k d) cur)[i*k+j]? =some u:=by
 have a1:j<k:=by rw[<-hk x];exact(zr.1 hj).1
 have a6:i<d.size:=(zm.1 hi).1;have a7:i*k+j<d.size*k:=by
  have:=qj k (show i+1<=d.size from a6);rw[qE,wk]at this;omega
 have e1:(i*k+j)/k=i:=by rw[jx,Nat.mul_add_div (by omega),jZ a1,Nat.add_zero]
 have e2:(i*k+j) % k=j:=by rw[jx,wu,jD a1]
 unfold putCells;rw[Array.getElem?_mapIdx,qn hc,Option.map_some,ze ⟨zG _,by rw[size_flatK];omega⟩,Nat.sub_zero,get_flatK _ _ _ _ a7,e1,e2];rw[jw d i a6,(zm.1 hi).2];rw[id,List.getElem!_eq_getElem?_getD,hj];rfl
end
inductive F2{α β:Type}(R:α->β->Prop):List α->List β->Prop
 | nil:F2 R [] []
 | cons {x y l m}:R x y->F2 R l m->F2 R (x::l) (y::m)
theorem F2.of{α β:Type}{R:α->β->Prop}:∀{l:List α} {m:List β},l.length=m.length->(∀(i:Nat) (x:α) (y:β),l[i]? =some x->m[i]? =some y->R x y)->F2 R l m
 | [],[],_,_=> .nil
 | x::l,y::m,h,hr=> .cons (hr 0 x y rfl rfl) (F2.of (by simpa using h) fun i a c h1 h2=>hr (i+1) a c (by simpa using h1) (by simpa using h2))
theorem F2.get{α β:Type}{R:α->β->Prop}{l:List α}{m:List β}(h:F2 R l m):∀{i:Nat} {x:α} {y:β},l[i]? =some x->m[i]? =some y->R x y:=by
 induction h with
 | nil=>intro i x y h1;simp at h1
 | cons h1 _ ih=>
  intro i x y g1 g2;cases i with
  | zero=>simp at g1 g2;subst g1 g2;exact h1
  | succ i=>exact ih (by simpa using g1) (by simpa using g2)
theorem perm_rel{α β:Type}{R:α->β->Prop}{l l':List α}(hp:l.Perm l'):∀{m:List β},F2 R l m->∃m',m'.Perm m/\F2 R l' m':=by
 induction hp with
 | nil=>intro m h;exact⟨m,yQ _,h⟩
 | cons x _ ih=>
  intro m h;cases h with
  | cons h1 h2=>
   obtain⟨m',g1,g2⟩:=ih h2;exact⟨_,g1.cons _,.cons h1 g2⟩
 | swap x y l=>
  intro m h;cases h with
  | cons h1 h2=>
   cases h2 with
   | cons h3 h4=>exact⟨_,List.Perm.swap _ _ _,.cons h3 (.cons h1 h4)⟩
 | trans _ _ ih1 ih2=>
  intro m h;obtain⟨m1,g1,g2⟩:=ih1 h;obtain⟨m2,g3,g4⟩:=ih2 g2;exact⟨m2,g3.trans g1,g4⟩
theorem frozen0{w:World}{b o:Nat}{cur:Array Value}{T:TypeId}(h:w.heap[b]? =some (.cells cur T (0,0))):w.frozen? ⟨b,o,none⟩=false:=by
 simp[World.frozen?,h]
theorem cell0{w:World}{b o:Nat}{cur:Array Value}{T:TypeId}{u:Value}(h:w.heap[b]? =some (.cells cur T (0,0)))(hc:cur[o]? =some u):w.cell? ⟨b,o,none⟩=some u:=by
 simp[World.cell?,h,hc]
end
section
set_option maxRecDepth 1000000
open Go.Abs Go.Sort
def keyC:List IV->Int
 | .sc (.int .i64 z)::_=>z
 | _=>0
open Classical in
theorem w_sort{b:Nat}{es:List (List IV)}{L:Abs.Rows}(hL:Abs.look L (hp b)=some (5,es))(hlen:es.length<4611686018427387904)(hes:∀c∈es,∃z r,c= .int z::r):
  CtrH G.P 115 [.im (.ref b 180 5 es.length),.im (.clo 116 [])] L (fun r L'=>r= .im (.tup [])/\∃es':List (List IV),es'.Perm es/\(∀(i j:Nat) x y,i<j->es'[i]? =some x->es'[j]? =some y->keyC x<=keyC y)/\L'=setRow L (hp b) 5 es'):=by
 intro w M vs hM hrows hvl hargs;obtain⟨b',hb',hnM,cur,T,hcur,hclen,hcells⟩:=hrows _ _ _ hL;have hbb:=hp_inj.1 hb';subst hbb
 match vs,hvl with
 | [v0,v1],_=>
 have a0:Rep w (MoH M L) (.ref b 180 5 es.length) v0:=hargs 0 _ _ rfl rfl;have a1:Rep w (MoH M L) (.clo 116 []) v1:=hargs 1 _ _ rfl rfl;obtain⟨cp,rfl,hcp⟩:=a1.clo_inv;have hcp0:cp= #[]:=by
  have:=hcp.1;simp at this;exact wi this.symm
 subst hcp0;have a0':∃cap,v0= .slice (some ⟨b,0,none⟩) es.length cap/\es.length<=cap/\cur.size=cap*5:=by
  cases a0 with
  | ref _ _ _ _ cap cur2 g1 g2 g3 g4=>
   rw[hcur]at g1;cases g1;exact⟨cap,rfl,g2,g4⟩
 obtain⟨cap,rfl,hcap,hsz⟩:=a0';have hx:∀i,∃x:TermV,i<es.length->(∀j,j<5->cur[i*5+j]? =x.enc[j]?)/\(∀c,es[i]? =some c->x.z=keyC c):=by
  intro i;by_cases hi:i<es.length
  ·obtain⟨c,hc⟩:∃c,es[i]? =some c:=⟨_,za hi⟩;obtain⟨z,r,rfl⟩:=hes c (zk hc);have hl5:=hclen _ (zk hc);have hr4:r.length=4:=by simpa using hl5
   match r,hr4 with
   | [r1,r2,r3,r4],_=>
    obtain⟨_,u0,c0,q0⟩:=hcells i _ 0 _ hc rfl;obtain⟨o1,u1,c1,q1⟩:=hcells i _ 1 _ hc rfl;obtain⟨o2,u2,c2,q2⟩:=hcells i _ 2 _ hc rfl;obtain⟨o3,u3,c3,q3⟩:=hcells i _ 3 _ hc rfl;obtain⟨o4,u4,c4,q4⟩:=hcells i _ 4 _ hc rfl;have e0:u0= .int .i64 z:=by cases q0;rfl
    subst e0;refine⟨⟨z,[u1,u2,u3,u4],rfl,fun v hv=> ?_⟩,fun _=>⟨fun j hj=> ?_,fun c' hc'=> ?_⟩⟩
    ·simp at hv;rcases hv with rfl | rfl | rfl | rfl
     ·exact q1.oneCell o1
     ·exact q2.oneCell o2
     ·exact q3.oneCell o3
     ·exact q4.oneCell o4
    ·match j,hj with
     | 0,_=>exact c0
     | 1,_=>exact c1
     | 2,_=>exact c2
     | 3,_=>exact c3
     | 4,_=>exact c4
    ·rw[hc]at hc';cases hc';rfl
  ·exact⟨default,fun h=>absurd h hi⟩
 obtain⟨f,hf⟩:=Classical.axiomOfChoice hx;obtain⟨d,hd⟩:∃d:Array TermV,d=((List.range es.length).map f).toArray:=⟨_,rfl⟩;have hds:d.size=es.length:=by rw[hd];simp
 have hdg:∀i,i<es.length->d[i]? =some (f i):=fun i hi=>by rw[hd];simp[hi]
 have hlen5:∀x:TermV,x.enc.length=5:=fun x=>by simp[TermV.enc,x.len]
 have hH:HoldsK TermV.enc 5 w b 0 d:=by
  unfold HoldsK Holds;intro t ht;rw[size_flatK,hds]at ht;have hi:t/5<es.length:=by omega
  have hj:t % 5<5:=by omega
  obtain⟨g1,_⟩:=hf (t/5) hi;have g2:=g1 (t % 5) hj;have ht5:t/5*5+t % 5=t:=by omega
  rw[ht5,za (by rw[hlen5];exact hj)]at g2;refine⟨?_,frozen0 hcur⟩;rw[qi,cell0 hcur g2,get_flatK _ _ _ _ (by rw[hds];exact ht),jw d _ (by omega),(zm.1 (hdg _ hi)).2,jw _ _ (by rw[hlen5];exact hj)];rfl
 have hblk:b<w.heap.size:=(zm.1 hcur).1;have hcall:=sort_calls b 0 cap d w hH hblk (by omega);rw[hds]at hcall;refine hcall.mono ?_;rintro e w' ⟨rfl,d',n,os,hperm,hsorted,rfl⟩;have hR:F2 (fun(x:TermV) (c:List IV)=>x.z=keyC c/\c.length=5/\∀(j:Nat) y u,c[j]? =some y->x.enc[j]? =some u->y.one=true/\Rep w (MoH M L) y u) d.toList es:=by
  refine F2.of (by rw[Array.length_toList,hds]) fun i x c h1 h2=> ?_;have hi:=(zr.1 h2).1;have hxi:x=f i:=by
   have:=hdg i hi;rw[zS]at h1;rw[this]at h1;exact(jK h1).symm
  subst hxi;obtain⟨g1,g2⟩:=hf i hi;have hl5:=hclen c (zk h2);refine⟨g2 c h2,hl5,fun j y u hy hu=> ?_⟩;obtain⟨o,u',c',q⟩:=hcells i c j y h2 hy;have hj:j<5:=by rw[<-hl5];exact(zr.1 hy).1
  rw[g1 j hj,hu]at c';cases c';exact⟨o,q⟩
 obtain⟨hp1,_,hp2⟩:=hperm;have hd's:d'.size=es.length:=by rw[hp1,hds]
 have hpl:d.toList.Perm d'.toList:=by
  have e1:(d'.extract 0 es.length)=d':=by rw[<-hd's];simp
  have e2:(d.extract 0 es.length)=d:=by rw[<-hds];simp
  rw[e1,e2]at hp2;exact hp2.symm
 obtain⟨es',hpe,hR'⟩:=perm_rel hpl hR;have hle:es'.length=es.length:=hpe.length_eq;have hMo:MoH M (setRow L (hp b) 5 es')=MoH M L:=by
  funext b1 o;unfold MoH;rw[jc6]
 have hshp:Shp w (sortWorldK TermV.enc 5 w b 0 n d' os):=fun b1 c1 T1 h1=>by
  by_cases e:b1=b
  ·subst e;refine⟨_,jr4 h1,?_⟩;unfold putCells;rw[Array.size_mapIdx]
  ·exact⟨c1,by rw[jhk e (zm.1 h1).1];exact h1,rfl⟩
 have hbM:∀o,MoH M L b o:=fun o=> .inr (by rw[hL];rfl);have hkept:Go.Abs.Kept w (MoH M L) (sortWorldK TermV.enc 5 w b 0 n d' os) (MoH M L):=by
  refine⟨fun b1 o u hc hm=>⟨?_,hm⟩,fun b1 me c hc hm=>⟨?_,hm⟩,hshp⟩
  ·have e:b1≠b:=fun e=>by subst e;exact hm (hbM o)
   rw[World.cell?_of_block (w:=w) (a:=⟨b1,o,none⟩) (jhk e (World.block_lt_of_cell? (a:=⟨b1,o,none⟩) w hc))];exact hc
  ·have e:b1≠b:=fun e=>by subst e;exact hm (hbM 0)
   rw[jhk e (zm.1 hc).1];exact hc
 refine⟨.im (.tup []),.tuple #[],_,⟨rfl,es',hpe,fun i j x y hij h1 h2=> ?_,rfl⟩,rfl,rfl,⟨rfl,rfl,rfl,sw_size,fun k hk=> ?_,hshp⟩,fun k s es2 hk=> ?_,Rep.tup _ _ rfl fun k x v h=>(by simp at h)⟩
 ·have hi:=(zr.1 h1).1;have hj:=(zr.1 h2).1;have hdi:d'.toList[i]? =some d'[i]! :=by
   rw[zS,qn (by omega),jw d' i (by omega)]
  have hdj:d'.toList[j]? =some d'[j]! :=by
   rw[zS,qn (by omega),jw d' j (by omega)]
  have r1:=(hR'.get hdi h1).1;have r2:=(hR'.get hdj h2).1;have:=hsorted i j (zG _) hij (by omega);rw[TermV.lt]at this;have:=zJ this;rw[<-r1,<-r2];omega
 ·obtain⟨k1,k2⟩:=hk;exact jhk (fun e=>by subst e;rw[hL]at k2;cases k2) k1
 ·by_cases e:k=hp b
  ·subst e;rw[jc7 (by rw[hL];rfl)]at hk;cases hk;refine⟨b,rfl,.inl (by rw[hL];rfl),_,T,jr4 hcur,fun c hc=> ?_,fun i c j y hi hj=> ?_⟩
   ·exact hclen c (hpe.mem_iff.1 hc)
   ·have hil:=(zr.1 hi).1;have hdi:d'.toList[i]? =some d'[i]! :=by
     rw[zS,qn (by omega),jw d' i (by omega)]
    obtain⟨_,r2,r3⟩:=hR'.get hdi hi;have hj5:j<5:=by rw[<-r2];exact(zr.1 hj).1
    have hu:(d'[i]!).enc[j]? =some ((d'[i]!).enc[j]'(by rw[hlen5];exact hj5)):=za _;obtain⟨o,q⟩:=r3 j y _ hj hu;refine⟨o,_,sw_cell hlen5 (by rw[<-zS];exact hdi) hu (by omega),?_⟩;rw[hMo];exact q.kept hkept
  ·rw[jcp e]at hk;obtain⟨b1,rfl,h2,c1,T1,g1,g2,g3⟩:=hrows k s es2 hk;have e1:b1≠b:=fun h=>e (by rw[h]);refine⟨b1,rfl,.inl (by rw[hk];rfl),c1,T1,by rw[jhk e1 (zm.1 g1).1];exact g1,g2,fun i c j y hi hj=> ?_⟩;obtain⟨o,u,q1,q2⟩:=g3 i c j y hi hj;exact⟨o,u,q1,by rw[hMo];exact q2.kept hkept⟩
theorem w_sort0:Ctr G.P 115 [.sl [],.clo 116 []] (· = .tup []):=by
 intro w M vs hM hr
 match vs,hr.1 with
 | [v0,v1],_=>
  have a0:Rep w M (.sl []) v0:=hr.2 0 _ _ rfl rfl;obtain⟨p,c,rfl⟩:∃p c,v0= .slice p 0 c:=by
   rcases a0.sl_inv with ⟨_,a,c,rfl⟩ | ⟨s',b,o,c,u,a1,_⟩
   ·exact⟨_,_,rfl⟩
   ·exact absurd rfl a1
  refine Calls.mono (AnyF.slices_SortFunc_none jpq p c v1 w) ?_;rintro e w' ⟨rfl,rfl⟩;exact⟨.tup [],_,rfl,rfl,Rep.tup _ _ rfl fun k x v h=>(by simp at h),Go.RowKit.Below.refl _ _⟩
end
section
set_option maxRecDepth 1000000
open Go.Abs
attribute [local go_sem] ints ic big
end
section
set_option maxRecDepth 1000000
open Go.Abs
attribute [local go_sem] ints ic big
theorem jmt(z:Int)(h:(dig z.natAbs).length<=1000000000000):Ctr G.P 77 [big z] (· =big (-z)):=by
 have rz:=jcl z (by omega);have hc:=jky (dig z.natAbs) (by omega);have hs:=jeg (0-z.sign) (-z) z.natAbs (by rw[qT]) (fun _=>by rw[Int.sign_neg];omega) (by rw[qT];omega);have w:=jdf (n:=0-z.sign) (by have:=jgy z;omega);refine ja3 [.cell 2 46] Tryz.func77 ?_;simp only[go_sem];refine ja0 rz ?_;simp only[go_sem];refine jah ?_;simp only[w,go_sem];refine ja4 hc (by decide) ?_;simp only[go_sem];refine ja4 hs (by decide) ?_;simp only[go_sem]
theorem t_or(a b:Int):Ctr G.P 98 [.sl [[.int a],[.int b]]] (· = .int (if a=0 then b else a)):=by
 refine ja3 [.tmp 2] Tryz.func98 ?_;simp only[go_sem];refine jai [3,6,7,8] [] (fun i:Nat=>⟨[(3,.im (.int 0)),(6,.im (.sl [[.int a],[.int b]])),(7,.im (.int 2)),(8,.im (.int i))],[],[]⟩)
  (fun i=>i<=2/\(1<=i->a=0)/\(2<=i->b=0)) (fun i=>2-i) 0 ?_ ⟨by omega,by omega,by omega⟩ ?_
 ·simp only[go_sem]
 intro i ⟨hi,h1,h2⟩
 match i,hi,h1,h2 with
 | 0,_,_,_=>
  simp only[go_sem];refine jbp (fun d d'=> ?_) (fun d d'=> ?_)
  ·simp only[d,go_sem];refine ja7 1 ?_ (by omega) ⟨by omega,fun _=>d',by omega⟩;simp only[show IntKind.i64.wrap 1=1 from by decide,go_sem]
  ·rw[zl d'];simp only[d,go_sem]
 | 1,_,h1,_=>
  rw[ze (h1 (by omega))];simp only[go_sem];refine jbp (fun d d'=> ?_) (fun d d'=> ?_)
  ·simp only[d,go_sem];refine ja7 2 ?_ (by omega) ⟨by omega,fun _=>h1 (by omega),fun _=>d'⟩;simp only[show IntKind.i64.wrap 2=2 from by decide,go_sem]
  ·simp only[d,go_sem]
 | 2,_,h1,h2=>
  rw[ze (h1 (by omega)),h2 (by omega)];simp only[go_sem]
theorem add_same{a b:Int}(h:0<=a.sign*b.sign):a.natAbs+b.natAbs=(a+b).natAbs/\(a+b≠0->(if a.sign=0 then b.sign else a.sign)=(a+b).sign):=by
 rcases ye a 0 with ha | ha | ha
 ·have e1:=zM ha;have hb:b<=0:=by
   rcases yB 0 b with h1 | h1
   ·rw[e1,zO h1]at h;omega
   ·exact h1
  refine⟨by omega,fun _=> ?_⟩;rw[e1,zM (show a+b<0 by omega)];rfl
 ·subst ha;refine⟨by simp,fun _=> ?_⟩;simp
 ·have e1:=zO ha;have hb:0<=b:=by
   rcases yB b 0 with h1 | h1
   ·rw[e1,zM h1]at h;omega
   ·exact h1
  refine⟨by omega,fun _=> ?_⟩;rw[e1,zO (show 0<a+b by omega)];rfl
theorem jtn{a b:Int}(h:¬0<=a.sign*b.sign)(hl:a.natAbs<b.natAbs):b.natAbs-a.natAbs=(a+b).natAbs/\b.sign=(a+b).sign:=by
 rcases ye a 0 with ha | ha | ha
 ·have e1:=zM ha;have hb:0<b:=by
   rcases yB 0 b with h1 | h1
   ·exact h1
   ·rw[e1]at h;have:b.sign<=0:=by
     rcases yB b 0 with h2 | h2
     ·rw[zM h2];omega
     ·have:b=0:=by omega
      subst this;simp
    omega
  refine⟨by omega,?_⟩;rw[zO hb,zO (by omega)]
 ·subst ha;simp at h
 ·have e1:=zO ha;have hb:b<0:=by
   rcases yB b 0 with h1 | h1
   ·exact h1
   ·rw[e1]at h;have:0<=b.sign:=by
     rcases yB 0 b with h2 | h2
     ·rw[zO h2];omega
     ·have:b=0:=by omega
      subst this;simp
    omega
  refine⟨by omega,?_⟩;rw[zM hb,zM (by omega)]
theorem cmpI_lt{a b:Int}:cmpI a b<0↔a<b:=by
 unfold cmpI;split<;>(try split)<;>omega
theorem t_paddb(a b:Int)(la:(dig a.natAbs).length<=90000000000)(lb:(dig b.natAbs).length<=90000000000):Ctr G.P 71 [big a,big b] (· = .tup [big (a+b),.int 0]):=by
 have ra:=jcl a (by omega);have rb:=jcl b (by omega);have hc:=jkz (a+b);have ls:=jgy a;have lt:=jgy b;have w:=jdf (n:=a.sign*b.sign) (by rw[<-vq];have:=jgy (a*b);omega);have hlen:(dig (a+b).natAbs).length<=1000000000000:=by have:=len_add (k:=90000000000) la lb (by omega:(a+b).natAbs<=a.natAbs+b.natAbs);omega
 simp only[big,ints]at ra rb hc;by_cases h1:0<=a.sign*b.sign
 ·have d1:decide (0<=a.sign*b.sign)=true:=zp h1;obtain⟨e1,e2⟩:=add_same h1;have ho:=t_or a.sign b.sign;have ht:=t_padd (dig a.natAbs) (dig b.natAbs) (jbd _) (jbd _) (by omega) (by omega);rw[jaq,jaq,<-Int.natCast_add,Int.toNat_natCast]at ht;have hs:=jeg (if a.sign=0 then b.sign else a.sign) (a+b) (a.natAbs+b.natAbs) e1 e2 hlen;simp only[big,ints]at ht hs;generalize (if a.sign=0 then b.sign else a.sign)=sg at*;refine ja3 [.cell 4 46,.tmp 5] Tryz.func71 ?_;simp only[go_sem];refine ja0 ra ?_;simp only[go_sem];refine ja0 rb ?_;simp only[w,d1,go_sem];refine jah ?_;simp only[go_sem];refine ja4 ho (by decide) ?_;simp only[go_sem];refine ja4 ht (by decide) ?_;simp only[go_sem];refine ja4 hs (by decide) ?_;simp only[go_sem];refine ja4 hc (by decide) ?_;simp only[go_sem]
 ·have d1:decide (0<=a.sign*b.sign)=false:=zh h1;have hk:=jg2 a.natAbs b.natAbs (by omega) (by omega);by_cases h2:a.natAbs<b.natAbs
  ·have d2:decide (cmpI (a.natAbs:Int) (b.natAbs:Int)<0)=true:=zp (cmpI_lt.2 (by omega));obtain⟨e1,e2⟩:=jtn h1 h2;have ht:=t_psub (dig b.natAbs) (dig a.natAbs) (jbd _) (jbd _) (by rw[jaq,jaq];omega) (by omega) (by omega);rw[jaq,jaq,show((b.natAbs:Int)-(a.natAbs:Int)).toNat=b.natAbs-a.natAbs by omega]at ht;have hs:=jeg b.sign (a+b) (b.natAbs-a.natAbs) e1 (fun _=>e2) hlen;simp only[big,ints]at ht hs hk;refine ja3 [.cell 4 46,.tmp 5] Tryz.func71 ?_;simp only[go_sem];refine ja0 ra ?_;simp only[go_sem];refine ja0 rb ?_;simp only[w,d1,go_sem];refine ja0 hk ?_;simp only[d2,go_sem];refine jah ?_;simp only[go_sem];refine ja4 ht (by decide) ?_;simp only[go_sem];refine ja4 hs (by decide) ?_;simp only[go_sem];refine ja4 hc (by decide) ?_;simp only[go_sem]
  ·have d2:decide (cmpI (a.natAbs:Int) (b.natAbs:Int)<0)=false:=zh (fun h=>by rw[cmpI_lt]at h;omega);have a1:a.natAbs-b.natAbs=(a+b).natAbs/\(a+b≠0->a.sign=(a+b).sign):=by
    by_cases h3:a.natAbs=b.natAbs
    ·have:a+b=0:=by
      rcases Int.natAbs_eq_natAbs_iff.1 h3 with h4 | h4
      ·subst h4;refine absurd ?_ h1;rcases ye a 0 with h5 | h5 | h5
       ·rw[zM h5];decide
       ·rw[h5];decide
       ·rw[zO h5];decide
      ·omega
     rw[this];exact⟨by simp;omega,fun h=>absurd rfl h⟩
    ·have h5:¬0<=b.sign*a.sign:=by rw[qX];exact h1
     obtain⟨f1,f2⟩:=jtn h5 (by omega);rw[Int.add_comm]at f1 f2;exact⟨f1,fun _=>f2⟩
   have ht:=t_psub (dig a.natAbs) (dig b.natAbs) (jbd _) (jbd _) (by rw[jaq,jaq];omega) (by omega) (by omega);rw[jaq,jaq,show((a.natAbs:Int)-(b.natAbs:Int)).toNat=a.natAbs-b.natAbs by omega]at ht;have hs:=jeg a.sign (a+b) (a.natAbs-b.natAbs) a1.1 a1.2 hlen;simp only[big,ints]at ht hs hk;refine ja3 [.cell 4 46,.tmp 5] Tryz.func71 ?_;simp only[go_sem];refine ja0 ra ?_;simp only[go_sem];refine ja0 rb ?_;simp only[w,d1,go_sem];refine ja0 hk ?_;simp only[d2,go_sem];refine jah ?_;simp only[go_sem];refine ja4 ht (by decide) ?_;simp only[go_sem];refine ja4 hs (by decide) ?_;simp only[go_sem];refine ja4 hc (by decide) ?_;simp only[go_sem]
end
section
set_option maxRecDepth 1000000
open Go.Abs
attribute [local go_sem] ints ic big mb20 pw20 fd20
theorem and20u(n:Int)(h:0<=n/\n<18446744073709551616):bits .and .u64 n 1048575=n % 1048576:=by
 have h2:bits .and .u64 n 1048575=IntKind.u64.wrap ((BitVec.ofInt 64 n&&&BitVec.ofInt 64 1048575).toNat:Nat):=rfl;rw[h2,BitVec.toNat_and,jco,jco,jX (by omega) (by omega),show((1048575:Int) % 18446744073709551616).toNat=2^20-1 from rfl,j0];rw[u64_in _ (by omega)];omega
theorem jpg(s z:Int)(l:List Int)(hl:OkD l)(hv:val l=z.natAbs)(hs:z≠0->s=z.sign)(h:l.length<=1000000000000):Ctr G.P 93 [.int s,ints l] (· =big z):=by
 have ht:=jft l hl h;rw[hv,Int.toNat_natCast]at ht;by_cases hz:z=0
 ·subst hz;rw[Int.natAbs_zero,jb5]at ht;simp only[big,Int.natAbs_zero,jb5,Int.sign_zero];refine ja3 [.cell 4 46] Tryz.func93 ?_;simp only[go_sem];refine ja0 ht ?_;simp only[List.length_nil,Int.natCast_zero,jm,zE,go_sem]
 ·have a1:decide (((dig z.natAbs).length:Int)=0)=false:=zh fun h=>by
   have:dig z.natAbs=[]:=qY.1 (by omega);rw[dig_nil]at this;omega
  rw[hs hz];refine ja3 [.cell 4 46] Tryz.func93 ?_;simp only[go_sem];refine ja0 ht ?_;simp only[a1,go_sem]
theorem t_pof(z:Int)(hz: -9223372036854775808<=z/\z<=9223372036854775807):Ctr G.P 66 [.int z] (· =big z):=by
 by_cases h0:z<0
 ·have d1:decide (z<0)=true:=zp h0;have w1:IntKind.u64.wrap (0-IntKind.u64.wrap z)=z.natAbs:=by
   rw[IntKind.wrap_u64,IntKind.wrap_u64];omega
  obtain⟨sg,hsg,e⟩:∃sg:Int,(z≠0->sg=z.sign)/\sg= -1:=⟨-1,fun _=>(zM h0).symm,rfl⟩;refine ja3 [.cell 2 46] Tryz.func66 ?_;simp only[d1,w1,go_sem];rw[<-e];refine jdg [2,3,4,5] [2,21] [(5,21,3,1)] (fun g:Int×List Int=>⟨[(2,.loc 2 2 0 0),(3,.im (.int sg)),(4,.im (.sc (.int .u64 g.1))),(5,.vec 21 3 1 (g.2.map ic))],[(2,2,[[.int 0,.sl []]])],[(21,1,g.2.length)]⟩)
   (fun g=>(0<=g.1/\g.1<=z.natAbs)/\OkD g.2/\val g.2+1048576^g.2.length*g.1=z.natAbs/\(g.2.length<=4/\g.1<1048576^(4-g.2.length))) (fun g=>g.1.toNat) ((z.natAbs:Int),[]) ?_ ?_ ⟨by dsimp only;omega,OkD.nil,by simp[val],by dsimp only;simp;omega⟩ ?_
  ·simp only[go_sem];simp
  ·simp only[zE,go_sem]
  ·intro⟨n,l⟩ ⟨⟨n0,n1⟩,hl,hv,hlen,a1⟩;dsimp only at n0 n1 hl hv hlen a1;by_cases hn:n=0
   ·subst hn;rw[qW,yf]at hv;have hm:=jpg sg z l hl hv hsg (by omega);simp only[go_sem];refine ja0 hm ?_;simp only[go_sem]
   ·have dn:decide (0<n)=true:=dTo;have ha:=and20u n (by omega);have hc:=ja8 (n % 1048576);simp only[dn,ha,hc,go_sem];refine⟨jgu _,by simp,by omega,?_⟩;refine ja7 (n/1048576,l++[n % 1048576]) ?_ (by dsimp only;omega) ⟨by dsimp only;omega,hl.append (OkD.cons (by omega) OkD.nil),jlc hv,by dsimp only;rw[zB,List.length_cons,List.length_nil];exact jq5 hn n0 hlen a1⟩;simp only[qx,zB,go_sem]
 ·have d1:decide (z<0)=false:=zh h0;have w1:IntKind.u64.wrap z=z.natAbs:=by
   rw[IntKind.wrap_u64];omega
  obtain⟨sg,hsg,e⟩:∃sg:Int,(z≠0->sg=z.sign)/\sg=1:=⟨1,fun h=>(zO (by omega)).symm,rfl⟩;refine ja3 [.cell 2 46] Tryz.func66 ?_;simp only[d1,w1,go_sem];rw[<-e];refine jdg [2,3,4,5] [2,21] [(5,21,3,1)] (fun g:Int×List Int=>⟨[(2,.loc 2 2 0 0),(3,.im (.int sg)),(4,.im (.sc (.int .u64 g.1))),(5,.vec 21 3 1 (g.2.map ic))],[(2,2,[[.int 0,.sl []]])],[(21,1,g.2.length)]⟩)
   (fun g=>(0<=g.1/\g.1<=z.natAbs)/\OkD g.2/\val g.2+1048576^g.2.length*g.1=z.natAbs/\(g.2.length<=4/\g.1<1048576^(4-g.2.length))) (fun g=>g.1.toNat) ((z.natAbs:Int),[]) ?_ ?_ ⟨by dsimp only;omega,OkD.nil,by simp[val],by dsimp only;simp;omega⟩ ?_
  ·simp only[go_sem];simp
  ·simp only[zE,go_sem]
  ·intro⟨n,l⟩ ⟨⟨n0,n1⟩,hl,hv,hlen,a1⟩;dsimp only at n0 n1 hl hv hlen a1;by_cases hn:n=0
   ·subst hn;rw[qW,yf]at hv;have hm:=jpg sg z l hl hv hsg (by omega);simp only[go_sem];refine ja0 hm ?_;simp only[go_sem]
   ·have dn:decide (0<n)=true:=dTo;have ha:=and20u n (by omega);have hc:=ja8 (n % 1048576);simp only[dn,ha,hc,go_sem];refine⟨jgu _,by simp,by omega,?_⟩;refine ja7 (n/1048576,l++[n % 1048576]) ?_ (by dsimp only;omega) ⟨by dsimp only;omega,hl.append (OkD.cons (by omega) OkD.nil),jlc hv,by dsimp only;rw[zB,List.length_cons,List.length_nil];exact jq5 hn n0 hlen a1⟩;simp only[qx,zB,go_sem]
end
section
set_option maxRecDepth 1000000
open Go.Abs
attribute [local go_sem] ints ic big frac
theorem jjm{p q:Int}(hq:0<q):(Rat.divInt p q).num=p/(Nat.gcd p.natAbs q.natAbs:Nat)/\((Rat.divInt p q).den:Int)=q/(Nat.gcd p.natAbs q.natAbs:Nat):=by
 have hg:(Int.gcd q p:Nat)=Nat.gcd p.natAbs q.natAbs:=vt ..;constructor
 ·rw[Rat.num_divInt,zO hq,yF,hg]
 ·rw[Rat.den_divInt,iNo,hg,Int.natCast_ediv,Int.natAbs_of_nonneg (by omega)]
theorem t_new(p q:Int)(hq:q≠0)(lp:(dig p.natAbs).length<=40000000000)(lq:(dig q.natAbs).length<=40000000000):Ctr G.P 75 [big p,big q] (· = .tup [frac (Rat.divInt p q),.int 0]):=by
 have rp:=jgh p (by omega);have rq:=jgh q (by omega);have d0:decide (q.sign=0)=false:=zh fun h=>hq (yw.1 h);have main:∀P Q:Int,0<Q->(dig P.natAbs).length<=40000000000->(dig Q.natAbs).length<=40000000000->Rat.divInt P Q=Rat.divInt p q->
   Ctr G.P 103 [big P,big Q] (· = .tup [big (Nat.gcd P.natAbs Q.natAbs:Nat),.int 0])/\
   Ctr G.P 104 [big P,big (Nat.gcd P.natAbs Q.natAbs:Nat)] (· = .tup [big (Rat.divInt p q).num,big 0,.int 0])/\
   Ctr G.P 104 [big Q,big (Nat.gcd P.natAbs Q.natAbs:Nat)] (· = .tup [big ((Rat.divInt p q).den:Int),big 0,.int 0]):=by
  intro P Q hQ lP lQ he;obtain⟨e1,e2⟩:=jjm (p:=P) hQ;rw[he]at e1 e2;rw[e1,e2];have a7:Nat.gcd P.natAbs Q.natAbs≠0:=fun h=>by have:=wz h;omega
  have a8:(dig (Nat.gcd P.natAbs Q.natAbs)).length<=40000000000:=jcm (Nat.le_of_dvd (by omega) (v8 _ _)) lQ;refine⟨t_gcd P Q (by omega) (by omega),t_div P _ (by omega) (by rw[Int.natAbs_natCast];exact Nat.gcd_dvd_left _ _) (by omega) (by rw[Int.natAbs_natCast];omega),
   t_div Q _ (by omega) (by rw[Int.natAbs_natCast];exact v8 _ _) (by omega) (by rw[Int.natAbs_natCast];omega)⟩
 rcases qL hq with hlt | hgt
 ·have d1:decide (q.sign<0)=true:=by rw[zM hlt];rfl
  have n1:=t_neg p (by omega);have n2:=t_neg q (by omega);obtain⟨hg,a6,a1⟩:=main (-p) (-q) (by omega) (by rw[qT];exact lp) (by rw[qT];exact lq) (by have:=vF (n:=p) (d:=q) (a:= -1) (by decide);rwa [yY,yY,jc,jc]at this);simp only[big,frac,ints]at rp rq n1 n2 hg a6 a1;refine ja3 [.cell 4 48,.tmp 5] Tryz.func75 ?_;simp only[go_sem];refine ja0 rp ?_;simp only[go_sem];refine ja0 rq ?_;simp only[d0,d1,go_sem];refine ja0 n1 ?_;simp only[go_sem];refine ja0 n2 ?_;simp only[go_sem];refine ja0 hg ?_;simp only[go_sem];refine ja0 a6 ?_;simp only[go_sem];refine ja0 a1 ?_;simp only[go_sem]
 ·have d1:decide (q.sign<0)=false:=by rw[zO hgt];rfl
  obtain⟨hg,a6,a1⟩:=main p q hgt lp lq rfl;simp only[big,frac,ints]at rp rq hg a6 a1;refine ja3 [.cell 4 48,.tmp 5] Tryz.func75 ?_;simp only[go_sem];refine ja0 rp ?_;simp only[go_sem];refine ja0 rq ?_;simp only[d0,d1,go_sem];refine ja0 hg ?_;simp only[go_sem];refine ja0 a6 ?_;simp only[go_sem];refine ja0 a1 ?_;simp only[go_sem]
end
section
set_option maxRecDepth 1000000
open Go.Abs
attribute [local go_sem] ints ic big frac
theorem i64_len{z:Int}(h: -9223372036854775808<=z/\z<=9223372036854775807):(dig z.natAbs).length<=4:=jb2 (by omega)
theorem t_off(p q:Int)(hq:q≠0)(hp: -9223372036854775808<=p/\p<=9223372036854775807)(a1: -9223372036854775808<=q/\q<=9223372036854775807):
  Ctr G.P 48 [.int p,.int q] (· = .tup [frac (Rat.divInt p q),.int 0]):=by
 have h1:=t_of p hp;have h2:=t_of q a1;have h3:=t_new p q hq (by have:=i64_len hp;omega) (by have:=i64_len a1;omega);simp only[big,frac,ints]at h1 h2 h3;refine ja3 [.cell 4 48,.tmp 5] Tryz.func48 ?_;simp only[go_sem];refine ja0 h1 ?_;simp only[go_sem];refine ja0 h2 ?_;simp only[go_sem];refine ja0 h3 ?_;simp only[go_sem]
theorem t_intf(n:Int)(hn: -9223372036854775808<=n/\n<=9223372036854775807):Ctr G.P 16 [.int n] (· =frac (Rat.divInt n 1)):=by
 have h:=t_off n 1 (by omega) hn (by omega);simp only[frac,ints]at h;refine ja3 [.cell 2 48] Tryz.func16 ?_;simp only[go_sem];refine ja0 h ?_;simp only[go_sem]
end
section
set_option maxRecDepth 1000000
open Go.Abs
attribute [local go_sem] ints ic big frac
theorem jck{a b:Int}{k m:Nat}(ha:(dig a.natAbs).length<=k)(hb:(dig b.natAbs).length<=m):(dig (a*b).natAbs).length<=k+m:=by
 rw[jB];exact jlm ha hb
theorem jh9(a:Rat):(a.den:Int)≠0:=by have:=a.den_nz;omega
end
section
set_option maxRecDepth 1000000
open Go.Abs
attribute [local go_sem] ints ic big frac
theorem js1(p q:Int)(hq:q≠0)(lp:(dig p.natAbs).length<=40000000000)(lq:(dig q.natAbs).length<=40000000000):Ctr G.P 49 [big p,big q] (· = .tup [frac (Rat.divInt p q),.int 0]):=by
 have rp:=jcl p (by omega);have rq:=jcl q (by omega);have d0:decide (q.sign=0)=false:=zh fun h=>hq (yw.1 h);have main:∀P Q:Int,0<Q->(dig P.natAbs).length<=40000000000->(dig Q.natAbs).length<=40000000000->Rat.divInt P Q=Rat.divInt p q->
   Ctr G.P 69 [big P,big Q] (· = .tup [big (Nat.gcd P.natAbs Q.natAbs:Nat),.int 0])/\
   Ctr G.P 68 [big P,big (Nat.gcd P.natAbs Q.natAbs:Nat)] (· = .tup [big (Rat.divInt p q).num,big (P.fmod (Nat.gcd P.natAbs Q.natAbs:Nat)),.int 0])/\
   Ctr G.P 68 [big Q,big (Nat.gcd P.natAbs Q.natAbs:Nat)] (· = .tup [big ((Rat.divInt p q).den:Int),big (Q.fmod (Nat.gcd P.natAbs Q.natAbs:Nat)),.int 0]):=by
  intro P Q hQ lP lQ he;obtain⟨e1,e2⟩:=jjm (p:=P) hQ;rw[he]at e1 e2;rw[e1,e2];have a7:Nat.gcd P.natAbs Q.natAbs≠0:=fun h=>by have:=wz h;omega
  have a8:(dig (Nat.gcd P.natAbs Q.natAbs)).length<=40000000000:=jcm (Nat.le_of_dvd (by omega) (v8 _ _)) lQ;have k1:=jr3 P (Nat.gcd P.natAbs Q.natAbs:Nat) (by omega) (by omega) (by rw[Int.natAbs_natCast];omega);have k2:=jr3 Q (Nat.gcd P.natAbs Q.natAbs:Nat) (by omega) (by omega) (by rw[Int.natAbs_natCast];omega);rw[yJ _ (by omega)]at k1 k2;exact⟨t_pgcd P Q (by omega) (by omega),k1,k2⟩
 rcases qL hq with hlt | hgt
 ·have d1:decide (q.sign<0)=true:=by rw[zM hlt];rfl
  have n1:=jmt p (by omega);have n2:=jmt q (by omega);obtain⟨hg,a6,a1⟩:=main (-p) (-q) (by omega) (by rw[qT];exact lp) (by rw[qT];exact lq) (by have:=vF (n:=p) (d:=q) (a:= -1) (by decide);rwa [yY,yY,jc,jc]at this);simp only[big,frac,ints]at rp rq n1 n2 hg a6 a1;refine ja3 [.cell 4 48,.tmp 5] Tryz.func49 ?_;simp only[go_sem];refine ja0 rp ?_;simp only[go_sem];refine ja0 rq ?_;simp only[d0,d1,go_sem];refine jah ?_;simp only[go_sem];refine ja4 n1 (by decide) ?_;simp only[go_sem];refine ja4 n2 (by decide) ?_;simp only[go_sem];refine ja0 hg ?_;simp only[go_sem];refine ja0 a6 ?_;simp only[go_sem];refine ja0 a1 ?_;simp only[go_sem]
 ·have d1:decide (q.sign<0)=false:=by rw[zO hgt];rfl
  obtain⟨hg,a6,a1⟩:=main p q hgt lp lq rfl;simp only[big,frac,ints]at rp rq hg a6 a1;refine ja3 [.cell 4 48,.tmp 5] Tryz.func49 ?_;simp only[go_sem];refine ja0 rp ?_;simp only[go_sem];refine ja0 rq ?_;simp only[d0,d1,go_sem];refine ja0 hg ?_;simp only[go_sem];refine ja0 a6 ?_;simp only[go_sem];refine ja0 a1 ?_;simp only[go_sem]
theorem jln{p:Int}(hp: -9223372036854775808<=p/\p<=9223372036854775807):(dig p.natAbs).length<=4:=jb2 (by omega)
theorem t_poff(p q:Int)(hq:q≠0)(hp: -9223372036854775808<=p/\p<=9223372036854775807)(a1: -9223372036854775808<=q/\q<=9223372036854775807):
  Ctr G.P 113 [.int p,.int q] (· = .tup [frac (Rat.divInt p q),.int 0]):=by
 have o1:=t_pof p hp;have o2:=t_pof q a1;have hn:=js1 p q hq (by have:=jln hp;omega) (by have:=jln a1;omega);simp only[big,frac,ints]at o1 o2 hn;refine ja3 [.cell 4 48,.tmp 5] Tryz.func113 ?_;simp only[go_sem];refine ja0 o1 ?_;simp only[go_sem];refine ja0 o2 ?_;simp only[go_sem];refine ja0 hn ?_;simp only[go_sem]
theorem jcj(n:Int)(hn: -9223372036854775808<=n/\n<=9223372036854775807):Ctr G.P 41 [.int n] (· =frac (n:Rat)):=by
 have o1:=t_pof n hn;have o2:=t_pof 1 (by omega);have e1:((n:Rat)).num=n:=rfl;have e2:((n:Rat)).den=1:=rfl;simp only[big,frac,ints,e1,e2]at o1 o2⊢;refine ja3 [.cell 2 48] Tryz.func41 ?_;simp only[go_sem];refine ja0 o1 ?_;simp only[go_sem];refine ja0 o2 ?_;simp only[go_sem]
theorem jm9(a b:Rat):Rat.divInt (a.num*b.den+b.num*a.den) (a.den*b.den)=a+b:=by
 rw[<-Rat.divInt_add_divInt _ _ (jh9 a) (jh9 b),yZ,yZ]
theorem jm8(a b:Rat):Rat.divInt (a.num*b.num) (a.den*b.den)=a*b:=by
 rw[<-Rat.divInt_mul_divInt,yZ,yZ]
theorem jss{a b:Int}{k:Nat}(ha:(dig a.natAbs).length<=k)(hb:(dig b.natAbs).length<=k):(dig (a+b).natAbs).length<=k+1:=len_add ha hb (by omega)
theorem t_paddf(a b:Rat)(ap:(dig a.num.natAbs).length<=19000000000)(aq:(dig a.den).length<=19000000000)(bp:(dig b.num.natAbs).length<=19000000000)(bq:(dig b.den).length<=19000000000):
  Ctr G.P 45 [frac a,frac b] (· = .tup [frac (a+b),.int 0]):=by
 have ra:=jc9 a (by omega) (by omega);have rb:=jc9 b (by omega) (by omega);have a1:(dig (b.den:Int).natAbs).length<=19000000000:=by rw[Int.natAbs_natCast];exact bq
 have a6:(dig (a.den:Int).natAbs).length<=19000000000:=by rw[Int.natAbs_natCast];exact aq
 have m1:=jez a.num b.den (by omega) (by omega);have m2:=jez b.num a.den (by omega) (by omega);have m3:=jez a.den b.den (by omega) (by omega);have l1:=jck ap a1;have l2:=jck bp a6;have l3:=jck a6 a1;have hs:=t_paddb (a.num*b.den) (b.num*a.den) (by omega) (by omega);have hn:=js1 (a.num*b.den+b.num*a.den) (a.den*b.den) (j7 (jh9 a) (jh9 b)) (by have:=jss (k:=38000000000) (a:=a.num*b.den) (b:=b.num*a.den) (by omega) (by omega);omega) (by omega);rw[jm9]at hn;simp only[big,frac,ints]at ra rb m1 m2 m3 hs hn;refine ja3 [.cell 4 48,.tmp 5] Tryz.func45 ?_;simp only[go_sem];refine ja0 ra ?_;simp only[go_sem];refine ja0 rb ?_;simp only[go_sem];refine jah ?_;simp only[go_sem];refine ja4 m1 (by decide) ?_;simp only[go_sem];refine ja4 m2 (by decide) ?_;simp only[go_sem];refine ja4 hs (by decide) ?_;simp only[go_sem];refine jah ?_;simp only[go_sem];refine ja4 m3 (by decide) ?_;simp only[go_sem];refine ja4 hn (by decide) ?_;simp only[go_sem]
theorem t_psubf(a b:Rat)(ap:(dig a.num.natAbs).length<=19000000000)(aq:(dig a.den).length<=19000000000)(bp:(dig b.num.natAbs).length<=19000000000)(bq:(dig b.den).length<=19000000000):
  Ctr G.P 62 [frac a,frac b] (· = .tup [frac (a-b),.int 0]):=by
 have ra:=jc9 a (by omega) (by omega);have rb:=jc9 b (by omega) (by omega);have hn:=jmt b.num (by omega);have hs:=t_paddf a (-b) ap aq (by rw[show(-b).num= -b.num from rfl,qT];exact bp) bq;have e:a+ -b=a-b:=by grind
 rw[e]at hs;simp only[big,frac,ints,show(-b).num= -b.num from rfl,show(-b).den=b.den from rfl]at ra rb hn hs;refine ja3 [.cell 4 48,.tmp 5] Tryz.func62 ?_;simp only[go_sem];refine ja0 ra ?_;simp only[go_sem];refine ja0 rb ?_;simp only[go_sem];refine jah ?_;simp only[go_sem];refine ja4 hn (by decide) ?_;simp only[go_sem];refine ja4 hs (by decide) ?_;simp only[go_sem]
end
section
set_option maxRecDepth 1000000
open Go.Abs
attribute [local go_sem] ints ic big frac
theorem t_pmulf(a b:Rat)(ap:(dig a.num.natAbs).length<=19000000000)(aq:(dig a.den).length<=19000000000)(bp:(dig b.num.natAbs).length<=19000000000)(bq:(dig b.den).length<=19000000000):
  Ctr G.P 61 [frac a,frac b] (· = .tup [frac (a*b),.int 0]):=by
 have ra:=jc9 a (by omega) (by omega);have rb:=jc9 b (by omega) (by omega);have a1:(dig (b.den:Int).natAbs).length<=19000000000:=by rw[Int.natAbs_natCast];exact bq
 have a6:(dig (a.den:Int).natAbs).length<=19000000000:=by rw[Int.natAbs_natCast];exact aq
 have m1:=jez a.num b.num (by omega) (by omega);have m2:=jez a.den b.den (by omega) (by omega);have l1:=jck ap bp;have l2:=jck a6 a1;have hn:=js1 (a.num*b.num) (a.den*b.den) (j7 (jh9 a) (jh9 b)) (by omega) (by omega);rw[jm8]at hn;simp only[big,frac,ints]at ra rb m1 m2 hn;refine ja3 [.cell 4 48,.tmp 5] Tryz.func61 ?_;simp only[go_sem];refine ja0 ra ?_;simp only[go_sem];refine ja0 rb ?_;simp only[go_sem];refine jah ?_;simp only[go_sem];refine ja4 m1 (by decide) ?_;simp only[go_sem];refine ja4 m2 (by decide) ?_;simp only[go_sem];refine ja4 hn (by decide) ?_;simp only[go_sem]
theorem num_ne{b:Rat}(h:b≠0):b.num≠0:=fun e=>h (Rat.num_eq_zero.1 e)
theorem divInt_div'(a b:Rat)(h:b≠0):Rat.divInt (a.num*b.den) (a.den*b.num)=a/b:=by
 have e:b⁻¹=Rat.divInt b.den b.num:=by
  conv=>lhs;rw[<-yZ b]
  rw[Rat.inv_divInt]
 rw[Rat.div_def,e,<-Rat.divInt_mul_divInt,yZ]
theorem t_pdivf(a b:Rat)(h:b≠0)(ap:(dig a.num.natAbs).length<=19000000000)(aq:(dig a.den).length<=19000000000)(bp:(dig b.num.natAbs).length<=19000000000)(bq:(dig b.den).length<=19000000000):
  Ctr G.P 17 [frac a,frac b] (· = .tup [frac (a/b),.int 0]):=by
 have ra:=jc9 a (by omega) (by omega);have rb:=jc9 b (by omega) (by omega);have a1:(dig (b.den:Int).natAbs).length<=19000000000:=by rw[Int.natAbs_natCast];exact bq
 have a6:(dig (a.den:Int).natAbs).length<=19000000000:=by rw[Int.natAbs_natCast];exact aq
 have m1:=jez a.num b.den (by omega) (by omega);have m2:=jez a.den b.num (by omega) (by omega);have l1:=jck ap a1;have l2:=jck a6 bp;have hn:=js1 (a.num*b.den) (a.den*b.num) (j7 (jh9 a) (num_ne h)) (by omega) (by omega);rw[divInt_div' a b h]at hn;have d0:decide (b.num.sign=0)=false:=zh fun e=>num_ne h (yw.1 e);simp only[big,frac,ints]at ra rb m1 m2 hn;refine ja3 [.cell 4 48,.tmp 5] Tryz.func17 ?_;simp only[go_sem];refine ja0 ra ?_;simp only[go_sem];refine ja0 rb ?_;simp only[go_sem];simp only[d0,go_sem];refine jah ?_;simp only[go_sem];refine ja4 m1 (by decide) ?_;simp only[go_sem];refine ja4 m2 (by decide) ?_;simp only[go_sem];refine ja4 hn (by decide) ?_;simp only[go_sem]
theorem jpf(z:Int)(h:(dig z.natAbs).length<=1000000000000):Ctr G.P 120 [big z] (· =big z):=by
 have n1:=jmt z h;have n2:=jmt (-z) (by rw[qT];exact h);rw[Int.neg_neg]at n2;simp only[big,ints]at n1 n2;refine ja3 [.cell 2 46] Tryz.func120 ?_;simp only[go_sem];refine ja0 n1 ?_;simp only[go_sem];refine ja0 n2 ?_;simp only[go_sem]
theorem t_pnegf(a:Rat)(ap:(dig a.num.natAbs).length<=50000000000)(aq:(dig a.den).length<=50000000000):Ctr G.P 92 [frac a] (· =frac (-a)):=by
 have ra:=jc9 a (by omega) (by omega);have n1:=jmt a.num (by omega);have n2:=jpf a.den (by rw[Int.natAbs_natCast];omega);simp only[big,frac,ints,show(-a).num= -a.num from rfl,show(-a).den=a.den from rfl]at ra n1 n2⊢;refine ja3 [.cell 2 48] Tryz.func92 ?_;simp only[go_sem];refine ja0 ra ?_;simp only[go_sem];refine jah ?_;simp only[go_sem];refine ja4 n1 (by decide) ?_;simp only[go_sem];refine ja4 n2 (by decide) ?_;simp only[go_sem]
theorem t_pmaxf(a b:Rat)(ap:(dig a.num.natAbs).length<=50000000000)(aq:(dig a.den).length<=50000000000)(bp:(dig b.num.natAbs).length<=50000000000)(bq:(dig b.den).length<=50000000000):
  Ctr G.P 87 [frac a,frac b] (· = .tup [frac (if a<b then b else a),.int 0]):=by
 have ra:=jc9 a (by omega) (by omega);have rb:=jc9 b (by omega) (by omega);have hc:=t_pcmpf a b (by omega) (by omega) (by omega) (by omega);have s1:=jpf a.num (by omega);have s2:=jpf a.den (by rw[Int.natAbs_natCast];omega);have s3:=jpf b.num (by omega);have s4:=jpf b.den (by rw[Int.natAbs_natCast];omega);have he:Ctr G.P 114 [frac a,frac b,.int 1] (· = .tup [frac (if a<b then b else a),.int 0]):=by
  have hle: -1<=cmpR a b/\cmpR a b<=1:=by unfold cmpR;exact cmpI_le _ _
  have w:=ja8 (cmpR a b*1);by_cases h:a<b
  ·have d:decide (cmpR a b*1<0)=true:=zp (by rw[jc];exact cmpR_neg.2 h);rw[ze h];simp only[big,frac,ints]at ra rb hc s3 s4;refine ja3 [.cell 6 48,.tmp 7] Tryz.func114 ?_;simp only[go_sem];refine ja0 ra ?_;simp only[go_sem];refine ja0 rb ?_;simp only[go_sem];refine ja0 hc ?_;simp only[w,d,go_sem];refine jah ?_;simp only[go_sem];refine ja4 s3 (by decide) ?_;simp only[go_sem];refine ja4 s4 (by decide) ?_;simp only[go_sem]
  ·have d:decide (cmpR a b*1<0)=false:=zh (by rw[jc];exact fun e=>h (cmpR_neg.1 e));rw[zl h];simp only[big,frac,ints]at ra rb hc s1 s2;refine ja3 [.cell 6 48,.tmp 7] Tryz.func114 ?_;simp only[go_sem];refine ja0 ra ?_;simp only[go_sem];refine ja0 rb ?_;simp only[go_sem];refine ja0 hc ?_;simp only[w,d,go_sem];refine jah ?_;simp only[go_sem];refine ja4 s1 (by decide) ?_;simp only[go_sem];refine ja4 s2 (by decide) ?_;simp only[go_sem]
 generalize (if a<b then b else a)=c at*;simp only[big,frac,ints]at he;refine ja3 [.cell 4 48,.tmp 5] Tryz.func87 ?_;simp only[go_sem];refine ja0 he ?_;simp only[go_sem]
end
section
set_option maxRecDepth 1000000
open Go.Abs
attribute [local go_sem] ints ic big frac
def FL(k:Nat)(r:Rat):Prop:=(dig r.num.natAbs).length<=k/\(dig r.den).length<=k
theorem FL.mono{k m:Nat}{r:Rat}(h:FL k r)(hk:k<=m):FL m r:=⟨qI h.1 hk,qI h.2 hk⟩
theorem jhf{p q:Int}{k:Nat}(hq:q≠0)(hp:(dig p.natAbs).length<=k)(a1:(dig q.natAbs).length<=k):FL k (Rat.divInt p q):=by
 have main:∀P Q:Int,0<Q->(dig P.natAbs).length<=k->(dig Q.natAbs).length<=k->FL k (Rat.divInt P Q):=by
  intro P Q hQ h1 h2;obtain⟨e1,e2⟩:=jjm (p:=P) hQ;have hg:0<Nat.gcd P.natAbs Q.natAbs:=Nat.gcd_pos_of_pos_right _ (by omega);refine⟨jcm ?_ h1,jcm ?_ h2⟩
  ·rw[e1];exact Int.natAbs_ediv_le_natAbs _ _
  ·have h3:(Rat.divInt P Q).den=((Rat.divInt P Q).den:Int).natAbs:=(Int.natAbs_natCast _).symm;rw[h3,e2];exact Int.natAbs_ediv_le_natAbs _ _
 rcases qL hq with h | h
 ·have:=main (-p) (-q) (by omega) (by rw[qT];exact hp) (by rw[qT];exact a1);have e:=vF (n:=p) (d:=q) (a:= -1) (by decide);rw[yY,yY,jc,jc]at e
  rwa [e]at this
 ·exact main p q h hp a1
theorem FL_int{n:Int}{k:Nat}(h:(dig n.natAbs).length<=k)(hk:1<=k):FL k (n:Rat):=by
 refine⟨h,?_⟩;have:=jb2 (n:=1) (k:=1) (by omega);show(dig 1).length<=k;omega
theorem jbo{n:Int}(h: -9223372036854775808<=n/\n<=9223372036854775807):FL 4 (n:Rat):=FL_int (jln h) (by omega)
theorem ji2{a b:Rat}{k m:Nat}(ha:FL k a)(hb:FL m b):FL (k+m+1) (a+b):=by
 rw[<-jm9];have h1:(dig (b.den:Int).natAbs).length<=m:=by rw[Int.natAbs_natCast];exact hb.2
 have h2:(dig (a.den:Int).natAbs).length<=k:=by rw[Int.natAbs_natCast];exact ha.2
 have l1:=jck ha.1 h1;have l2:=jck hb.1 h2;have l3:=jck h2 h1;exact jhf (j7 (jh9 a) (jh9 b)) (jss l1 (by omega)) (by omega)
theorem jkg{a b:Rat}{k m:Nat}(ha:FL k a)(hb:FL m b):FL (k+m) (a*b):=by
 rw[<-jm8];have h1:(dig (b.den:Int).natAbs).length<=m:=by rw[Int.natAbs_natCast];exact hb.2
 have h2:(dig (a.den:Int).natAbs).length<=k:=by rw[Int.natAbs_natCast];exact ha.2
 exact jhf (j7 (jh9 a) (jh9 b)) (jck ha.1 hb.1) (jck h2 h1)
theorem jnr{a:Rat}{k:Nat}(ha:FL k a):FL k (-a):=⟨by rw[show(-a).num= -a.num from rfl,qT];exact ha.1,ha.2⟩
theorem jts{a b:Rat}{k m:Nat}(ha:FL k a)(hb:FL m b):FL (k+m+1) (a-b):=by
 have e:a-b=a+ -b:=by grind
 rw[e];exact ji2 ha (jnr hb)
theorem f_add{a b:Rat}(ha:FL 19000000000 a)(hb:FL 19000000000 b):Ctr G.P 45 [frac a,frac b] (· = .tup [frac (a+b),.int 0]):=t_paddf a b ha.1 ha.2 hb.1 hb.2
theorem f_sub{a b:Rat}(ha:FL 19000000000 a)(hb:FL 19000000000 b):Ctr G.P 62 [frac a,frac b] (· = .tup [frac (a-b),.int 0]):=t_psubf a b ha.1 ha.2 hb.1 hb.2
theorem f_mul{a b:Rat}(ha:FL 19000000000 a)(hb:FL 19000000000 b):Ctr G.P 61 [frac a,frac b] (· = .tup [frac (a*b),.int 0]):=t_pmulf a b ha.1 ha.2 hb.1 hb.2
theorem f_div{a b:Rat}(h:b≠0)(ha:FL 19000000000 a)(hb:FL 19000000000 b):Ctr G.P 17 [frac a,frac b] (· = .tup [frac (a/b),.int 0]):=t_pdivf a b h ha.1 ha.2 hb.1 hb.2
theorem f_neg{a:Rat}(ha:FL 19000000000 a):Ctr G.P 92 [frac a] (· =frac (-a)):=t_pnegf a (by have:=ha.1;omega) (by have:=ha.2;omega)
theorem f_cmp{a b:Rat}(ha:FL 19000000000 a)(hb:FL 19000000000 b):Ctr G.P 15 [frac a,frac b] (· = .int (cmpR a b)):=t_pcmpf a b (by have:=ha.1;omega) (by have:=ha.2;omega) (by have:=hb.1;omega) (by have:=hb.2;omega)
theorem f_max{a b:Rat}(ha:FL 19000000000 a)(hb:FL 19000000000 b):Ctr G.P 87 [frac a,frac b] (· = .tup [frac (if a<b then b else a),.int 0]):=t_pmaxf a b (by have:=ha.1;omega) (by have:=ha.2;omega) (by have:=hb.1;omega) (by have:=hb.2;omega)
theorem f_sign{a:Rat}(ha:FL 19000000000 a):Ctr G.P 59 [frac a] (· = .int a.num.sign):=t_psignf a (by have:=ha.1;omega) (by have:=ha.2;omega)
theorem jrc{a:Rat}(ha:FL 19000000000 a):Ctr G.P 44 [frac a] (· = .bool true):=jc9 a (by have:=ha.1;omega) (by have:=ha.2;omega)
