/- A part of the proof. No further condition. -/
import Derived.Test.YtgncgpfjldefpaaGreatKR19
import Derived.Test.YtgncgpfjldefpaaGreatKR22
import Derived.Shelf.SlSortCmp.WholeK
import Derived.Shelf.SlSortCmp.NoneTotal
import Derived.Shelf.SlicesG.Cmp
import Derived.Shelf.Small.Bits
set_option linter.all false
set_option maxRecDepth 10000000
set_option maxHeartbeats 16000000
namespace Go.Proofs.YtgncgpfjldefpaaGreat
section
open Go.Abs
attribute [local go_sem] ints ic Bat.c Pap.c Led.c
section
variable{p:Led}
theorem jnl{n:Int}{x:Pap}(h:papOk n x=true):1<=x.grams/\x.grams<=1099511627776:=(papOk_iff.1 h).2.1
theorem pb_Split(hs:jgw p)(b i n:Int):Ctr G.P 12 [.agg p.c,.int b,.int i,.int n] (· = .tup [.agg (jm3 p b i n).1.c,.int (jm3 p b i n).2]):=by
 have e1:jm3 p b i n=stepF p b [i] (if btw n 1 ((papAt p i).grams-1)=false then 3 else 0) (addP (setP p i goneP) [{papAt p i with grams:=n},{papAt p i with grams:=(papAt p i).grams-n}]):=by
  unfold jm3 stepF;by_cases h:btw n 1 ((papAt p i).grams-1)=false
  ·rw[zn h,zn h,zn (by decide:(3:Int)≠0)]
  ·rw[zp h,zp h,zp (by decide:¬(0:Int)≠0)]
 have kS:=jpv p hs b [i] (by simp) (by simp) 39 [.ip [.int i] 0,.ip [.int n] 0] (by decide) (if btw n 1 ((papAt p i).grams-1)=false then 3 else 0) (addP (setP p i goneP) [{papAt p i with grams:=n},{papAt p i with grams:=(papAt p i).grams-n}]) (fun h0 L A B C hL=>by
  obtain⟨hr,k,x,rfl,hx,h3,h4,h5,h6⟩:=one_ok h0;rw[h6,jki hx];refine CtrH.mono (pb_split1 hL n hx (jnl h5) (by have:=(jcd hr).2.1;omega)) fun r L' h=> ?_;rcases h with ⟨g1,rfl⟩ | ⟨g1,rfl,X,g2⟩
  ·rw[g1,zn rfl];exact⟨rfl,fun h=>by cases h⟩
  ·rw[g1,zp (by decide)];exact⟨rfl,fun _=>⟨X,g2⟩⟩)
 rw[<-e1]at kS;generalize jm3 p b i n=z at*;obtain⟨q,e⟩:=z;clear e1;simp only[ints,Led.c,zr,zE]at*;refine ja4 [.cell 8 25,.tmp 9] Tryz.func12 ?_;simp only[go_sem];refine ja1 kS ?_;simp only[go_sem]
theorem pb_Give(hs:jgw p)(b i to:Int):Ctr G.P 14 [.agg p.c,.int b,.int i,.int to] (· = .tup [.agg (giveF p b i to).1.c,.int (giveF p b i to).2]):=by
 have kI:=pb_in to 0 999;rcases h0:btw to 0 999 with _ | _
 ·have e1:giveF p b i to=(zL,1):=by unfold giveF;rw[h0,zn rfl]
  rw[h0]at kI;rw[e1,zL_c];simp only[Led.c];refine ja4 [.cell 8 25,.tmp 9] Tryz.func14 ?_;simp only[go_sem];refine ja1 kI ?_;simp only[go_sem]
 have e1:giveF p b i to=stepF p b [i] 0 (setP p i fun x=>{x with own:=to}):=by
  unfold giveF stepF;rw[h0,zp (by decide),zp (by decide:¬(0:Int)≠0)]
 have kS:=jpv p hs b [i] (by simp) (by simp) 41 [.ip [.int to] 0,.ip [.int i] 0] (by decide) 0 (setP p i fun x=>{x with own:=to}) (fun h0 L A B C hL=>by
  obtain⟨hr,k,x,rfl,hx,h3,h4,h5,h6⟩:=one_ok h0;rw[jki hx];refine CtrH.mono (pb_give1 hL to hx) fun r L' h=> ?_;obtain⟨rfl,h⟩:=h;exact⟨rfl,fun _=>⟨_,h⟩⟩)
 rw[<-e1]at kS;rw[h0]at kI;generalize giveF p b i to=z at*;obtain⟨q,e⟩:=z;clear e1;simp only[ints,Led.c,zr,zE]at*;refine ja4 [.cell 8 25,.tmp 9] Tryz.func14 ?_;simp only[go_sem];refine ja1 kI ?_;simp only[go_sem];refine ja1 kS ?_;simp only[go_sem]
theorem pb_Join(hs:jgw p)(b i j:Int):Ctr G.P 13 [.agg p.c,.int b,.int i,.int j] (· = .tup [.agg (joinF p b i j).1.c,.int (joinF p b i j).2]):=by
 have kR:=jfe p hs;rcases h0:(jbv p&&decide (i=j))with _ | _
 case true=>
  have e1:joinF p b i j=(zL,4):=by unfold joinF;rw[h0,zn rfl]
  rw[zB]at h0;rw[h0.1]at kR;rw[e1,zL_c];simp only[Led.c]at*;refine ja4 [.cell 8 25,.tmp 9] Tryz.func13 ?_;simp only[go_sem];refine ja1 kR ?_;simp only[h0.2,go_sem]
 have e1:joinF p b i j=stepF p b [i,j] (if decide ((papAt p i).bat=(papAt p j).bat)=false then 13 else if 1099511627776<(papAt p i).grams+(papAt p j).grams then 3 else 0) (addP (setP (setP p i goneP) j goneP) [{papAt p i with grams:=(papAt p i).grams+(papAt p j).grams}]):=by
  unfold joinF stepF;rw[h0,zp (by decide)];by_cases h:decide ((papAt p i).bat=(papAt p j).bat)=false
  ·rw[zn h,zn h,zn (by decide:(13:Int)≠0)]
  ·rw[zp h,zp h];by_cases h2:1099511627776<(papAt p i).grams+(papAt p j).grams
   ·rw[zn h2,zn h2,zn (by decide:(3:Int)≠0)]
   ·rw[zp h2,zp h2,zp (by decide:¬(0:Int)≠0)]
 have kS:=jpv p hs b [i,j] (by simp) (by simp) 40 [.ip [.int i] 0,.ip [.int j] 0] (by decide) (if decide ((papAt p i).bat=(papAt p j).bat)=false then 13 else if 1099511627776<(papAt p i).grams+(papAt p j).grams then 3 else 0) (addP (setP (setP p i goneP) j goneP) [{papAt p i with grams:=(papAt p i).grams+(papAt p j).grams}]) (fun hz L A B C hL=>by
  obtain⟨hr,h2⟩:=step_ok hz;obtain⟨k,rfl,x,hx,x1,x2⟩:=h2 i (by simp);obtain⟨m,rfl,y,hy,y1,y2⟩:=h2 j (by simp);have hkm:¬k=m:=fun e=>by subst e;rw[hr]at h0;simp at h0
  have gx:=jnl ((jcd hr).2.2.2 x (zl hx));have gy:=jnl ((jcd hr).2.2.2 y (zl hy));have hy2:(setP p (k:Int) goneP).ps[m]? =some y:=by
   rw[jki hx];show(p.ps.set k (goneP x))[m]? =some y;rw[yK,zp hkm];exact hy
  rw[jnb hx,jnb hy,jki hy2,jki hx];refine CtrH.mono (pb_join1 hL hkm hx hy gx gy (by have:=(jcd hr).2.1;omega)) fun r L' h=> ?_;rcases h with ⟨g1,rfl⟩ | ⟨g1,g2,rfl⟩ | ⟨g1,g2,rfl,X,g3⟩
  ·rw[g1,zn rfl];exact⟨rfl,fun h=>by cases h⟩
  ·rw[g1,zp (by decide),zn (zJ g2)];exact⟨rfl,fun h=>by cases h⟩
  ·rw[g1,zp (by decide),zp (zK g2)];exact⟨rfl,fun _=>⟨X,g3⟩⟩)
 rw[<-e1]at kS;generalize joinF p b i j=z at*;obtain⟨q,e⟩:=z;clear e1;simp only[ints,Led.c,zr,zE]at*;rcases h1:jbv p with _ | _
 ·rw[h1]at kR;refine ja4 [.cell 8 25,.tmp 9] Tryz.func13 ?_;simp only[go_sem];refine ja1 kR ?_;simp only[go_sem];refine ja1 kS ?_;simp only[go_sem]
 ·rw[h1]at kR h0;rw[qx]at h0;refine ja4 [.cell 8 25,.tmp 9] Tryz.func13 ?_;simp only[go_sem];refine ja1 kR ?_;simp only[h0,go_sem];refine ja1 kS ?_;simp only[go_sem]
end
end
section
open Go.Abs
attribute [local go_sem] ints ic Bat.c Pap.c Led.c bl
def OkL(lo hi:Int)(l:List Int):Prop:=∀v∈l,lo<=v/\v<=hi
theorem OkL.sub{lo hi g b:Int}{l:List Int}(h:OkL lo hi l)(hg:0<=g)(h2:g<=1099511627776)(hb:b.toNat<l.length):OkL (lo-1099511627776) hi (subAt l b g):=fun v hv=>by
 unfold subAt at hv;rcases qR hv with h1 | h1
 ·have:=h v h1;omega
 ·subst h1;rw[zS,ze hb];have:=h _ (jk hb);simp only[Option.getD_some];omega
theorem OkL.mono{lo hi lo':Int}{l:List Int}(h:OkL lo hi l)(hl:lo'<=lo):OkL lo' hi l:=fun v hv=>by have:=h v hv;omega
theorem fillS{α:Type}(o:List α)(z v:α){n i:Nat}(ho:o.length=i)(hi:i<n):(o++List.replicate (n-i) z).set i v=(o++[v])++List.replicate (n-(i+1)) z:=by
 subst ho;have e:n-o.length=(n-(o.length+1))+1:=by omega
 rw[e,List.replicate_succ,vq _ _ (zu _),jf,List.set_cons_zero,qz];rfl
theorem fillZ{α:Type}(o:List α)(z:α){n i:Nat}(hi:i<n):o++List.replicate (n-i) z=(o++[z])++List.replicate (n-(i+1)) z:=by
 have e:n-i=(n-(i+1))+1:=by omega
 rw[e,List.replicate_succ,qz];rfl
theorem fillG{α:Type}(o:List α)(z:α){n i:Nat}(ho:o.length=i)(hi:i<n):(o++List.replicate (n-i) z)[i]? =some z:=by
 subst ho;rw[zV (zu _),jf,qH,zn (by omega)]
theorem fillL{α:Type}(o:List α)(z:α){n i:Nat}(ho:o.length=i)(hi:i<=n):(o++List.replicate (n-i) z).length=n:=by
 rw[zF,zN];omega
theorem jkq(p:Led)(cert:List Int)(hs:jgw p)(hc:∀v∈cert,v<=9223372036854775807):Ctr G.P 11 [.agg p.c,ints cert] (· = .sl ((jkf p cert).map bl)):=by
 have kR:=jfe p hs;rcases hr:jbv p with _ | _
 ·have e1:jkf p cert=[]:=by unfold jkf;rw[hr,zp (by decide)]
  rw[hr]at kR;rw[e1];simp only[ints,Led.c]at*;refine ja4 [.tmp 4] Tryz.func11 ?_;simp only[go_sem];refine ja1 kR ?_;simp only[go_sem]
 have hb:=(jcd hr).1;have hl:=(jcd hr).2.1;have hin:=jqu hr;have e1:jkf p cert=jjo (retGo (left0 p cert) p.ps) p.ps:=by unfold jkf;rw[hr,zn rfl]
 rw[hr]at kR;rw[e1];have w00:(p.bs.length:Int)*8<=140737488355328:=by omega
 have w01:(0:Int)<=(p.bs.length:Int):=by omega
 have w02:((p.bs.length:Int)).toNat=p.bs.length:=by omega
 simp only[ints,Led.c]at*;refine ja4 [.tmp 4] Tryz.func11 ?_;simp only[go_sem];refine ja1 kR ?_;simp only[zh,w00,w01,w02,go_sem];obtain⟨A,hA⟩:∃A,A=left0 p cert:=⟨_,rfl⟩;have lA:A.length=p.bs.length:=by rw[hA,left_len]
 rw[<-hA];have gA:∀k,k<p.bs.length->A[k]? =some (if k<cert.length then max 0 (cert.getD k 0)else 0):=fun k hk=>by
  have h1:=left_get (p:=p) (cert:=cert) hk;rw[<-hA,zS,ze (by omega)]at h1;rw[ze (by omega)];exact qb some h1
 have oA:OkL 0 9223372036854775807 A:=fun v hv=>by
  obtain⟨k,hk,rfl⟩:=jp hv;have h1:=gA k (by omega);rw[ze hk]at h1;injection h1 with h1;rw[h1];split
  ·rename_i h2;have h3:=hc (cert.getD k 0) (by rw[zS,ze h2];exact jk h2);omega
  ·omega
 refine jao [1,2,5,20,21] [18,2] (fun i:Nat=>⟨[(1,.im (.sl (cert.map ic))),(2,.loc 2 2 0 0),(5,.gsl 18 3 1 p.bs.length),(20,.im (.int p.bs.length)),(21,.im (.int i))],[(18,1,(A.take i++List.replicate (p.bs.length-i) 0).map ic),(2,2,[p.c])],[]⟩)
  (fun i=>i<=p.bs.length) (fun i=>p.bs.length-i) 0 ?_ (zG _) ?_
 ·simp only[Int.natCast_zero,zN,List.take_zero,List.nil_append,Nat.sub_zero,yF,go_sem]
 intro i hi;by_cases hp:(i:Int)<p.bs.length
 ·have hd:decide ((i:Int)<p.bs.length)=true:=zk hp;have hin:i<p.bs.length:=by omega
  have h1:=ja9 (n:=(i:Int)+1) (by omega);have g1:=gA i hin;have ht:(A.take i).length=i:=by rw[qe];omega
  have g2:=fillG (A.take i) 0 ht hin;have g3:=fillL (A.take i) 0 ht (by omega:i<=p.bs.length);by_cases hk:(i:Int)<cert.length
  ·have hd2:decide ((i:Int)<cert.length)=true:=zk hk;obtain⟨v,hv⟩:=jbq hk;have g4:(A.take i++List.replicate (p.bs.length-i) 0).set i (max 0 v)=A.take (i+1)++List.replicate (p.bs.length-(i+1)) 0:=by
    rw[zn (by omega),zS,hv]at g1;rw[fillS _ _ _ ht hin,List.take_succ,g1];rfl
   have g5:((A.take i++List.replicate (p.bs.length-i) 0).map ic).set i [.int (max 0 v)]=(A.take (i+1)++List.replicate (p.bs.length-(i+1)) 0).map ic:=by rw[<-g4,qn];rfl
   simp only[hd,hd2,hp,zq,zh,hv,hk,hin,g2,g3,g5,go_sem];refine jad (i+1) ?_ ?_ ?_
   ·simp only[h1,Int.natCast_add,go_sem]
   ·show p.bs.length-(i+1)<p.bs.length-i;omega
   ·show i+1<=p.bs.length;omega
  ·have hd2:decide ((i:Int)<cert.length)=false:=za hk;have g4:A.take i++List.replicate (p.bs.length-i) 0=A.take (i+1)++List.replicate (p.bs.length-(i+1)) 0:=by
    rw[zp (by omega)]at g1;rw[fillZ _ _ hin,List.take_succ,g1];rfl
   simp only[hd,hd2,zh,go_sem];refine jad (i+1) ?_ ?_ ?_
   ·simp only[h1,Int.natCast_add,g4,go_sem]
   ·show p.bs.length-(i+1)<p.bs.length-i;omega
   ·show i+1<=p.bs.length;omega
 have hd:decide ((i:Int)<p.bs.length)=false:=za hp;have hie:i=p.bs.length:=by omega
 subst hie;have eA:A.take p.bs.length++List.replicate (p.bs.length-p.bs.length) 0=A:=by rw[jf,zD (by omega)];simp
 rw[eA];simp only[hd,zh,go_sem];clear hi hp hd eA;obtain⟨R,hR⟩:∃R,R=retGo A p.ps:=⟨_,rfl⟩;rw[<-hR];refine jao [2,5,38,39,40] [18,2] (fun g:Nat×List Int=>⟨[(2,.loc 2 2 0 0),(5,.gsl 18 3 1 p.bs.length),(38,.im (.sl (p.ps.map Pap.c))),(39,.im (.int p.ps.length)),(40,.im (.int g.1))],[(18,1,g.2.map ic),(2,2,[p.c])],[]⟩)
  (fun g=>g.1<=p.ps.length/\g.2.length=p.bs.length/\retGo g.2 (p.ps.drop g.1)=R/\OkL (-(1099511627776*(g.1:Int))) 9223372036854775807 g.2) (fun g=>p.ps.length-g.1) (0,A) ?_ ⟨zG _,lA,by rw[ym,hR],oA.mono (by simp)⟩ ?_
 ·simp only[Int.natCast_zero,go_sem]
 intro⟨i,l⟩ ⟨hi,hll,hgo,hok⟩;dsimp only at hi hll hgo hok;by_cases hp:(i:Int)<p.ps.length
 ·have hd:decide ((i:Int)<p.ps.length)=true:=zk hp;obtain⟨x,hx⟩:=jbq hp;have h1:=ja9 (n:=(i:Int)+1) (by omega);obtain⟨x1,x2,x3,x4⟩:=hin x (zl hx);have hdr:p.ps.drop i=x::p.ps.drop (i+1):=by
   have hlt:=(zt.1 hx).1;rw[qS hlt];have:=(zt.1 hx).2;rw[this]
  rw[hdr,retGo]at hgo;obtain⟨xb,xg,xo,xr,xe⟩:=x;dsimp only at x1 x2 x3 x4 hgo;obtain⟨m,rfl⟩:=jj x1;have hm:m<l.length:=by omega
  have hmb:(m:Int)<(p.bs.length:Int):=by omega
  have hm0:(0:Int)<=m:=by omega
  cases xr
  ·rw[zp (by decide)]at hgo;simp only[hd,zq,hx,go_sem];refine jad (i+1,l) ?_ ?_ ?_
   ·simp only[h1,Int.natCast_add,go_sem]
   ·show p.ps.length-(i+1)<p.ps.length-i;omega
   ·exact⟨by dsimp only;omega,hll,hgo,hok.mono (by dsimp only;omega)⟩
  ·rw[zn rfl]at hgo;have hv:l[m]? =some (l.getD m 0):=by rw[zS,ze hm];rfl
   have hov:=hok _ (zl hv);have w1:=ja9 (n:=l.getD m 0-xg) (by omega);have hsub:subAt l m xg=l.set m (l.getD m 0-xg):=by unfold subAt;rw[Int.toNat_natCast]
   have hset:(l.map ic).set m [.int (l.getD m 0-xg)]=(subAt l m xg).map ic:=by rw[hsub,qn];rfl
   simp only[hd,zq,hx,go_sem];refine jai 9 ?_;simp only[hm,hm0,hmb,hll,zh,zq,hv,w1,hset,go_sem];refine jad (i+1,subAt l m xg) ?_ ?_ ?_
   ·simp only[h1,Int.natCast_add,go_sem]
   ·show p.ps.length-(i+1)<p.ps.length-i;omega
   ·exact⟨by dsimp only;omega,by dsimp only;rw[hsub,zZ];exact hll,hgo,(hok.sub (by omega) x4 (by rw[Int.toNat_natCast];exact hm)).mono (by dsimp only;omega)⟩
 have hd:decide ((i:Int)<p.ps.length)=false:=za hp;have hie:i=p.ps.length:=by omega
 subst hie;rw[zY (zu _),retGo]at hgo;subst hgo;have w10:(p.ps.length:Int)*1<=140737488355328:=by omega
 have w11:(0:Int)<=(p.ps.length:Int):=by omega
 have w12:((p.ps.length:Int)).toNat=p.ps.length:=by omega
 simp only[hd,zh,w10,w11,w12,go_sem];clear hi hp hd;obtain⟨S,hS⟩:∃S,S=jjo l p.ps:=⟨_,rfl⟩;rw[<-hS];refine jao [2,5,9,61,62,63] [59,18,2] (fun g:Nat×List Int×List Bool=>⟨[(2,.loc 2 2 0 0),(5,.gsl 18 3 1 p.bs.length),(9,.gsl 59 4 1 p.ps.length),(61,.im (.sl (p.ps.map Pap.c))),(62,.im (.int p.ps.length)),(63,.im (.int g.1))],[(59,1,(g.2.2++List.replicate (p.ps.length-g.1) false).map bl),(18,1,g.2.1.map ic),(2,2,[p.c])],[]⟩)
  (fun g=>g.1<=p.ps.length/\g.2.1.length=p.bs.length/\g.2.2.length=g.1/\g.2.2++jjo g.2.1 (p.ps.drop g.1)=S/\OkL (-(1099511627776*(p.ps.length+g.1:Int))) 9223372036854775807 g.2.1) (fun g=>p.ps.length-g.1) (0,l,[]) ?_ ⟨zG _,hll,rfl,by rw[ym,hS];rfl,hok.mono (by simp)⟩ ?_
 ·simp only[Int.natCast_zero,zN,List.nil_append,Nat.sub_zero,yF,go_sem]
 clear hR hS hok hll l;intro⟨i,l,o⟩ ⟨hi,hll,hol,hgo,hok⟩;dsimp only at hi hll hol hgo hok;by_cases hp:(i:Int)<p.ps.length
 ·have hd:decide ((i:Int)<p.ps.length)=true:=zk hp;obtain⟨x,hx⟩:=jbq hp;have h1:=ja9 (n:=(i:Int)+1) (by omega);obtain⟨x1,x2,x3,x4⟩:=hin x (zl hx);have hlt:i<p.ps.length:=by omega
  have hdr:p.ps.drop i=x::p.ps.drop (i+1):=by
   rw[qS hlt];have:=(zt.1 hx).2;rw[this]
  rw[hdr,jjo]at hgo;have kL:=pb_live x;rcases hv:x.live with _ | _
  ·rw[hv,zp (by decide)]at hgo;rw[hv]at kL;have g4:=fillZ o false (n:=p.ps.length) hlt;simp only[Pap.c]at kL;simp only[hd,zq,hx,go_sem];refine ja1 kL ?_;simp only[go_sem];refine jad (i+1,l,o++[false]) ?_ ?_ ?_
   ·simp only[h1,Int.natCast_add,g4,go_sem]
   ·show p.ps.length-(i+1)<p.ps.length-i;omega
   ·exact⟨by dsimp only;omega,hll,by simp[hol],by dsimp only;rw[qz];exact hgo,hok.mono (by dsimp only;omega)⟩
  ·rw[hv,zn rfl]at hgo;rw[hv]at kL;clear hv hdr;obtain⟨xb,xg,xo,xr,xe⟩:=x;dsimp only at x1 x2 x3 x4 hgo;obtain⟨m,rfl⟩:=jj x1;rw[Int.toNat_natCast]at hgo;have hm:m<l.length:=by omega
   have hmb:(m:Int)<(p.bs.length:Int):=by omega
   have hm0:(0:Int)<=m:=by omega
   have hv:l[m]? =some (l.getD m 0):=by rw[zS,ze hm];rfl
   have hov:=hok _ (zl hv);have w1:=ja9 (n:=l.getD m 0-xg) (by omega);have hsub:subAt l m xg=l.set m (l.getD m 0-xg):=by unfold subAt;rw[Int.toNat_natCast]
   have hset:(l.map ic).set m [.int (l.getD m 0-xg)]=(subAt l m xg).map ic:=by rw[hsub,qn];rfl
   have hlen2:(subAt l m xg).length=p.bs.length:=by rw[hsub,zZ];exact hll
   have hv2:(subAt l m xg)[m]? =some ((subAt l m xg).getD m 0):=by rw[zS,ze (by omega)];rfl
   have hm2:m<p.bs.length:=by omega
   have g3:=fillL o false hol (by omega:i<=p.ps.length);have g4:=fillS o false (decide (0<=(subAt l m xg).getD m 0)) hol hlt;have g5:((o++List.replicate (p.ps.length-i) false).map bl).set i [.bool (decide (0<=(subAt l m xg).getD m 0))]=((o++[decide (0<=(subAt l m xg).getD m 0)])++List.replicate (p.ps.length-(i+1)) false).map bl:=by rw[<-g4,qn];rfl
   have g6:=fillG o false hol hlt;have hok2:=(hok.sub (b:=(m:Int)) (g:=xg) (by omega) x4 (by rw[Int.toNat_natCast];exact hm)).mono (lo':= -(1099511627776*(p.ps.length+(i+1:Nat):Int))) (by omega);simp only[Pap.c]at kL;simp only[hd,zq,hx,go_sem];refine ja1 kL ?_;simp only[go_sem];refine jai 9 ?_;simp only[hm,hm0,hmb,hll,zh,zq,hv,w1,hset,go_sem];generalize subAt l m xg=l2 at*;simp only[hset,hm2,hm0,hmb,hlen2,hp,hlt,zh,zq,hv2,g3,g5,g6,go_sem];refine jad (i+1,l2,o++[decide (0<=l2.getD m 0)]) ?_ ?_ ?_
   ·simp only[h1,Int.natCast_add,go_sem]
   ·show p.ps.length-(i+1)<p.ps.length-i;omega
   ·exact⟨by dsimp only;omega,hlen2,by simp[hol],by dsimp only;rw[qz];exact hgo,hok2⟩
 have hd:decide ((i:Int)<p.ps.length)=false:=za hp;have hie:i=p.ps.length:=by omega
 subst hie;rw[zY (zu _),jjo,qk]at hgo;subst hgo;have eA:o++List.replicate (p.ps.length-p.ps.length) false=o:=by rw[jf];simp
 rw[eA];have htk:(o.map bl).take p.ps.length=o.map bl:=zD (by rw[zh];omega);simp only[hd,zh,htk,hol,zu,go_sem]
end
section
open Go.Shelf Go.RowKit Go.Lib Go.Sort
def sortTerms_ren:Go.Shelf.Ren:=⟨fun | 6=>134 | 15=>150 | 14=>149 | 28=>175 | 29=>176 | 20=>167 | 21=>168 | 22=>169 | 23=>170 | 24=>171 | 25=>172 | 26=>173 | 27=>174 | 46=>191 | 47=>192 | 48=>193 | 49=>194 | 50=>195 | 57=>202 | n=>n,fun | 22=>161 | 24=>183 | 25=>185 | 3=>3 | 39=>176 | 0=>0 | 53=>221 | 55=>142 | 4=>4 | 46=>215 | 45=>214 | 50=>108 | 5=>5 | 9=>9 | 66=>239 | 70=>243 | 76=>252 | 77=>206 | n=>n,fun | n=>n⟩
theorem jon:Go.Proofs.SlLaysF0.n6 Tryz.prog sortTerms_ren:={
 mixed:=by kernel_rfl
 f6:=⟨Tryz.f134.name,by decide,Tryz.func134.trans (qb some (by kernel_rfl))⟩
 f14:=⟨Tryz.f149.name,by decide,Tryz.func149.trans (qb some (by kernel_rfl))⟩
 f15:=Tryz.func150.trans (qb some (by kernel_rfl))
 f20:=⟨Tryz.f167.name,by decide,Tryz.func167.trans (qb some (by kernel_rfl))⟩
 f21:=⟨Tryz.f168.name,by decide,Tryz.func168.trans (qb some (by kernel_rfl))⟩
 f22:=⟨Tryz.f169.name,by decide,Tryz.func169.trans (qb some (by kernel_rfl))⟩
 f23:=⟨Tryz.f170.name,by decide,Tryz.func170.trans (qb some (by kernel_rfl))⟩
 f24:=⟨Tryz.f171.name,by decide,Tryz.func171.trans (qb some (by kernel_rfl))⟩
 f25:=⟨Tryz.f172.name,by decide,Tryz.func172.trans (qb some (by kernel_rfl))⟩
 f26:=⟨Tryz.f173.name,by decide,Tryz.func173.trans (qb some (by kernel_rfl))⟩
 f27:=⟨Tryz.f174.name,by decide,Tryz.func174.trans (qb some (by kernel_rfl))⟩
 f28:=Tryz.func175.trans (qb some (by kernel_rfl))
 f29:=Tryz.func176.trans (qb some (by kernel_rfl))
 f46:=⟨Tryz.f191.name,by decide,Tryz.func191.trans (qb some (by kernel_rfl))⟩
 f47:=Tryz.func192.trans (qb some (by kernel_rfl))
 f48:=Tryz.func193.trans (qb some (by kernel_rfl))
 f49:=⟨Tryz.f194.name,by decide,Tryz.func194.trans (qb some (by kernel_rfl))⟩
 f50:=⟨Tryz.f195.name,by decide,Tryz.func195.trans (qb some (by kernel_rfl))⟩
 f57:=⟨Tryz.f202.name,by decide,Tryz.func202.trans (qb some (by kernel_rfl))⟩
 t0:=Tryz.underlying0
 a0:=Tryz.isAgg0
 z0:=Tryz.sizeOf0
 v0:=Tryz.zeroValue0
 t3:=Tryz.underlying3
 a3:=Tryz.isAgg3
 z3:=Tryz.sizeOf3
 v3:=Tryz.zeroValue3
 t4:=Tryz.underlying4
 a4:=Tryz.isAgg4
 z4:=Tryz.sizeOf4
 v4:=Tryz.zeroValue4
 t5:=Tryz.underlying5
 a5:=Tryz.isAgg5
 z5:=Tryz.sizeOf5
 v5:=Tryz.zeroValue5
 t9:=Tryz.underlying9
 a9:=Tryz.isAgg9
 z9:=Tryz.sizeOf9
 v9:=Tryz.zeroValue9
 t22:=Tryz.underlying161
 a22:=Tryz.isAgg161
 z22:=Tryz.sizeOf161
 v22:=Tryz.zeroValue161
 t25:=Tryz.underlying185
 a25:=Tryz.isAgg185
 z25:=Tryz.sizeOf185
 v25:=Tryz.zeroValue185
 t39:=Tryz.underlying176
 a39:=Tryz.isAgg176
 z39:=Tryz.sizeOf176
 v39:=Tryz.zeroValue176
 t45:=Tryz.underlying214
 a45:=Tryz.isAgg214
 z45:=Tryz.sizeOf214
 v45:=Tryz.zeroValue214
 t46:=Tryz.underlying215
 a46:=Tryz.isAgg215
 z46:=Tryz.sizeOf215
 v46:=Tryz.zeroValue215
 t50:=Tryz.underlying108
 a50:=Tryz.isAgg108
 z50:=Tryz.sizeOf108
 v50:=Tryz.zeroValue108
 t53:=Tryz.underlying221
 a53:=Tryz.isAgg221
 z53:=Tryz.sizeOf221
 v53:=Tryz.zeroValue221
 t55:=Tryz.underlying142
 a55:=Tryz.isAgg142
 z55:=Tryz.sizeOf142
 v55:=Tryz.zeroValue142
 t66:=Tryz.underlying239
 a66:=Tryz.isAgg239
 z66:=Tryz.sizeOf239
 v66:=Tryz.zeroValue239
 t70:=Tryz.underlying243
 a70:=Tryz.isAgg243
 z70:=Tryz.sizeOf243
 v70:=Tryz.zeroValue243
 t76:=Tryz.underlying252
 a76:=Tryz.isAgg252
 z76:=Tryz.sizeOf252
 v76:=Tryz.zeroValue252
 t77:=Tryz.underlying206
 a77:=Tryz.isAgg206
 z77:=Tryz.sizeOf206
 v77:=Tryz.zeroValue206}
def cmpInts_ren:Go.Shelf.Ren:=⟨fun | 5=>94 | 7=>120 | n=>n,fun | 22=>3 | 3=>3 | 4=>4 | n=>n,fun | n=>n⟩
theorem cmpInts:Go.Proofs.SlLaysC2.n5 Tryz.prog cmpInts_ren:={
 mixed:=by kernel_rfl
 f5:=⟨Tryz.f94.name,by decide,Tryz.func94.trans (qb some (by kernel_rfl))⟩
 f7:=⟨Tryz.f120.name,by decide,Tryz.func120.trans (qb some (by kernel_rfl))⟩
 t3:=Tryz.underlying3
 a3:=Tryz.isAgg3
 z3:=Tryz.sizeOf3
 v3:=Tryz.zeroValue3
 t4:=Tryz.underlying4
 a4:=Tryz.isAgg4
 z4:=Tryz.sizeOf4
 v4:=Tryz.zeroValue4
 t22:=Tryz.underlying3
 a22:=Tryz.isAgg3
 z22:=Tryz.sizeOf3
 v22:=Tryz.zeroValue3}
structure TermV where
 z:Int
 r:List Value
 len:r.length=4
 one:∀v∈r,v.oneCell'=true
instance:Inhabited TermV:=⟨⟨0,[.int .i64 0,.int .i64 0,.int .i64 0,.int .i64 0],rfl,fun v hv=>by simp at hv;subst hv;rfl⟩⟩
def TermV.enc(x:TermV):List Value:= .int .i64 x.z::x.r
def TermV.cmp(x y:TermV):Int:=Lib.compareInt x.z y.z
theorem TermV.lt(x y:TermV):ltOf TermV.cmp x y=decide (x.z<y.z):=by
 unfold ltOf TermV.cmp Lib.compareInt;by_cases h1:x.z<y.z
 ·simp[h1]
 ·by_cases h2:y.z<x.z<;>simp[h1,h2]
theorem TermV.swo:SWO (ltOf TermV.cmp) where
 irrefl x:=by rw[TermV.lt];simp
 trans x y z h1 h2:=by rw[TermV.lt]at*;simp at*;omega
 ntrans x y z h1 h2:=by rw[TermV.lt]at*;simp at*;omega
theorem sort_closure(x y:TermV)(W:World):Calls Tryz.prog 135 #[.agg x.enc.toArray,.agg y.enc.toArray] W fun e w'=>e= .returned (.int .i64 (TermV.cmp x y))/\∃q os',w'=grow (W.drewN q) os':=by
 have hcon:=fun W'=>AnyG.cmp_Compare_int cmpInts x.z y.z W';change ∀W',Calls Tryz.prog 94 _ _ _ at hcon;obtain⟨a,r,hr,_⟩:=x;obtain⟨b,s,hs,_⟩:=y
 match r,hr,s,hs with
 | [r1,r2,r3,r4],_,[s1,s2,s3,s4],_=>
  unfold TermV.cmp TermV.enc;dsimp only at hcon⊢;generalize Lib.compareInt a b=c at hcon⊢
  go_enter Tryz.func135,Tryz.ntmps135
  go_wp2_with (go_at_call 94;refine(hcon _).mono ?_;rintro e w' ⟨rfl,rfl⟩)
  go_ret
  exact⟨rfl,0,_,by rw[alloc_eq_grow,alloc_eq_grow,grow_grow];rfl⟩
theorem sort_calls(blk off cap:Nat)(d:Array TermV)(w:World)(hH:HoldsK TermV.enc 5 w blk off d)(hblk:blk<w.heap.size)(hsz:d.size<4611686018427387904):
  Calls Tryz.prog 134 #[.slice (some ⟨blk,off,none⟩) d.size cap,.func (.func 135) #[] #[]] w fun e w'=>e= .returned (.tuple #[])/\∃d' n os,PermIn 0 d.size d d'/\SortedIn (ltOf TermV.cmp) 0 d.size d'/\w'=sortWorldK TermV.enc 5 w blk off n d' os:=by
 have eg:∀args w,(callFunc 135 args).run Tryz.prog w= .ok (.enter 135 args) w:=enters_of Tryz.func135 (by kernel_rfl) rfl;exact AnyQ.slices_SortFunc jon 5 Tryz.isAgg183 Tryz.sizeOf183 TermV.enc (fun x=>by simp[TermV.enc,x.len]) (fun x v hv=>by
  unfold TermV.enc at hv;rcases zT.1 hv with rfl | hv
  ·rfl
  ·exact x.one v hv) TermV.cmp TermV.swo 135 #[] blk off cap d w eg (fun _ _ _ _ x y=>sort_closure x y _) hH hblk hsz
end
section
open Go.Abs Go.Sort
section
variable{α:Type}[Inhabited α]{enc:α->List Value}{k:Nat}{w:World}{b n:Nat}{d:Array α}{os:Array Obj}
theorem sw_heap{cur:Array Value}{T:TypeId}{z:Nat×Nat}(h:w.heap[b]? =some (.cells cur T z)):(sortWorldK enc k w b 0 n d os).heap[b]? =some (.cells (putCells id 0 (flatK enc k d) cur) T z):=by
 have hb:b<w.heap.size:=(zH.1 h).1;unfold sortWorldK grow putRowK putRow mapBlock Go.Sort.ahead;dsimp only;rw[yz (by rw[vu];exact hb),vv,zn rfl,h];rfl
theorem ji8{b':Nat}(h:b'≠b)(hb:b'<w.heap.size):(sortWorldK enc k w b 0 n d os).heap[b']? =w.heap[b']? :=by
 unfold sortWorldK grow putRowK putRow mapBlock Go.Sort.ahead;dsimp only;rw[yz (by rw[vu];exact hb),vv,zp (zw h)]
theorem sw_size:w.heap.size<=(sortWorldK enc k w b 0 n d os).heap.size:=by
 unfold sortWorldK grow putRowK putRow mapBlock Go.Sort.ahead;dsimp only;rw[yZ,vu];omega
theorem sw_cell{cur:Array Value}(hk:∀x,(enc x).length=k){i j:Nat}{x:α}{u:Value}(hi:d[i]? =some x)(hj:(enc x)[j]? =some u)(hc:i*k+j<cur.size):(putCells id 0 (flatK enc k d) cur)[i*k+j]? =some u:=by
 have hjk:j<k:=by rw[<-hk x];exact(zt.1 hj).1
 have hid:i<d.size:=(zH.1 hi).1;have hlt:i*k+j<d.size*k:=by
  have:=qv k (show i+1<=d.size from hid);rw[qt,vC]at this;omega
 have e1:(i*k+j)/k=i:=by rw[yU,Nat.mul_add_div (by omega),jJ hjk,Nat.add_zero]
 have e2:(i*k+j) % k=j:=by rw[yU,vE,jg hjk]
 unfold putCells;rw[Array.getElem?_mapIdx,yC hc,Option.map_some,zn ⟨zG _,by rw[size_flatK];omega⟩,Nat.sub_zero,get_flatK _ _ _ _ hlt,e1,e2];rw[jU d i hid,(zH.1 hi).2];rw[id,List.getElem!_eq_getElem?_getD,hj];rfl
end
inductive F2{α β:Type}(R:α->β->Prop):List α->List β->Prop
 | nil:F2 R [] []
 | cons {x y l m}:R x y->F2 R l m->F2 R (x::l) (y::m)
theorem F2.of{α β:Type}{R:α->β->Prop}:∀{l:List α} {m:List β},l.length=m.length->(∀(i:Nat) (x:α) (y:β),l[i]? =some x->m[i]? =some y->R x y)->F2 R l m
 | [],[],_,_=> .nil
 | x::l,y::m,h,hr=> .cons (hr 0 x y rfl rfl) (F2.of (by simpa using h) fun i a c h1 h2=>hr (i+1) a c (by simpa using h1) (by simpa using h2))
theorem F2.get{α β:Type}{R:α->β->Prop}{l:List α}{m:List β}(h:F2 R l m):∀{i:Nat} {x:α} {y:β},l[i]? =some x->m[i]? =some y->R x y:=by
 induction h with
 | nil=>intro i x y h1;simp at h1
 | cons h1 _ ih=>
  intro i x y g1 g2;cases i with
  | zero=>simp at g1 g2;subst g1 g2;exact h1
  | succ i=>exact ih (by simpa using g1) (by simpa using g2)
theorem F2.len{α β:Type}{R:α->β->Prop}{l:List α}{m:List β}(h:F2 R l m):l.length=m.length:=by
 induction h with
 | nil=>rfl
 | cons _ _ ih=>simp[ih]
theorem perm_rel{α β:Type}{R:α->β->Prop}{l l':List α}(hp:l.Perm l'):∀{m:List β},F2 R l m->∃m',m'.Perm m/\F2 R l' m':=by
 induction hp with
 | nil=>intro m h;exact⟨m,jW _,h⟩
 | cons x _ ih=>
  intro m h;cases h with
  | cons h1 h2=>
   obtain⟨m',g1,g2⟩:=ih h2;exact⟨_,g1.cons _,.cons h1 g2⟩
 | swap x y l=>
  intro m h;cases h with
  | cons h1 h2=>
   cases h2 with
   | cons h3 h4=>exact⟨_,List.Perm.swap _ _ _,.cons h3 (.cons h1 h4)⟩
 | trans _ _ ih1 ih2=>
  intro m h;obtain⟨m1,g1,g2⟩:=ih1 h;obtain⟨m2,g3,g4⟩:=ih2 g2;exact⟨m2,g3.trans g1,g4⟩
def keyC:List IV->Int
 | .sc (.int .i64 z)::_=>z
 | _=>0
theorem frozen0{w:World}{b o:Nat}{cur:Array Value}{T:TypeId}(h:w.heap[b]? =some (.cells cur T (0,0))):w.frozen? ⟨b,o,none⟩=false:=by
 simp[World.frozen?,h]
theorem cell0{w:World}{b o:Nat}{cur:Array Value}{T:TypeId}{u:Value}(h:w.heap[b]? =some (.cells cur T (0,0)))(hc:cur[o]? =some u):w.cell? ⟨b,o,none⟩=some u:=by
 simp[World.cell?,h,hc]
open Classical in
theorem w_sort{b:Nat}{es:List (List IV)}{L:Abs.Rows}(hL:Abs.look L (hp b)=some (5,es))(hlen:es.length<4611686018427387904)(hes:∀c∈es,∃z r,c= .int z::r):
  CtrH G.P 134 [.im (.ref b 183 5 es.length),.im (.clo 135 [])] L (fun r L'=>r= .im (.tup [])/\∃es':List (List IV),es'.Perm es/\(∀(i j:Nat) x y,i<j->es'[i]? =some x->es'[j]? =some y->keyC x<=keyC y)/\L'=setRow L (hp b) 5 es'):=by
 intro w M vs hM hrows hvl hargs;obtain⟨b',hb',hnM,cur,T,hcur,hclen,hcells⟩:=hrows _ _ _ hL;have hbb:=hp_inj.1 hb';subst hbb
 match vs,hvl with
 | [v0,v1],_=>
 have a0:Rep w (MoH M L) (.ref b 183 5 es.length) v0:=hargs 0 _ _ rfl rfl;have a1:Rep w (MoH M L) (.clo 135 []) v1:=hargs 1 _ _ rfl rfl;obtain⟨cp,rfl,hcp⟩:=a1.clo_inv;have hcp0:cp= #[]:=by
  have:=hcp.1;simp at this;exact vB this.symm
 subst hcp0;have a0':∃cap,v0= .slice (some ⟨b,0,none⟩) es.length cap/\es.length<=cap/\cur.size=cap*5:=by
  cases a0 with
  | ref _ _ _ _ cap cur2 g1 g2 g3 g4=>
   rw[hcur]at g1;cases g1;exact⟨cap,rfl,g2,g4⟩
 obtain⟨cap,rfl,hcap,hsz⟩:=a0';have hx:∀i,∃x:TermV,i<es.length->(∀j,j<5->cur[i*5+j]? =x.enc[j]?)/\(∀c,es[i]? =some c->x.z=keyC c):=by
  intro i;by_cases hi:i<es.length
  ·obtain⟨c,hc⟩:∃c,es[i]? =some c:=⟨_,ze hi⟩;obtain⟨z,r,rfl⟩:=hes c (zl hc);have hl5:=hclen _ (zl hc);have hr4:r.length=4:=by simpa using hl5
   match r,hr4 with
   | [r1,r2,r3,r4],_=>
    obtain⟨_,u0,c0,q0⟩:=hcells i _ 0 _ hc rfl;obtain⟨o1,u1,c1,q1⟩:=hcells i _ 1 _ hc rfl;obtain⟨o2,u2,c2,q2⟩:=hcells i _ 2 _ hc rfl;obtain⟨o3,u3,c3,q3⟩:=hcells i _ 3 _ hc rfl;obtain⟨o4,u4,c4,q4⟩:=hcells i _ 4 _ hc rfl;have e0:u0= .int .i64 z:=by cases q0;rfl
    subst e0;refine⟨⟨z,[u1,u2,u3,u4],rfl,fun v hv=> ?_⟩,fun _=>⟨fun j hj=> ?_,fun c' hc'=> ?_⟩⟩
    ·simp at hv;rcases hv with rfl | rfl | rfl | rfl
     ·exact q1.oneCell o1
     ·exact q2.oneCell o2
     ·exact q3.oneCell o3
     ·exact q4.oneCell o4
    ·match j,hj with
     | 0,_=>exact c0
     | 1,_=>exact c1
     | 2,_=>exact c2
     | 3,_=>exact c3
     | 4,_=>exact c4
    ·rw[hc]at hc';cases hc';rfl
  ·exact⟨default,fun h=>absurd h hi⟩
 obtain⟨f,hf⟩:=Classical.axiomOfChoice hx;obtain⟨d,hd⟩:∃d:Array TermV,d=((List.range es.length).map f).toArray:=⟨_,rfl⟩;have hds:d.size=es.length:=by rw[hd];simp
 have hdg:∀i,i<es.length->d[i]? =some (f i):=fun i hi=>by rw[hd];simp[hi]
 have hlen5:∀x:TermV,x.enc.length=5:=fun x=>by simp[TermV.enc,x.len]
 have hH:HoldsK TermV.enc 5 w b 0 d:=by
  unfold HoldsK Holds;intro t ht;rw[size_flatK,hds]at ht;have hi:t/5<es.length:=by omega
  have hj:t % 5<5:=by omega
  obtain⟨g1,_⟩:=hf (t/5) hi;have g2:=g1 (t % 5) hj;have ht5:t/5*5+t % 5=t:=by omega
  rw[ht5,ze (by rw[hlen5];exact hj)]at g2;refine⟨?_,frozen0 hcur⟩;rw[qD,cell0 hcur g2,get_flatK _ _ _ _ (by rw[hds];exact ht),jU d _ (by omega),(zH.1 (hdg _ hi)).2,jU _ _ (by rw[hlen5];exact hj)];rfl
 have hblk:b<w.heap.size:=(zH.1 hcur).1;have hcall:=sort_calls b 0 cap d w hH hblk (by omega);rw[hds]at hcall;refine hcall.mono ?_;rintro e w' ⟨rfl,d',n,os,hperm,hsorted,rfl⟩;have hR:F2 (fun(x:TermV) (c:List IV)=>x.z=keyC c/\c.length=5/\∀(j:Nat) y u,c[j]? =some y->x.enc[j]? =some u->y.one=true/\Rep w (MoH M L) y u) d.toList es:=by
  refine F2.of (by rw[Array.length_toList,hds]) fun i x c h1 h2=> ?_;have hi:=(zt.1 h2).1;have hxi:x=f i:=by
   have:=hdg i hi;rw[qm]at h1;rw[this]at h1;exact(jP h1).symm
  subst hxi;obtain⟨g1,g2⟩:=hf i hi;have hl5:=hclen c (zl h2);refine⟨g2 c h2,hl5,fun j y u hy hu=> ?_⟩;obtain⟨o,u',c',q⟩:=hcells i c j y h2 hy;have hj:j<5:=by rw[<-hl5];exact(zt.1 hy).1
  rw[g1 j hj,hu]at c';cases c';exact⟨o,q⟩
 obtain⟨hp1,_,hp2⟩:=hperm;have hd's:d'.size=es.length:=by rw[hp1,hds]
 have hpl:d.toList.Perm d'.toList:=by
  have e1:(d'.extract 0 es.length)=d':=by rw[<-hd's];simp
  have e2:(d.extract 0 es.length)=d:=by rw[<-hds];simp
  rw[e1,e2]at hp2;exact hp2.symm
 obtain⟨es',hpe,hR'⟩:=perm_rel hpl hR;have hle:es'.length=es.length:=hpe.length_eq;have hMo:MoH M (setRow L (hp b) 5 es')=MoH M L:=by
  funext b1 o;unfold MoH;rw[jby]
 have hshp:Shp w (sortWorldK TermV.enc 5 w b 0 n d' os):=fun b1 c1 T1 h1=>by
  by_cases e:b1=b
  ·subst e;refine⟨_,sw_heap h1,?_⟩;unfold putCells;rw[Array.size_mapIdx]
  ·exact⟨c1,by rw[ji8 e (zH.1 h1).1];exact h1,rfl⟩
 have hbM:∀o,MoH M L b o:=fun o=> .inr (by rw[hL];rfl);have hkept:Kept w (MoH M L) (sortWorldK TermV.enc 5 w b 0 n d' os) (MoH M L):=by
  refine⟨fun b1 o u hc hm=>⟨?_,hm⟩,fun b1 me c hc hm=>⟨?_,hm⟩,hshp⟩
  ·have e:b1≠b:=fun e=>by subst e;exact hm (hbM o)
   rw[World.cell?_of_block (w:=w) (a:=⟨b1,o,none⟩) (ji8 e (World.block_lt_of_cell? (a:=⟨b1,o,none⟩) w hc))];exact hc
  ·have e:b1≠b:=fun e=>by subst e;exact hm (hbM 0)
   rw[ji8 e (zH.1 hc).1];exact hc
 refine⟨.im (.tup []),.tuple #[],_,⟨rfl,es',hpe,fun i j x y hij h1 h2=> ?_,rfl⟩,rfl,rfl,⟨rfl,rfl,rfl,sw_size,fun k hk=> ?_,hshp⟩,fun k s es2 hk=> ?_,Rep.tup _ _ rfl fun k x v h=>(by simp at h)⟩
 ·have hi:=(zt.1 h1).1;have hj:=(zt.1 h2).1;have hdi:d'.toList[i]? =some d'[i]! :=by
   rw[qm,yC (by omega),jU d' i (by omega)]
  have hdj:d'.toList[j]? =some d'[j]! :=by
   rw[qm,yC (by omega),jU d' j (by omega)]
  have r1:=(hR'.get hdi h1).1;have r2:=(hR'.get hdj h2).1;have:=hsorted i j (zG _) hij (by omega);rw[TermV.lt]at this;have:=zK this;rw[<-r1,<-r2];omega
 ·obtain⟨k1,k2⟩:=hk;exact ji8 (fun e=>by subst e;rw[hL]at k2;cases k2) k1
 ·by_cases e:k=hp b
  ·subst e;rw[jc5 (by rw[hL];rfl)]at hk;cases hk;refine⟨b,rfl,.inl (by rw[hL];rfl),_,T,sw_heap hcur,fun c hc=> ?_,fun i c j y hi hj=> ?_⟩
   ·exact hclen c (hpe.mem_iff.1 hc)
   ·have hil:=(zt.1 hi).1;have hdi:d'.toList[i]? =some d'[i]! :=by
     rw[qm,yC (by omega),jU d' i (by omega)]
    obtain⟨_,r2,r3⟩:=hR'.get hdi hi;have hj5:j<5:=by rw[<-r2];exact(zt.1 hj).1
    have hu:(d'[i]!).enc[j]? =some ((d'[i]!).enc[j]'(by rw[hlen5];exact hj5)):=ze _;obtain⟨o,q⟩:=r3 j y _ hj hu;refine⟨o,_,sw_cell hlen5 (by rw[<-qm];exact hdi) hu (by omega),?_⟩;rw[hMo];exact q.kept hkept
  ·rw[jck e]at hk;obtain⟨b1,rfl,h2,c1,T1,g1,g2,g3⟩:=hrows k s es2 hk;have e1:b1≠b:=fun h=>e (by rw[h]);refine⟨b1,rfl,.inl (by rw[hk];rfl),c1,T1,by rw[ji8 e1 (zH.1 g1).1];exact g1,g2,fun i c j y hi hj=> ?_⟩;obtain⟨o,u,q1,q2⟩:=g3 i c j y hi hj;exact⟨o,u,q1,by rw[hMo];exact q2.kept hkept⟩
theorem w_sort0:Ctr G.P 134 [.sl [],.clo 135 []] (· = .tup []):=by
 intro w M vs hM hr
 match vs,hr.1 with
 | [v0,v1],_=>
  have a0:Rep w M (.sl []) v0:=hr.2 0 _ _ rfl rfl;obtain⟨p,c,rfl⟩:∃p c,v0= .slice p 0 c:=by
   rcases a0.sl_inv with ⟨_,a,c,rfl⟩ | ⟨s',b,o,c,u,hne,_⟩
   ·exact⟨_,_,rfl⟩
   ·exact absurd rfl hne
  refine Calls.mono (AnyF.slices_SortFunc_none jon p c v1 w) ?_;rintro e w' ⟨rfl,rfl⟩;exact⟨.tup [],_,rfl,rfl,Rep.tup _ _ rfl fun k x v h=>(by simp at h),Go.RowKit.Below.refl _ _⟩
end
section
open Go.Abs
attribute [local go_sem] ints ic big
end
section
open Go.Abs
attribute [local go_sem] ints ic big
theorem jm1(z:Int)(h:(dig z.natAbs).length<=1000000000000):Ctr G.P 109 [big z] (· =big (-z)):=by
 have rz:=jcs z (by omega);have hc:=jhu (dig z.natAbs) (by omega);have hs:=jeg (0-z.sign) (-z) z.natAbs (by rw[ye]) (fun _=>by rw[Int.sign_neg];omega) (by rw[ye];omega);have w:=ja9 (n:=0-z.sign) (by have:=jiy z;omega);refine ja4 [.cell 2 67] Tryz.func109 ?_;simp only[go_sem];refine ja1 rz ?_;simp only[go_sem];refine jam ?_;simp only[w,go_sem];refine ja6 hc (by decide) ?_;simp only[go_sem];refine ja6 hs (by decide) ?_;simp only[go_sem]
theorem t_or(a b:Int):Ctr G.P 127 [.sl [[.int a],[.int b]]] (· = .int (if a=0 then b else a)):=by
 refine ja4 [.tmp 2] Tryz.func127 ?_;simp only[go_sem];refine jao [3,6,7,8] [] (fun i:Nat=>⟨[(3,.im (.int 0)),(6,.im (.sl [[.int a],[.int b]])),(7,.im (.int 2)),(8,.im (.int i))],[],[]⟩)
  (fun i=>i<=2/\(1<=i->a=0)/\(2<=i->b=0)) (fun i=>2-i) 0 ?_ ⟨by omega,by omega,by omega⟩ ?_
 ·simp only[go_sem]
 intro i ⟨hi,h1,h2⟩
 match i,hi,h1,h2 with
 | 0,_,_,_=>
  simp only[go_sem];refine jde (fun d d'=> ?_) (fun d d'=> ?_)
  ·simp only[d,go_sem];refine jad 1 ?_ (by omega) ⟨by omega,fun _=>d',by omega⟩;simp only[show IntKind.i64.wrap 1=1 from by decide,go_sem]
  ·rw[zp d'];simp only[d,go_sem]
 | 1,_,h1,_=>
  rw[zn (h1 (by omega))];simp only[go_sem];refine jde (fun d d'=> ?_) (fun d d'=> ?_)
  ·simp only[d,go_sem];refine jad 2 ?_ (by omega) ⟨by omega,fun _=>h1 (by omega),fun _=>d'⟩;simp only[show IntKind.i64.wrap 2=2 from by decide,go_sem]
  ·simp only[d,go_sem]
 | 2,_,h1,h2=>
  rw[zn (h1 (by omega)),h2 (by omega)];simp only[go_sem]
theorem add_same{a b:Int}(h:0<=a.sign*b.sign):a.natAbs+b.natAbs=(a+b).natAbs/\(a+b≠0->(if a.sign=0 then b.sign else a.sign)=(a+b).sign):=by
 rcases qZ a 0 with ha | ha | ha
 ·have e1:=zR ha;have hb:b<=0:=by
   rcases yn 0 b with h1 | h1
   ·rw[e1,zW h1]at h;omega
   ·exact h1
  refine⟨by omega,fun _=> ?_⟩;rw[e1,zR (show a+b<0 by omega)];rfl
 ·subst ha;refine⟨by simp,fun _=> ?_⟩;simp
 ·have e1:=zW ha;have hb:0<=b:=by
   rcases yn b 0 with h1 | h1
   ·rw[e1,zR h1]at h;omega
   ·exact h1
  refine⟨by omega,fun _=> ?_⟩;rw[e1,zW (show 0<a+b by omega)];rfl
theorem js1{a b:Int}(h:¬0<=a.sign*b.sign)(hl:a.natAbs<b.natAbs):b.natAbs-a.natAbs=(a+b).natAbs/\b.sign=(a+b).sign:=by
 rcases qZ a 0 with ha | ha | ha
 ·have e1:=zR ha;have hb:0<b:=by
   rcases yn 0 b with h1 | h1
   ·exact h1
   ·rw[e1]at h;have:b.sign<=0:=by
     rcases yn b 0 with h2 | h2
     ·rw[zR h2];omega
     ·have:b=0:=by omega
      subst this;simp
    omega
  refine⟨by omega,?_⟩;rw[zW hb,zW (by omega)]
 ·subst ha;simp at h
 ·have e1:=zW ha;have hb:b<0:=by
   rcases yn b 0 with h1 | h1
   ·exact h1
   ·rw[e1]at h;have:0<=b.sign:=by
     rcases yn 0 b with h2 | h2
     ·rw[zW h2];omega
     ·have:b=0:=by omega
      subst this;simp
    omega
  refine⟨by omega,?_⟩;rw[zR hb,zR (by omega)]
theorem cmpI_lt{a b:Int}:cmpI a b<0↔a<b:=by
 unfold cmpI;split<;>(try split)<;>omega
theorem t_paddb(a b:Int)(la:(dig a.natAbs).length<=90000000000)(lb:(dig b.natAbs).length<=90000000000):Ctr G.P 103 [big a,big b] (· = .tup [big (a+b),.int 0]):=by
 have ra:=jcs a (by omega);have rb:=jcs b (by omega);have hc:=jke (a+b);have ls:=jiy a;have lt:=jiy b;have w:=ja9 (n:=a.sign*b.sign) (by rw[<-vp];have:=jiy (a*b);omega);have hlen:(dig (a+b).natAbs).length<=1000000000000:=by have:=len_add (k:=90000000000) la lb (by omega:(a+b).natAbs<=a.natAbs+b.natAbs);omega
 simp only[big,ints]at ra rb hc;by_cases h1:0<=a.sign*b.sign
 ·have d1:decide (0<=a.sign*b.sign)=true:=zk h1;obtain⟨e1,e2⟩:=add_same h1;have ho:=t_or a.sign b.sign;have ht:=t_padd (dig a.natAbs) (dig b.natAbs) (jc6 _) (jc6 _) (by omega) (by omega);rw[jb7,jb7,<-Int.natCast_add,Int.toNat_natCast]at ht;have hs:=jeg (if a.sign=0 then b.sign else a.sign) (a+b) (a.natAbs+b.natAbs) e1 e2 hlen;simp only[big,ints]at ht hs;generalize (if a.sign=0 then b.sign else a.sign)=sg at*;refine ja4 [.cell 4 67,.tmp 5] Tryz.func103 ?_;simp only[go_sem];refine ja1 ra ?_;simp only[go_sem];refine ja1 rb ?_;simp only[w,d1,go_sem];refine jam ?_;simp only[go_sem];refine ja6 ho (by decide) ?_;simp only[go_sem];refine ja6 ht (by decide) ?_;simp only[go_sem];refine ja6 hs (by decide) ?_;simp only[go_sem];refine ja6 hc (by decide) ?_;simp only[go_sem]
 ·have d1:decide (0<=a.sign*b.sign)=false:=za h1;have hk:=jfs a.natAbs b.natAbs (by omega) (by omega);by_cases h2:a.natAbs<b.natAbs
  ·have d2:decide (cmpI (a.natAbs:Int) (b.natAbs:Int)<0)=true:=zk (cmpI_lt.2 (by omega));obtain⟨e1,e2⟩:=js1 h1 h2;have ht:=t_psub (dig b.natAbs) (dig a.natAbs) (jc6 _) (jc6 _) (by rw[jb7,jb7];omega) (by omega) (by omega);rw[jb7,jb7,show((b.natAbs:Int)-(a.natAbs:Int)).toNat=b.natAbs-a.natAbs by omega]at ht;have hs:=jeg b.sign (a+b) (b.natAbs-a.natAbs) e1 (fun _=>e2) hlen;simp only[big,ints]at ht hs hk;refine ja4 [.cell 4 67,.tmp 5] Tryz.func103 ?_;simp only[go_sem];refine ja1 ra ?_;simp only[go_sem];refine ja1 rb ?_;simp only[w,d1,go_sem];refine ja1 hk ?_;simp only[d2,go_sem];refine jam ?_;simp only[go_sem];refine ja6 ht (by decide) ?_;simp only[go_sem];refine ja6 hs (by decide) ?_;simp only[go_sem];refine ja6 hc (by decide) ?_;simp only[go_sem]
  ·have d2:decide (cmpI (a.natAbs:Int) (b.natAbs:Int)<0)=false:=za (fun h=>by rw[cmpI_lt]at h;omega);have e12:a.natAbs-b.natAbs=(a+b).natAbs/\(a+b≠0->a.sign=(a+b).sign):=by
    by_cases h3:a.natAbs=b.natAbs
    ·have:a+b=0:=by
      rcases Int.natAbs_eq_natAbs_iff.1 h3 with h4 | h4
      ·subst h4;refine absurd ?_ h1;rcases qZ a 0 with h5 | h5 | h5
       ·rw[zR h5];decide
       ·rw[h5];decide
       ·rw[zW h5];decide
      ·omega
     rw[this];exact⟨by simp;omega,fun h=>absurd rfl h⟩
    ·have h5:¬0<=b.sign*a.sign:=by rw[yf];exact h1
     obtain⟨f1,f2⟩:=js1 h5 (by omega);rw[Int.add_comm]at f1 f2;exact⟨f1,fun _=>f2⟩
   have ht:=t_psub (dig a.natAbs) (dig b.natAbs) (jc6 _) (jc6 _) (by rw[jb7,jb7];omega) (by omega) (by omega);rw[jb7,jb7,show((a.natAbs:Int)-(b.natAbs:Int)).toNat=a.natAbs-b.natAbs by omega]at ht;have hs:=jeg a.sign (a+b) (a.natAbs-b.natAbs) e12.1 e12.2 hlen;simp only[big,ints]at ht hs hk;refine ja4 [.cell 4 67,.tmp 5] Tryz.func103 ?_;simp only[go_sem];refine ja1 ra ?_;simp only[go_sem];refine ja1 rb ?_;simp only[w,d1,go_sem];refine ja1 hk ?_;simp only[d2,go_sem];refine jam ?_;simp only[go_sem];refine ja6 ht (by decide) ?_;simp only[go_sem];refine ja6 hs (by decide) ?_;simp only[go_sem];refine ja6 hc (by decide) ?_;simp only[go_sem]
end
section
open Go.Abs
attribute [local go_sem] ints ic big mb20 pw20 fd20
theorem and20u(n:Int)(h:0<=n/\n<18446744073709551616):bits .and .u64 n 1048575=n % 1048576:=by
 have h2:bits .and .u64 n 1048575=IntKind.u64.wrap ((BitVec.ofInt 64 n&&&BitVec.ofInt 64 1048575).toNat:Nat):=rfl;rw[h2,BitVec.toNat_and,jcv,jcv,jF (by omega) (by omega),show((1048575:Int) % 18446744073709551616).toNat=2^20-1 from rfl,jK];rw[u64_in _ (by omega)];omega
theorem jod(s z:Int)(l:List Int)(hl:OkD l)(hv:val l=z.natAbs)(hs:z≠0->s=z.sign)(h:l.length<=1000000000000):Ctr G.P 116 [.int s,ints l] (· =big z):=by
 have ht:=jf5 l hl h;rw[hv,Int.toNat_natCast]at ht;by_cases hz:z=0
 ·subst hz;rw[Int.natAbs_zero,jc4]at ht;simp only[big,Int.natAbs_zero,jc4,Int.sign_zero];refine ja4 [.cell 4 67] Tryz.func116 ?_;simp only[go_sem];refine ja1 ht ?_;simp only[List.length_nil,Int.natCast_zero,j0,zE,go_sem]
 ·have hne:decide (((dig z.natAbs).length:Int)=0)=false:=za fun h=>by
   have:dig z.natAbs=[]:=jz.1 (by omega);rw[dig_nil]at this;omega
  rw[hs hz];refine ja4 [.cell 4 67] Tryz.func116 ?_;simp only[go_sem];refine ja1 ht ?_;simp only[hne,go_sem]
theorem t_pof(z:Int)(hz: -9223372036854775808<=z/\z<=9223372036854775807):Ctr G.P 102 [.int z] (· =big z):=by
 by_cases h0:z<0
 ·have d1:decide (z<0)=true:=zk h0;have w1:IntKind.u64.wrap (0-IntKind.u64.wrap z)=z.natAbs:=by
   rw[IntKind.wrap_u64,IntKind.wrap_u64];omega
  obtain⟨sg,hsg,e⟩:∃sg:Int,(z≠0->sg=z.sign)/\sg= -1:=⟨-1,fun _=>(zR h0).symm,rfl⟩;refine ja4 [.cell 2 67] Tryz.func102 ?_;simp only[d1,w1,go_sem];rw[<-e];refine jg5 [2,3,4,5] [2,21] [(5,21,3,1)] (fun g:Int×List Int=>⟨[(2,.loc 2 2 0 0),(3,.im (.int sg)),(4,.im (.sc (.int .u64 g.1))),(5,.vec 21 3 1 (g.2.map ic))],[(2,2,[[.int 0,.sl []]])],[(21,1,g.2.length)]⟩)
   (fun g=>(0<=g.1/\g.1<=z.natAbs)/\OkD g.2/\val g.2+1048576^g.2.length*g.1=z.natAbs/\(g.2.length<=4/\g.1<1048576^(4-g.2.length))) (fun g=>g.1.toNat) ((z.natAbs:Int),[]) ?_ ?_ ⟨by dsimp only;omega,OkD.nil,by simp[val],by dsimp only;simp;omega⟩ ?_
  ·simp only[go_sem];simp
  ·simp only[zE,go_sem]
  ·intro⟨n,l⟩ ⟨⟨n0,n1⟩,hl,hv,hlen,hlt⟩;dsimp only at n0 n1 hl hv hlen hlt;by_cases hn:n=0
   ·subst hn;rw[yj,yw]at hv;have hm:=jod sg z l hl hv hsg (by omega);simp only[go_sem];refine ja1 hm ?_;simp only[go_sem]
   ·have dn:decide (0<n)=true:=zk (by omega);have ha:=and20u n (by omega);have hc:=ja9 (n:=n % 1048576) (by omega);simp only[dn,ha,hc,go_sem];refine⟨jp7 _,by simp,by omega,?_⟩;refine jad (n/1048576,l++[n % 1048576]) ?_ (by dsimp only;omega) ⟨by dsimp only;omega,hl.append (OkD.cons (by omega) OkD.nil),of_step hv,by dsimp only;rw[zF,List.length_cons,List.length_nil];exact of_len hn n0 hlen hlt⟩;simp only[qp,zF,go_sem]
 ·have d1:decide (z<0)=false:=za h0;have w1:IntKind.u64.wrap z=z.natAbs:=by
   rw[IntKind.wrap_u64];omega
  obtain⟨sg,hsg,e⟩:∃sg:Int,(z≠0->sg=z.sign)/\sg=1:=⟨1,fun h=>(zW (by omega)).symm,rfl⟩;refine ja4 [.cell 2 67] Tryz.func102 ?_;simp only[d1,w1,go_sem];rw[<-e];refine jg5 [2,3,4,5] [2,21] [(5,21,3,1)] (fun g:Int×List Int=>⟨[(2,.loc 2 2 0 0),(3,.im (.int sg)),(4,.im (.sc (.int .u64 g.1))),(5,.vec 21 3 1 (g.2.map ic))],[(2,2,[[.int 0,.sl []]])],[(21,1,g.2.length)]⟩)
   (fun g=>(0<=g.1/\g.1<=z.natAbs)/\OkD g.2/\val g.2+1048576^g.2.length*g.1=z.natAbs/\(g.2.length<=4/\g.1<1048576^(4-g.2.length))) (fun g=>g.1.toNat) ((z.natAbs:Int),[]) ?_ ?_ ⟨by dsimp only;omega,OkD.nil,by simp[val],by dsimp only;simp;omega⟩ ?_
  ·simp only[go_sem];simp
  ·simp only[zE,go_sem]
  ·intro⟨n,l⟩ ⟨⟨n0,n1⟩,hl,hv,hlen,hlt⟩;dsimp only at n0 n1 hl hv hlen hlt;by_cases hn:n=0
   ·subst hn;rw[yj,yw]at hv;have hm:=jod sg z l hl hv hsg (by omega);simp only[go_sem];refine ja1 hm ?_;simp only[go_sem]
   ·have dn:decide (0<n)=true:=zk (by omega);have ha:=and20u n (by omega);have hc:=ja9 (n:=n % 1048576) (by omega);simp only[dn,ha,hc,go_sem];refine⟨jp7 _,by simp,by omega,?_⟩;refine jad (n/1048576,l++[n % 1048576]) ?_ (by dsimp only;omega) ⟨by dsimp only;omega,hl.append (OkD.cons (by omega) OkD.nil),of_step hv,by dsimp only;rw[zF,List.length_cons,List.length_nil];exact of_len hn n0 hlen hlt⟩;simp only[qp,zF,go_sem]
end
section
open Go.Abs
attribute [local go_sem] ints ic big frac
theorem jmm{p q:Int}(hq:0<q):(Rat.divInt p q).num=p/(Nat.gcd p.natAbs q.natAbs:Nat)/\((Rat.divInt p q).den:Int)=q/(Nat.gcd p.natAbs q.natAbs:Nat):=by
 have hg:(Int.gcd q p:Nat)=Nat.gcd p.natAbs q.natAbs:=Nat.gcd_comm ..;constructor
 ·rw[Rat.num_divInt,zW hq,yH,hg]
 ·rw[Rat.den_divInt,zp (by omega),hg,Int.natCast_ediv,Int.natAbs_of_nonneg (by omega)]
end
section
open Go.Abs
attribute [local go_sem] ints ic big frac
end
section
open Go.Abs
attribute [local go_sem] ints ic big frac
theorem jcp{a b:Int}{k m:Nat}(ha:(dig a.natAbs).length<=k)(hb:(dig b.natAbs).length<=m):(dig (a*b).natAbs).length<=k+m:=by
 rw[jd];exact jl0 ha hb
theorem jh8(a:Rat):(a.den:Int)≠0:=by have:=a.den_nz;omega
