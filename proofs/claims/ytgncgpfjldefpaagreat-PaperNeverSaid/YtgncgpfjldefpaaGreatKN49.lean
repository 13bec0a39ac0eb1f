/- A part of the proof. No further condition. -/
import Derived.Test.YtgncgpfjldefpaaGreatKN48
import Derived.ChangeArms
import Derived.DataReads
import Derived.Deep.Slices
set_option linter.all false
set_option maxRecDepth 10000000
set_option maxHeartbeats 16000000
namespace Go.Proofs.YtgncgpfjldefpaaGreat
section
open Go.Abs
open Go.LP (Rw RT tsum Sol Bds ksum)
attribute [local go_sem] ints ic Evid.c Evid.iv Bat.c Led.c
def jey(H:List (List Rat))(m:Int)(mv:List Int):Rat:=match je4 H ((0:Int):Rat) (mv.map fun i=>(i,m))with
 | some v=>v
 | none=>Rat.divInt 0 1
theorem pb_moved{e:Evid}{h:List (List Raw)}{H:List (List Rat)}(ho:HistOf e h H)(hHl:H.length<=100000)(m:Int)(mv:List Int)(hl:mv.length<=1000):Ctr G.P 25 [hist h,.int m,ints mv] (· =frac (jey H m mv)):=by
 have kM:=h_mass ho (mv.map fun i=>(i,m)) (by rw[zw];omega) hHl;have kI:=t_intf 0 (by omega);have e1:(mv.map fun i=>(i,m)).map (fun p:Int×Int=>[IV.int p.1,IV.int p.2])=mv.map (pk1 m):=by rw[q9];rfl
 rw[e1]at kM;unfold jey;simp only[hist]at kM⊢;generalize je4 H ((0:Int):Rat) (mv.map fun i=>(i,m))=z at*;clear e1;refine ja3 [.cell 6 69] Tryz.func25 ?_;simp only[go_sem];refine jd5 [0,1,2,6,7,8] [6,26] [(7,26,105,2)] (fun n:Nat=>⟨[(0,.im (.sl (h.map rowC))),(1,.im (.int m)),(2,.im (.sl (mv.map ic))),(6,.loc 6 4 0 0),(7,.vec 26 105 2 ((mv.take n).map (pk1 m))),(8,.im (.int n))],[(6,4,[[.int 0,.sl [],.int 0,.sl []]])],[(26,2,n)]⟩)
  (fun n=>n<=mv.length) (fun n=>mv.length-n) 0 ?_ ?_ (zF _) ?_
 ·simp only[go_sem];simp
 ·simp only[Int.natCast_zero,List.take_zero,zC,go_sem]
 intro n hn;by_cases hp:(n:Int)<mv.length
 ·have hd:decide ((n:Int)<mv.length)=true:=zk hp;obtain⟨x,hx⟩:=jb9 hp;have h1:=ja6 (n:=(n:Int)+1) (by omega);have hin:n<mv.length:=by omega
  have hlt:(mv.take n).length=n:=by rw[qa];omega
  have htk:(mv.take (n+1)).map (pk1 m)=(mv.take n).map (pk1 m)++[[.int x,.int m]]:=by rw[take_succ hx,ql];rfl
  have hle:(n+1)*16<=140737488355328:=by omega
  clear kM;simp only[hd,zq,hx,hin,hlt,zw,hle,go_sem];refine And.intro (fun c hc=> ?_) (And.intro (fun c hc=> ?_) ?_)
  ·obtain⟨z,_,rfl⟩:=qy.1 hc;rfl
  ·rw[zE.1 hc];rfl
  refine ja7 (n+1) ?_ ?_ ?_
  ·simp only[h1,Int.natCast_add,htk,go_sem]
  ·show mv.length-(n+1)<mv.length-n;omega
  ·show n+1<=mv.length;omega
 have hd:decide ((n:Int)<mv.length)=false:=za hp;have hne:n=mv.length:=by omega
 subst hne;have htl:mv.take mv.length=mv:=qD;rcases z with _ | v
 ·simp only[jk3,frac]at*;simp only[hd,zw,htl,go_sem];refine ja1 kM ?_;simp only[go_sem];refine ja1 kI ?_;simp only[go_sem]
 ·simp only[jk3,frac]at*;simp only[hd,zw,htl,go_sem];refine ja1 kM ?_;simp only[go_sem]
def cOf(nf:Int×Int):Int:=if nf.2=0 then nf.1 else 0
def cC(nf:Int×Int):List IV:=[.int (cOf nf)]
theorem pb_certs{e:Evid}(hs:SmallE e)(p:Led)(hb:∀b∈p.bs,b.mv.length<=1000)(hl:p.bs.length<=100):∃cert,CertL e p.bs cert/\Ctr G.P 22 [e.iv,.agg p.c] (· =ints cert):=by
 have hall:∀b:Bat,∃nf:Int×Int,b.mv.length<=1000->CSay e b nf.1 nf.2/\Ctr G.P 20 [e.iv,.agg b.c] (· = .tup [.int nf.1,.int nf.2]):=fun b=>by
  by_cases h:b.mv.length<=1000
  ·obtain⟨n,f,h1,h2⟩:=pb_certain b hs h;exact⟨(n,f),fun _=>⟨h1,h2⟩⟩
  ·exact⟨(0,0),fun h'=>absurd h' h⟩
 obtain⟨N,hN⟩:=Classical.axiomOfChoice hall;refine⟨p.bs.map fun b=>cOf (N b),⟨zw _,fun k b n hk hn=> ?_⟩,?_⟩
 ·rw[zq,hk]at hn;injection hn with hn;exact⟨_,_,(hN b (hb b (zl hk))).1,hn.symm⟩
 have kC:∀b∈p.bs,Ctr G.P 20 [e.iv,.agg b.c] (· = .tup [.int (N b).1,.int (N b).2]):=fun b hk=>(hN b (hb b hk)).2;clear hN hall hs;simp only[Evid.iv,Evid.c]at*;have ecs:ints (p.bs.map fun b=>cOf (N b))= .sl (p.bs.map fun b=>cC (N b)):=by unfold ints;rw[q9];rfl
 rw[ecs];refine ja3 [.tmp 4] Tryz.func22 ?_;simp only[go_sem];refine jd5 [2,3,5,6] [3,2,32] [(5,32,3,1)] (fun k:Nat=>⟨[(2,.loc 2 8 0 0),(3,.loc 3 2 0 0),(5,.vec 32 3 1 ((p.bs.take k).map fun b=>cC (N b))),(6,.im (.int k))],[(3,2,[p.c]),(2,8,[e.c])],[(32,1,k)]⟩)
  (fun k=>k<=p.bs.length) (fun k=>p.bs.length-k) 0 ?_ ?_ (zF _) ?_
 ·simp only[go_sem];simp
 ·simp only[Int.natCast_zero,List.take_zero,zC,go_sem]
 intro k hk;by_cases hp:(k:Int)<p.bs.length
 ·have hd:decide ((k:Int)<p.bs.length)=true:=zk hp;obtain⟨b,hx⟩:=jb9 hp;have h1:=ja6 (n:=(k:Int)+1) (by omega);have hin:k<p.bs.length:=by omega
  have hlt:(p.bs.take k).length=k:=by rw[qa];omega
  have htk:(p.bs.take (k+1)).map (fun b=>cC (N b))=(p.bs.take k).map (fun b=>cC (N b))++[[.int (cOf (N b))]]:=by rw[take_succ hx,ql];rfl
  have hle:(k+1)*8<=140737488355328:=by omega
  have kB:=kC b (zl hx);clear kC;obtain⟨n,f,hnf⟩:∃n f,N b=(n,f):=⟨_,_,rfl⟩;rw[hnf]at htk kB;dsimp only at kB;simp only[hd,zq,hx,hin,zw,go_sem];refine jaf 12 ?_;simp only[hd,zq,hx,hin,zw,go_sem];refine ja5 kB (by decide) ?_;simp only[go_sem];rcases dz:decide (f=0)with _ | _
  ·rw[show cOf (n,f)=0 from zp (zK dz)]at htk;simp only[dz,hlt,zw,hle,go_sem];refine And.intro (fun c hc=> ?_) (And.intro (fun c hc=> ?_) ?_)
   ·obtain⟨z,_,rfl⟩:=qy.1 hc;rfl
   ·rw[zE.1 hc];rfl
   refine ja7 (k+1) ?_ ?_ ?_
   ·simp only[h1,Int.natCast_add,htk,go_sem]
   ·show p.bs.length-(k+1)<p.bs.length-k;omega
   ·show k+1<=p.bs.length;omega
  ·rw[show cOf (n,f)=n from zm (zJ dz)]at htk;simp only[dz,hlt,zw,hle,go_sem];refine And.intro (fun c hc=> ?_) (And.intro (fun c hc=> ?_) ?_)
   ·obtain⟨z,_,rfl⟩:=qy.1 hc;rfl
   ·rw[zE.1 hc];rfl
   refine ja7 (k+1) ?_ ?_ ?_
   ·simp only[h1,Int.natCast_add,htk,go_sem]
   ·show p.bs.length-(k+1)<p.bs.length-k;omega
   ·show k+1<=p.bs.length;omega
 have hd:decide ((k:Int)<p.bs.length)=false:=za hp;have hne:k=p.bs.length:=by omega
 subst hne;have htl:p.bs.take p.bs.length=p.bs:=qD;simp only[hd,zw,htl,go_sem]
end
section
open Go.Abs
open Go.LP (Rw RT tsum Sol Bds ksum)
theorem jkv(k:Int):∀(A:List Bool) (ps:List Pap),(∀x∈ps,0<=x.grams)->0<=stSum k A ps
 | [],ps,_=>by cases ps<;>simp[stSum]
 | _::_,[],_=>by simp[stSum]
 | b::A,x::r,h=>by
  have h1:=jkv k A r fun z hz=>h z (by simp[hz]);have h2:=h x (by simp);rw[stSum];split<;>omega
theorem jpo{H:List (List Rat)}(hH:∀l∈H,∀r∈l,FL 3 r):∀(ps:List (Int×Int)) (a v:Rat) (k:Nat),FL k a->je4 H a ps=some v->FL (k+4*ps.length) v
 | [],a,v,k,ha,hv=>by
  simp only[je4,z7]at hv;rw[<-hv];exact ha
 | p::r,a,v,k,ha,hv=>by
  rw[je4]at hv;split at hv
  ·rename_i hc;obtain⟨p1,p2,p3,p4⟩:=hc;have hlt:p.1.toNat<H.length:=by omega
   have hrow:H.getD p.1.toNat []=H[p.1.toNat]:=by rw[zN,ze hlt];rfl
   rw[hrow]at p4 hv;have hlt2:p.2.toNat<H[p.1.toNat].length:=by omega
   have hr2:H[p.1.toNat].getD p.2.toNat 0=H[p.1.toNat][p.2.toNat]:=by rw[zN,ze hlt2];rfl
   rw[hr2]at hv;have:=jpo hH r _ v (k+3+1) (ji0 ha (hH _ (yG hlt) _ (yG hlt2))) hv;rw[List.length_cons];exact this.mono (by omega)
  ·cases hv
theorem div_one(s:Int):Rat.divInt s 1=(s:Rat):=yY (s:Rat)
theorem cmp_le{s:Int}{v:Rat}(h:(s:Rat)<=v):decide (0<cmpR (Rat.divInt s 1) v)=false:=by
 rw[div_one];exact za fun hc=>absurd (cmpR_pos.1 hc) (Rat.not_lt.2 h)
section
variable{e:Evid}{h:List (List Raw)}{H:List (List Rat)}
theorem moved_fl(ho:HistOf e h H)(m:Int)(mv:List Int)(hl:mv.length<=1000):FL 5000 (jey H m mv):=by
 unfold jey;cases hz:je4 H ((0:Int):Rat) (mv.map fun i=>(i,m))with
 | none=>rw[div_one];exact(jc4 (by omega)).mono (by omega)
 | some v=>
  have:=jpo (fun l hl=>(ho.row l hl).2) _ _ v 4 (jc4 (by omega)) hz;rw[zw]at this;exact this.mono (by omega)
theorem moved_nonneg(ho:HistOf e h H)(hx:Sol (nV e) (rowsE e) (ptH e.mats.toNat H))(m:Int)(mv:List Int):0<=jey H m mv:=by
 unfold jey;cases hz:je4 H ((0:Int):Rat) (mv.map fun i=>(i,m))with
 | none=>decide
 | some v=>exact jmq ho hx _ _ v (by decide) hz
theorem jrx(ho:HistOf e h H){m:Int}{mv:List Int}(hm:0<=m/\m<e.mats)(hi:∀i∈mv,0<=i/\i<(e.moves.length:Int)):jey H m mv=ksum (mv.map fun i=>pickK e.mats.toNat (i,m)) (ptH e.mats.toNat H):=by
 unfold jey;rw[jpp ho _ _ fun p hp=>by obtain⟨i,h1,rfl⟩:=qy.1 hp;exact⟨hi i h1,hm⟩];dsimp only;rw[q9,show((0:Int):Rat)=0 from rfl,Rat.zero_add];rfl
theorem jpm{p:Led}{cert:List Int}(hp:jbh p=true)(hc:CertL e p.bs cert)(h6:e.moves.length<=6)(ho:HistOf e h H)(hx:Sol (nV e) (rowsE e) (ptH e.mats.toNat H)){k:Nat}{b:Bat}(hk:p.bs[k]? =some b):
  (0<=stSum k (jd1 p cert) p.ps/\stSum k (jd1 p cert) p.ps<=9223372036854775807)/\((stSum k (jd1 p cert) p.ps:Int):Rat)<=massB e (ptH e.mats.toNat H) b/\massB e (ptH e.mats.toNat H) b<=jey H b.mat b.mv:=by
 have hkl:k<p.bs.length:=(zt.1 hk).1;obtain⟨n,hn⟩:∃n,cert[k]? =some n:=⟨_,ze (by rw[hc.len];exact hkl)⟩;obtain⟨m,f,h1,h2⟩:=hc.at' k b n hk hn;obtain⟨c1,c2,c3⟩:=jq2 h1 h2 h6 ho hx;have hs:=stand_batch hp hc.len hkl;rw[getD_some hn]at hs;have h0:=jkv k (jd1 p cert) p.ps (fun x hx=>by have:=jhm hp x hx;omega);refine⟨⟨h0,by omega⟩,jN (vd.2 (by omega:_<=n)) c3,?_⟩;unfold massB;rcases hf:fitsF e b with _ | _
 ·rw[zp (by decide)];exact moved_nonneg ho hx _ _
 ·obtain⟨_,f1,f2,_⟩:=jhq hf;rw[zm rfl,jrx ho f1 (jl3 f2).1];unfold wgt jer;rw[q9];exact Rat.le_refl
def mSum(m:Int)(g:Int->Int):Int->List Bat->Int
 | _,[]=>0
 | k,b::r=>(if b.mat=m then g k else 0)+mSum m g (k+1) r
def matAt(bs:List Bat)(i:Int):Int:=match bs[i.toNat]? with
 | some b=>b.mat
 | none=>0
def stM(m:Int)(bs:List Bat):List Bool->List Pap->Int
 | t::a,x::r=>(if(t&&decide (m=matAt bs x.bat))=true then x.grams else 0)+stM m bs a r
 | _,_=>0
theorem js1(m:Int)(g h:Int->Int):∀(bs:List Bat) (k:Int),mSum m (fun i=>g i+h i) k bs=mSum m g k bs+mSum m h k bs
 | [],_=>rfl
 | b::r,k=>by
  rw[mSum,mSum,mSum,js1 m g h r];split<;>omega
theorem jiu(m:Int):∀(bs:List Bat) (k:Int),mSum m (fun _=>0) k bs=0
 | [],_=>rfl
 | b::r,k=>by
  rw[mSum,jiu m r];split<;>rfl
theorem js0(m v j:Int):∀(bs:List Bat) (k:Int),j<k->mSum m (fun i=>if j=i then v else 0) k bs=0
 | [],_,_=>rfl
 | b::r,k,h=>by
  rw[mSum,js0 m v j r (k+1) (by omega),zp (by omega:¬j=k)];split<;>rfl
theorem jrz(m v j:Int):∀(bs:List Bat) (k:Int),k<=j->j<k+(bs.length:Int)->mSum m (fun i=>if j=i then v else 0) k bs=if m=matAt bs (j-k)then v else 0
 | [],k,h1,h2=>by simp only[List.length_nil]at h2;omega
 | b::r,k,h1,h2=>by
  rw[mSum];by_cases e:j=k
  ·subst e;rw[js0 m v j r (j+1) (by omega),Int.sub_self,zm rfl];show _=if m=b.mat then v else 0
   by_cases hm:b.mat=m
   ·rw[zm hm,zm hm.symm];omega
   ·rw[zp hm,zp (fun h=>hm h.symm)];rfl
  ·rw[jrz m v j r (k+1) (by omega) (by simp only[List.length_cons]at h2;omega),zp e];have e2:matAt (b::r) (j-k)=matAt r (j-(k+1)):=by
    unfold matAt;rw[show(j-k).toNat=(j-(k+1)).toNat+1 by omega,List.getElem?_cons_succ]
   rw[e2];split<;>omega
theorem stM_eq(m:Int)(bs:List Bat):∀(A:List Bool) (ps:List Pap),InB bs.length ps->stM m bs A ps=mSum m (fun k=>stSum k A ps) 0 bs
 | [],ps,_=>by
  have:(fun k=>stSum k [] ps)=fun _=>0:=by funext k;cases ps<;>rfl
  rw[this,jiu];cases ps<;>rfl
 | t::A,[],_=>by
  have:(fun k=>stSum k (t::A) [])=fun _=>0:=by funext k;rfl
  rw[this,jiu];rfl
 | t::A,x::r,hb=>by
  have h1:=hb x (by simp);have:(fun k=>stSum k (t::A) (x::r))=fun k=>(if(t&&decide (x.bat=k))=true then x.grams else 0)+stSum k A r:=by funext k;rfl
  rw[this,js1,stM,stM_eq m bs A r fun z hz=>hb z (by simp[hz])];congr 1;cases t
  ·have:(fun k=>if(false&&decide (x.bat=k))=true then x.grams else 0)=fun _=>0:=by funext k;rfl
   rw[this,jiu];rfl
  ·have:(fun k=>if(true&&decide (x.bat=k))=true then x.grams else 0)=fun k=>if x.bat=k then x.grams else 0:=by
    funext k;rw[z8];by_cases hk:x.bat=k<;>simp[hk]
   rw[this,jrz m x.grams x.bat bs 0 h1.1 (by omega),jy,z8];by_cases hk:m=matAt bs x.bat<;>simp[hk]
theorem mSum_le{x:Nat->Rat}(m:Int)(g:Int->Int):∀(bs:List Bat) (k:Nat),(∀(j:Nat) (b:Bat),bs[j]? =some b->((g ((k+j:Nat):Int):Int):Rat)<=massB e x b)->
  ((mSum m g k bs:Int):Rat)<=((bs.filter fun b=>decide (b.mat=m)).map (massB e x)).foldr (· + ·) 0
 | [],_,_=>Rat.le_refl
 | b::r,k,h=>by
  have ih:=mSum_le m g r (k+1) fun j c hc=>by
   have:=h (j+1) c (by simpa using hc)
   rwa [show k+(j+1)=k+1+j by omega]at this
  have h0:=h 0 b rfl;rw[Nat.add_zero]at h0;rw[Int.natCast_add]at ih;rw[mSum,jY];by_cases hm:b.mat=m
  ·rw[zm hm,jJ (by simp[hm]),zr,List.foldr_cons];have ih':((mSum m g (k+1) r:Int):Rat)<=_:=ih;grind
  ·rw[zp hm,jK (by simp[hm])];have ih':((mSum m g (k+1) r:Int):Rat)<=_:=ih;have z:((0:Int):Rat)=0:=rfl;rw[z,Rat.zero_add];exact ih'
theorem jlc(m:Int){g:Int->Int}(hg:∀k,0<=g k):∀(bs:List Bat) (k:Int),0<=mSum m g k bs
 | [],_=>by simp[mSum]
 | b::r,k=>by
  have h1:=jlc m hg r (k+1);have h2:=hg k;rw[mSum];split<;>omega
theorem jrh(e:Evid):(soldL e).length<=e.moves.length:=by
 unfold soldL;refine qu (List.length_filter_le _ _) ?_;rw[zw,qS];exact zB _
theorem never_mat{p:Led}{cert:List Int}(hp:jbh p=true)(hc:CertL e p.bs cert)(h6:e.moves.length<=6)(ho:HistOf e h H)(hx:Sol (nV e) (rowsE e) (ptH e.mats.toNat H)){m:Int}(hm:0<=m/\m<e.mats):
  (0<=stM m p.bs (jd1 p cert) p.ps/\stM m p.bs (jd1 p cert) p.ps<=9223372036854775807)/\((stM m p.bs (jd1 p cert) p.ps:Int):Rat)<=jey H m (soldL e):=by
 have hb:=jhm hp;rw[stM_eq m p.bs _ _ hb];have h0:=jlc m (g:=fun k=>stSum k (jd1 p cert) p.ps) (fun k=>jkv k _ _ (fun x hx=>by have:=hb x hx;omega)) p.bs 0;have h1:=mSum_le (e:=e) (x:=ptH e.mats.toNat H) m (fun k=>stSum k (jd1 p cert) p.ps) p.bs 0 fun j b hj=>by
  rw[qJ];exact(jpm hp hc h6 ho hx hj).2.1
 have h2:=mass_sold (e:=e) (m:=m) (x:=ptH e.mats.toNat H) hx.pos hm (bs:=p.bs.filter fun b=>decide (b.mat=m)) ((jq3 p.bs [] (jcc hp).2.2.1).2.filter _) (fun b hb=>zJ (y8.1 hb).2);have h3:=jN h1 h2;have hlt:∀k∈(soldL e).map (fun i=>pickK e.mats.toNat (i,m)),k<nV e:=fun k hk=>by
  obtain⟨i,hi,rfl⟩:=qy.1 hk;obtain⟨a1,_⟩:=sold_mem.1 hi;refine jnr (p:=(i,m)) ?_;simp only[je0,zu,zS];omega
 have h4:=jqs (x:=ptH e.mats.toNat H) (c:=1152921504606846976) (N:=nV e) (fun k _=>jrj ho k) hlt;have hl:=jrh e;refine⟨⟨h0,?_⟩,?_⟩
 ·have a2:=vd.1 (jN h3 h4);rw[zw]at a2;have:((soldL e).length:Int)*1152921504606846976<=6*1152921504606846976:=qh (by omega) (by decide);exact Int.le_trans a2 (by omega)
 ·rw[jrx ho hm fun i hi=>(sold_mem.1 hi).1];exact h3
def soldT(e:Evid)(n:Nat):List Int:=((List.range n).map fun(i:Nat)=>(i:Int)).filter fun i=>buyF e i
theorem soldT_all(e:Evid):soldT e e.moves.length=soldL e:=rfl
theorem soldT_succ(e:Evid)(n:Nat):soldT e (n+1)=soldT e n++(if buyF e n=true then [(n:Int)]else []):=by
 unfold soldT;rw[List.range_succ,ql,List.filter_append];congr 1;rcases hb:buyF e n with _ | _<;>simp[hb]
theorem soldT_len(e:Evid)(n:Nat):(soldT e n).length<=n:=by
 unfold soldT;refine qu (List.length_filter_le _ _) ?_;rw[zw,qS];exact zB _
end
end
section
open Go.Abs
attribute [local go_sem] ints ic Raw.c rowC
def fewY(k:Int)(x:Raw):Bool:=decide ((x.l.length:Int)<=k)&&decide ((x.m.length:Int)<=k)
theorem t_few5y(x:Raw)(k:Int):Ctr G.P 43 [.agg x.c,.int k] (· = .bool (fewY k x)):=by
 refine ja3 [.tmp 4] Tryz.func43 ?_;unfold fewY;simp only[zw,go_sem]
 repeat' (first | (refine jc3 (fun hd=> ?_) (fun hd=> ?_)<;>simp only[*,go_sem]))
def okX(l:List Raw):Prop:=l.length<=8/\∀x∈l,x.l.length<=3/\x.m.length<=3
theorem few15_of{h:List (List Raw)}(h1:h.length<=14)(h2:∀l∈h,okX l):FewH h:=⟨by omega,fun l hl=>⟨by have:=(h2 l hl).1;omega,(h2 l hl).2⟩⟩
theorem t_few15(h:List (List Raw)):Ctr G.P 18 [hist h] (fun r=>∃z,r= .bool z/\(z=true->FewH h)):=by
 unfold hist;refine ja3 [.tmp 2] Tryz.func18 ?_;simp only[go_sem];refine jaj [0,3] [] (fun i:Nat=>⟨[(0,.im (.sl (h.map rowC))),(3,.im (.int i))],[],[]⟩)
  (fun i=>i<=h.length/\i<=20/\∀l∈h.take i,okX l) (fun i=>h.length-i) 0 ?_ ⟨zF _,zF _,by simp⟩ ?_
 ·simp only[Int.natCast_zero,go_sem]
 intro i ⟨hi,h20,ha⟩;have fin:(h.length<=20->∀l∈h,okX l)->∃z,IV.bool (decide ((h.length:Int)<=14))= .bool z/\(z=true->FewH h):=fun hall=>⟨_,rfl,fun hz=>by
  have:=zJ hz;exact few15_of (by omega) (hall (by omega))⟩
 by_cases hp:(i:Int)<h.length
 ·have hd:decide ((i:Int)<h.length)=true:=zk hp;have hin:i<h.length:=by omega
  rcases d20:decide ((i:Int)<20)with _ | _
  ·have:=zK d20;simp only[hd,d20,zw,go_sem];exact fin fun h1=>by omega
  have b20:=zJ d20;obtain⟨l,hl⟩:=jb9 hp;have h1:=ja6 (n:=(i:Int)+1) (by omega);rcases d8:decide (8<(l.length:Int))with _ | _
  case true=>
   simp only[hd,d20,d8,zw,zq,hl,hp,hin,go_sem];exact⟨false,rfl,fun hz=>by cases hz⟩
  have l8:=zK d8;simp only[hd,d20,d8,zw,zq,hl,hp,hin,go_sem];refine jaj [0,3,4] [] (fun m:Nat=>⟨[(0,.im (.sl (h.map rowC))),(3,.im (.int i)),(4,.im (.int m))],[],[]⟩)
   (fun m=>m<=l.length/\∀x∈l.take m,x.l.length<=3/\x.m.length<=3) (fun m=>l.length-m) 0 ?_ ⟨zF _,by simp⟩ ?_
  ·simp only[Int.natCast_zero,go_sem]
  intro m ⟨hm,hb⟩;by_cases hq:(m:Int)<l.length
  ·have he:decide ((m:Int)<l.length)=true:=zk hq;have hml:m<l.length:=by omega
   obtain⟨x,hx⟩:=jb9 hq;have k5:=t_few5y x 3;have h2:=ja6 (n:=(m:Int)+1) (by omega);unfold Raw.c at k5;rcases hf:fewY 3 x with _ | _
   ·rw[hf]at k5;simp only[he,zw,zq,hl,hp,hin,hq,hml,hx,go_sem];refine ja1 k5 ?_;simp only[go_sem];exact⟨false,rfl,fun hz=>by cases hz⟩
   ·rw[hf]at k5;simp only[he,zw,zq,hl,hp,hin,hq,hml,hx,go_sem];refine ja1 k5 ?_;simp only[go_sem];refine ja7 (m+1) ?_ ?_ ?_
    ·simp only[h2,Int.natCast_add,go_sem]
    ·show l.length-(m+1)<l.length-m;omega
    ·refine⟨by show m+1<=l.length;omega,fun y hy=> ?_⟩;rw[take_succ hx,qG,zE]at hy;rcases hy with hy | rfl
     ·exact hb y hy
     ·simp only[fewY,zu,zS]at hf;omega
  ·have he:decide ((m:Int)<l.length)=false:=za hq;rw[zD (by omega)]at hb;simp only[he,zw,zq,hl,hp,hin,go_sem];refine ja7 (i+1) ?_ ?_ ?_
   ·simp only[h1,Int.natCast_add,go_sem]
   ·show h.length-(i+1)<h.length-i;omega
   ·refine⟨by show i+1<=h.length;omega,by show i+1<=20;omega,fun y hy=> ?_⟩;rw[take_succ hl,qG,zE]at hy;rcases hy with hy | rfl
    ·exact ha y hy
    ·exact⟨by omega,hb⟩
 ·have hd:decide ((i:Int)<h.length)=false:=za hp;rw[zD (by omega)]at ha;simp only[hd,zw,go_sem];exact fin fun _=>ha
end
end Go.Proofs.YtgncgpfjldefpaaGreat
namespace Go.Abs
section
open Go.RowKit (Below)
section
variable{G:Ctx}
end
section
variable{G:Ctx}{N:Nat}{w0:Base}{w:World}{M0:Nat->Nat->Prop}{β:Nat->Option Nat}{st:St}{a:Act}
def frzC(b s:Nat)(es:List (List IV))(c:List IV):List IV:=c.map (frz1 b s es)
def St.frzR(st:St)(b:Nat):St:=
 match look st.rows (hp b)with
 | some (s,es)=>⟨(st.frz b).fr,(st.frz b).rows.map fun p=>(p.1,p.2.1,p.2.2.map (frzC b s es)),(st.frz b).toks⟩
 | none=>st
end
section
variable{G:Ctx}
end
def tailN:Nat->Code->Code
 | 0,c=>c
 | n+1,.seq _ y=>tailN n y
 | _+1,c=>c
def putN:Nat->Code->Code->Code
 | 0,_,y=>y
 | n+1,.seq x c,y=> .seq x (putN n c y)
 | _+1,c,_=>c
section
variable{G:Ctx}
end
attribute [go_sem] St.frzR frzC tailN putN
end
section
section
variable{G:Ctx}{N:Nat}
theorem SemC.le{c:Code}{Q:Exit->St->Prop}{st S:St}(hl:St.Le st S)(h:SemC G N c Q S):SemC G N c Q st:=fun w0 M0 β a w hs=>
 let⟨β2,h2⟩:=hl N w0 M0 β a w hs;h w0 M0 β2 a w h2
def LeC(s S:St):Prop:=St.Le s S
theorem LeC_of{s S:St}(L:List Nat)(hf:L.map (fun t=>(t,s.get t))=S.fr)(hr:SubR S.rows s.rows)(ht:S.toks=[]):LeC s S:=(St.sub_of L hf hr ht).le
def isSeq:Nat->Code->Bool
 | 0,_=>true
 | k+1,.seq _ y=>isSeq k y
 | _+1,_=>false
theorem SemC.cuts(hG:G.Good){Q:Exit->St->Prop}(S:St):∀(k:Nat) {c:Code} {st:St},isSeq k c=true->dstB N c=true->Go.Abs.awp G (putN k c .skip) (fun e s=>match e with | .normal=>LeC s S | e=>Q e s) st->SemC G N (tailN k c) Q S->SemC G N c Q st
 | 0,c,st,_,_,h1,h2=>SemC.le h1 h2
 | k+1,.seq x y,st,hs,hd,h1,h2=>by
  simp only[dstB,zu]at hd;refine SemC.seq fun w0 M0 β a w hsim=> ?_;refine wp_mono (jhg hG x _ st β a w hd.1 h1 hsim) fun e a' w' hq=> ?_;obtain⟨β',st',hq,hs'⟩:=hq;refine⟨β',st',?_,hs'⟩;cases e with
  | normal=>exact SemC.cuts hG S k hs hd.2 hq h2
  | _=>exact hq
theorem ctrX_of(hG:G.Good){f:FuncId}{fn:Func}{c:Code}{xs:List IV}{t:Tmp}{x:IV}(hf:G.P.funcs[f]? =some fn)(hb:fn.body=some c)(hd:dstC fn.ntmps c=true)(hn:xs.length<=fn.ntmps)(hr:fn.results.toList=[.tmp t])
  (h:SemC G fn.ntmps c (fun e s=>match e with | .normal=>s.get t= .im x | .ret=>s.get t= .im x | _=>False) (jbk (xs.map .im) [])):Ctr G.P f xs (· =x):=by
 refine jgq (φ:=fun r L'=>r= .im x/\L'=[]) ?_ (fun r L' ⟨h1,h2⟩=>⟨x,[],h1,rfl⟩);obtain⟨hN,_⟩:=jls hd;intro w M vs hM hrows hlen hargs;rw[zw]at hlen;refine calls_of_wp hf hb ?_;have hMo:∀b o,Mo M pβ (jbk (xs.map .im) []) b o->MoH M [] b o:=by
  rintro b o (hm | ⟨d,s,es,hd,hb⟩ | ⟨d,s,n,hd,_⟩)
  ·exact .inl hm
  ·simp[jbk,look]at hd
  ·simp[jbk,look]at hd
 have hsim:Sim fn.ntmps (Base.exH w []) M pβ (jbk (xs.map .im) []) {tmps:=vs.toArray++Array.replicate (fn.ntmps-vs.toArray.size) undef,defers:=[]} w:=by
  refine⟨by simp;omega,rfl,Base.Fr.refl _,fun b o hm=>⟨hM b o hm,rfl⟩,fun t=> ?_,fun d s es hd=>by simp[jbk,look]at hd,fun d s n hd=>by simp[jbk,look]at hd,fun d d' b h1 h2 hb hb'=> ?_,fun d _=>rfl,fun k _ hk hr=>by simp[jbk,look]at hr,hN,pβ_hp⟩
  ·have hg:=jgo (xs.map .im) 0 t;rw[zm (zF _),Nat.sub_zero]at hg;have hg2:(jbk (xs.map .im) []).get t=(look (jgm 0 (xs.map .im)) t).getD .und:=rfl;rw[hg2,hg];cases hx:(xs.map AV.im)[t]? with
   | none=>trivial
   | some x=>
    have htl:t<vs.length:=by rw[hlen];have:=(zt.1 hx).1;simpa using this
    have hv:(vs.toArray++Array.replicate (fn.ntmps-vs.toArray.size) undef).getD t undef=vs[t]:=by
     simp[jk,htl]
    show RepA _ _ _ _ _ _;rw[hv];exact(hargs t x _ hx (ze htl)).move (Kept.less w hMo) (fun _ _=>rfl) (fun _ _ _ _ hl=>hl) (fun _ _ _ _ _=>rfl) (Shp.refl _)
  ·rw[pβ_of hb,pβ_of hb']
 refine wp_mono (h _ _ _ _ _ hsim) fun e a' w' hq=> ?_;obtain⟨β,st,hq,hs⟩:=hq;have hless:∀b o,MoH M [] b o->Mo M β st b o:=by
  rintro b o (hm | hm)
  ·exact .inl hm
  ·cases hm
 suffices hsuff:st.get t= .im x->a'.defers=[]/\∃v,(results fn a'.tmps).run G.P w'= .ok v w'/\∃r v2 L',(r=AV.im x/\L'=[])/\Ending.returned v= .returned v2/\r.toArg=r/\(Base.exH w []).Fr w'/\
   (∀k s es,look L' k=some (s,es)->∃b,k=hp b/\((look ([]:Rows) k).isSome\/w.heap.size<=b)/\RowRep w' (MoH M L') b s es)/\RepA w' (MoH M L') pβ [] r v2 by
  cases e with
  | normal=>obtain⟨h1,v,h2,h3⟩:=hsuff hq;exact⟨h1,v,h2,h3⟩
  | ret=>obtain⟨h1,v,h2,h3⟩:=hsuff hq;exact⟨h1,v,h2,h3⟩
  | _=>exact hq.elim
 intro hq;have hrun:(results fn a'.tmps).run G.P w'= .ok (a'.tmps.getD t undef) w':=by
  rw[jee,Sem.run_bind,q8,Sem.run_map,hr];rfl
 have hv:=hs.fr t;rw[hq]at hv;exact⟨hs.defers,_,hrun,_,_,[],⟨rfl,rfl⟩,rfl,rfl,hs.below,fun k s es hk=>(by cases hk),Rep.less hv hless⟩
end
end
end Go.Abs
namespace Go.Proofs.YtgncgpfjldefpaaGreat
section
open Go.Abs
open Go.LP (Rw RT tsum Sol Bds)
attribute [local go_sem] ints ic Evid.c Evid.iv Bat.c Pap.c Led.c bl Move.c Place.c
theorem stSum_nil(k:Int)(ps:List Pap):stSum k [] ps=0:=by cases ps<;>rfl
theorem stM_nil(m:Int)(bs:List Bat)(ps:List Pap):stM m bs [] ps=0:=by cases ps<;>rfl
theorem pb_never(k0:Ctr G.P 8 [] (· = .bool true))(e:Evid)(h:List (List Raw))(p:Led):Ctr G.P 7 [e.iv,hist h,.agg p.c] (· = .bool true):=by
 have kF:=pb_few p;have kL:=pb_light e;have kN:=t_few15 h;simp only[hist]at kN;rcases hf:fewF p with _ | _
 ·rw[hf]at kF;simp only[Evid.iv,Evid.c,hist,Led.c]at kF⊢;refine ja3 [.tmp 6] Tryz.func7 ?_;simp only[go_sem];refine ja1 k0 ?_;simp only[go_sem];refine ja1 kF ?_;simp only[go_sem]
 rw[hf]at kF;obtain⟨b20,p305,hs,hmv⟩:=few_parts hf;rcases hl:js4 e with _ | _
 ·rw[hl]at kL;simp only[Evid.iv,Evid.c,hist,Led.c]at kF kL⊢;refine ja3 [.tmp 6] Tryz.func7 ?_;simp only[go_sem];refine ja1 k0 ?_;simp only[go_sem];refine ja1 kF ?_;simp only[go_sem];refine ja1 kL ?_;simp only[go_sem]
 rw[hl]at kL;simp only[js4,zu,qI,zS]at hl;obtain⟨m6,_,_,r4,p4,hmt⟩:=hl;by_cases hfew:FewH h
 case neg=>
  simp only[Evid.iv,Evid.c,hist,Led.c]at kF kL⊢;refine ja3 [.tmp 6] Tryz.func7 ?_;simp only[go_sem];refine ja1 k0 ?_;simp only[go_sem];refine ja1 kF ?_;simp only[go_sem];refine ja1 kL ?_;simp only[go_sem];refine jda kN ?_;rintro _ ⟨z,rfl,hz⟩;rcases z with _ | _
  ·simp only[go_sem]
  ·exact absurd (hz rfl) hfew
 rcases h4:decide (4<(p.bs.length:Int))with _ | _
 case true=>
  simp only[Evid.iv,Evid.c,hist,Led.c]at kF kL⊢;refine ja3 [.tmp 6] Tryz.func7 ?_;simp only[go_sem];refine ja1 k0 ?_;simp only[go_sem];refine ja1 kF ?_;simp only[go_sem];refine ja1 kL ?_;simp only[go_sem];refine jda kN ?_;rintro _ ⟨z,rfl,hz⟩;cases z<;>simp only[h4,zw,go_sem]
 have kR:=jf3 p hs;rcases hr:jbh p with _ | _
 ·rw[hr]at kR;simp only[Evid.iv,Evid.c,hist,Led.c]at kF kL kR⊢;refine ja3 [.tmp 6] Tryz.func7 ?_;simp only[go_sem];refine ja1 k0 ?_;simp only[go_sem];refine ja1 kF ?_;simp only[go_sem];refine ja1 kL ?_;simp only[go_sem];refine jda kN ?_;rintro _ ⟨z,rfl,hz⟩;rcases z with _ | _
  ·simp only[go_sem]
  ·simp only[h4,zw,go_sem];refine ja1 kR ?_;simp only[go_sem]
 rw[hr]at kR;obtain⟨c,kH,hc⟩:=h_says e h hfew;rcases dc:decide (c=0)with _ | _
 ·simp only[Evid.iv,Evid.c,hist,Led.c]at kF kL kR kH⊢;refine ja3 [.tmp 6] Tryz.func7 ?_;simp only[go_sem];refine ja1 k0 ?_;simp only[go_sem];refine ja1 kF ?_;simp only[go_sem];refine ja1 kL ?_;simp only[go_sem];refine jda kN ?_;rintro _ ⟨z,rfl,hz⟩;rcases z with _ | _
  ·simp only[go_sem]
  ·simp only[h4,zw,go_sem];refine ja1 kR ?_;simp only[go_sem];refine ja1 kH ?_;simp only[dc,go_sem]
 obtain⟨h0,H,hH,hx⟩:=hc (zJ dc);have hmm:=jcb h0;have hfl:=jia hmm.1;obtain⟨cert,hC,kC⟩:=pb_certs (e:=e) (small3 (by omega) (by omega) (by omega)) p (fun b hb=>by have:=hmv b hb;omega) (by omega);have kS:=ji4 p cert hs (fun v hv=>by
  obtain⟨i,hi,rfl⟩:=jw hv;have hb:i<p.bs.length:=by rw[<-hC.len];exact hi
  obtain⟨m,f,a1,a2⟩:=hC.at' i _ _ (ze hb) (ze hi);exact(jq2 a1 a2 (by omega) hH hx).2.1)
 have hlen:=stand_len (cert:=cert) hr;have hin:=jhm hr;have hHl:=hH.len;have n1:∀(k:Nat) (b:Bat),p.bs[k]? =some b->(0<=stSum k (jd1 p cert) p.ps/\stSum k (jd1 p cert) p.ps<=9223372036854775807)/\decide (0<cmpR (Rat.divInt (stSum k (jd1 p cert) p.ps) 1) (jey H b.mat b.mv))=false:=fun k b hk=>by
  obtain⟨a1,a2,a3⟩:=jpm hr hC (by omega) hH hx hk;exact⟨a1,cmp_le (jN a2 a3)⟩
 have n2:∀m:Int,0<=m/\m<e.mats->(0<=stM m p.bs (jd1 p cert) p.ps/\stM m p.bs (jd1 p cert) p.ps<=9223372036854775807)/\decide (0<cmpR (Rat.divInt (stM m p.bs (jd1 p cert) p.ps) 1) (jey H m (soldL e)))=false:=fun m hm=>by
  obtain⟨a1,a2⟩:=never_mat hr hC (by omega) hH hx hm;exact⟨a1,cmp_le a2⟩
 have kM:∀(m:Int) (mv:List Int),mv.length<=1000->Ctr G.P 25 [hist h,.int m,ints mv] (· =frac (jey H m mv)):=fun m mv hl=>pb_moved hH (by omega) m mv hl;have kP:∀(s:Int) (m:Int) (mv:List Int),mv.length<=1000->(0<=s/\s<=9223372036854775807)->Ctr G.P 23 [frac (Rat.divInt s 1),frac (jey H m mv)] (· = .int (cmpR (Rat.divInt s 1) (jey H m mv))):=fun s m mv hl hs=>by
  have f1:=moved_fl hH m mv hl;have f2:FL 4 (Rat.divInt s 1):=by rw[div_one];exact jc4 (by omega)
  exact jqe _ _ (by have:=f2.1;omega) (by have:=f2.2;omega) (by have:=f1.1;omega) (by have:=f1.2;omega)
 have kI:∀s:Int,(0<=s/\s<=9223372036854775807)->Ctr G.P 24 [.int s] (· =frac (Rat.divInt s 1)):=fun s hs=>t_intf s (by omega);have hck:=jgr h0;have hslen:=jrh e;generalize jd1 p cert=A at*;generalize hmr:jey H=mr at*;clear hc hC hx hmr hH hfew;have dlen:decide ((A.length:Int)=(p.ps.length:Int))=true:=zk (by omega);have hgr:∀y∈p.ps,1<=y.grams/\y.grams<=1099511627776:=fun y hy=>(hin y hy).2.2;simp only[Evid.iv,Evid.c,hist,Led.c,ints]at kF kL kR kH kC kS kM⊢;refine ctrX_of (t:=6) good Tryz.func7 rfl (by decide+kernel) (yu rfl) rfl ?_;refine SemC.cuts good ⟨[(1,.im (.sl (h.map rowC))),(3,.loc 3 8 0 0),(5,.loc 5 2 0 0),(7,.im (.bool true)),(8,.im (.sl (A.map bl)))],[(5,2,[p.c]),(3,8,[e.c])],[]⟩ 5 rfl (by decide+kernel) ?_ ?_
 ·as_aux_lemma=>
   simp only[putN];simp only[go_sem];refine ja1 k0 ?_;simp only[go_sem];refine ja1 kF ?_;simp only[go_sem];refine ja1 kL ?_;simp only[go_sem];refine jda kN ?_;rintro _ ⟨z,rfl,hz⟩;rcases z with _ | _
   ·simp only[go_sem]
   ·simp only[h4,zw,go_sem];refine ja1 kR ?_;simp only[go_sem];refine ja1 kH ?_;simp only[dc,go_sem];refine jaf 6 ?_;simp only[go_sem];refine ja5 kC (by decide) ?_;simp only[go_sem];refine ja5 kS (by decide) ?_;simp only[zw,dlen,go_sem];refine LeC_of [1,3,5,7,8] ?_ (SubR.of_eq ?_) rfl
    ·simp only[go_sem]
    ·simp only[go_sem]
 simp only[tailN];refine SemC.cuts good ⟨[(1,.im (.sl (h.map rowC))),(3,.loc 3 8 0 0),(5,.loc 5 2 0 0),(7,.im (.bool true)),(8,.im (.sl (A.map bl)))],[(5,2,[p.c]),(3,8,[e.c])],[]⟩ 1 rfl (by decide+kernel) ?_ ?_
 ·as_aux_lemma=>
   simp only[putN];simp only[go_sem];refine jaj [1,3,5,7,8,9] [5,3] (fun k:Nat=>⟨[(1,.im (.sl (h.map rowC))),(3,.loc 3 8 0 0),(5,.loc 5 2 0 0),(7,.im (.bool true)),(8,.im (.sl (A.map bl))),(9,.im (.int k))],[(5,2,[p.c]),(3,8,[e.c])],[]⟩) (fun k=>k<=p.bs.length) (fun k=>p.bs.length-k) 0 ?_ (zF _) ?_
   ·simp only[Int.natCast_zero,go_sem]
   intro k hk;by_cases hp:(k:Int)<p.bs.length
   ·have hd:decide ((k:Int)<p.bs.length)=true:=zk hp;obtain⟨b,hb⟩:=jb9 hp;have h1:=ja6 (n:=(k:Int)+1) (by omega);have hkn:k<p.bs.length:=by omega
    obtain⟨sb,hcm⟩:=n1 k b hb;have hbl:=hmv b (zl hb);have kI1:=kI _ sb;have kM1:=kM b.mat b.mv (by omega);have kP1:=kP _ b.mat b.mv (by omega) sb;clear kI kM kP n2;simp only[hd,zw,go_sem];refine jaj [1,3,5,7,8,9,10,11] [5,3] (fun g:Nat×Int=>⟨[(1,.im (.sl (h.map rowC))),(3,.loc 3 8 0 0),(5,.loc 5 2 0 0),(7,.im (.bool true)),(8,.im (.sl (A.map bl))),(9,.im (.int k)),(10,.im (.int g.2)),(11,.im (.int g.1))],[(5,2,[p.c]),(3,8,[e.c])],[]⟩)
     (fun g=>g.1<=p.ps.length/\g.2+stSum k (A.drop g.1) (p.ps.drop g.1)=stSum k A p.ps/\0<=g.2/\g.2<=g.1*1099511627776) (fun g=>p.ps.length-g.1) (0,0) ?_ ⟨zF _,by simp,by simp,by simp⟩ ?_
    ·simp only[Int.natCast_zero,go_sem]
    intro⟨i,s⟩ ⟨hi,hsum,hs0,hs1⟩;dsimp only at hi hsum hs0 hs1;by_cases hq:(i:Int)<A.length
    ·have hdi:decide ((i:Int)<A.length)=true:=zk hq;have hip:i<p.ps.length:=by omega
     have hia:i<A.length:=by omega
     have hipz:(i:Int)<p.ps.length:=by omega
     have h2:=ja6 (n:=(i:Int)+1) (by omega);obtain⟨y,hy⟩:=jb9 hipz;obtain⟨ak,hak⟩:=jb9 hq;have hgy:=hgr y (zl hy);have e1:p.ps.drop i=y::p.ps.drop (i+1):=by rw[qr hip,(zt.1 hy).2]
     have e2:A.drop i=ak::A.drop (i+1):=by rw[qr hia,(zt.1 hak).2]
     rw[e1,e2,stSum]at hsum;clear e1 e2 kI1 kM1 kP1;have w3:=ja6 (n:=s+y.grams) (by omega);obtain⟨yb,yg,yo,yr,ye⟩:=y;dsimp only at hsum hgy w3;rcases ak with _ | _
     ·rw[zp (by simp)]at hsum;simp only[hdi,hq,hia,zw,zq,hak,go_sem];refine ja7 (i+1,s) ?_ ?_ ?_
      ·simp only[h2,Int.natCast_add,go_sem]
      ·show p.ps.length-(i+1)<p.ps.length-i;omega
      ·exact⟨by dsimp only;omega,by dsimp only;omega,by dsimp only;omega,by dsimp only;omega⟩
     ·rcases db:decide (yb=(k:Int))with _ | _
      ·rw[db,zp (by decide)]at hsum;simp only[hdi,hq,hia,hip,hipz,zw,zq,hak,hy,db,go_sem];refine ja7 (i+1,s) ?_ ?_ ?_
       ·simp only[h2,Int.natCast_add,go_sem]
       ·show p.ps.length-(i+1)<p.ps.length-i;omega
       ·exact⟨by dsimp only;omega,by dsimp only;omega,by dsimp only;omega,by dsimp only;omega⟩
      ·rw[db,Bool.and_self,zm rfl]at hsum;simp only[hdi,hq,hia,hip,hipz,zw,zq,hak,hy,db,w3,go_sem];refine ja7 (i+1,s+yg) ?_ ?_ ?_
       ·simp only[h2,Int.natCast_add,go_sem]
       ·show p.ps.length-(i+1)<p.ps.length-i;omega
       ·exact⟨by dsimp only;omega,by dsimp only;omega,by dsimp only;omega,by dsimp only;omega⟩
    ·have hdi:decide ((i:Int)<A.length)=false:=za hq;rw[zV (by omega:A.length<=i),stSum_nil,qN]at hsum;subst hsum;simp only[hdi,zw,go_sem];refine jaf 18 ?_;simp only[zw,zq,hb,hkn,hp,go_sem];refine ja5 kI1 (by decide) ?_;simp only[zw,zq,hb,hkn,hp,go_sem];refine ja5 kM1 (by decide) ?_;simp only[go_sem];refine ja5 kP1 (by decide) ?_;simp only[hcm,go_sem];refine ja7 (k+1) ?_ ?_ ?_
     ·simp only[h1,Int.natCast_add,go_sem]
     ·show p.bs.length-(k+1)<p.bs.length-k;omega
     ·show k+1<=p.bs.length;omega
   ·have hd:decide ((k:Int)<p.bs.length)=false:=za hp;simp only[hd,zw,go_sem];refine LeC_of [1,3,5,7,8] ?_ (SubR.of_eq ?_) rfl
    ·simp only[go_sem]
    ·simp only[go_sem]
 simp only[tailN];refine SemC.awp good (by decide+kernel) ?_;clear kF kL kR kH kC kS kN n1;simp only[go_sem];refine jd5 [1,3,5,7,8,12,13] [5,3,136] [(12,136,3,1)] (fun n:Nat=>⟨[(1,.im (.sl (h.map rowC))),(3,.loc 3 8 0 0),(5,.loc 5 2 0 0),(7,.im (.bool true)),(8,.im (.sl (A.map bl))),(12,.vec 136 3 1 ((soldT e n).map ic)),(13,.im (.int n))],[(5,2,[p.c]),(3,8,[e.c])],[(136,1,(soldT e n).length)]⟩)
  (fun n=>n<=e.moves.length) (fun n=>e.moves.length-n) 0 ?_ ?_ (zF _) ?_
 ·simp only[go_sem];simp
 ·simp only[Int.natCast_zero,go_sem];rfl
 intro n hn;by_cases hp:(n:Int)<e.moves.length
 ·have hd:decide ((n:Int)<e.moves.length)=true:=zk hp;obtain⟨mo,hmo⟩:=jb9 hp;have h1:=ja6 (n:=(n:Int)+1) (by omega);have hin2:n<e.moves.length:=by omega
  have hsl:=soldT_len e n;have hle:((soldT e n).length+1)*8<=140737488355328:=by omega
  obtain⟨_,t1,t2⟩:=hck mo (zl hmo);obtain⟨day,fr,to,sc,rd,al⟩:=mo;dsimp only at t1 t2;obtain⟨j,rfl⟩:=yI t1;have hj:j<e.places.length:=by omega
  obtain⟨q,hq⟩:∃q,e.places[j]? =some q:=⟨_,ze hj⟩;have eb:buyF e n=decide (q.kind=5):=by unfold buyF;rw[Int.toNat_natCast,hmo];dsimp only;rw[Int.toNat_natCast,hq]
  have hst:=soldT_succ e n;rw[eb]at hst;rcases d5:decide (q.kind=5)with _ | _
  ·rw[d5,zp (by decide),qn]at hst;simp only[hd,zw,go_sem];refine jaf 12 ?_;simp only[zq,hmo,hin2,hp,hj,t1,t2,hq,zw,d5,go_sem];refine ja7 (n+1) ?_ ?_ ?_
   ·simp only[h1,Int.natCast_add,hst,go_sem]
   ·show e.moves.length-(n+1)<e.moves.length-n;omega
   ·show n+1<=e.moves.length;omega
  ·rw[d5,zm rfl]at hst;simp only[hd,zw,go_sem];refine jaf 12 ?_;simp only[zq,hmo,hin2,hp,hj,t1,t2,hq,zw,d5,hle,go_sem];refine And.intro (fun c hc=> ?_) (And.intro (fun c hc=> ?_) ?_)
   ·obtain⟨z,_,rfl⟩:=qy.1 hc;rfl
   ·rw[zE.1 hc];rfl
   refine ja7 (n+1) ?_ ?_ ?_
   ·simp only[h1,Int.natCast_add,hst,ql,zG,go_sem]
   ·show e.moves.length-(n+1)<e.moves.length-n;omega
   ·show n+1<=e.moves.length;omega
 have hd:decide ((n:Int)<e.moves.length)=false:=za hp;have hne:n=e.moves.length:=by omega
 subst hne;rw[soldT_all];simp only[hd,zw,go_sem];refine jaj [1,3,5,7,8,12,14] [5,3,136] (fun k:Nat=>⟨[(1,.im (.sl (h.map rowC))),(3,.loc 3 8 0 0),(5,.loc 5 2 0 0),(7,.im (.bool true)),(8,.im (.sl (A.map bl))),(12,.vec 136 3 1 ((soldL e).map ic)),(14,.im (.int k))],[(5,2,[p.c]),(3,8,[e.c])],[(136,1,(soldL e).length)]⟩) (fun k=>k<=e.mats.toNat) (fun k=>e.mats.toNat-k) 0 ?_ (zF _) ?_
 ·simp only[Int.natCast_zero,go_sem]
 intro k hk;by_cases hp2:(k:Int)<e.mats
 ·have hdm:decide ((k:Int)<e.mats)=true:=zk hp2;have h1:=ja6 (n:=(k:Int)+1) (by omega);obtain⟨sb,hcm⟩:=n2 k (by omega);have kI1:=kI _ sb;have kM1:=kM k (soldL e) (by omega);have kP1:=kP _ k (soldL e) (by omega) sb;clear kI kM kP n2;simp only[hdm,go_sem];refine jaj [1,3,5,7,8,12,14,15,16] [5,3,136] (fun g:Nat×Int=>⟨[(1,.im (.sl (h.map rowC))),(3,.loc 3 8 0 0),(5,.loc 5 2 0 0),(7,.im (.bool true)),(8,.im (.sl (A.map bl))),(12,.vec 136 3 1 ((soldL e).map ic)),(14,.im (.int k)),(15,.im (.int g.2)),(16,.im (.int g.1))],[(5,2,[p.c]),(3,8,[e.c])],[(136,1,(soldL e).length)]⟩)
   (fun g=>g.1<=p.ps.length/\g.2+stM k p.bs (A.drop g.1) (p.ps.drop g.1)=stM k p.bs A p.ps/\0<=g.2/\g.2<=g.1*1099511627776) (fun g=>p.ps.length-g.1) (0,0) ?_ ⟨zF _,by simp,by simp,by simp⟩ ?_
  ·simp only[Int.natCast_zero,go_sem]
  intro⟨i,s⟩ ⟨hi,hsum,hs0,hs1⟩;dsimp only at hi hsum hs0 hs1;by_cases hq:(i:Int)<A.length
  ·have hdi:decide ((i:Int)<A.length)=true:=zk hq;have hip:i<p.ps.length:=by omega
   have hia:i<A.length:=by omega
   have hipz:(i:Int)<p.ps.length:=by omega
   have h2:=ja6 (n:=(i:Int)+1) (by omega);obtain⟨y,hy⟩:=jb9 hipz;obtain⟨ak,hak⟩:=jb9 hq;have hgy:=hgr y (zl hy);have hby:=hin y (zl hy);have e1:p.ps.drop i=y::p.ps.drop (i+1):=by rw[qr hip,(zt.1 hy).2]
   have e2:A.drop i=ak::A.drop (i+1):=by rw[qr hia,(zt.1 hak).2]
   rw[e1,e2,stM]at hsum;clear e1 e2 kI1 kM1 kP1;have w3:=ja6 (n:=s+y.grams) (by omega);obtain⟨yb,yg,yo,yr,ye⟩:=y;dsimp only at hsum hgy w3 hby;obtain⟨y0,y1,_,_⟩:=hby;obtain⟨j,rfl⟩:=yI y0;have hj:j<p.bs.length:=by omega
   obtain⟨b,hb⟩:∃b,p.bs[j]? =some b:=⟨_,ze hj⟩;have em:matAt p.bs j=b.mat:=by unfold matAt;rw[Int.toNat_natCast,hb]
   rw[em]at hsum;rcases ak with _ | _
   ·rw[zp (by simp)]at hsum;simp only[hdi,hq,hia,zw,zq,hak,go_sem];refine jaf 19 ?_;simp only[hdi,hq,hia,zw,zq,hak,go_sem];refine ja7 (i+1,s) ?_ ?_ ?_
    ·simp only[h2,Int.natCast_add,go_sem]
    ·show p.ps.length-(i+1)<p.ps.length-i;omega
    ·exact⟨by dsimp only;omega,by dsimp only;omega,by dsimp only;omega,by dsimp only;omega⟩
   ·rcases db:decide (b.mat=(k:Int))with _ | _
    ·rw[zp (by simp only[z8,zS];have:=zK db;omega)]at hsum;simp only[hdi,hq,hia,zw,go_sem];refine jaf 19 ?_;simp only[hdi,hq,hia,hip,hipz,zw,zq,hak,hy,y0,y1,hj,hb,db,go_sem];refine ja7 (i+1,s) ?_ ?_ ?_
     ·simp only[h2,Int.natCast_add,go_sem]
     ·show p.ps.length-(i+1)<p.ps.length-i;omega
     ·exact⟨by dsimp only;omega,by dsimp only;omega,by dsimp only;omega,by dsimp only;omega⟩
    ·rw[zm (by simp only[z8,zS];have:=zJ db;omega)]at hsum;simp only[hdi,hq,hia,zw,go_sem];refine jaf 19 ?_;simp only[hdi,hq,hia,hip,hipz,zw,zq,hak,hy,y0,y1,hj,hb,db,w3,go_sem];refine ja7 (i+1,s+yg) ?_ ?_ ?_
     ·simp only[h2,Int.natCast_add,go_sem]
     ·show p.ps.length-(i+1)<p.ps.length-i;omega
     ·exact⟨by dsimp only;omega,by dsimp only;omega,by dsimp only;omega,by dsimp only;omega⟩
  ·have hdi:decide ((i:Int)<A.length)=false:=za hq;rw[zV (by omega:A.length<=i),stM_nil,qN]at hsum;subst hsum;simp only[frac]at kI1 kM1 kP1;simp only[hdi,zw,go_sem];refine ja1 kI1 ?_;simp only[go_sem];refine ja1 kM1 ?_;simp only[go_sem];refine ja1 kP1 ?_;simp only[hcm,go_sem];refine ja7 (k+1) ?_ ?_ ?_
   ·simp only[h1,Int.natCast_add,go_sem]
   ·show e.mats.toNat-(k+1)<e.mats.toNat-k;omega
   ·show k+1<=e.mats.toNat;omega
 have hdm:decide ((k:Int)<e.mats)=false:=za hp2;simp only[hdm,go_sem]
end
end Go.Proofs.YtgncgpfjldefpaaGreat
namespace Go.Abs
section
open Go.RowKit (Below)
def tileB(G:Ctx):Nat->List (Nat×TypeId)->Nat->Bool
 | k,[],n=>k==n
 | k,(o,t)::r,n=>o==k&&tileB G (k+(G.ti t).size) r n
def opens(G:Ctx):Nat->TypeId->Bool
 | 0,_=>false
 | n+1,t=>(G.ti t).size !=0&&match(G.ti t).kind with
  | .it _ | .bl | .str=>(G.ti t).size==1
  | .sl e=>(G.ti t).size==1&&opens G n e
  | .st fs=>tileB G 0 fs (G.ti t).size&&fs.all fun p=>opens G n p.2
  | _=>false
def Fits(G:Ctx):Nat->TypeId->List IV->Prop
 | 0,_,_=>False
 | n+1,t,xs=>match(G.ti t).kind with
  | .it k=>∃i,xs=[.sc (.int k i)]/\(Lit.int k i).wf=true
  | .bl=>∃b,xs=[.sc (.bool b)]
  | .str=>∃s:ByteArray,xs=[.sc (.string s)]/\s.size<=maxLen
  | .sl e=>∃es,xs=[.sl es]/\es.length<=maxLen/\∀c∈es,Fits G n e c
  | .st fs=>xs.length=(G.ti t).size/\∀p∈fs,Fits G n p.2 ((xs.drop p.1).take (G.ti p.2).size)
  | _=>False
theorem jpe{α:Type}{R:Nat->α->Prop}:∀n,(∀i,i<n->∃x,R i x)->∃l:List α,l.length=n/\∀i x,l[i]? =some x->R i x
 | 0,_=>⟨[],rfl,fun i x h=>by simp at h⟩
 | n+1,h=>by
  obtain⟨l,hl,hR⟩:=jpe n fun i hi=>h i (by omega);obtain⟨x,hx⟩:=h n (by omega);refine⟨l++[x],by simp[hl],fun i y hy=> ?_⟩;rcases zX i l.length with hi | hi
  ·rw[zU hi]at hy;exact hR i y hy
  ·rw[zY hi]at hy;have hi':i=l.length:=by
    have:=(zt.1 hy).1;simp at this;omega
   subst hi';simp at hy;subst hy;rw[hl];exact hx
theorem RepL.append{w:World}{M:Nat->Nat->Prop}{xs ys:List IV}{us vs:List Value}(h:RepL w M xs us)(h':RepL w M ys vs):RepL w M (xs++ys) (us++vs):=by
 refine⟨by simp[h.1,h'.1],fun k x v hx hv=> ?_⟩;rcases zX k xs.length with hk | hk
 ·rw[zU hk]at hx;rw[zU (by rw[<-h.1];exact hk)]at hv;exact h.2 k x v hx hv
 ·rw[zY hk]at hx;rw[zY (by rw[<-h.1];exact hk),<-h.1]at hv;exact h'.2 _ x v hx hv
section
variable{G:Ctx}{H:Type}{enc:TypeId×Value->H}{w:World}{base:Nat}{spare:Nat->Bool}{held:Bool}
abbrev NoM:Nat->Nat->Prop:=fun _ _=>False
theorem jjp(hG:G.Ok){t:TypeId}(h:(G.ti t).size≠0):G.P.cellsOf t=(G.ti t).size:=by
 obtain⟨i,z,hi,hs,_⟩:=hG.info h;simp[Program.cellsOf,hi,hs]
theorem jnv(hG:G.Ok):∀(n m:Nat) (t:TypeId) (cs:List Value) (x:DataW H×List MemPlace),opens G n t=true->DataW.trod enc G.P w base spare held m t cs=some x->
  ∃xs,RepL w NoM xs cs/\(∀y∈xs,y.one=true)/\xs.length=(G.ti t).size/\Fits G n t xs
 | 0,_,_,_,_,ho,_=>by simp[opens]at ho
 | n+1,m,t,cs,x,ho,h=>by
  unfold opens at ho;simp only[zu,qj,ne_eq]at ho;obtain⟨h0,ho⟩:=ho;have one:∀{v:Value} {y:IV},Rep w NoM y v->y.one=true->Fits G (n+1) t [y]->(G.ti t).size=1->cs=[v]->
    ∃xs,RepL w NoM xs cs/\(∀y∈xs,y.one=true)/\xs.length=(G.ti t).size/\Fits G (n+1) t xs:=by
   intro v y h1 h2 h3 h4 h5;subst h5;exact⟨[y],RepL.cons h1 RepL.nil,by simpa using h2,h4.symm,h3⟩
  split at ho
  ·rename_i k hk;obtain⟨i,rfl,_,hwf⟩:=DataW.trod_int (hG.it h0 hk) h;exact one (.sc _ rfl) rfl (by unfold Fits;rw[hk];exact⟨i,rfl,hwf⟩) (by simpa using ho) rfl
  ·rename_i hk;obtain⟨b,rfl,rfl⟩:=DataW.trod_bool (hG.bl h0 hk) h;exact one (.sc _ rfl) rfl (by unfold Fits;rw[hk];exact⟨b,rfl⟩) (by simpa using ho) rfl
  ·rename_i hk;obtain⟨s,rfl,_,hwf⟩:=DataW.trod_string (hG.str h0 hk) h;exact one (.sc _ rfl) rfl (by unfold Fits;rw[hk];exact⟨s,rfl,hwf⟩) (by simpa using ho) rfl
  ·rename_i e hk;simp only[zu,yS]at ho;obtain⟨h1,ho⟩:=ho;rcases DataW.trod_slice (hG.sl h0 hk) h with ⟨rfl,_⟩ | ⟨a,len,cap,elems,rest,m',rfl,rfl,_,_,hlc,hcm,hel,hat,_⟩
   ·exact one (.nil _ _) rfl (by unfold Fits;rw[hk];exact⟨[],rfl,zF _,by simp⟩) h1 rfl
   ·have he0:(G.ti e).size≠0:=by
     cases n with
     | zero=>simp[opens]at ho
     | succ n=>
      unfold opens at ho;simp only[zu,qj,ne_eq]at ho;exact ho.1
    rw[jjp hG he0]at hat;have hex:∀i,i<len->∃p:List IV×List Value,w.cells? base (a.add (i*(G.ti e).size)) (G.ti e).size=some p.2/\RepL w NoM p.1 p.2/\(∀y∈p.1,y.one=true)/\p.1.length=(G.ti e).size/\Fits G n e p.1:=by
     intro i hi;have h3:=hat i hi;rw[ze (by omega)]at h3;obtain⟨cs',h4,h5⟩:=Option.bind_eq_some_iff.1 h3;obtain⟨xs,h6,h7,h8,h9⟩:=jnv hG n _ e cs' _ ho h5;exact⟨⟨xs,cs'⟩,h4,h6,h7,h8,h9⟩
    obtain⟨l,hl,hR⟩:=jpe len hex;have hmap:∀(i:Nat) c,(l.map (·.1))[i]? =some c->∃us,w.cells? base (a.add (i*(G.ti e).size)) (G.ti e).size=some us/\RepL w NoM c us/\(∀y∈c,y.one=true)/\c.length=(G.ti e).size/\Fits G n e c:=by
     intro i c hc;rw[zq]at hc;obtain⟨p,hp,rfl⟩:=qw.1 hc;obtain⟨h3,h4,h5,h6,h7⟩:=hR i p hp;exact⟨p.2,h3,h4,h5,h6,h7⟩
    have hlen:(l.map (·.1)).length=len:=by simpa using hl
    have hfit:Fits G (n+1) t [.sl (l.map (·.1))]:=by
     unfold Fits;rw[hk];refine⟨_,rfl,by omega,fun c hc=> ?_⟩;obtain⟨i,hi⟩:=qY hc;obtain⟨_,_,_,_,_,h7⟩:=hmap i c hi;exact h7
    refine one (y:= .sl (l.map (·.1))) ?_ rfl hfit h1 rfl;by_cases hz:len=0
    ·subst hz;have:l=[]:=zP hl;subst this;exact .nil _ _
    ·have hlist:∀i c j y,(l.map (·.1))[i]? =some c->c[j]? =some y->∃u,w.cell? (a.add (i*(G.ti e).size+j))=some u/\Rep w NoM y u/\y.one=true:=by
      intro i c j y hi hj;obtain⟨us,h3,h4,h5,h6,_⟩:=hmap i c hi;have hjl:=(zt.1 hj).1;obtain⟨_,h7,h8⟩:=World.cells?_some h3;have hu:us[j]? =some (us[j]'(by omega)):=ze (by omega);refine⟨_,?_,h4.2 j y _ hj hu,h5 y (zl hj)⟩;have:=h8 j (by omega);rw[Go.Deep.add_add]at this;rw[this,hu]
     have hsp:a=⟨a.block,a.off,none⟩:=by
      have hg:(l.map (·.1))[0]? =some ((l.map (·.1))[0]'(by omega)):=ze (by omega);obtain⟨us,_,_,_,h6,_⟩:=hmap 0 _ hg;have hg2:((l.map (·.1))[0]'(by omega))[0]? =some (((l.map (·.1))[0]'(by omega))[0]'(by omega)):=ze (by omega);obtain⟨u,h3,_⟩:=hlist 0 _ 0 _ hg hg2;simp[Addr.add]at h3;have:=World.cell?_spot h3;cases a;simp_all
     have hadd:∀k,a.add k=⟨a.block,a.off+k,none⟩:=fun k=>by
      obtain⟨b,o,sp⟩:=a;cases hsp;unfold Addr.add;split
      ·rename_i hk0;subst hk0;rfl
      ·rfl
     have hgo:∀(i:Nat) c (j:Nat) y,(l.map (·.1))[i]? =some c->c[j]? =some y->w.cell? ⟨a.block,a.off+i*(G.ti e).size+j,none⟩=some ((w.cell? ⟨a.block,a.off+i*(G.ti e).size+j,none⟩).getD undef)/\
       y.one=true/\Rep w NoM y ((w.cell? ⟨a.block,a.off+i*(G.ti e).size+j,none⟩).getD undef):=by
      intro i c j y hi hj;obtain⟨u,h3,h4,h5⟩:=hlist i c j y hi hj;rw[hadd,<-jB]at h3;rw[h3];exact⟨rfl,h5,h4⟩
     have:=Rep.sl (w:=w) (M:=NoM) (l.map (·.1)) (G.ti e).size a.block a.off cap (fun i j=>(w.cell? ⟨a.block,a.off+i*(G.ti e).size+j,none⟩).getD undef)
      (by intro hn;rw[hn]at hlen;simp at hlen;omega)
      (fun c hc=>by obtain⟨i,hi⟩:=qY hc;obtain⟨_,_,_,_,h6,_⟩:=hmap i c hi;exact h6)
      (by omega)
      (fun i c j y hi hj=>⟨(hgo i c j y hi hj).2.1,(hgo i c j y hi hj).1,fun h=>h⟩)
      (fun i c j y hi hj=>(hgo i c j y hi hj).2.2)
     rw[hlen,<-hsp]at this;exact this
  ·rename_i fs hk;simp only[zu]at ho;obtain⟨ht,ho⟩:=ho;obtain⟨gs,hu,hgs⟩:=hG.st h0 hk;obtain⟨xs,m',rfl,_,hcl,hxl,hat⟩:=DataW.trod_struct hu h;rw[jjp hG h0]at hcl;have hfield:∀p∈fs,∃ys,RepL w NoM ys ((cs.drop p.1).take (G.ti p.2).size)/\(∀y∈ys,y.one=true)/\ys.length=(G.ti p.2).size/\Fits G n p.2 ys:=by
    intro p hp;obtain⟨i,hi⟩:=qY hp;rw[<-hgs,zq]at hi;obtain⟨f,hf,rfl⟩:=qw.1 hi;have hf':gs[i]? =some f:=by simpa using hf
    have h3:=hat i f hf';have hil:i<gs.size:=(zH.1 hf').1;rw[ze (by omega)]at h3;have hof:=List.all_eq_true.1 ho _ hp;have hs0:(G.ti f.type).size≠0:=by
     cases n with
     | zero=>simp[opens]at hof
     | succ n=>
      simp only[]at hof;unfold opens at hof;simp only[zu,qj,ne_eq]at hof;exact hof.1
    rw[jjp hG hs0]at h3;exact jnv hG n _ _ _ _ hof h3
   have build:∀(r:List (Nat×TypeId)) (k:Nat),(∀p∈r,p∈fs)->tileB G k r (G.ti t).size=true->k<=cs.length->∃zs,RepL w NoM zs (cs.drop k)/\(∀y∈zs,y.one=true)/\
     ∀p∈r,k<=p.1/\Fits G n p.2 ((zs.drop (p.1-k)).take (G.ti p.2).size):=by
    intro r
    induction r with
    | nil=>
     intro k _ htl _;simp only[tileB,yS]at htl;refine⟨[],?_,by simp,by simp⟩;rw[zV (by omega)];exact RepL.nil
    | cons p r ih=>
     obtain⟨o,u⟩:=p;intro k hm htl hkl;simp only[tileB,zu,yS]at htl;obtain⟨rfl,htl⟩:=htl;obtain⟨ys,h3,h4,h5,h6⟩:=hfield (o,u) (hm _ (qd ..));have hle:o+(G.ti u).size<=cs.length:=by
      have:=h3.1;simp at this h5;omega
     obtain⟨zs,h7,h8,h9⟩:=ih _ (fun p hp=>hm p (qe _ hp)) htl hle;refine⟨ys++zs,?_,?_,?_⟩
     ·have:=h3.append h7;rw[<-vn,jh]at this;exact this
     ·intro y hy;rcases qG.1 hy with h | h
      ·exact h4 y h
      ·exact h8 y h
     ·intro p hp;rcases zW.1 hp with rfl | hp
      ·refine⟨zB _,?_⟩;simp only[jp,yi];rw[<-h5]
       simpa using h6
      ·obtain⟨h10,h11⟩:=h9 p hp;refine⟨by omega,?_⟩;rw[List.drop_append,zV (by simp at h5;omega),List.nil_append];have e:p.1-o-ys.length=p.1-(o+(G.ti u).size):=by simp at h5;omega
       rw[e];exact h11
   obtain⟨zs,h7,h8,h9⟩:=build fs 0 (fun _ h=>h) ht (zF _);rw[yi]at h7;refine⟨zs,h7,h8,by rw[h7.1,hcl],?_⟩;unfold Fits;rw[hk];exact⟨by rw[h7.1,hcl],fun p hp=>by simpa using (h9 p hp).2⟩
  ·cases ho
