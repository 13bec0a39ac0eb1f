/- A part of the proof. No further condition. -/
import Derived.Test.YtjcjcpebocbonaaGreatKY41
import Derived.Test.YtjcjcpebocbonaaGreatKY39
set_option linter.all false
set_option maxRecDepth 10000000
set_option maxHeartbeats 16000000
namespace Go.LQ
section
open Go.Abs (mget mput)
def jfd(f:Nat->Int):Nat->Option Nat
 | 0=>none
 | n+1=>match jfd f n with
  | some i=>some i
  | none=>if f n=0 then none else some n
theorem jiy{f:Nat->Int}:∀{n i:Nat},(∀j,j<i->f j=0)->i<n->f i≠0->jfd f n=some i
 | 0,i,_,h,_=>absurd h (by omega)
 | n+1,i,h0,hn,h1=>by
  rw[jfd];by_cases hi:i=n
  ·subst hi;have:jfd f i=none:=by
    have:∀m,m<=i->jfd f m=none:=fun m=>by
     induction m with
     | zero=>intro _;rfl
     | succ m ih=>
      intro hm;rw[jfd,ih (by omega)];exact ze (h0 m (by omega))
    exact this i (zu _)
   rw[this];exact zl h1
  ·rw[jiy h0 (by omega) h1]
theorem jfc{f:Nat->Int}:∀{n:Nat},(∀j,j<n->f j=0)->jfd f n=none
 | 0,_=>rfl
 | n+1,h=>by
  rw[jfd,jfc fun j hj=>h j (by omega)];exact ze (h n (by omega))
theorem jlx{f:Nat->Int}:∀{n:Nat},jfd f n=none->∀j,j<n->f j=0
 | 0,_,j,hj=>absurd hj (by omega)
 | n+1,h,j,hj=>by
  rw[jfd]at h;split at h
  ·cases h
  ·rename_i h0;split at h
   ·rename_i hn;by_cases e:j=n
    ·rw[e];exact hn
    ·exact jlx h0 j (by omega)
   ·cases h
theorem jlw{f:Nat->Int}:∀{n i:Nat},jfd f n=some i->i<n/\f i≠0/\∀j,j<i->f j=0
 | 0,_,h=>by cases h
 | n+1,i,h=>by
  rw[jfd]at h;split at h
  ·rename_i k hk;cases h;obtain⟨h1,h2,h3⟩:=jlw hk;exact⟨by omega,h2,h3⟩
  ·rename_i h0;split at h
   ·cases h
   ·rename_i hn;cases h;exact⟨by omega,hn,jlx h0⟩
def jcs(f:Nat->Int)(n:Nat):Int:=match jfd f n with
 | some i=>f i
 | none=>0
theorem jly{f:Nat->Int}{n i:Nat}(h0:∀j,j<i->f j=0)(hn:i<n)(h1:f i≠0):jcs f n=f i:=by unfold jcs;rw[jiy h0 hn h1]
theorem jfe{f:Nat->Int}{n:Nat}(h0:∀j,j<n->f j=0):jcs f n=0:=by unfold jcs;rw[jfc h0]
theorem firstE_zero{f:Nat->Int}{n:Nat}:jcs f n=0↔∀j,j<n->f j=0:=by
 constructor
 ·intro h;unfold jcs at h;split at h
  ·rename_i i hi;exact absurd h (jlw hi).2.1
  ·rename_i hi;exact jlx hi
 ·exact jfe
structure Rts where
 n:Int
 cap:List Int
 held:List Quo
 used:List Quo
structure Trn where
 fr:Int
 to:Int
 dep:Int
 day:Int
 kg:Int
def Rts.zero:Rts:=⟨0,[],[],[]⟩
def inR(x a b:Int):Bool:=decide (a<=x)&&decide (x<=b)
theorem inR_iff{x a b:Int}:inR x a b=true↔a<=x/\x<=b:=by simp[inR]
def Rts.there(r:Rts)(c d y:Int):Bool:=inR c 0 (r.n-1)&&(inR d 0 (r.cap.length-1)&&inR y 0 100000)
theorem there_iff{r:Rts}{c d y:Int}:r.there c d y=true↔(0<=c/\c<r.n)/\(0<=d/\d<r.cap.length)/\(0<=y/\y<=100000):=by
 rw[Rts.there,zn,zn,inR_iff,inR_iff,inR_iff];omega
def z0:Quo:=⟨0,0,0,0⟩
def errQ(r:Rts)(l:List Quo)(i:Nat):Int:=
 let q:=l.getD i z0
 if r.there q.com q.dep q.day=false then 1 else if inR q.kg 1 1000000=false then 3 else
 if 0<i/\0<=cmpL (l.getD (i-1) z0).k q.k then 2 else 0
def listE(r:Rts)(l:List Quo):Int:=jcs (errQ r l) l.length
def psum:List Quo->Int->Int->Int
 | [],_,_=>0
 | q::l,d,y=>(if q.dep=d/\q.day=y then q.kg else 0)+psum l d y
theorem ji4(d y:Int):∀(l m:List Quo),psum (l++m) d y=psum l d y+psum m d y
 | [],m=>by rw[List.nil_append,psum];omega
 | q::l,m=>by rw[List.cons_append,psum,psum,ji4 d y l m];omega
def capE(r:Rts)(i:Nat):Int:=if inR (r.cap.getD i 0) 0 1000000=false then 20 else 0
def dayE(r:Rts)(i:Nat):Int:=let q:=r.held.getD i z0
 if r.cap.getD q.dep.toNat 0<psum (r.held.take (i+1)) q.dep q.day then 20 else 0
def useE(r:Rts)(i:Nat):Int:=let q:=r.used.getD i z0
 if vof (tabL r.held) q.k<q.kg then 7 else 0
def jbw(r:Rts):Int:=
 if inR r.n 0 20=false then 1 else
 if 20<(r.cap.length:Int)\/300<(r.held.length:Int)\/300<(r.used.length:Int)then 6 else
 if jcs (capE r) r.cap.length≠0 then 20 else
 if listE r r.held≠0 then listE r r.held else
 if listE r r.used≠0 then listE r r.used else
 if jcs (dayE r) r.held.length≠0 then 20 else jcs (useE r) r.used.length
structure ListOk(r:Rts)(l:List Quo):Prop where
 there:∀q∈l,r.there q.com q.dep q.day=true
 kg:∀q∈l,1<=q.kg/\q.kg<=1000000
 asc:Asc l
structure RightQ(r:Rts):Prop where
 n:0<=r.n/\r.n<=20
 lens:r.cap.length<=20/\r.held.length<=300/\r.used.length<=300
 cap:∀c∈r.cap,0<=c/\c<=1000000
 held:ListOk r r.held
 used:ListOk r r.used
 day:∀q∈r.held,psum r.held q.dep q.day<=r.cap.getD q.dep.toNat 0
 use:∀q∈r.used,q.kg<=vof (tabL r.held) q.k
theorem jix{l:List Quo}{i:Nat}(h:i<l.length):l.getD i z0∈l:=by rw[gD _ h];exact yn h
theorem mem_getD{l:List Quo}{q:Quo}(h:q∈l):∃i,i<l.length/\l.getD i z0=q:=by
 obtain⟨i,hi,rfl⟩:=ja.1 h;exact⟨i,hi,gD _ hi⟩
theorem jni:∀{l:List Quo},(∀i,0<i->i<l.length->cmpL (l.getD (i-1) z0).k (l.getD i z0).k<0)->Asc l
 | [],_=>List.Pairwise.nil
 | [a],_=>List.pairwise_singleton _ _
 | a::b::l,h=>by
  have ih:Asc (b::l):=jni fun i h0 hi=>by
   have:=h (i+1) (by omega) (by simp only[List.length_cons]at*;omega);obtain⟨j,rfl⟩:∃j,i=j+1:=⟨i-1,by omega⟩;exact this
  have a1:cmpL a.k b.k<0:=h 1 (by omega) (by simp);refine qr.2 ⟨fun x hx=> ?_,ih⟩;rcases zL.1 hx with rfl | hx
  ·exact a1
  ·exact cmpL_trans a1 ((qr.1 ih).1 x hx)
theorem adj_of_asc{l:List Quo}(h:Asc l){i:Nat}(h0:0<i)(hi:i<l.length):cmpL (l.getD (i-1) z0).k (l.getD i z0).k<0:=by
 rw[gD _ (by omega),gD _ hi];exact yK.1 h (i-1) i (by omega) hi (by omega)
theorem listE_zero{r:Rts}{l:List Quo}:listE r l=0↔ListOk r l:=by
 rw[listE,firstE_zero];constructor
 ·intro h;have h1:∀i,i<l.length->r.there (l.getD i z0).com (l.getD i z0).dep (l.getD i z0).day=true/\(1<=(l.getD i z0).kg/\(l.getD i z0).kg<=1000000)/\(0<i->cmpL (l.getD (i-1) z0).k (l.getD i z0).k<0):=fun i hi=>by
   have:=h i hi;unfold errQ at this;dsimp only at this;split at this
   ·cases this
   ·rename_i ht;split at this
    ·cases this
    ·rename_i hk;split at this
     ·cases this
     ·rename_i ha;refine⟨by simpa using ht,inR_iff.1 (by simpa using hk),fun h0=> ?_⟩;rw[not_and]at ha;have:=ha h0;omega
  refine⟨fun q hq=> ?_,fun q hq=> ?_,jni fun i h0 hi=>(h1 i hi).2.2 h0⟩
  ·obtain⟨i,hi,rfl⟩:=mem_getD hq;exact(h1 i hi).1
  ·obtain⟨i,hi,rfl⟩:=mem_getD hq;exact(h1 i hi).2.1
 ·intro h i hi;have hm:=jix hi;unfold errQ;dsimp only;rw[zl (by rw[h.there _ hm];decide),zl (by rw[inR_iff.2 (h.kg _ hm)];decide),zl];rintro⟨h0,h1⟩;have:=adj_of_asc h.asc h0 hi;omega
theorem psum_nonneg{l:List Quo}(h:∀q∈l,0<=q.kg)(d y:Int):0<=psum l d y:=by
 induction l with
 | nil=>exact yy _
 | cons q l ih=>
  have h1:=ih fun q hq=>h q (zV _ hq);have h2:=h q zQ;rw[psum];split<;>omega
theorem psum_take_le{l:List Quo}(h:∀q∈l,0<=q.kg)(d y:Int)(i:Nat):psum (l.take i) d y<=psum l d y:=by
 have:=ji4 d y (l.take i) (l.drop i);rw[y9]at this;have:=psum_nonneg (l:=l.drop i) (fun q hq=>h q (yq hq)) d y;omega
theorem jpz:∀{l:List Quo} {d y:Int},(∃q∈l,q.dep=d/\q.day=y)->∃i,i<l.length/\(l.getD i z0).dep=d/\(l.getD i z0).day=y/\psum (l.take (i+1)) d y=psum l d y
 | [],_,_,⟨q,hq,_⟩=>by cases hq
 | a::l,d,y,⟨q,hq,h1,h2⟩=>by
  by_cases h:∃q∈l,q.dep=d/\q.day=y
  ·obtain⟨i,hi,e1,e2,e3⟩:=jpz h;refine⟨i+1,by simp;omega,e1,e2,?_⟩;rw[List.take_succ_cons,psum,psum,e3]
  ·rcases zL.1 hq with rfl | hq
   ·refine⟨0,by simp,h1,h2,?_⟩;rw[List.take_succ_cons,List.take_zero,psum,psum,psum];have:∀{l:List Quo},(¬∃q∈l,q.dep=d/\q.day=y)->psum l d y=0:=fun{l}=>by
     induction l with
     | nil=>intro _;rfl
     | cons b l ih=>
      intro h;rw[psum,zl fun e=>h ⟨b,zQ,e⟩,ih fun⟨q,hq,e⟩=>h ⟨q,zV _ hq,e⟩];rfl
    rw[this h]
   ·exact absurd ⟨q,hq,h1,h2⟩ h
theorem checkQ_zero{r:Rts}:jbw r=0↔RightQ r:=by
 have a7:jcs (capE r) r.cap.length=0↔∀c∈r.cap,0<=c/\c<=1000000:=by
  rw[firstE_zero];constructor
  ·intro h c hc;obtain⟨i,hi,rfl⟩:=ja.1 hc;have:=h i hi;unfold capE at this;rw[gD _ hi]at this;split at this
   ·cases this
   ·rename_i ht;exact inR_iff.1 (by simpa using ht)
  ·intro h i hi;unfold capE;rw[gD _ hi,zl (by rw[inR_iff.2 (h _ (yn hi))];decide)]
 have a1:jcs (useE r) r.used.length=0↔∀q∈r.used,q.kg<=vof (tabL r.held) q.k:=by
  rw[firstE_zero];constructor
  ·intro h q hq;obtain⟨i,hi,rfl⟩:=mem_getD hq;have:=h i hi;unfold useE at this;dsimp only at this;split at this
   ·cases this
   ·omega
  ·intro h i hi;have:=h _ (jix hi);unfold useE;dsimp only;rw[iNo]
 have a6:ListOk r r.held->(jcs (dayE r) r.held.length=0↔∀q∈r.held,psum r.held q.dep q.day<=r.cap.getD q.dep.toNat 0):=fun hl=>by
  have hp:∀q∈r.held,0<=q.kg:=fun q hq=>by have:=(hl.kg q hq).1;omega
  rw[firstE_zero];constructor
  ·intro h q hq;obtain⟨i,hi,e1,e2,e3⟩:=jpz ⟨q,hq,rfl,rfl⟩;have:=h i hi;unfold dayE at this;dsimp only at this;rw[e1,e2,e3]at this;split at this
   ·cases this
   ·omega
  ·intro h i hi;have h1:=h _ (jix hi);have h2:=psum_take_le hp (r.held.getD i z0).dep (r.held.getD i z0).day (i+1);unfold dayE;dsimp only;rw[iNo]
 unfold jbw;constructor
 ·intro h;split at h
  ·cases h
  rename_i h1;split at h
  ·cases h
  rename_i h2;split at h
  ·cases h
  rename_i h3;split at h
  ·rename_i h4;exact absurd h h4
  rename_i h4;split at h
  ·rename_i h5;exact absurd h h5
  rename_i h5;split at h
  ·cases h
  rename_i h6;have h4:=listE_zero.1 (vf.1 h4);exact⟨inR_iff.1 (by simpa using h1),by omega,a7.1 (vf.1 h3),h4,listE_zero.1 (vf.1 h5),(a6 h4).1 (vf.1 h6),a1.1 h⟩
 ·intro h;have hl:=h.lens;rw[zl (by rw[inR_iff.2 h.n];decide),iNo,zl (vO (a7.2 h.cap)),zl (vO (listE_zero.2 h.held)),zl (vO (listE_zero.2 h.used)),zl (vO ((a6 h.held).2 h.day))];exact a1.2 h.use
def stepT(t:Tab)(x:Trn):Tab:=
 let t1:=mput t [x.dep,x.day,x.fr] [vof t [x.dep,x.day,x.fr]-x.kg]
 mput t1 [x.dep,x.day,x.to] [vof t1 [x.dep,x.day,x.to]+x.kg]
def movT(t:Tab)(l:List Trn):Tab:=l.foldl stepT t
def x0:Trn:=⟨0,0,0,0,0⟩
def err1(r:Rts)(l:List Trn)(i:Nat):Int:=let x:=l.getD i x0
 if r.there x.fr x.dep x.day=false\/r.there x.to x.dep x.day=false\/x.fr=x.to then 1 else if inR x.kg 1 1000000=false then 3 else 0
def err2(r:Rts)(l:List Trn)(i:Nat):Int:=let x:=l.getD i x0
 if vof (movT (tabL r.held) l) [x.dep,x.day,x.fr]<vof (tabL r.used) [x.dep,x.day,x.fr]then 7 else 0
def Rts.after(r:Rts)(l:List Trn):Rts:=⟨r.n,r.cap,quoL (nz (movT (tabL r.held) l)),r.used⟩
def jcd(r:Rts)(l:List Trn):Rts×Int×Int:=
 if jbw r≠0 then(.zero,1,0)else if 40<(l.length:Int)then(.zero,6,0)else
 match jfd (err1 r l) l.length with
 | some i=>(.zero,err1 r l i,i)
 | none=>match jfd (err2 r l) l.length with
  | some i=>(.zero,7,i)
  | none=>if 300<((nz (movT (tabL r.held) l)).length:Int)then(.zero,6,l.length)else(r.after l,0,l.length)
def Rts.useT(r:Rts)(c d y k:Int):Tab:=mput (tabL r.used) [d,y,c] [vof (tabL r.used) [d,y,c]+k]
def heldQ(r:Rts)(c d y:Int):Int:=if jbw r≠0 then 0 else vof (tabL r.held) [d,y,c]
def leftQ(r:Rts)(c d y:Int):Int:=if jbw r≠0 then 0 else vof (tabL r.held) [d,y,c]-vof (tabL r.used) [d,y,c]
def Rts.spent(r:Rts)(c d y k:Int):Rts:=⟨r.n,r.cap,r.held,quoL (r.useT c d y k)⟩
def useQ(r:Rts)(c d y k:Int):Rts×Int:=
 if jbw r≠0\/r.there c d y=false then(.zero,1)else if inR k 1 1000000=false then(.zero,3)else if leftQ r c d y<k then(.zero,20)else
 if 300<((r.useT c d y k).length:Int)then(.zero,6)else(r.spent c d y k,0)
end
section
open Go.Abs (mget mput)
def csum(f:Int->Int):Nat->Int
 | 0=>0
 | n+1=>csum f n+f n
theorem jtf(f g:Int->Int):∀n,csum (fun c=>f c+g c) n=csum f n+csum g n
 | 0=>rfl
 | n+1=>by rw[csum,csum,csum,jtf f g n];omega
theorem jjo{f g:Int->Int}:∀{n:Nat},(∀c:Int,0<=c->c<n->f c=g c)->csum f n=csum g n
 | 0,_=>rfl
 | n+1,h=>by rw[csum,csum,jjo fun c h0 h1=>h c h0 (by omega),h n (by omega) (by omega)]
theorem jqo:∀n,csum (fun _=>0) n=0
 | 0=>rfl
 | n+1=>by rw[csum,jqo n];rfl
theorem jte(c0 v:Int):∀n:Nat,csum (fun c=>if c=c0 then v else 0) n=if 0<=c0/\c0<n then v else 0
 | 0=>by rw[csum,iNo]
 | n+1=>by
  rw[csum,jte c0 v n];by_cases h:(n:Int)=c0
  ·rw[ze h,iNo,iPo];omega
  ·rw[zl h];by_cases h2:0<=c0/\c0<n
   ·rw[ze h2,iPo];omega
   ·rw[zl h2,iNo];rfl
theorem csum_nonneg{f:Int->Int}:∀{n:Nat},(∀c:Int,0<=c->c<n->0<=f c)->0<=csum f n
 | 0,_=>yy _
 | n+1,h=>by
  have h1:=csum_nonneg (f:=f) (n:=n) fun c h0 h1=>h c h0 (by omega);have h2:=h n (by omega) (by omega);rw[csum];omega
theorem jry(q:Quo)(l:List Quo)(k:List Int):vof (tabL (q::l)) k=if k=q.k then q.kg else vof (tabL l) k:=by
 unfold vof;show(match mget ((q.k,[q.kg])::tabL l) k with | some v=>v.headD 0 | none=>0)=_;rw[mget];by_cases h:k=q.k
 ·rw[ze h,ze h];rfl
 ·rw[zl h,zl h];rfl
theorem jse{n:Nat}(d y:Int):∀{l:List Quo},Asc l->(∀q∈l,0<=q.com/\q.com<n)->psum l d y=csum (fun c=>vof (tabL l) [d,y,c]) n
 | [],_,_=>by
  rw[psum];exact(jqo n).symm
 | q::l,ha,hc=>by
  have a7:=qr.1 ha;have ih:=jse (n:=n) d y a7.2 fun q hq=>hc q (zV _ hq);have hq:=hc q zQ;have a6:vof (tabL l) q.k=0:=jki (by
   rw[jg1];intro hm;have:=ha.nodup;rw[zt,qF]at this;exact this.1 hm)
  by_cases h:q.dep=d/\q.day=y
  ·rw[psum,ze h,ih];obtain⟨rfl,rfl⟩:=h;have e:csum (fun c=>vof (tabL (q::l)) [q.dep,q.day,c]) n=csum (fun c=>(if c=q.com then q.kg else 0)+vof (tabL l) [q.dep,q.day,c]) n:=by
    refine jjo fun c _ _=> ?_;rw[jry];by_cases a1:c=q.com
    ·subst a1;rw[ze (show [q.dep,q.day,q.com]=q.k from rfl),ze rfl,show [q.dep,q.day,q.com]=q.k from rfl,a6];omega
    ·rw[zl a1,zl (fun e=>a1 (by simp only[Quo.k,yu,vy,vX]at e;exact e))];omega
   rw[e,jtf,jte,ze hq]
  ·rw[psum,zl h,ih,yW];refine jjo fun c _ _=> ?_;rw[jry,zl];intro e;simp only[Quo.k,yu,vy]at e;exact h ⟨e.1.symm,e.2.1.symm⟩
def Trn.kf(x:Trn):List Int:=[x.dep,x.day,x.fr]
def Trn.kt(x:Trn):List Int:=[x.dep,x.day,x.to]
def dlt(x:Trn)(k:List Int):Int:=(if k=x.kt then x.kg else 0)-(if k=x.kf then x.kg else 0)
def got:List Trn->List Int->Int
 | [],_=>0
 | x::l,k=>dlt x k+got l k
theorem vof_step(t:Tab)(x:Trn)(k:List Int):vof (stepT t x) k=vof t k+dlt x k:=by
 unfold stepT dlt;dsimp only;rw[jjc,jjc,jjc];show(if k=x.kt then(if x.kt=x.kf then vof t x.kf-x.kg else vof t x.kt)+x.kg else if k=x.kf then vof t x.kf-x.kg else vof t k)=_;by_cases h1:k=x.kt
 ·rw[ze h1,ze h1];subst h1;by_cases h2:x.kt=x.kf
  ·rw[ze h2,ze h2,h2];omega
  ·rw[zl h2,zl h2];omega
 ·rw[zl h1,zl h1];by_cases h2:k=x.kf
  ·rw[ze h2,ze h2,h2];omega
  ·rw[zl h2,zl h2];omega
theorem vof_mov(k:List Int):∀(l:List Trn) (t:Tab),vof (movT t l) k=vof t k+got l k
 | [],t=>by rw[got];show vof t k=_;omega
 | x::l,t=>by
  show vof (movT (stepT t x) l) k=_;rw[vof_mov k l,vof_step,got];omega
theorem step_dist{t:Tab}(h:Dist t)(x:Trn):Dist (stepT t x):=jlh (jlh h _ _) _ _
theorem jof:∀(l:List Trn) {t:Tab},Dist t->Dist (movT t l)
 | [],_,h=>h
 | x::l,_,h=>jof l (step_dist h x)
theorem step_shape{t:Tab}(h:Shape 3 t)(x:Trn):Shape 3 (stepT t x):=jg5 (jg5 h rfl rfl) rfl rfl
theorem jh4:∀(l:List Trn) {t:Tab},Shape 3 t->Shape 3 (movT t l)
 | [],_,h=>h
 | x::l,_,h=>jh4 l (step_shape h x)
theorem step_len(t:Tab)(x:Trn):(stepT t x).length<=t.length+2:=by
 have h1:=joe t [x.dep,x.day,x.fr] [vof t [x.dep,x.day,x.fr]-x.kg];have h2:=joe (mput t [x.dep,x.day,x.fr] [vof t [x.dep,x.day,x.fr]-x.kg]) [x.dep,x.day,x.to] [vof (mput t [x.dep,x.day,x.fr] [vof t [x.dep,x.day,x.fr]-x.kg]) [x.dep,x.day,x.to]+x.kg];unfold stepT;dsimp only;omega
theorem mov_len:∀(l:List Trn) (t:Tab),(movT t l).length<=t.length+2*l.length
 | [],t=>by show t.length<=_;omega
 | x::l,t=>by
  have h1:=mov_len l (stepT t x);have h2:=step_len t x;show(movT (stepT t x) l).length<=_;rw[List.length_cons];omega
theorem mov_take_succ{l:List Trn}(t:Tab){i:Nat}(h:i<l.length):movT t (l.take (i+1))=stepT (movT t (l.take i)) (l.getD i x0):=by
 rw[yo,za h,gD _ h];unfold movT;rw[jV];rfl
theorem jf6{r:Rts}{l:List Quo}(h:ListOk r l){k:List Int}:0<=vof (tabL l) k:=by
 by_cases hk:k∈(tabL l).map (·.1)
 ·rw[jg1]at hk;obtain⟨q,hq,rfl⟩:=z8.1 hk;rw[jr0 h.asc hq];have:=(h.kg q hq).1;omega
 ·rw[jki hk];omega
theorem ListOk.com{r:Rts}{l:List Quo}(h:ListOk r l):∀q∈l,0<=q.com/\q.com<r.n.toNat:=fun q hq=>by
 have:=(there_iff.1 (h.there q hq)).1;omega
theorem ListOk.psum{r:Rts}{l:List Quo}(h:ListOk r l)(d y:Int):psum l d y=csum (fun c=>vof (tabL l) [d,y,c]) r.n.toNat:=jse d y h.asc h.com
theorem RightQ.use_le{r:Rts}(h:RightQ r)(k:List Int):vof (tabL r.used) k<=vof (tabL r.held) k:=by
 by_cases hk:k∈(tabL r.used).map (·.1)
 ·rw[jg1]at hk;obtain⟨q,hq,rfl⟩:=z8.1 hk;rw[jr0 h.used.asc hq];exact h.use q hq
 ·rw[jki hk];exact jf6 h.held
theorem RightQ.psum_le{r:Rts}(h:RightQ r){d y:Int}(hd:0<=d/\d<r.cap.length):LQ.psum r.held d y<=r.cap.getD d.toNat 0:=by
 by_cases he:∃q∈r.held,q.dep=d/\q.day=y
 ·obtain⟨q,hq,rfl,rfl⟩:=he;exact h.day q hq
 ·have h0:∀{l:List Quo},(¬∃q∈l,q.dep=d/\q.day=y)->LQ.psum l d y=0:=fun{l}=>by
   induction l with
   | nil=>intro _;rfl
   | cons b l ih=>
    intro h;rw[LQ.psum,zl fun e=>h ⟨b,zQ,e⟩,ih fun⟨q,hq,e⟩=>h ⟨q,zV _ hq,e⟩];rfl
  rw[h0 he];have a1:d.toNat<r.cap.length:=by omega
  rw[gD _ a1];exact(h.cap _ (yn a1)).1
theorem RightQ.vof_cap{r:Rts}(h:RightQ r)(k:List Int):vof (tabL r.held) k<=1000000:=by
 by_cases hk:k∈(tabL r.held).map (·.1)
 ·rw[jg1]at hk;obtain⟨q,hq,rfl⟩:=z8.1 hk;rw[jr0 h.held.asc hq];exact(h.held.kg q hq).2
 ·rw[jki hk];omega
structure TrnOk(r:Rts)(x:Trn):Prop where
 fr:r.there x.fr x.dep x.day=true
 to:r.there x.to x.dep x.day=true
 ne:x.fr≠x.to
 kg:1<=x.kg/\x.kg<=1000000
theorem err1_zero{r:Rts}{l:List Trn}{i:Nat}:err1 r l i=0↔TrnOk r (l.getD i x0):=by
 unfold err1;dsimp only;constructor
 ·intro h;split at h
  ·cases h
  ·rename_i h1;split at h
   ·cases h
   ·rename_i h2;rw[wd,wd]at h1;exact⟨by simpa using h1.1,by simpa using h1.2.1,h1.2.2,inR_iff.1 (by simpa using h2)⟩
 ·intro h;rw[zl (by
   rintro(e | e | e)
   ·rw[h.fr]at e;cases e
   ·rw[h.to]at e;cases e
   ·exact h.ne e),zl (by rw[inR_iff.2 h.kg];decide)]
structure TradeOk(r:Rts)(l:List Trn):Prop where
 right:RightQ r
 len:l.length<=40
 ok:∀x∈l,TrnOk r x
 use:∀x∈l,vof (tabL r.used) x.kf<=vof (tabL r.held) x.kf+got l x.kf
 full:(nz (movT (tabL r.held) l)).length<=300
section
variable{r:Rts}{l:List Trn}
end
section
variable{r:Rts}{c d y k:Int}
structure UseOk(r:Rts)(c d y k:Int):Prop where
 right:RightQ r
 there:r.there c d y=true
 kg:1<=k/\k<=1000000
 left:k<=vof (tabL r.held) [d,y,c]-vof (tabL r.used) [d,y,c]
 full:(r.useT c d y k).length<=300
end
end
end Go.LQ
namespace Go.Proofs.YtjcjcpebocbonaaGreat
section
set_option maxRecDepth 1000000
open Go.Abs Go.LQ
attribute [local go_sem] ints ic
def qC(q:Quo):List IV:=[.int q.com,.int q.dep,.int q.day,.int q.kg]
def rtC(r:Rts):List IV:=[.int r.n,ints r.cap,.sl (r.held.map qC),.sl (r.used.map qC)]
theorem q_in(n lo hi:Int):Ctr G.P 26 [.int n,.int lo,.int hi] (· = .bool (inR n lo hi)):=by
 refine ja3 [.tmp 6] Tryz.func26 ?_;simp only[go_sem];refine jc5 (fun d=> ?_) (fun d=> ?_)
 ·simp only[d,go_sem];rw[inR,d];rfl
 ·simp only[d,go_sem];rw[inR,d];rfl
theorem q_of(q:Quo):Ctr G.P 29 [.agg (qC q)] (· = .agg [.int q.dep,.int q.day,.int q.com]):=by
 unfold qC;refine ja3 [.cell 2 80] Tryz.func29 ?_;simp only[go_sem]
theorem q_nan(n:Int):Ctr G.P 99 [.int n] (· = .bool false):=by
 have hd:decide (n=n)=true:=zp rfl;refine ja3 [.tmp 2] Tryz.func99 ?_;simp only[hd,go_sem]
theorem q_cmp(x y:Int):Ctr G.P 72 [.int x,.int y] (· = .int (if x<y then-1 else if y<x then 1 else 0)):=by
 have kx:=q_nan x;have ky:=q_nan y;refine ja3 [.tmp 4] Tryz.func72 ?_;simp only[go_sem];refine ja0 kx ?_;simp only[go_sem];refine ja0 ky ?_;simp only[go_sem];refine jbp (fun d1 h1=> ?_) (fun d1 h1=> ?_)
 ·rw[ze h1];simp only[go_sem]
 simp only[d1,go_sem];refine jbp (fun d2 h2=> ?_) (fun d2 h2=> ?_)
 ·rw[zl h1,ze h2];simp only[go_sem]
 ·rw[zl h1,zl h2];simp only[go_sem]
theorem get_i{l:List Int}{i:Nat}(h:i<l.length):l[i]? =some (l.getD i 0):=by rw[gD _ h];exact za h
theorem cmpL_drop{a b:List Int}{i:Nat}(ha:i<a.length)(hb:i<b.length):cmpL (a.drop i) (b.drop i)=if a.getD i 0<b.getD i 0 then-1 else if b.getD i 0<a.getD i 0 then 1 else cmpL (a.drop (i+1)) (b.drop (i+1)):=by
 rw[qR ha,qR hb,cmpL,gD _ ha,gD _ hb]
theorem q_compare(a b:List Int)(hl:a.length=b.length)(hL:a.length<=100000):Ctr G.P 54 [ints a,ints b] (· = .int (cmpL a b)):=by
 refine ja3 [.tmp 4] Tryz.func54 ?_;simp only[zw,go_sem];refine jai [0,1,9,10,11] [] (fun i:Nat=>⟨[(0,.im (ints a)),(1,.im (ints b)),(9,.im (ints a)),(10,.im (.int a.length)),(11,.im (.int i))],[],[]⟩)
  (fun i=>i<=a.length/\cmpL a b=cmpL (a.drop i) (b.drop i)) (fun i=>a.length-i) 0 ?_ ⟨zG _,rfl⟩ ?_
 ·simp only[Int.natCast_zero,go_sem]
 intro i ⟨hi,hc⟩;by_cases hp:(i:Int)<a.length
 ·have hd:decide ((i:Int)<a.length)=true:=zp hp;have a7:(0:Int)<=i:=by omega
  have a1:(i:Int)<b.length:=by omega
  have b0:decide ((b.length:Int)<=i)=false:=dFo;have hn:((i:Nat):Int).toNat=i:=Int.toNat_natCast i;have ha:=get_i (l:=a) (i:=i) (by omega);have hb:=get_i (l:=b) (i:=i) (by omega);have hw:=ja8 ((i:Int)+1);have a8:=cmpL_drop (a:=a) (b:=b) (i:=i) (by omega) (by omega);have kC:=q_cmp (a.getD i 0) (b.getD i 0);generalize a.getD i 0=x at*;generalize b.getD i 0=y at*;simp only[hd,b0,a7,hp,a1,hn,zq,ha,hb,zw,go_sem];refine ja0 kC ?_;rw[a8]at hc;by_cases h1:x<y
  ·rw[ze h1]at hc⊢;rw[hc];simp only[go_sem]
  rw[zl h1]at hc⊢;by_cases h2:y<x
  ·rw[ze h2]at hc⊢;rw[hc];simp only[go_sem]
  rw[zl h2]at hc⊢;simp only[go_sem];refine ja7 (i+1) ?_ (by omega) ⟨by omega,hc⟩;simp only[hw,Int.natCast_add,go_sem]
 ·have hd:decide ((i:Int)<a.length)=false:=zh hp;have a6:decide ((a.length:Int)<b.length)=false:=dFo;have h0:cmpL a b=0:=by rw[hc,zY (by omega),zY (by omega)];rfl
  rw[h0];simp only[hd,a6,zw,go_sem]
theorem q_cmpK(a b:Quo):Ctr G.P 54 [.sl [[.int a.dep],[.int a.day],[.int a.com]],.sl [[.int b.dep],[.int b.day],[.int b.com]]] (· = .int (cmpL a.k b.k)):=q_compare a.k b.k rfl (by simp[Quo.k])
theorem jr8(r:Rts)(c d y:Int)(hn:0<=r.n/\r.n<=1000000)(hl:r.cap.length<=100000):Ctr G.P 50 [.agg (rtC r),.int c,.int d,.int y] (· = .bool (r.there c d y)):=by
 have k1:=q_in c 0 (r.n-1);have k2:=q_in d 0 (r.cap.length-1);have k3:=q_in y 0 100000;have w1:=ja8 (r.n-1);have w2:=ja8 ((r.cap.length:Int)-1);rw[Rts.there];generalize inR c 0 (r.n-1)=b1 at*;generalize inR d 0 (r.cap.length-1)=b2 at*;generalize inR y 0 100000=b3 at*;unfold rtC;generalize r.held.map qC=h at*;generalize r.used.map qC=u at*;cases b1
 ·refine ja3 [.tmp 8] Tryz.func50 ?_;simp only[w1,w2,zw,go_sem];refine ja0 k1 ?_;simp only[go_sem]
 cases b2
 ·refine ja3 [.tmp 8] Tryz.func50 ?_;simp only[w1,w2,zw,go_sem];refine ja0 k1 ?_;simp only[w2,zw,go_sem];refine ja0 k2 ?_;simp only[go_sem]
 ·refine ja3 [.tmp 8] Tryz.func50 ?_;simp only[w1,w2,zw,go_sem];refine ja0 k1 ?_;simp only[w2,zw,go_sem];refine ja0 k2 ?_;simp only[go_sem];refine ja0 k3 ?_;simp only[go_sem]
end
section
set_option maxRecDepth 1000000
open Go.Abs
open Go.LP (Rw RT tsum Sol Bds ksum)
def arrQ(pl day:Int)(x:Move):Bool:=decide (x.to=pl)&&decide (x.day=day)
def rowQ(i:Nat):Nat->List (Int×Int)
 | 0=>[]
 | m+1=>rowQ i m++[((i:Int),(m:Int))]
def jca(l:List Move)(k:Nat)(pl day:Int):Nat->List (Int×Int)
 | 0=>[]
 | i+1=>match l[i]? with
  | some x=>jca l k pl day i++(if arrQ pl day x=true then rowQ i k else [])
  | none=>jca l k pl day i
def argQ(e:Evid)(pl day:Int):Bool:=decide (jbh e=0)&&(Go.LQ.inR pl 0 (e.places.length-1)&&(!decide (ji0 e pl=0)&&Go.LQ.inR day 0 100000))
abbrev jde(e:Evid)(pl day:Int):List (Int×Int):=jca e.moves e.mats.toNat pl day e.moves.length
section
variable{l:List Move}{k:Nat}{pl day:Int}
theorem rowQ_mem{i:Nat}{p:Int×Int}:∀{M:Nat},p∈rowQ i M↔∃m,m<M/\p=((i:Int),(m:Int))
 | 0=>by simp[rowQ]
 | M+1=>by
  rw[rowQ,ql,rowQ_mem,zF];constructor
  ·rintro(⟨m,h1,h2⟩ | h)
   ·exact⟨m,by omega,h2⟩
   ·exact⟨M,by omega,h⟩
  ·rintro⟨m,h1,h2⟩;by_cases e:m=M
   ·subst e;exact .inr h2
   ·exact .inl ⟨m,by omega,h2⟩
theorem jik{i:Nat}:∀m,(rowQ i m).length=m
 | 0=>rfl
 | m+1=>by rw[rowQ,zB,jik m];rfl
theorem jhn{p:Int×Int}:∀{n:Nat},p∈jca l k pl day n->∃i y m,i<n/\l[i]? =some y/\m<k/\p=((i:Int),(m:Int))
 | 0,h=>by cases h
 | n+1,h=>by
  rw[jca]at h;cases hx:l[n]? with
  | none=>
   rw[hx]at h;obtain⟨i,y,m,h1,h2⟩:=jhn h;exact⟨i,y,m,by omega,h2⟩
  | some y=>
   rw[hx]at h;rcases ql.1 h with h | h
   ·obtain⟨i,y,m,h1,h2⟩:=jhn h;exact⟨i,y,m,by omega,h2⟩
   ·split at h
    ·obtain⟨m,h1,h2⟩:=rowQ_mem.1 h;exact⟨n,y,m,by omega,hx,h1,h2⟩
    ·cases h
theorem jho:∀n,(jca l k pl day n).length<=n*k
 | 0=>zG _
 | n+1=>by
  have ih:=jho n;rw[jca,jo];cases l[n]? with
  | none=>dsimp only;omega
  | some y=>
   dsimp only;rw[zB];split
   ·rw[jik];omega
   ·rw[List.length_nil];omega
theorem rowQK{i M:Nat}:∀m,(rowQ i m).map (pickK M)=(List.range m).map fun k=>i*M+k
 | 0=>rfl
 | m+1=>by
  rw[rowQ,qx,rowQK m,List.range_succ,qx];show _++[((i:Int).toNat*M+(m:Int).toNat)]=_++[i*M+m];rw[Int.toNat_natCast,Int.toNat_natCast]
theorem picksQ_lt:∀{n j:Nat},j∈(jca l k pl day n).map (pickK k)->j<n*k:=fun{n j} h=>by
 obtain⟨p,hp,rfl⟩:=z8.1 h;obtain⟨i,y,m,h1,h2,h3,rfl⟩:=jhn hp;have:(i+1)*k<=n*k:=qj _ h1;rw[jo]at this;show(i:Int).toNat*k+(m:Int).toNat<_;rw[Int.toNat_natCast,Int.toNat_natCast];omega
theorem jh3:∀n,((jca l k pl day n).map (pickK k)).Nodup
 | 0=>vw
 | n+1=>by
  rw[jca];cases l[n]? with
  | none=>exact jh3 n
  | some y=>
   dsimp only;rw[qx,js];refine⟨jh3 n,?_,fun a ha b hb=> ?_⟩
   ·split
    ·rw[rowQK];refine List.Pairwise.map _ (fun a b h=> ?_) List.nodup_range;omega
    ·exact vw
   ·have h1:=picksQ_lt ha;split at hb
    ·rw[rowQK]at hb;obtain⟨j,_,rfl⟩:=z8.1 hb;omega
    ·cases hb
end
section
variable{e:Evid}{pl day:Int}
theorem jjq(h:argQ e pl day=true):jbh e=0/\(0<=pl/\pl<e.places.length)/\ji0 e pl≠0/\(0<=day/\day<=100000):=by
 simp only[argQ,Go.LQ.inR,zn,zN,yR,qg]at h;exact⟨h.1,by omega,h.2.2.1,by omega⟩
theorem jq0{e:Evid}(hc:jbh e=0){pl day:Int}:∀p∈jde e pl day,(0<=p.1/\p.1<(e.moves.length:Int))/\0<=p.2/\p.2<e.mats:=fun p hp=>by
 obtain⟨i,y,m,h1,h2,h3,rfl⟩:=jhn hp;have:=(jay hc).2.1;dsimp only;omega
theorem picksE_ok{e:Evid}(hc:jbh e=0){pl day:Int}:okP e (jde e pl day)=true:=okP_iff.2 ⟨hc,fun p hp=>by
 have:=jq0 hc p hp;simp only[je8,zn,zN];omega,jh3 _⟩
theorem fdiv_abs(r:Rat):(r.num.fdiv r.den).natAbs<=r.num.natAbs:=by
 rw[yJ _ (by omega)];have h1:(0:Int)<r.den:=by have:=r.den_pos;omega
 rcases yB r.num 0 with h2 | h2
 ·have h3:r.num<=r.num/(r.den:Int):=by
   rw[Int.le_ediv_iff_mul_le h1];have:r.num*(r.den:Int)<=r.num*1:=Int.mul_le_mul_of_nonpos_left (by omega) (by omega);omega
  have h4:r.num/(r.den:Int)<0:=jY h1 (by omega);omega
 ·have h3:r.num/(r.den:Int)<=r.num:=Int.ediv_le_self _ h2;have h4:0<=r.num/(r.den:Int):=jN h2 (by omega);omega
structure QSay(e:Evid)(pl day n f:Int):Prop where
 bad:argQ e pl day=false->n=0/\f=1
 ok:argQ e pl day=true->(f=15/\n=0/\∀x,¬Sol (nV e) (rowsE e) x)\/(f=0/\∃lo hi,BSay e (jde e pl day) (some (lo,hi))/\n=intF (jlu (lo/((1000:Int):Rat))))
theorem jrd{a b:Rat}(h:a<=b):a/((1000:Int):Rat)<=b/((1000:Int):Rat):=by
 rw[Rat.div_def,Rat.div_def];exact Rat.mul_le_mul_of_nonneg_right h (by decide+kernel)
theorem brought_floor{n f:Int}{h:List (List Raw)}{H:List (List Rat)}(hq:QSay e pl day n f)(ha:argQ e pl day=true)(h6:e.moves.length<=6)(hm:e.mats<=3)(ho:HistOf e h H)(hx:Sol (nV e) (rowsE e) (ptH e.mats.toNat H)):
  f=0/\∃lo hi,BSay e (jde e pl day) (some (lo,hi))/\n=(lo/((1000:Int):Rat)).floor/\0<=n/\n<=9223372036854775807/\lo<=wgt e (jde e pl day) (ptH e.mats.toNat H):=by
 rcases hq.ok ha with ⟨_,_,h3⟩ | ⟨h1,lo,hi,h2,h3⟩
 ·exact absurd hx (h3 _)
 obtain⟨b0,hb,_,_⟩:=h2.inv;have a6:∀k∈(jde e pl day).map (pickK e.mats.toNat),k<nV e:=fun k hk=>by
  obtain⟨p,hp,rfl⟩:=z8.1 hk;exact pick_lt ((jiq b0).2.1 p hp)
 have a7:lo<=wgt e (jde e pl day) (ptH e.mats.toNat H):=hb.low _ hx;have h0:(0:Rat)<=lo:=by
  obtain⟨z,hz,rfl⟩:=hb.low_at;exact Go.LP.ksum_nonneg hz.pos a6
 have a8:=ksum_le (x:=ptH e.mats.toNat H) (c:=1152921504606846976) (N:=nV e) (fun k _=>pt_small ho k) a6;have hl:((jde e pl day).map (pickK e.mats.toNat)).length<=18:=by
  rw[zw];show(jca e.moves e.mats.toNat pl day e.moves.length).length<=18;have h1:=jho (l:=e.moves) (k:=e.mats.toNat) (pl:=pl) (day:=day) e.moves.length;have h2:e.moves.length*e.mats.toNat<=6*3:=yk h6 (by omega);omega
 rw[floorR_eq]at h3;have f0:0<=(lo/((1000:Int):Rat)).floor:=Rat.le_floor_iff.2 (by
  have:=jrd h0;rw[Rat.div_def,vY]at this
  simpa using this)
 have f1:(lo/((1000:Int):Rat)).floor<=9223372036854775807:=by
  have a1:=vp a7 a8;have a2:(((((jde e pl day).map (pickK e.mats.toNat)).length:Int)*1152921504606846976:Int):Rat)<=((18*1152921504606846976:Int):Rat):=Rat.intCast_le_intCast.2 (by
   exact qf (by omega) (by decide))
  have a3:=jrd (vp a1 a2);have a4:((18*1152921504606846976:Int):Rat)/((1000:Int):Rat)<=((9223372036854775807:Int):Rat):=by decide+kernel
  have a5:=vp (vp (Rat.floor_le _) a3) a4;exact Rat.intCast_le_intCast.1 a5
 rw[intF_of f0 f1]at h3;exact⟨h1,lo,hi,h2,h3,by omega,by omega,a7⟩
theorem brought_mass{n f:Int}{h:List (List Raw)}{H:List (List Rat)}(hq:QSay e pl day n f)(hc:jbh e=0)(h6:e.moves.length<=6)(hm:e.mats<=3)(ho:HistOf e h H)(hx:Sol (nV e) (rowsE e) (ptH e.mats.toNat H))(hf:f=0):
  jg7 H ((0:Int):Rat) (jde e pl day)=some (wgt e (jde e pl day) (ptH e.mats.toNat H))/\(0<=n/\n<=9223372036854775807)/\(n:Rat)<=wgt e (jde e pl day) (ptH e.mats.toNat H)/((1000:Int):Rat)/\argQ e pl day=true:=by
 have ha:argQ e pl day=true:=by
  cases h1:argQ e pl day with
  | true=>rfl
  | false=>have:=(hq.bad h1).2;omega
 obtain⟨_,lo,hi,_,h2,h3,h4,h5⟩:=brought_floor hq ha h6 hm ho hx;refine⟨?_,⟨h3,h4⟩,?_,ha⟩
 ·rw[jqc ho _ _ (jq0 hc),show((0:Int):Rat)=0 from rfl,Rat.zero_add];rfl
 ·rw[h2];exact vp (Rat.floor_le _) (jrd h5)
