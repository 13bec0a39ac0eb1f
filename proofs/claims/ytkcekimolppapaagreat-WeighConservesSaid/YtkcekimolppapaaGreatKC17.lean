/- A part of the proof. No further condition. -/
import Derived.Test.YtkcekimolppapaaGreatKC16
import Derived.Shelf.SlSortCmp.WholeK
import Derived.Shelf.SlSortCmp.NoneTotal
import Derived.Shelf.SlicesG.Cmp
import Derived.Shelf.Small.Bits
set_option linter.all false
set_option maxRecDepth 10000000
set_option maxHeartbeats 16000000
namespace Go.Abs
section
section
variable{L R:Rows}{k d s b:Nat}{es:List (List IV)}
theorem look_filterQ(q:Nat->Bool)(l:Rows)(k:Nat):look (l.filter fun p=>q p.1) k=if q k=true then look l k else none:=jbk l q k
theorem jaw(h:blks L)(hd:d<100000):look L d=none:=by
 cases hl:look L d with
 | none=>rfl
 | some x=>obtain⟨b,e⟩:=h d x hl;unfold hp at e;omega
theorem filter_of_none(h:look L d=none):L.filter (fun p=>p.1 !=d)=L:=by
 induction L with
 | nil=>rfl
 | cons p L ih=>
  obtain⟨j,v⟩:=p;by_cases e:d=j
  ·subst e;rw[ja2]at h;cases h
  ·rw[ja0 _ _ e]at h;rw[jA,ih h,zm (by simp only[qi,ne_eq];exact fun x=>e x.symm)]
theorem jdd(h:look L d=none):L.map (fun p=>if p.1=d then(p.1,s,es)else p)=L:=by
 induction L with
 | nil=>rfl
 | cons p L ih=>
  obtain⟨j,v⟩:=p;by_cases e:d=j
  ·subst e;rw[ja2]at h;cases h
  ·rw[ja0 _ _ e]at h;rw[zl,ih h,zn (fun x=>e x.symm)]
theorem jdx(h:blks L)(hd:d<100000):L.filter (fun p=>p.1 !=d)=L:=filter_of_none (jaw h hd)
theorem jn9(h:blks L)(hd:d<100000):L.map (fun p=>if p.1=d then(p.1,s,es)else p)=L:=jdd (jaw h hd)
theorem jad{x:Nat×List (List IV)}(h:look L k=some x):look (L.map (fun p=>if p.1=k then(p.1,s,es)else p)) k=some (s,es):=
 jbr (by rw[h];rfl)
theorem jai{j:Nat}(h:j≠k):look (L.map (fun p=>if p.1=k then(p.1,s,es)else p)) j=look L j:=jc2 h
theorem jb5(h:blks L):blks (L.map (fun p=>if p.1=k then(p.1,s,es)else p)):=fun j x hj=>by
 have:(look L j).isSome:=by
  have e:=jbh (l:=L) (d:=k) (s:=s) (k:=j) (es:=es);unfold setRow at e;rw[<-e,hj];rfl
 obtain⟨y,hy⟩:=zk.1 this;exact h j y hy
theorem jaq(h:blks L):blks ((hp b,s,es)::L):=fun j x hj=>by
 by_cases e:j=hp b
 ·exact⟨b,e⟩
 ·rw[ja0 _ _ e]at hj;exact h j x hj
theorem jby:blks []:=fun _ _ h=>by cases h
theorem jbq(h:blks L):blks (del L d):=fun j x hj=>by
 by_cases e:j=d
 ·subst e;rw[ja7]at hj;cases hj
 ·rw[ja6 _ e]at hj;exact h j x hj
def hiR(R:Rows):Rows:=R.filter fun p=>Nat.ble 100000 p.1
theorem jmx:look (hiR R) k=if 100000<=k then look R k else none:=by
 unfold hiR;rw[look_filterQ];by_cases h:100000<=k
 ·rw[zm (Nat.ble_eq▸h),zm h]
 ·rw[zn (fun e=>h (qK e)),zn h]
theorem jar:look (hiR R) (hp b)=look R (hp b):=by rw[jmx,zm (by unfold hp;omega)]
theorem je2:blks (hiR R):=fun k x h=>by
 rw[jmx]at h;split at h
 ·rename_i hk;exact⟨_,hp_of hk⟩
 ·cases h
theorem hiR_ret:∀k x,look (hiR R) k=some x->100000<=k/\look R k=some x:=fun k x h=>by
 rw[jmx]at h;split at h
 ·exact⟨‹_›,h⟩
 ·cases h
theorem ja3{x:Nat×List (List IV)}(hd:d<100000)(hL:blks L)(h:SubR L R):SubR L ((d,x)::R):=fun k y hk=>by
 rw[ja0 _ _ (fun e=>by subst e;rw[jaw hL hd]at hk;cases hk)];exact h k y hk
theorem jc6:SubR [] R:=fun _ _ h=>by cases h
theorem jaz{R':Rows}(p:Nat×Nat×List (List IV))(hs:SubR R' R):SubR (p::R') (p::R):=fun k x hk=>by
 obtain⟨j,v⟩:=p;by_cases e:k=j
 ·subst e;rw[ja2]at hk⊢;exact hk
 ·rw[ja0 _ _ e]at hk⊢;exact hs k x hk
theorem jao{R':Rows}{p:Nat×Nat×List (List IV)}(h:look R' p.1=none)(hs:SubR R' R):SubR R' (p::R):=fun k x hk=>by
 obtain⟨j,v⟩:=p;rw[ja0 _ _ (fun e=>by subst e;rw[h]at hk;cases hk)];exact hs k x hk
theorem Behind_pre{L L':Rows}:∀(pre:Rows),(∀p∈pre,look L p.1=none)->jf6 (pre++L) L L' (pre++L')
 | [],_=>fun _ _ h=> .inl h
 | (j,v)::pre,hp=>fun k x h=>by
  by_cases e:k=j
  ·subst e;rw[List.cons_append,ja2]at h⊢;exact .inr ⟨hp _ (zP ..),h⟩
  ·rw[List.cons_append,ja0 _ _ e]at h⊢;exact Behind_pre pre (fun p h=>hp p (qz _ h)) k x h
theorem jbf{L':Rows}:jf6 R L L' L':=fun _ _ h=> .inl h
end
section
variable{R:Rows}
theorem jbd{G:Ctx}{rs:List ResultVar}{st:St}{φ:AV->Rows->Prop}(h:jme G rs (fun r=>φ r (hiR st.rows)) st): @RetH G rs st ⟨φ⟩:=jnb (hiR st.rows) hiR_ret h
theorem jbe{G:Ctx}{rs:List ResultVar}{st:St}{φ:AV->Rows->Prop}(L':Rows)(hb:blks L')(hs:SubR L' st.rows)(h:jme G rs (fun r=>φ r L') st): @RetH G rs st ⟨φ⟩:=
 jnb L' (fun k x hk=>⟨by obtain⟨b,rfl⟩:=hb k x hk;unfold hp;omega,hs k x hk⟩) h
end
def tab{α:Type}(n:Nat)(f:Nat->α):List α:=(List.range n).map f
section
variable{α β:Type}{n:Nat}{f g:Nat->α}
theorem ja9:(tab n f).length=n:=by simp[tab]
theorem jfp{i:Nat}(h:i<n):(tab n f)[i]? =some (f i):=by simp[tab,h]
theorem tab_get_none{i:Nat}(h:¬i<n):(tab n f)[i]? =none:=by simp[tab];omega
theorem jam(h:∀k,k<n->f k=g k):tab n f=tab n g:=yM fun k hk=>h k (qg.1 hk)
theorem tab_ext{l:List α}(hl:l.length=n)(h:∀k,k<n->l[k]? =some (f k)):l=tab n f:=by
 apply vf;intro i;by_cases hi:i<n
 ·rw[h i hi,jfp hi]
 ·rw[tab_get_none hi,q5 (by omega)]
theorem jmm{i:Nat}{x:α}:(tab n f).set i x=tab n fun k=>if k=i then x else f k:=by
 refine tab_ext (by rw[qf,ja9]) fun k hk=> ?_;by_cases e:k=i
 ·subst e;rw[zm rfl,List.getElem?_set_self (by rw[ja9];exact hk)]
 ·rw[zn e,yF (fun h=>e h.symm),jfp hk]
theorem jhl:tab (n+1) f=tab n f++[f n]:=by simp[tab,jF]
theorem tab_zero:tab 0 f=[]:=rfl
theorem tab_replicate{x:α}:List.replicate n x=tab n fun _=>x:=tab_ext (by simp) fun k hk=>by simp[hk]
theorem tab_mem{x:α}(h:x∈tab n f):∃i,i<n/\f i=x:=by
 obtain⟨i,hi,rfl⟩:=qv.1 h;exact⟨i,qg.1 hi,rfl⟩
theorem mem_tab{i:Nat}(h:i<n):f i∈tab n f:=qv.2 ⟨i,qg.2 h,rfl⟩
theorem jcx:(tab n f).take n=tab n f:=zG (by rw[ja9];exact zB _)
theorem tab_nodup{A:Nat->Nat}(h:(tab n A).Nodup){i j:Nat}(hi:i<n)(hj:j<n)(e:A i=A j):i=j:=by
 have h1:=jfp (f:=A) hi;have h2:=jfp (f:=A) hj;rw[<-e]at h2;rw[zt]at h1 h2;obtain⟨a1,a2⟩:=h1;obtain⟨b1,b2⟩:=h2;exact(List.getElem_inj h).1 (a2.trans b2.symm)
end
theorem bF{L:Rows}(hb:blks L)(d:Nat)(h:d<100000):L.filter (fun p=>p.1 !=d)=L:=jdx hb h
theorem bN{L:Rows}(hb:blks L)(d:Nat)(h:d<100000):look L d=none:=jaw hb h
theorem bK{L:Rows}(hb:blks L)(d s:Nat)(es:List (List IV))(h:d<100000):L.map (fun p=>if p.1=d then(p.1,s,es)else p)=L:=jn9 hb h
end
end Go.Abs
namespace Go.Proofs.YtkcekimolppapaaGreat
section
open Go.Abs
def fc(r:Rat):List IV:=[.int r.num.sign,.sl ((dig r.num.natAbs).map ic),.int (r.den:Int).sign,.sl ((dig (r.den:Int).natAbs).map ic)]
def fcs(l:List Rat):IV:= .sl (l.map fc)
def qc(r:Rat):List IV:=fc r
theorem qget{n s:Nat}{f:Nat->Rat}(h:s<n):(tab n fun j=>qc (f j))[s]? =some (fc (f s)):=jfp h
theorem qset{n s:Nat}{f:Nat->Rat}{x:Rat}:(tab n fun j=>qc (f j)).set s (fc x)=tab n fun k=>qc (if k=s then x else f k):=by
 rw[show fc x=qc x from rfl,jmm];exact jam fun k _=>by split<;>rfl
theorem sign_zero{r:Rat}:r.num.sign=0↔r=0:=by
 rw[yr];exact Rat.num_eq_zero
theorem sign_neg{r:Rat}:r.num.sign<0↔r<0:=by
 rw[Int.sign_neg_iff,vA];simp
theorem sign_pos{r:Rat}:0<r.num.sign↔0<r:=by
 rw[Int.sign_pos_iff,vA];simp
end
section
open Go.Abs
attribute [local go_sem] Evid.iv Evid.c Move.c Cert.c Recall.c Purity.c ints ic big frac fc
end
section
open Go.Abs
attribute [local go_sem] Evid.iv Evid.c Move.c Cert.c Recall.c Purity.c ints ic big frac fc
end
section
open Go.Abs
def inner:List Nat->List (List Rat)->Abs.Rows
 | b::bs,r::S=>(hp b,4,r.map fc)::inner bs S
 | _,_=>[]
def outer(t:Nat)(n:Nat)(bs:List Nat):List (List IV):=bs.map fun b=>[.ref b t 4 n]
def jci(t b0:Nat)(bs:List Nat)(S:List (List Rat))(n:Nat):Abs.Rows:=(hp b0,1,outer t n bs)::inner bs S
theorem jdl{bs:List Nat}{S:List (List Rat)}{k:Nat}(h:∀b∈bs,k≠hp b):Abs.look (inner bs S) k=none:=by
 induction bs generalizing S with
 | nil=>cases S<;>rfl
 | cons b bs ih=>
  cases S with
  | nil=>rfl
  | cons r S=>
   rw[inner,ja0 _ _ (h b (by simp))];exact ih fun c hc=>h c (by simp[hc])
theorem jm1{bs:List Nat}{S:List (List Rat)}{i b:Nat}{r:List Rat}(hn:bs.Nodup)(hb:bs[i]? =some b)(hr:S[i]? =some r):Abs.look (inner bs S) (hp b)=some (4,r.map fc):=by
 induction bs generalizing S i with
 | nil=>cases hb
 | cons c bs ih=>
  cases S with
  | nil=>cases hr
  | cons q S=>
   rw[qH]at hn;cases i with
   | zero=>
    simp only[List.getElem?_cons_zero,qq]at hb hr;subst hb hr;rw[inner,ja2]
   | succ i=>
    rw[List.getElem?_cons_succ]at hb hr;have hne:b≠c:=fun e=>hn.1 (e▸zr hb);rw[inner,ja0 _ _ (fun e=>hne (hp_inj.1 e))];exact ih hn.2 hb hr
theorem jfq{R:Abs.Rows}{k s:Nat}{es:List (List IV)}(h:Abs.look R k=none):setRow R k s es=R:=by
 induction R with
 | nil=>rfl
 | cons p R ih=>
  obtain⟨j,v⟩:=p;by_cases e:k=j
  ·subst e;rw[ja2]at h;cases h
  ·rw[ja0 _ _ e]at h;have:=ih h;simp only[setRow,zl]at this⊢;rw[this,zn (fun x=>e x.symm)]
theorem inner_set{bs:List Nat}{S:List (List Rat)}{i b:Nat}{r q:List Rat}(hn:bs.Nodup)(hb:bs[i]? =some b)(hr:S[i]? =some r):setRow (inner bs S) (hp b) 4 (q.map fc)=inner bs (S.set i q):=by
 induction bs generalizing S i with
 | nil=>cases hb
 | cons c bs ih=>
  cases S with
  | nil=>cases hr
  | cons p S=>
   rw[qH]at hn;cases i with
   | zero=>
    simp only[List.getElem?_cons_zero,qq]at hb hr;subst hb hr;have h0:Abs.look (inner bs S) (hp c)=none:=jdl fun d hd e=>hn.1 ((hp_inj.1 e)▸hd);have:=jfq (s:=4) (es:=q.map fc) h0;simp only[setRow]at this;simp only[setRow,inner,zl,List.set_cons_zero,this,qt]
   | succ i=>
    rw[List.getElem?_cons_succ]at hb hr;have hne:b≠c:=fun e=>hn.1 (e▸zr hb);have:=ih hn.2 hb hr;simp only[setRow]at this;simp only[setRow,inner,zl,List.set_cons_succ,this,zn (fun e=>hne (hp_inj.1 e).symm:¬hp c=hp b)]
section
variable{t b0 n:Nat}{bs:List Nat}{S:List (List Rat)}
theorem jpw:Abs.look (jci t b0 bs S n) (hp b0)=some (1,outer t n bs):=ja2 _ _ _
theorem jox{i b:Nat}{r:List Rat}(hn:(b0::bs).Nodup)(hb:bs[i]? =some b)(hr:S[i]? =some r):Abs.look (jci t b0 bs S n) (hp b)=some (4,r.map fc):=by
 rw[qH]at hn;have hne:b≠b0:=fun e=>hn.1 (e▸zr hb);rw[jci,ja0 _ _ (fun e=>hne (hp_inj.1 e))];exact jm1 hn.2 hb hr
theorem st_set{i b:Nat}{r q:List Rat}(hn:(b0::bs).Nodup)(hb:bs[i]? =some b)(hr:S[i]? =some r):(jci t b0 bs S n).map (fun p=>if p.1=hp b then(p.1,4,q.map fc)else p)=jci t b0 bs (S.set i q) n:=by
 rw[qH]at hn;have hne:b≠b0:=fun e=>hn.1 (e▸zr hb);have:=inner_set (q:=q) hn.2 hb hr;simp only[setRow]at this;simp only[jci,zl,this,zn (fun e=>hne (hp_inj.1 e).symm:¬hp b0=hp b)]
theorem jg2{d:Nat}(h:d<100000):Abs.look (jci t b0 bs S n) d=none:=by
 have hl:∀b,d≠hp b:=fun b=>by unfold hp;omega
 rw[jci,ja0 _ _ (hl b0)];exact jdl fun b _=>hl b
theorem jku{R:Abs.Rows}{d:Nat}(h:Abs.look R d=none):R.filter (fun p=>p.1 !=d)=R:=by
 induction R with
 | nil=>rfl
 | cons p R ih=>
  obtain⟨j,v⟩:=p;by_cases e:d=j
  ·subst e;rw[ja2]at h;cases h
  ·rw[ja0 _ _ e]at h;rw[jA,ih h,zm (by simp only[qi,ne_eq];exact fun x=>e x.symm)]
theorem jjy{d:Nat}(h:d<100000):(jci t b0 bs S n).filter (fun p=>p.1 !=d)=jci t b0 bs S n:=jku (jg2 h)
theorem jnt{d s:Nat}{es:List (List IV)}(h:d<100000):(jci t b0 bs S n).map (fun p=>if p.1=d then(p.1,s,es)else p)=jci t b0 bs S n:=jfq (jg2 h)
theorem st_blks:blks (jci t b0 bs S n):=by
 intro k x h;rcases Decidable.em (k<100000)with hk | hk
 ·rw[jg2 hk]at h;cases h
 ·exact⟨_,hp_of (by omega)⟩
end
theorem jew{R' R:Abs.Rows}{p:Nat×Nat×List (List IV)}(h:Abs.look R' p.1=none)(hs:SubR R' R):SubR R' (p::R):=by
 intro k x hk;obtain⟨j,v⟩:=p;rw[ja0 _ _ (fun e=>by subst e;rw[h]at hk;cases hk)];exact hs k x hk
def stepS(fr to m:Nat)(f:Rat)(S:List (List Rat)):List (List Rat):=
 let a:=S.getD fr []
 let S1:=S.set fr (a.set m (a.getD m 0-f))
 let b:=S1.getD to []
 S1.set to (b.set m (b.getD m 0+f))
def carN(S:List (List Rat))(fr to:Nat)(l:List Rat):Nat->List (List Rat)
 | 0=>S
 | m+1=>stepS fr to m (l.getD m 0) (carN S fr to l m)
def Stk(p n:Nat)(S:List (List Rat)):Prop:=S.length=p/\∀r∈S,r.length=n
theorem jhv{S:List (List Rat)}{i:Nat}(h:i<S.length):S.getD i []∈S:=by
 rw[qm,ze h];exact ju h
theorem Stk.set{p n:Nat}{S:List (List Rat)}(h:Stk p n S){i:Nat}{r:List Rat}(hr:r.length=n):Stk p n (S.set i r):=
 ⟨by rw[qf];exact h.1,fun q hq=>by
  rcases yc hq with h1 | h1
  ·exact h.2 q h1
  ·rw[h1];exact hr⟩
theorem Stk.step{p n fr to m:Nat}{f:Rat}{S:List (List Rat)}(h:Stk p n S)(h1:fr<p)(h2:to<p):Stk p n (stepS fr to m f S):=by
 have h3:=h.set (i:=fr) (r:=(S.getD fr []).set m ((S.getD fr []).getD m 0-f)) (by rw[qf];exact h.2 _ (jhv (by rw[h.1];exact h1)));exact h3.set (by rw[qf];exact h3.2 _ (jhv (by rw[h3.1];exact h2)))
theorem Stk.car{p n fr to:Nat}{l:List Rat}{S:List (List Rat)}(h:Stk p n S)(h1:fr<p)(h2:to<p):∀m,Stk p n (carN S fr to l m)
 | 0=>h
 | m+1=>(Stk.car h h1 h2 m).step h1 h2
def SL(k j m:Nat)(S:List (List Rat)):Prop:=∀r∈S,∀(i:Nat) x,r[i]? =some x->FL (if i<m then k else j) x
theorem SL.set{k j m c:Nat}{S:List (List Rat)}{r:List Rat}{x:Rat}(h:SL k j m S)(hr:r∈S)(hx:FL c x)(hc:∀q∈S,∀y,q[m]? =some y->FL c y){i:Nat}:
  ∀q∈S.set i (r.set m x),∀(n:Nat) y,q[n]? =some y->(n=m->FL c y)/\(n≠m->FL (if n<m then k else j) y):=by
 intro q hq n y hy;rcases yc hq with h1 | h1
 ·exact⟨fun e=>hc q h1 y (e▸hy),fun _=>h q h1 n y hy⟩
 ·rw[h1]at hy;refine⟨fun e=> ?_,fun e=> ?_⟩
  ·subst e;rw[List.getElem?_set_self']at hy;cases hz:r[n]? with
   | none=>rw[hz]at hy;cases hy
   | some z=>
    rw[hz]at hy;have hy:some x=some y:=hy;injection hy with hy;rw[<-hy];exact hx
  ·rw[yF (fun x=>e x.symm)]at hy;exact h r hr n y hy
theorem jp8{l:List Rat}{m:Nat}(h:m<l.length):l[m]? =some (l.getD m 0):=by
 rw[qm,ze h];rfl
theorem SL.step{k j m p n fr to:Nat}{f:Rat}{S:List (List Rat)}(h:SL k j m S)(hs:Stk p n S)(h1:fr<p)(h2:to<p)(hm:m<n)(c:Nat)(hc:∀x,FL j x->FL c x/\FL c (x-f))(hk:∀x,FL c x->FL k x/\FL k (x+f)):
  SL k j (m+1) (stepS fr to m f S)/\((∀x,(S.getD fr [])[m]? =some x->FL j x)/\∀x,((S.set fr ((S.getD fr []).set m ((S.getD fr []).getD m 0-f))).getD to [])[m]? =some x->FL c x):=by
 have ha:=jhv (S:=S) (i:=fr) (by rw[hs.1];exact h1);have hal:(S.getD fr []).length=n:=hs.2 _ ha;have hj:∀q∈S,∀x,q[m]? =some x->FL j x:=fun q hq x hx=>by
  have:=h q hq m x hx
  rwa [zn (by omega)]at this
 have hx0:FL j ((S.getD fr []).getD m 0):=hj _ ha _ (jp8 (by rw[hal];exact hm));have e1:=SL.set (c:=c) (i:=fr) (x:=(S.getD fr []).getD m 0-f) h ha (hc _ hx0).2 (fun q hq y hy=>(hc y (hj q hq y hy)).1);have hs1:=hs.set (i:=fr) (r:=(S.getD fr []).set m ((S.getD fr []).getD m 0-f)) (by rw[qf];exact hal);unfold stepS;dsimp only;generalize S.set fr ((S.getD fr []).set m ((S.getD fr []).getD m 0-f))=S1 at*;have hb:=jhv (S:=S1) (i:=to) (by rw[hs1.1];exact h2);have hbl:(S1.getD to []).length=n:=hs1.2 _ hb;have hx1:FL c ((S1.getD to []).getD m 0):=(e1 _ hb m _ (jp8 (by rw[hbl];exact hm))).1 rfl;refine⟨?_,fun x hx=>hj _ ha x hx,fun x hx=>(e1 _ hb m x hx).1 rfl⟩;intro q hq i y hy;rcases yc hq with h3 | h3
 ·obtain⟨g1,g2⟩:=e1 q h3 i y hy;by_cases e:i=m
  ·rw[zm (by omega)];exact(hk y (g1 e)).1
  ·have:=g2 e;by_cases hi:i<m
   ·rw[zm hi]at this;rw[zm (by omega)];exact this
   ·rw[zn hi]at this;rw[zn (by omega)];exact this
 ·rw[h3]at hy;by_cases e:i=m
  ·subst e;rw[List.getElem?_set_self (by rw[hbl];exact hm)]at hy;injection hy with hy;rw[<-hy,zm (by omega)];exact(hk _ hx1).2
  ·rw[yF (fun x=>e x.symm)]at hy;have:=(e1 _ hb i y hy).2 e;by_cases hi:i<m
   ·rw[zm hi]at this;rw[zm (by omega)];exact this
   ·rw[zn hi]at this;rw[zn (by omega)];exact this
end
section
open Go.Abs
attribute [local go_sem] Move.c ints ic big frac fc
theorem set_fc{a:List Rat}{m:Nat}{y:Rat}:(a.map fc).set m (fc y)=(a.set m y).map fc:=by rw[qM]
theorem carN_succ{S:List (List Rat)}{fr to m:Nat}{l:List Rat}{f am bm:Rat}{a b:List Rat}(hf:l[m]? =some f)(ha:(carN S fr to l m)[fr]? =some a)(ham:a[m]? =some am)
  (hb:((carN S fr to l m).set fr (a.set m (am-f)))[to]? =some b) (hbm:b[m]? =some bm):
  carN S fr to l (m+1)=((carN S fr to l m).set fr (a.set m (am-f))).set to (b.set m (bm+f)):=by
 have e0:l.getD m 0=f:=by rw[qm,hf];rfl
 have e1:(carN S fr to l m).getD fr []=a:=by rw[qm,ha];rfl
 have e2:a.getD m 0=am:=by rw[qm,ham];rfl
 have e3:((carN S fr to l m).set fr (a.set m (am-f))).getD to []=b:=by rw[qm,hb];rfl
 have e4:b.getD m 0=bm:=by rw[qm,hbm];rfl
 rw[carN,stepS];rw[e0,e1,e2,e3,e4]
theorem SL.car{q k p n fr to:Nat}{l:List Rat}{S:List (List Rat)}(h:SL (k+(q+q+2)) k 0 S)(hs:Stk p n S)(h1:fr<p)(h2:to<p)(hl:l.length=n)(hlF:∀r∈l,FL q r):
  ∀m,m<=n->SL (k+(q+q+2)) k m (carN S fr to l m)
 | 0,_=>h
 | m+1,hm=>by
  have ih:=SL.car h hs h1 h2 hl hlF m (by omega);have hf:FL q (l.getD m 0):=hlF _ (zr (jp8 (l:=l) (m:=m) (by omega)));exact(SL.step ih (Stk.car hs h1 h2 m) h1 h2 (by omega) (k+q+1) (fun x hx=>⟨hx.mono (by omega),(FL_sub hx hf).mono (by omega)⟩) (fun x hx=>⟨hx.mono (by omega),(jje hx hf).mono (by omega)⟩)).1
theorem h_carry(b0:Nat)(bs:List Nat)(S:List (List Rat))(x:Move)(l:List Rat)(p n k q:Nat)(hnd:(b0::bs).Nodup)(hs:Stk p n S)(hbl:bs.length=p)(hp1:p<=1000)(hn1:n<=1000)
  (hfr:0<=x.fr/\x.fr<p) (hto:0<=x.to/\x.to<p) (hl:l.length=n) (hlF:∀r∈l,FL q r) (hS:SL (k+(q+q+2)) k 0 S) (hk:k<=18000000000) (hq:q<=500000000):
  CtrH G.P 70 [.im (.ref b0 36 1 p),.im (.agg x.c),.im (fcs l)] (jci 35 b0 bs S n)
   (fun r L'=>r= .im (.tup [])/\L'=jci 35 b0 bs (carN S x.fr.toNat x.to.toNat l n) n):=by
 obtain⟨hfr1,hfr2⟩:=hfr;obtain⟨hto1,hto2⟩:=hto;have q1:x.fr.toNat<p:=by omega
 have q2:x.to.toNat<p:=by omega
 have hp':((p:Nat):Int)=p:=rfl;unfold fcs;have F0:=fun(d:Nat) (h:d<100000)=>jjy (t:=35) (b0:=b0) (bs:=bs) (S:=S) (n:=n) h;refine jav [] [] [] Tryz.func70 ?_;simp only[F0,go_sem];refine jay [0,4,8,9,10] (fun m:Nat=>⟨[(0,.im (.ref b0 36 1 p)),(4,.loc 4 6 0 0),(8,.im (.sl (l.map fc))),(9,.im (.int l.length)),(10,.im (.int m))],(4,6,[x.c])::jci 35 b0 bs (carN S x.fr.toNat x.to.toNat l m) n,[]⟩)
  (fun m=>m<=l.length) (fun m=>l.length-m) 0 ?_ ?_ rfl (zH _) ?_
 ·simp only[Int.natCast_zero,go_sem]
 ·exact SubR.of_eq rfl
 ·intro m hm;by_cases hlt:(m:Int)<l.length
  ·have hd:decide ((m:Int)<l.length)=true:=zh hlt;obtain⟨f,hx⟩:=jd6 hlt;have h1:=ja8 (n:=(m:Int)+1) (by omega);have hmn:(m:Int)<n:=by omega
   have kf:=hlF f (zr hx);have hA:=Stk.car (l:=l) hs q1 q2 m;have hAL:=SL.car hS hs q1 q2 hl hlF m (by omega);obtain⟨bf,hbf⟩:∃b,bs[x.fr.toNat]? =some b:=⟨_,ze (by omega)⟩;obtain⟨bt,hbt⟩:∃b,bs[x.to.toNat]? =some b:=⟨_,ze (by omega)⟩;have hcs:=fun a am b bm=>carN_succ (S:=S) (fr:=x.fr.toNat) (to:=x.to.toNat) (am:=am) (bm:=bm) (a:=a) (b:=b) hx;generalize carN S x.fr.toNat x.to.toNat l m=A at*;obtain⟨a,ha⟩:∃a,A[x.fr.toNat]? =some a:=⟨_,ze (by have:=hA.1;omega)⟩;have hal:a.length=n:=hA.2 a (zr ha);obtain⟨am,ham⟩:∃y,a[m]? =some y:=⟨_,ze (by omega)⟩;have kam:FL k am:=by
    have:=hAL a (zr ha) m am ham
    rwa [zn (by omega)]at this
   have s1:=f_sub (kam.mono (by omega:k<=19000000000)) (kf.mono (by omega:q<=19000000000));have ks:=FL_sub kam kf;have hB:=hA.set (i:=x.fr.toNat) (r:=a.set m (am-f)) (by rw[qf];exact hal);obtain⟨b,hb⟩:∃b,(A.set x.fr.toNat (a.set m (am-f)))[x.to.toNat]? =some b:=⟨_,ze (by have:=hB.1;omega)⟩;have hbL:b.length=n:=hB.2 b (zr hb);obtain⟨bm,hbm⟩:∃y,b[m]? =some y:=⟨_,ze (by omega)⟩;have kbm:FL (k+q+1) bm:=by
    have hset:=SL.set (c:=k+q+1) (i:=x.fr.toNat) (x:=am-f) hAL (zr ha) (ks.mono (by omega)) (fun q hq y hy=>by
     have:=hAL q hq m y hy;rw[zn (by omega)]at this;exact this.mono (by omega))
    exact(hset b (zr hb) m bm hbm).1 rfl
   have s2:=f_add (kbm.mono (by omega:k+q+1<=19000000000)) (kf.mono (by omega:q<=19000000000));have hstep:=hcs a am b bm ha ham hb hbm;have L0:=fun A'=>jpw (t:=35) (b0:=b0) (bs:=bs) (S:=A') (n:=n);have L1:=jox (t:=35) (n:=n) hnd hbf ha;have W1:=st_set (t:=35) (n:=n) (q:=a.set m (am-f)) hnd hbf ha;generalize A.set x.fr.toNat (a.set m (am-f))=B at*;have L2:=jox (t:=35) (n:=n) hnd hbt hb;have W2:=st_set (t:=35) (n:=n) (q:=b.set m (bm+f)) hnd hbt hb;have E1:=set_fc (a:=a) (m:=m) (y:=am-f);have E2:=set_fc (a:=b) (m:=m) (y:=bm+f);have F1:=fun(A':List (List Rat)) (d:Nat) (h:d<100000)=>jjy (t:=35) (b0:=b0) (bs:=bs) (S:=A') (n:=n) h;have G1:=fun(A':List (List Rat)) (d:Nat) (h:d<100000)=>jg2 (t:=35) (b0:=b0) (bs:=bs) (S:=A') (n:=n) h;have K1:=fun(A':List (List Rat)) (d s:Nat) (es:List (List IV)) (h:d<100000)=>jnt (t:=35) (b0:=b0) (bs:=bs) (S:=A') (n:=n) (s:=s) (es:=es) h;generalize am-f=y1 at*;generalize bm+f=y2 at*;simp only[frac,ints]at s1 s2;simp only[fc]at E1 E2;simp only[hd,zq,hx,F1,K1,go_sem];refine jap ?_;simp only[hfr1,hfr2,hto1,hto2,hmn,hal,L0,L1,W1,E1,F1,G1,K1,outer,zq,hbf,hbt,ham,hx,go_sem];refine ja4 s1 (by decide) ?_
   simp only[hfr1,hfr2,hto1,hto2,hmn,hal,L0,L1,W1,E1,F1,G1,K1,outer,zq,hbf,hbt,ham,hx,go_sem];refine jap ?_;simp only[hfr1,hfr2,hto1,hto2,hmn,hbL,L0,L2,W2,E2,F1,G1,K1,outer,zq,hbf,hbt,hbm,hx,go_sem];refine ja4 s2 (by decide) ?_;simp only[hfr1,hfr2,hto1,hto2,hmn,hbL,L0,L2,W2,E2,F1,G1,K1,outer,zq,hbf,hbt,hbm,hx,go_sem];refine jaa (m+1) ?_ ?_ rfl (by omega) (by omega)
   ·simp only[h1,Int.natCast_add,go_sem]
   ·rw[hstep];exact jew (by show Abs.look (_::jci _ _ _ _ _) 7=none;rw[ja0 _ _ (by decide),jg2 (by decide)]) (SubR.of_eq rfl)
  ·have hd:decide ((m:Int)<l.length)=false:=zw hlt;have:m=n:=by omega
   subst this;simp only[hd,go_sem];refine jnb (jci 35 b0 bs (carN S x.fr.toNat x.to.toNat l m) m) (fun k' x' h'=> ?_) ?_
   ·have hk':¬k'<100000:=fun h=>by rw[jg2 h]at h';cases h'
    refine⟨by omega,?_⟩;rw[ja0 _ _ (by omega)];exact h'
   ·simp only[go_sem]
end
section
open Go.Abs
attribute [local go_sem] Evid.iv Evid.c Move.c Place.c ints ic big frac fc
structure Raw where
 s:Int
 l:List Int
 t:Int
 m:List Int
def Raw.c(x:Raw):List IV:=[.int x.s,.sl (x.l.map ic),.int x.t,.sl (x.m.map ic)]
attribute [local go_sem] Raw.c
def rowC(l:List Raw):List IV:=[.sl (l.map Raw.c)]
def hist(h:List (List Raw)):IV:= .sl (h.map rowC)
def Raw.ok(x:Raw):Bool:=fracF x.s x.l x.t x.m
def rowOk(e:Evid)(l:List Raw):Bool:=decide ((l.length:Int)=e.mats)&&l.all Raw.ok
def jh5(e:Evid)(h:List (List Raw)):Bool:=decide ((h.length:Int)=e.moves.length)&&h.all (rowOk e)
theorem h_shaped(e:Evid)(h:List (List Raw))(hl:h.length<=100000)(hr:∀l∈h,l.length<=100000)(hx:∀l∈h,∀x∈l,x.l.length<=50000000000/\x.m.length<=50000000000):
  Ctr G.P 68 [e.iv,hist h] (· = .bool (jh5 e h)):=by
 unfold hist;rcases d0:decide ((h.length:Int)=e.moves.length)with _ | _
 ·have hs:jh5 e h=false:=by simp only[jh5,d0,qW]
  rw[hs];refine ja5 [.tmp 4] Tryz.func68 ?_;unfold Evid.iv Evid.c;simp only[d0,go_sem]
 ·have hs:jh5 e h=h.all (rowOk e):=by simp only[jh5,d0,qG]
  rw[hs];refine ja5 [.tmp 4] Tryz.func68 ?_;unfold Evid.iv Evid.c;simp only[d0,go_sem];refine jau [2,15,16,17] [2] (fun i:Nat=>⟨[(2,.loc 2 8 0 0),(15,.im (.sl (h.map rowC))),(16,.im (.int h.length)),(17,.im (.int i))],[(2,8,[e.c])],[]⟩)
   (fun i=>i<=h.length/\(h.take i).all (rowOk e)=true) (fun i=>h.length-i) 0 ?_ ⟨zH _,rfl⟩ ?_
  ·simp only[Int.natCast_zero,go_sem]
  ·intro i ⟨hi,ha⟩;by_cases hp:(i:Int)<h.length
   ·have hd:decide ((i:Int)<h.length)=true:=zh hp;obtain⟨l,hxl⟩:=jd6 hp;have h1:=ja8 (n:=(i:Int)+1) (by omega);have hat:=jcp (f:=rowOk e) hxl;have hll:=hr l (zr hxl);have hxx:=hx l (zr hxl);rcases d1:decide ((l.length:Int)=e.mats)with _ | _
    ·have hno:rowOk e l=false:=by simp only[rowOk,d1,qW]
     rw[jgp hxl hno];simp only[hd,zq,hxl,rowC,d1,go_sem]
    ·simp only[hd,zq,hxl,rowC,d1,go_sem];refine jau [2,15,16,17,26,27,28] [2] (fun j:Nat=>⟨[(2,.loc 2 8 0 0),(15,.im (.sl (h.map rowC))),(16,.im (.int h.length)),(17,.im (.int i)),(26,.im (.sl (l.map Raw.c))),(27,.im (.int l.length)),(28,.im (.int j))],[(2,8,[e.c])],[]⟩)
      (fun j=>j<=l.length/\(l.take j).all Raw.ok=true) (fun j=>l.length-j) 0 ?_ ⟨zH _,rfl⟩ ?_
     ·simp only[Int.natCast_zero,go_sem]
     ·intro j ⟨hj,hb⟩;by_cases hq:(j:Int)<l.length
      ·have hd2:decide ((j:Int)<l.length)=true:=zh hq;obtain⟨y,hy⟩:=jd6 hq;have h2:=ja8 (n:=(j:Int)+1) (by omega);have hbt:=jcp (f:=Raw.ok) hy;obtain⟨y1,y2⟩:=hxx y (zr hy);have ht:=jjv y.s y.t y.l y.m y1 y2;simp only[ints]at ht;rcases ok:y.ok with _ | _
       ·have hno:rowOk e l=false:=by simp only[rowOk,jgp hy ok,y4]
        rw[show fracF y.s y.l y.t y.m=false from ok]at ht;rw[jgp hxl hno];simp only[hd2,zq,hy,go_sem];refine ja1 ht ?_;simp only[go_sem]
       ·rw[show fracF y.s y.l y.t y.m=true from ok]at ht;simp only[hd2,zq,hy,go_sem];refine ja1 ht ?_;simp only[go_sem];refine jac (j+1) ?_ (by omega) ⟨by omega,by rw[hbt,hb,ok];rfl⟩;simp only[h2,Int.natCast_add,go_sem]
      ·have hd2:decide ((j:Int)<l.length)=false:=zw hq;rw[zG (by omega)]at hb;have hyes:rowOk e l=true:=by simp only[rowOk,d1,hb,Bool.and_self]
       simp only[hd2,go_sem];refine jac (i+1) ?_ (by omega) ⟨by omega,by rw[hat,ha,hyes];rfl⟩;simp only[h1,Int.natCast_add,go_sem]
   ·have hd:decide ((i:Int)<h.length)=false:=zw hp;rw[zG (by omega)]at ha;rw[ha];simp only[hd,go_sem]
def stC(r:List Rat):List IV:=[.sl (r.map fc)]
end
section
open Go.Abs
attribute [local go_sem] Evid.iv Evid.c Place.c ints ic big frac fc
theorem jkk{bs:List Nat}{S:List (List Rat)}{d:Nat}(h:d<100000):Abs.look (inner bs S) d=none:=jdl fun b _=>by unfold hp;omega
theorem job{bs:List Nat}{S:List (List Rat)}{b:Nat}(h:b∉bs):Abs.look (inner bs S) (hp b)=none:=jdl fun c hc e=>h ((hp_inj.1 e)▸hc)
theorem inner_filter{bs:List Nat}{S:List (List Rat)}{d:Nat}(h:d<100000):(inner bs S).filter (fun p=>p.1 !=d)=inner bs S:=jku (jkk h)
theorem inner_setlow{bs:List Nat}{S:List (List Rat)}{d s:Nat}{es:List (List IV)}(h:d<100000):(inner bs S).map (fun p=>if p.1=d then(p.1,s,es)else p)=inner bs S:=jfq (jkk h)
theorem jj8{bs:List Nat}{S:List (List Rat)}{b s:Nat}{es:List (List IV)}(h:b∉bs):(inner bs S).map (fun p=>if p.1=hp b then(p.1,s,es)else p)=inner bs S:=jfq (job h)
def z4:List IV:=[.int 0,.emp,.int 0,.emp]
def nRow(t n P:Nat)(bs:List Nat):List (List IV):=outer t n bs++List.replicate (P-bs.length) [.emp]
def nIn(n:Nat)(z:Rat)(bs:List Nat):Abs.Rows:=inner bs (List.replicate bs.length (List.replicate n z))
def fRow(n:Nat)(z:Rat)(m:Nat):List (List IV):=List.replicate m (fc z)++List.replicate (n-m) z4
theorem set_app{α:Type}(l:List α)(k:Nat)(x y:α)(h:0<k):(l++List.replicate k x).set l.length y=(l++[y])++List.replicate (k-1) x:=by
 obtain⟨j,rfl⟩:∃j,k=j+1:=⟨k-1,by omega⟩;rw[List.replicate_succ,List.set_append_right _ _ (zB _),vb,List.set_cons_zero,zR];rfl
theorem get_app{α:Type}(l:List α)(k:Nat)(x:α)(h:0<k):(l++List.replicate k x)[l.length]? =some x:=by
 rw[zS (zB _),vb,qR,zm h]
theorem jk9{t n:Nat}{bs:List Nat}:(outer t n bs).length=bs.length:=by rw[outer,za]
theorem nRow_get{t n P:Nat}{bs:List Nat}(h:bs.length<P):(nRow t n P bs)[bs.length]? =some [.emp]:=by
 have:=get_app (outer t n bs) (P-bs.length) [IV.emp] (by omega)
 rwa [jk9]at this
theorem nRow_set{t n P b:Nat}{bs:List Nat}(h:bs.length<P):(nRow t n P bs).set bs.length [.ref b t 4 n]=nRow t n P (bs++[b]):=by
 have:=set_app (outer t n bs) (P-bs.length) [IV.emp] [.ref b t 4 n] (by omega);rw[jk9]at this;rw[nRow,this,nRow,zu,List.length_singleton,Nat.sub_sub];simp only[outer,qw,zl,zp]
theorem nRow_last{t n P b:Nat}{bs:List Nat}:(nRow t n P (bs++[b]))[bs.length]? =some [.ref b t 4 n]:=by
 rw[nRow,zL (by rw[jk9,zu,List.length_singleton];omega)];simp[outer]
theorem fRow_zero{n:Nat}{z:Rat}:List.replicate n z4=fRow n z 0:=by simp[fRow]
theorem fRow_get{n m:Nat}{z:Rat}(h:m<n):(fRow n z m)[m]? =some z4:=by
 have:=get_app (List.replicate m (fc z)) (n-m) z4 (by omega)
 rwa [zY]at this
theorem fRow_set{n m:Nat}{z:Rat}(h:m<n):(fRow n z m).set m (fc z)=fRow n z (m+1):=by
 have:=set_app (List.replicate m (fc z)) (n-m) z4 (fc z) (by omega);rw[zY,<-List.replicate_succ']at this;rw[fRow,this,fRow,Nat.sub_sub]
theorem fRow_end{n:Nat}{z:Rat}:fRow n z n=(List.replicate n z).map fc:=by simp[fRow]
theorem jm0{b:Nat}{r:List Rat}:∀{bs:List Nat},inner (bs++[b]) (List.replicate (bs.length+1) r)=inner bs (List.replicate bs.length r)++[(hp b,4,r.map fc)]
 | []=>rfl
 | c::bs=>by
  have:=jm0 (b:=b) (r:=r) (bs:=bs);rw[List.length_cons,List.replicate_succ,List.cons_append,inner,this,List.replicate_succ,inner,List.cons_append]
theorem jq4{n b:Nat}{z:Rat}{bs:List Nat}{k:Nat}{x:Nat×List (List IV)}(h:Abs.look (nIn n z (bs++[b])) k=some x):(k=hp b/\x=(4,(List.replicate n z).map fc))\/Abs.look (nIn n z bs) k=some x:=by
 rw[nIn,zu,List.length_singleton,jm0,look_app]at h;split at h
 ·rename_i y hy;right;rw[nIn,hy];exact h
 ·left;by_cases e:k=hp b
  ·subst e;rw[ja2]at h;exact⟨rfl,(jE h).symm⟩
  ·rw[ja0 _ _ e]at h;cases h
theorem h_none(e:Evid)(hp1:e.places.length<=1000)(hm1:0<=e.mats)(hm2:e.mats<=1000):
  CtrH G.P 69 [.im e.iv] [] (fun r L'=>∃b0 bs,r= .im (.ref b0 36 1 e.places.length)/\(b0::bs).Nodup/\bs.length=e.places.length/\
   L'=jci 35 b0 bs (List.replicate e.places.length (List.replicate e.mats.toNat ((0:Int):Rat))) e.mats.toNat):=by
 have o1:=jbz 0 (by omega);generalize ((0:Int):Rat)=z at*;simp only[frac,ints]at o1;have hp2:e.places.length<=16777216:=by omega
 refine jav [9,19] [] [.tmp 2] Tryz.func69 ?_;unfold Evid.iv Evid.c;simp only[hp2,go_sem];refine⟨by omega,jhi (fun b0 hb0=> ?_)⟩;clear hb0;simp only[zY,go_sem];refine jay [1,3,11,12] (fun bs:List Nat=>⟨[(1,.loc 1 8 0 0),(3,.im (.ref b0 36 1 e.places.length)),(11,.im (.int e.places.length)),(12,.im (.int bs.length))],
   (hp b0,1,nRow 35 e.mats.toNat e.places.length bs)::(1,8,[e.c])::nIn e.mats.toNat z bs,[]⟩)
  (fun bs=>bs.length<=e.places.length/\(b0::bs).Nodup) (fun bs=>e.places.length-bs.length) [] ?_ ?_ rfl ⟨zH _,by simp⟩ ?_
 ·simp only[Int.natCast_zero,go_sem]
 ·exact SubR.of_eq rfl
 ·intro bs ⟨hi,hnd⟩;by_cases hlt:(bs.length:Int)<e.places.length
  ·have hd:decide ((bs.length:Int)<e.places.length)=true:=zh hlt;have h1:=ja8 (n:=(bs.length:Int)+1) (by omega);have hi':(bs.length:Int)<e.places.length:=hlt;have K1:=fun(bs:List Nat) (S:List (List Rat)) (d:Nat) (h:d<100000)=>inner_filter (bs:=bs) (S:=S) h;have K2:=fun(bs:List Nat) (S:List (List Rat)) (d s:Nat) (es:List (List IV)) (h:d<100000)=>inner_setlow (bs:=bs) (S:=S) (s:=s) (es:=es) h;have K3:=fun(bs:List Nat) (S:List (List Rat)) (d:Nat) (h:d<100000)=>jkk (bs:=bs) (S:=S) h;obtain⟨n,hn⟩:∃n:Nat,e.mats.toNat=n:=⟨_,rfl⟩;have hmn:e.mats=(n:Int):=by omega
   rw[hn];simp only[hd,nIn,K1,K2,hn,go_sem];refine⟨hm1,by omega,jhi (fun b hb=> ?_)⟩;replace hb:Abs.look ((hp b0,1,nRow 35 n e.places.length bs)::(1,8,[e.c])::nIn n z bs) (hp b)=none:=hb;have hne:b≠b0:=fun h=>by rw[h,ja2]at hb;cases hb
   rw[ja0 _ _ (fun h=>hne (hp_inj.1 h)),ja0 _ _ (by unfold hp;omega)]at hb;have hnb:b∉bs:=fun h=>by
    obtain⟨i,hi2,he⟩:=List.getElem_of_mem h;have:=jm1 (bs:=bs) (S:=List.replicate bs.length (List.replicate n z)) (i:=i) (b:=b) (r:=List.replicate n z) (qH.1 hnd).2 (by rw[ze hi2,he]) (by rw[qR,zm hi2]);rw[nIn,this]at hb;cases hb
   have hnb0:b0∉bs:=(qH.1 hnd).1;have e1:(b=b0)=False:=eq_false hne;have e2:(b0=b)=False:=eq_false fun h=>hne h.symm;have K4:=fun(S:List (List Rat)) (s:Nat) (es:List (List IV))=>jj8 (bs:=bs) (S:=S) (b:=b) (s:=s) (es:=es) hnb;have K5:=fun(S:List (List Rat)) (s:Nat) (es:List (List IV))=>jj8 (bs:=bs) (S:=S) (b:=b0) (s:=s) (es:=es) hnb0;have g1:=nRow_get (t:=35) (n:=n) (P:=e.places.length) (bs:=bs) (by omega);have g2:=nRow_set (t:=35) (n:=n) (P:=e.places.length) (bs:=bs) (b:=b) (by omega);have g3:=nRow_last (t:=35) (n:=n) (P:=e.places.length) (bs:=bs) (b:=b);clear hb;simp only[zY,K1,K2,K3,K4,K5,e1,e2,g1,g2,g3,hi',hn,go_sem];refine jay [1,3,4,11,12,25,26] (fun m:Nat=>⟨[(1,.loc 1 8 0 0),(3,.im (.ref b0 36 1 e.places.length)),(4,.im (.int bs.length)),(11,.im (.int e.places.length)),(12,.im (.int bs.length)),(25,.im (.int n)),(26,.im (.int m))],
     (hp b,4,fRow n z m)::(hp b0,1,nRow 35 n e.places.length (bs++[b]))::(1,8,[e.c])::nIn n z bs,[]⟩)
    (fun m=>m<=n) (fun m=>n-m) 0 ?_ ?_ rfl (zH _) ?_
   ·simp only[Int.natCast_zero,zY,hn,hmn,go_sem]
   ·rw[<-fRow_zero];exact SubR.of_eq rfl
   ·intro m hm;by_cases hq:(m:Int)<n
    ·have hd2:decide ((m:Int)<n)=true:=zh hq;have h2:=ja8 (n:=(m:Int)+1) (by omega);have f1:=fRow_get (n:=n) (m:=m) (z:=z) (by omega);have f2:=fRow_set (n:=n) (m:=m) (z:=z) (by omega);simp only[fc]at f2;simp only[z4]at f1;simp only[hd2,nIn,go_sem];refine jap ?_;simp only[zY,K1,K2,K3,K4,K5,e1,e2,g3,hi',hq,f1,f2,go_sem];refine ja4 o1 (by decide) ?_;simp only[zY,K1,K2,K3,K4,K5,e1,e2,g3,hi',hq,f1,f2,go_sem];refine jaa (m+1) ?_ ?_ rfl (by omega) (by omega)
     ·simp only[h2,Int.natCast_add,go_sem]
     ·exact SubR.of_eq rfl
    ·have hd2:decide ((m:Int)<n)=false:=zw hq;have hmn':m=n:=by omega
     subst hmn';simp only[hd2,go_sem];refine jaa (bs++[b]) ?_ ?_ rfl ?_ ⟨?_,?_⟩
     ·simp only[h1,Int.natCast_add,zu,go_sem]
     ·intro k x hk;show Abs.look ((hp b,4,fRow m z m)::(hp b0,1,nRow 35 m e.places.length (bs++[b]))::(1,8,[e.c])::nIn m z bs) k=some x;replace hk:Abs.look ((hp b0,1,nRow 35 m e.places.length (bs++[b]))::(1,8,[e.c])::nIn m z (bs++[b])) k=some x:=hk;by_cases k0:k=hp b0
      ·rw[ja0 _ _ (fun h=>hne (hp_inj.1 (h.symm.trans k0)))];rw[k0,ja2]at hk⊢;exact hk
      ·rw[ja0 _ _ k0]at hk;by_cases k1:k=1
       ·rw[ja0 _ _ (fun h=>by unfold hp at h;omega),ja0 _ _ k0];rw[k1,ja2]at hk⊢;exact hk
       ·rw[ja0 _ _ k1]at hk;by_cases kb:k=hp b
        ·rcases jq4 hk with ⟨_,hx⟩ | hx
         ·rw[kb,ja2,hx,fRow_end]
         ·rw[kb,nIn,job hnb]at hx;cases hx
        ·rw[ja0 _ _ kb,ja0 _ _ k0,ja0 _ _ k1];rcases jq4 hk with ⟨hx,_⟩ | hx
         ·exact absurd hx kb
         ·exact hx
     ·show e.places.length-(bs++[b]).length<e.places.length-bs.length;rw[zu,List.length_singleton];omega
     ·show(bs++[b]).length<=e.places.length;rw[zu,List.length_singleton];omega
     ·rw[qH,ve];have:=qH.1 hnd;refine⟨by simp[this.1,hne.symm],this.2,by simp,?_⟩;intro c hc d hd' h;rw[zD]at hd';exact hnb (by rw[<-hd',<-h];exact hc)
  ·have hd:decide ((bs.length:Int)<e.places.length)=false:=zw hlt;have hle:bs.length=e.places.length:=by omega
   simp only[hd,go_sem];refine jnb (jci 35 b0 bs (List.replicate e.places.length (List.replicate e.mats.toNat z)) e.mats.toNat) (fun k' x' h'=> ?_) ?_
   ·have hk':¬k'<100000:=fun h=>by rw[jg2 h]at h';cases h'
    refine⟨by omega,?_⟩;show Abs.look ((hp b0,1,nRow _ _ _ bs)::(1,8,_)::nIn _ z bs) k'=some x';rw[show nRow 35 e.mats.toNat e.places.length bs=outer 35 e.mats.toNat bs by rw[nRow,hle,vb,List.replicate_zero,qx]];rw[nIn,hle];unfold jci at h';by_cases hk0:k'=hp b0
    ·rw[hk0,ja2]at h'⊢;exact h'
    ·rw[ja0 _ _ hk0]at h'⊢;rw[ja0 _ _ (by omega)];exact h'
   ·simp only[go_sem];exact⟨b0,bs,rfl,hnd,hle,rfl⟩
end
section
open Go.Abs
def stN(ms:List Move)(H:List (List Rat))(n:Nat)(S:List (List Rat)):Nat->List (List Rat)
 | 0=>S
 | i+1=>match ms[i]?,H[i]? with
  | some x,some l=>carN (stN ms H n S i) x.fr.toNat x.to.toNat l n
  | _,_=>stN ms H n S i
theorem jmp{ms:List Move}{H:List (List Rat)}{n i:Nat}{S:List (List Rat)}{x:Move}{l:List Rat}(hx:ms[i]? =some x)(hl:H[i]? =some l):
  stN ms H n S (i+1)=carN (stN ms H n S i) x.fr.toNat x.to.toNat l n:=by rw[stN,hx,hl]
theorem SL.all{k j p n:Nat}{S:List (List Rat)}(hs:Stk p n S)(h:SL k j n S):∀r∈S,∀x∈r,FL k x:=by
 intro r hr x hx;obtain⟨i,hi,he⟩:=List.getElem_of_mem hx;have:=h r hr i x (by rw[ze hi,he])
 rwa [zm (by rw[<-hs.2 r hr];exact hi)]at this
theorem SL.of_all{k j:Nat}{S:List (List Rat)}(h:∀r∈S,∀x∈r,FL k x):SL j k 0 S:=fun r hr i x hx=>by
 rw[zn (by omega)];exact h r hr x (zr hx)
theorem stN_ok{ms:List Move}{H:List (List Rat)}{p n k q:Nat}{S:List (List Rat)}(hs:Stk p n S)(hS:∀r∈S,∀x∈r,FL k x)(hm:∀x∈ms,(0<=x.fr/\x.fr<p)/\(0<=x.to/\x.to<p))
  (hH:∀l∈H,l.length=n/\∀r∈l,FL q r):∀i,Stk p n (stN ms H n S i)/\∀r∈stN ms H n S i,∀x∈r,FL (k+(q+q+2)*i) x
 | 0=>⟨hs,hS⟩
 | i+1=>by
  obtain⟨h1,h2⟩:=stN_ok hs hS hm hH i;cases hx:ms[i]? with
  | none=>
   have e:stN ms H n S (i+1)=stN ms H n S i:=by rw[stN,hx]
   rw[e];exact⟨h1,fun r hr x hx=>(h2 r hr x hx).mono (by rw[Nat.mul_succ];omega)⟩
  | some x=>
   cases hl:H[i]? with
   | none=>
    have e:stN ms H n S (i+1)=stN ms H n S i:=by rw[stN,hx,hl]
    rw[e];exact⟨h1,fun r hr x hx=>(h2 r hr x hx).mono (by rw[Nat.mul_succ];omega)⟩
   | some l=>
    rw[jmp hx hl];obtain⟨⟨a1,a2⟩,b1,b2⟩:=hm x (zr hx);obtain⟨c1,c2⟩:=hH l (zr hl);have q1:x.fr.toNat<p:=by omega
    have q2:x.to.toNat<p:=by omega
    have h3:=SL.car (k:=k+(q+q+2)*i) (SL.of_all h2) h1 q1 q2 c1 c2 n (zB _);have h4:=Stk.car (l:=l) h1 q1 q2 n;exact⟨h4,fun r hr y hy=>(SL.all h4 h3 r hr y hy).mono (by rw[Nat.mul_succ];omega)⟩
end
section
open Go.Abs
theorem jb3{e:Evid}(h:jbi e=0):(pairs e).all fitP=true/\1<=e.mats/\0<=e.houses/\0<=e.scales/\e.places.all (jhu e)=true/\jdb e 0 e.moves=0/\saidF e=true:=by
 unfold jbi at h;split at h
 ·cases h
 ·split at h
  ·cases h
  ·split at h
   ·cases h
   ·split at h
    ·cases h
    ·split at h
     ·cases h
     ·split at h
      ·rename_i h6;exact absurd h h6
      ·split at h
       ·rename_i h1 h2 h3 h4 h5 h6 h7;simp at h1 h2 h3 h4 h5 h6;exact⟨by simpa using h1,by omega,by omega,by omega,by simpa using h5,h6,h7⟩
       ·cases h
theorem jjn{e:Evid}:∀{ms:List Move} {d:Int},jdb e d ms=0->∀m∈ms,moveF e m=true
 | [],_,_,m,hm=>by cases hm
 | x::r,d,h,m,hm=>by
  rw[jdb]at h;split at h
  ·cases h
  ·split at h
   ·cases h
   ·split at h
    ·cases h
    ·rename_i h3;rcases zU.1 hm with rfl | hm
     ·simpa using h3
     ·exact jjn h m hm
theorem jdw{e:Evid}(h:jbi e=0):∀x∈e.moves,(0<=x.fr/\x.fr<(e.places.length:Int))/\(0<=x.to/\x.to<(e.places.length:Int)):=by
 intro x hx;have:=jjn (jb3 h).2.2.2.2.2.1 x hx;simp only[moveF,zC,idx_iff]at this;exact⟨this.1.1.1.1.1.1.1,this.1.1.1.1.1.1.2⟩
theorem purF_iff{e:Evid}{p:Purity}:purF e p=true↔(0<=p.move/\p.move<(e.moves.length:Int))/\(0<=p.mat/\p.mat<e.mats)/\0<=p.least/\p.least<=p.most/\p.most<=1000:=by
 simp only[purF,zC,idx_iff,yK,ql];omega
theorem jm9{e:Evid}(h:jbi e=0):∀p∈e.purs,purF e p=true:=by
 have:=(jb3 h).2.2.2.2.2.2;simp only[saidF,zC,List.all_eq_true]at this;exact this.2
end
section
open Go.Abs
open Go.LP (Rw RT tsum Sol tsum_app)
def ptH(M:Nat)(H:List (List Rat))(k:Nat):Rat:=(H.getD (k/M) []).getD (k % M) 0
theorem pt_at{M:Nat}{H:List (List Rat)}(i:Nat){m:Nat}(hm:m<M):ptH M H (i*M+m)=(H.getD i []).getD m 0:=by
 unfold ptH;rw[yx i M,Nat.mul_add_div (by omega),js hm,Nat.add_zero,vp,jx hm]
theorem getD_some{α:Type}{l:List α}{i:Nat}{x d:α}(h:l[i]? =some x):l.getD i d=x:=by rw[qm,h];rfl
theorem jhf{α:Type}{l:List α}{i:Nat}(h:i<l.length):∃x,l[i]? =some x:=⟨_,ze h⟩
theorem tsum_snoc(ts:List (Nat×Rat))(t:Nat×Rat)(x:Nat->Rat):tsum (ts++[t]) x=tsum ts x+t.2*x t.1:=by
 rw[tsum_app];show tsum ts x+(t.2*x t.1+0)=_;rw[yV]
def flowS(M:Nat)(fr:Int)(mat:Nat)(ms:List Move)(x:Nat->Rat):Nat->Rat
 | 0=>0
 | i+1=>match ms[i]? with
  | some y=>flowS M fr mat ms x i+((sgnF fr y:Int):Rat)*x (i*M+mat)
  | none=>flowS M fr mat ms x i
theorem jlg{M:Nat}{fr:Int}{mat:Nat}{ms:List Move}{x:Nat->Rat}:∀i,tsum (jaf M fr mat ms i) x=flowS M fr mat ms x i
 | 0=>rfl
 | i+1=>by
  have ih:=jlg (M:=M) (fr:=fr) (mat:=mat) (ms:=ms) (x:=x) i;rw[jaf,flowS];cases ms[i]? with
  | none=>exact ih
  | some y=>
   dsimp only;split
   ·rename_i h;rw[ih,h,show((0:Int):Rat)=0 from rfl,Rat.zero_mul,yV]
   ·rw[tsum_snoc,ih]
theorem ji0{α:Type}{l:List α}{i p:Nat}{v d:α}:(l.set i v).getD p d=if p=i/\i<l.length then v else l.getD p d:=by
 rw[qm,qm,jm];by_cases h:i=p
 ·subst h;rw[zm rfl];by_cases h2:i<l.length
  ·rw[zm h2,zm ⟨rfl,h2⟩];rfl
  ·rw[zn h2,zn (fun h=>h2 h.2),q5 (by omega)]
 ·rw[zn h,zn (fun e=>h e.1.symm)]
def dl(fr to p:Nat)(f:Rat):Rat:=if p=fr then-f else if p=to then f else 0
theorem step_get{P n fr to m k p:Nat}{f:Rat}{T:List (List Rat)}(hT:Stk P n T)(h1:fr<P)(h2:to<P)(hne:fr≠to)(hm:m<n)(hp:p<P):
  ((stepS fr to k f T).getD p []).getD m 0=(T.getD p []).getD m 0+(if m=k then dl fr to p f else 0):=by
 have hr:∀q,q<P->(T.getD q []).length=n:=fun q hq=>hT.2 _ (jhv (by rw[hT.1];exact hq));have e1:(T.set fr ((T.getD fr []).set k ((T.getD fr []).getD k 0-f))).getD to []=T.getD to []:=by
  rw[ji0,zn (fun h=>hne h.1.symm)]
 unfold stepS;dsimp only;rw[e1,ji0,qf,hT.1];by_cases ht:p=to
 ·subst ht;have hd:dl fr p p f=f:=by unfold dl;rw[zn (fun e=>hne e.symm),zm rfl]
  rw[zm ⟨rfl,h2⟩,ji0,hr p hp,hd];by_cases hk:m=k
  ·subst hk;rw[zm ⟨rfl,hm⟩,zm rfl]
  ·rw[zn (fun h=>hk h.1),zn hk,yV]
 ·rw[zn (fun h=>ht h.1),ji0,hT.1];by_cases hf:p=fr
  ·subst hf;have hd:dl p to p f= -f:=by unfold dl;rw[zm rfl]
   rw[zm ⟨rfl,h1⟩,ji0,hr p hp,hd];by_cases hk:m=k
   ·subst hk;rw[zm ⟨rfl,hm⟩,zm rfl];grind
   ·rw[zn (fun h=>hk h.1),zn hk,yV]
  ·have hd:dl fr to p f=0:=by unfold dl;rw[zn hf,zn ht]
   rw[zn (fun h=>hf h.1),hd];split<;>rw[yV]
theorem car_get{P n fr to m p:Nat}{l:List Rat}{S:List (List Rat)}(hS:Stk P n S)(h1:fr<P)(h2:to<P)(hne:fr≠to)(hm:m<n)(hp:p<P):∀k,((carN S fr to l k).getD p []).getD m 0=(S.getD p []).getD m 0+(if m<k then dl fr to p (l.getD m 0)else 0)
 | 0=>by rw[carN,zn (by omega),yV]
 | k+1=>by
  rw[carN,step_get (hS.car h1 h2 k) h1 h2 hne hm hp,car_get hS h1 h2 hne hm hp k];by_cases hk:m=k
  ·subst hk;rw[zn (qT _),zm rfl,zm (ja _),yV]
  ·rw[zn hk,yV];by_cases h3:m<k
   ·rw[zm h3,zm (by omega)]
   ·rw[zn h3,zn (by omega)]
section
variable{e:Evid}{H:List (List Rat)}
def S0(e:Evid):List (List Rat):=List.replicate e.places.length (List.replicate e.mats.toNat ((0:Int):Rat))
theorem S0_stk:Stk e.places.length e.mats.toNat (S0 e):=⟨by unfold S0;simp,fun r hr=>by rw[(ji.1 hr).2];simp⟩
theorem S0_get{p m:Nat}:((S0 e).getD p []).getD m 0=0:=by
 rcases zW p e.places.length with h | h
 ·rw[getD_some (l:=S0 e) (x:=List.replicate e.mats.toNat ((0:Int):Rat)) (by unfold S0;rw[qR,zm h])];rcases zW m e.mats.toNat with h2 | h2
  ·rw[getD_some (x:=((0:Int):Rat)) (by rw[qR,zm h2])];rfl
  ·rw[qm,q5 (by simp;omega)];rfl
 ·rw[qm (l:=S0 e),q5 (by unfold S0;simp;omega)];rfl
theorem move_at{x:Move}(h:moveF e x=true):((0<=x.fr/\x.fr<(e.places.length:Int))/\(0<=x.to/\x.to<(e.places.length:Int)))/\x.fr≠x.to:=by
 simp only[moveF,zC,yK,ql,idx_iff]at h;exact⟨⟨h.1.1.1.1.1.1.1,h.1.1.1.1.1.1.2⟩,h.1.1.1.1.1.2⟩
theorem st_get(hm:∀x∈e.moves,moveF e x=true)(hH:H.length=e.moves.length)(hl:∀l∈H,l.length=e.mats.toNat){p m:Nat}(hp:p<e.places.length)(hmm:m<e.mats.toNat):∀i,i<=e.moves.length->
  Stk e.places.length e.mats.toNat (stN e.moves H e.mats.toNat (S0 e) i)/\((stN e.moves H e.mats.toNat (S0 e) i).getD p []).getD m 0=flowS e.mats.toNat (p:Int) m e.moves (ptH e.mats.toNat H) i
 | 0,_=>⟨S0_stk,S0_get⟩
 | i+1,hi=>by
  obtain⟨ih1,ih2⟩:=st_get hm hH hl hp hmm i (by omega);obtain⟨x,hx⟩:=jhf (l:=e.moves) (i:=i) (by omega);obtain⟨l,hli⟩:=jhf (l:=H) (i:=i) (by omega);obtain⟨⟨⟨a1,a2⟩,b1,b2⟩,hne⟩:=move_at (hm x (zr hx));have q1:x.fr.toNat<e.places.length:=by omega
  have q2:x.to.toNat<e.places.length:=by omega
  rw[jmp hx hli];refine⟨Stk.car ih1 q1 q2 _,?_⟩;rw[car_get ih1 q1 q2 (by omega) hmm hp,ih2,flowS,hx,zm hmm,pt_at i hmm,getD_some hli];dsimp only;refine qa _ ?_;by_cases h1:p=x.fr.toNat
  ·have e1:dl x.fr.toNat x.to.toNat p (l.getD m 0)= -l.getD m 0:=by unfold dl;rw[zm h1]
   have e2:sgnF (p:Int) x= -1:=by unfold sgnF;rw[zm (by omega)]
   rw[e1,e2,show((-1:Int):Rat)= -1 by decide];grind
  ·by_cases h2:p=x.to.toNat
   ·have e1:dl x.fr.toNat x.to.toNat p (l.getD m 0)=l.getD m 0:=by unfold dl;rw[zn h1,zm h2]
    have e2:sgnF (p:Int) x=1:=by unfold sgnF;rw[zn (by omega),zm (by omega)]
    rw[e1,e2,show((1:Int):Rat)=1 by decide];grind
   ·have e1:dl x.fr.toNat x.to.toNat p (l.getD m 0)=0:=by unfold dl;rw[zn h1,zn h2]
    have e2:sgnF (p:Int) x=0:=by unfold sgnF;rw[zn (by omega),zn (by omega)]
    rw[e1,e2,show((0:Int):Rat)=0 by decide,Rat.zero_mul]
end
end
section
open Go.Shelf Go.RowKit Go.Lib Go.Sort
def sortTerms_ren:Go.Shelf.Ren:=⟨fun | 6=>105 | 15=>149 | 14=>148 | 28=>186 | 29=>187 | 20=>178 | 21=>179 | 22=>180 | 23=>181 | 24=>182 | 25=>183 | 26=>184 | 27=>185 | 46=>214 | 47=>215 | 48=>216 | 49=>217 | 50=>218 | 57=>229 | n=>n,fun | 22=>50 | 24=>117 | 25=>171 | 3=>3 | 39=>173 | 0=>0 | 53=>245 | 55=>172 | 4=>4 | 46=>239 | 45=>238 | 50=>224 | 5=>5 | 9=>9 | 66=>270 | 70=>274 | 76=>280 | 77=>178 | n=>n,fun | n=>n⟩
theorem jnw:Go.Proofs.SlLaysF0.n6 Tryz.prog sortTerms_ren:={
 mixed:=by kernel_rfl
 f6:=⟨Tryz.f105.name,by decide,Tryz.func105.trans (qa some (by kernel_rfl))⟩
 f14:=⟨Tryz.f148.name,by decide,Tryz.func148.trans (qa some (by kernel_rfl))⟩
 f15:=Tryz.func149.trans (qa some (by kernel_rfl))
 f20:=⟨Tryz.f178.name,by decide,Tryz.func178.trans (qa some (by kernel_rfl))⟩
 f21:=⟨Tryz.f179.name,by decide,Tryz.func179.trans (qa some (by kernel_rfl))⟩
 f22:=⟨Tryz.f180.name,by decide,Tryz.func180.trans (qa some (by kernel_rfl))⟩
 f23:=⟨Tryz.f181.name,by decide,Tryz.func181.trans (qa some (by kernel_rfl))⟩
 f24:=⟨Tryz.f182.name,by decide,Tryz.func182.trans (qa some (by kernel_rfl))⟩
 f25:=⟨Tryz.f183.name,by decide,Tryz.func183.trans (qa some (by kernel_rfl))⟩
 f26:=⟨Tryz.f184.name,by decide,Tryz.func184.trans (qa some (by kernel_rfl))⟩
 f27:=⟨Tryz.f185.name,by decide,Tryz.func185.trans (qa some (by kernel_rfl))⟩
 f28:=Tryz.func186.trans (qa some (by kernel_rfl))
 f29:=Tryz.func187.trans (qa some (by kernel_rfl))
 f46:=⟨Tryz.f214.name,by decide,Tryz.func214.trans (qa some (by kernel_rfl))⟩
 f47:=Tryz.func215.trans (qa some (by kernel_rfl))
 f48:=Tryz.func216.trans (qa some (by kernel_rfl))
 f49:=⟨Tryz.f217.name,by decide,Tryz.func217.trans (qa some (by kernel_rfl))⟩
 f50:=⟨Tryz.f218.name,by decide,Tryz.func218.trans (qa some (by kernel_rfl))⟩
 f57:=⟨Tryz.f229.name,by decide,Tryz.func229.trans (qa some (by kernel_rfl))⟩
 t0:=Tryz.underlying0
 a0:=Tryz.isAgg0
 z0:=Tryz.sizeOf0
 v0:=Tryz.zeroValue0
 t3:=Tryz.underlying3
 a3:=Tryz.isAgg3
 z3:=Tryz.sizeOf3
 v3:=Tryz.zeroValue3
 t4:=Tryz.underlying4
 a4:=Tryz.isAgg4
 z4:=Tryz.sizeOf4
 v4:=Tryz.zeroValue4
 t5:=Tryz.underlying5
 a5:=Tryz.isAgg5
 z5:=Tryz.sizeOf5
 v5:=Tryz.zeroValue5
 t9:=Tryz.underlying9
 a9:=Tryz.isAgg9
 z9:=Tryz.sizeOf9
 v9:=Tryz.zeroValue9
 t22:=Tryz.underlying50
 a22:=Tryz.isAgg50
 z22:=Tryz.sizeOf50
 v22:=Tryz.zeroValue50
 t25:=Tryz.underlying171
 a25:=Tryz.isAgg171
 z25:=Tryz.sizeOf171
 v25:=Tryz.zeroValue171
 t39:=Tryz.underlying173
 a39:=Tryz.isAgg173
 z39:=Tryz.sizeOf173
 v39:=Tryz.zeroValue173
 t45:=Tryz.underlying238
 a45:=Tryz.isAgg238
 z45:=Tryz.sizeOf238
 v45:=Tryz.zeroValue238
 t46:=Tryz.underlying239
 a46:=Tryz.isAgg239
 z46:=Tryz.sizeOf239
 v46:=Tryz.zeroValue239
 t50:=Tryz.underlying224
 a50:=Tryz.isAgg224
 z50:=Tryz.sizeOf224
 v50:=Tryz.zeroValue224
 t53:=Tryz.underlying245
 a53:=Tryz.isAgg245
 z53:=Tryz.sizeOf245
 v53:=Tryz.zeroValue245
 t55:=Tryz.underlying172
 a55:=Tryz.isAgg172
 z55:=Tryz.sizeOf172
 v55:=Tryz.zeroValue172
 t66:=Tryz.underlying270
 a66:=Tryz.isAgg270
 z66:=Tryz.sizeOf270
 v66:=Tryz.zeroValue270
 t70:=Tryz.underlying274
 a70:=Tryz.isAgg274
 z70:=Tryz.sizeOf274
 v70:=Tryz.zeroValue274
 t76:=Tryz.underlying280
 a76:=Tryz.isAgg280
 z76:=Tryz.sizeOf280
 v76:=Tryz.zeroValue280
 t77:=Tryz.underlying178
 a77:=Tryz.isAgg178
 z77:=Tryz.sizeOf178
 v77:=Tryz.zeroValue178}
def cmpInts_ren:Go.Shelf.Ren:=⟨fun | 5=>107 | 7=>150 | n=>n,fun | 22=>3 | 3=>3 | 4=>4 | n=>n,fun | n=>n⟩
theorem cmpInts:Go.Proofs.SlLaysC2.n5 Tryz.prog cmpInts_ren:={
 mixed:=by kernel_rfl
 f5:=⟨Tryz.f107.name,by decide,Tryz.func107.trans (qa some (by kernel_rfl))⟩
 f7:=⟨Tryz.f150.name,by decide,Tryz.func150.trans (qa some (by kernel_rfl))⟩
 t3:=Tryz.underlying3
 a3:=Tryz.isAgg3
 z3:=Tryz.sizeOf3
 v3:=Tryz.zeroValue3
 t4:=Tryz.underlying4
 a4:=Tryz.isAgg4
 z4:=Tryz.sizeOf4
 v4:=Tryz.zeroValue4
 t22:=Tryz.underlying3
 a22:=Tryz.isAgg3
 z22:=Tryz.sizeOf3
 v22:=Tryz.zeroValue3}
structure TermV where
 z:Int
 r:List Value
 len:r.length=4
 one:∀v∈r,v.oneCell'=true
instance:Inhabited TermV:=⟨⟨0,[.int .i64 0,.int .i64 0,.int .i64 0,.int .i64 0],rfl,fun v hv=>by simp at hv;subst hv;rfl⟩⟩
def TermV.enc(x:TermV):List Value:= .int .i64 x.z::x.r
def TermV.cmp(x y:TermV):Int:=Lib.compareInt x.z y.z
theorem TermV.lt(x y:TermV):ltOf TermV.cmp x y=decide (x.z<y.z):=by
 unfold ltOf TermV.cmp Lib.compareInt;by_cases h1:x.z<y.z
 ·simp[h1]
 ·by_cases h2:y.z<x.z<;>simp[h1,h2]
theorem TermV.swo:SWO (ltOf TermV.cmp) where
 irrefl x:=by rw[TermV.lt];simp
 trans x y z h1 h2:=by rw[TermV.lt]at*;simp at*;omega
 ntrans x y z h1 h2:=by rw[TermV.lt]at*;simp at*;omega
theorem sort_closure(x y:TermV)(W:World):Calls Tryz.prog 106 #[.agg x.enc.toArray,.agg y.enc.toArray] W fun e w'=>e= .returned (.int .i64 (TermV.cmp x y))/\∃q os',w'=grow (W.drewN q) os':=by
 have hcon:=fun W'=>AnyG.cmp_Compare_int cmpInts x.z y.z W';change ∀W',Calls Tryz.prog 107 _ _ _ at hcon;obtain⟨a,r,hr,_⟩:=x;obtain⟨b,s,hs,_⟩:=y
 match r,hr,s,hs with
 | [r1,r2,r3,r4],_,[s1,s2,s3,s4],_=>
  unfold TermV.cmp TermV.enc;dsimp only at hcon⊢;generalize Lib.compareInt a b=c at hcon⊢
  go_enter Tryz.func106,Tryz.ntmps106
  go_wp2_with (go_at_call 107;refine(hcon _).mono ?_;rintro e w' ⟨rfl,rfl⟩)
  go_ret
  exact⟨rfl,0,_,by rw[alloc_eq_grow,alloc_eq_grow,grow_grow];rfl⟩
theorem sort_calls(blk off cap:Nat)(d:Array TermV)(w:World)(hH:HoldsK TermV.enc 5 w blk off d)(hblk:blk<w.heap.size)(hsz:d.size<4611686018427387904):
  Calls Tryz.prog 105 #[.slice (some ⟨blk,off,none⟩) d.size cap,.func (.func 106) #[] #[]] w fun e w'=>e= .returned (.tuple #[])/\∃d' n os,PermIn 0 d.size d d'/\SortedIn (ltOf TermV.cmp) 0 d.size d'/\w'=sortWorldK TermV.enc 5 w blk off n d' os:=by
 have eg:∀args w,(callFunc 106 args).run Tryz.prog w= .ok (.enter 106 args) w:=enters_of Tryz.func106 (by kernel_rfl) rfl;exact AnyQ.slices_SortFunc jnw 5 Tryz.isAgg117 Tryz.sizeOf117 TermV.enc (fun x=>by simp[TermV.enc,x.len]) (fun x v hv=>by
  unfold TermV.enc at hv;rcases zU.1 hv with rfl | hv
  ·rfl
  ·exact x.one v hv) TermV.cmp TermV.swo 106 #[] blk off cap d w eg (fun _ _ _ _ x y=>sort_closure x y _) hH hblk hsz
