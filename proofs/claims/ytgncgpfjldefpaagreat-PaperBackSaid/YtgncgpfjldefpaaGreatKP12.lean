/- A part of the proof. No further condition. -/
import Derived.Test.YtgncgpfjldefpaaGreatKP11
import Derived.Test.YtgncgpfjldefpaaGreatKP10
set_option linter.all false
set_option maxRecDepth 10000000
set_option maxHeartbeats 16000000
namespace Go.Abs
section
theorem jmg(d:Int):val [d]=d:=by
 show d+1048576*0=d;omega
theorem jq8(l:List Int)(d:Int):val (l++[d])=val l+1048576^l.length*d:=by rw[jey,jmg]
theorem jdb(i:Nat):(1048576:Int)^(i+1)=1048576^i*1048576:=Int.pow_succ ..
theorem jc9{l:List Int}{i:Nat}(h:l.length<=i):val (l.take i)=val l:=by rw[zE h]
theorem jfa{l:List Int}(hl:OkD l){i:Nat}(h:val l<1048576^i):val (l.drop i)=0:=by
 have h1:=jd6 l i;have h2:=jb9 (hl.take i);have h3:=jb9 (hl.drop i);have hp:=jdv i;rcases yw 0 (val (l.drop i))with h4 | h4
 ·have:1048576^i*1<=1048576^i*val (l.drop i):=qf (by omega) (by omega);omega
 ·omega
theorem jip{l:List Int}(hl:OkD l){i:Nat}(h:val l<1048576^i):val (l.take i)=val l:=by
 have h1:=jd6 l i;rw[jfa hl h,q6]at h1;omega
theorem jc3{n k:Nat}(h:(n:Int)<1048576^k):(dig n).length<=k:=by
 induction k generalizing n with
 | zero=>
  have:n=0:=by simp at h;omega
  subst this;rw[jc0];exact zu _
 | succ k ih=>
  by_cases hn:n=0
  ·subst hn;rw[jc0];exact zI _
  ·rw[jgg hn,List.length_cons];rw[jdb]at h;have:=ih (n:=n/1048576) (by omega);omega
end
end Go.Abs
namespace Go.Proofs.YtgncgpfjldefpaaGreat
section
open Go.Abs
attribute [local go_sem] ints ic
theorem jon(l:List Int):∀c∈l.map ic,c.length=1:=fun c hc=>by
 obtain⟨z,_,rfl⟩:=qg.1 hc;rfl
theorem jr1(l:List Int):((l.map ic).all fun c=>c.length==1)=true:=by
 rw[List.all_eq_true];intro c hc;rw[yC];exact jon l c hc
theorem jbh{l:List Int}{i:Nat}(h:(i:Int)<l.length):l[i]? =some (dgt l i):=by
 have h:i<l.length:=by omega
 unfold dgt;rw[zk h];rfl
theorem dgt_at{l:List Int}{i:Nat}{d:Int}(h:l[i]? =some d):dgt l i=d:=by simp[dgt,h]
theorem jew{l:List Int}{i:Nat}(h:l.length<=i):dgt l i=0:=by simp[dgt,q8 h]
end
end Go.Proofs.YtgncgpfjldefpaaGreat
namespace Go.Abs
section
theorem jg5:∀(l:List Int) (j:Nat) (v:Int),j<l.length->val (l.set j v)=val l+1048576^j*(v-dgt l j)
 | [],j,v,h=>by simp at h
 | d::l,0,v,_=>by
  have:dgt (d::l) 0=d:=rfl;rw[List.set_cons_zero,this,Int.pow_zero,ym];show v+1048576*val l=d+1048576*val l+(v-d);omega
 | d::l,j+1,v,h=>by
  have ih:=jg5 l j v (by simpa using h);have hd:dgt (d::l) (j+1)=dgt l j:=by simp[dgt]
  rw[List.set_cons_succ,hd,jdb];show d+1048576*val (l.set j v)=d+1048576*val l+_;rw[ih,qu,yz (1048576^j) 1048576,qG];omega
theorem OkD.set{l:List Int}(h:OkD l){j:Nat}{v:Int}(hv:0<=v/\v<1048576):OkD (l.set j v):=fun x hx=>by
 rcases ya hx with h1 | h1
 ·exact h x h1
 ·rw[h1];exact hv
theorem jkf{x y:Int}(hx:0<=x/\x<1048576)(hy:0<=y/\y<1048576):0<=x*y/\x*y<=1048575*1048575:=
 ⟨qK hx.1 hy.1,jO (by omega) (by omega) hy.1 (by omega)⟩
theorem jlh{out b:List Int}{j i k:Nat}{c n x V:Int}(hj:j=i+k)(hjl:j<out.length)(h:val out+1048576^j*c=V+1048576^i*(x*val (b.take k)))(hn:n=dgt out j+x*dgt b k+c):
  val (out.set j (n % 1048576))+1048576^(j+1)*(n/1048576)=V+1048576^i*(x*val (b.take (k+1))):=by
 rw[jg5 out j _ hjl,jck,jdb,qu x,qu];have e1:1048576^j*(n % 1048576-dgt out j)+1048576^j*1048576*(n/1048576)=1048576^j*(n-dgt out j):=by
  rw[qG,<-qu];congr 1;have:=qH n 1048576;omega
 have e2:1048576^j*(n-dgt out j)=1048576^j*c+1048576^j*(x*dgt b k):=by
  rw[<-qu];congr 1;omega
 have e3:(1048576:Int)^i*(x*(1048576^k*dgt b k))=1048576^j*(x*dgt b k):=by
  rw[hj,Int.pow_add,jT x,qG]
 rw[e3];omega
theorem jds(n:Nat):val (List.replicate n 0)=0:=by
 induction n with
 | zero=>rfl
 | succ n ih=>rw[List.replicate_succ];show 0+1048576*val (List.replicate n 0)=0;rw[ih];rfl
theorem OkD.replicate(n:Nat):OkD (List.replicate n 0):=fun x hx=>by rw[jU hx];omega
end
end Go.Abs
namespace Go.Proofs.YtgncgpfjldefpaaGreat
section
open Go.Abs
attribute [local go_sem] ints ic
theorem jf4(l:List Int)(hl:OkD l)(hlen:l.length<=1000000000000):Ctr G.P 141 [ints l] (· =ints (dig (val l).toNat)):=by
 refine ja4 [.tmp 2] Tryz.func141 ?_;simp only[go_sem];refine jas [0,3] [] (fun n:Nat=>⟨[(0,.im (.sl (l.map ic))),(3,.im (.int n))],[],[]⟩) (fun n=>n<=l.length/\∀i,n<=i->dgt l i=0) (fun n=>n) l.length ?_ ⟨zu _,fun i hi=>jew hi⟩ ?_
 ·simp only[go_sem]
 ·intro n ⟨hn,hz⟩;have fin:n=0\/dgt l (n-1)≠0->(l.map ic).take n=(dig (val l).toNat).map ic:=fun h=>by
   rw[<-List.map_take,jq9 hl hn hz h]
  have hnn:(n:Int)<=l.length:=by omega
  rcases n with _ | m
  ·have hd:decide ((0:Int)<((0:Nat):Int))=false:=by decide
   have hf:=fin (.inl rfl);rw[List.take_zero]at hf;have hg:dig (val l).toNat=[]:=jJ.1 hf.symm;rw[hg];simp only[hd,Int.natCast_zero,vq,jr1,go_sem]
  ·have hd:decide ((0:Int)<((m+1:Nat):Int))=true:=zh (by omega);have h1:=jaa (n:=(m:Int)) (by omega);have h2:((m+1:Nat):Int)-1=m:=by omega
   have h3:((m+1:Nat):Int).toNat=m+1:=by omega
   have h4:(0:Int)<=((m+1:Nat):Int):=by omega
   obtain⟨d,hx⟩:∃d,l[m]? =some d:=⟨_,zk (by omega)⟩;have hdm:=dgt_at hx;simp only[hd,h1,h2,zq,hx,go_sem];refine jd9 (fun hb hb'=> ?_) (fun hb hb'=> ?_)
   ·simp only[hd,h1,h2,hb,go_sem];refine jad m ?_ (by omega) ⟨by omega,fun i hi=> ?_⟩
    ·simp only[h1,h2,go_sem]
    ·rcases zV m i with h | h
     ·exact hz i h
     ·rw[show i=m by omega,hdm];exact hb'
   ·have hf:=fin (.inr (by rw[Nat.add_sub_cancel,hdm];exact hb'));simp only[jr1,hnn,h3,h4,hb,hf,Nat.sub_zero,go_sem]
theorem t_ptrimO(l:List Int)(hl:OkD l)(hlen:l.length<=1000000000000):CtrM G.P 141 [.gsl 900 3 1 l.length] [(900,1,l.map ic)] (fun r Es new=>r= .gsl 900 3 1 (dig (val l).toNat).length/\Es=[l.map ic]/\new=none):=by
 refine jna good _ _ [.tmp 2] Tryz.func141 rfl rfl (by decide+kernel) rfl rfl (by simp) ?_;simp only[go_sem];refine jas [0,3] [900] (fun n:Nat=>⟨[(0,.gsl 900 3 1 l.length),(3,.im (.int n))],[(900,1,l.map ic)],[]⟩) (fun n=>n<=l.length/\∀i,n<=i->dgt l i=0) (fun n=>n) l.length ?_ ⟨zu _,fun i hi=>jew hi⟩ ?_
 ·simp only[go_sem]
 ·intro n ⟨hn,hz⟩;have fin:n=0\/dgt l (n-1)≠0->(dig (val l).toNat).length=n:=fun h=>by
   rw[<-jq9 hl hn hz h,qd];omega
  have hnn:(n:Int)<=l.length:=by omega
  rcases n with _ | m
  ·have hd:decide ((0:Int)<((0:Nat):Int))=false:=by decide
   have hf:=fin (.inl rfl);rw[hf];simp only[hd,Int.natCast_zero,vq,jr1,yx,Int.toNat_zero,jR,go_sem]
  ·have hd:decide ((0:Int)<((m+1:Nat):Int))=true:=zh (by omega);have h1:=jaa (n:=(m:Int)) (by omega);have h2:((m+1:Nat):Int)-1=m:=by omega
   have h3:((m+1:Nat):Int).toNat=m+1:=by omega
   have h4:(0:Int)<=((m+1:Nat):Int):=by omega
   have h5:(m:Int)<l.length:=by omega
   obtain⟨d,hx⟩:∃d,l[m]? =some d:=⟨_,zk (by omega)⟩;have hdm:=dgt_at hx;simp only[hd,h1,h2,h5,zq,hx,go_sem];refine jd9 (fun hb hb'=> ?_) (fun hb hb'=> ?_)
   ·simp only[hd,h1,h2,hb,go_sem];refine jad m ?_ (by omega) ⟨by omega,fun i hi=> ?_⟩
    ·simp only[h1,h2,go_sem]
    ·rcases zV m i with h | h
     ·exact hz i h
     ·rw[show i=m by omega,hdm];exact hb'
   ·have hf:=fin (.inr (by rw[Nat.add_sub_cancel,hdm];exact hb'));rw[hf];simp only[jr1,hnn,h3,h4,hb,Nat.sub_zero,jR,go_sem]
theorem jho(l:List Int)(hlen:l.length<=1000000000000):Ctr G.P 69 [ints l] (· =ints l):=by
 refine ja4 [.tmp 2] Tryz.func69 ?_;simp only[go_sem];refine jnj (fun h=> ?_) ?_
 ·have:l=[]:=jJ.1 h;subst this;simp only[zB,go_sem]
 ·simp only[go_sem];exact⟨by simp,jon l,by omega⟩
theorem t_cloneO(l:List Int)(hne:l≠[])(hlen:l.length<=1000000000000):CtrM G.P 69 [.im (ints l)] [] (fun r Es new=>r= .gsl 901 3 1 l.length/\Es=[]/\new=some (1,l.map ic)):=by
 have hne':l.map ic≠[]:=fun h=>hne (jJ.1 h);refine jna goodO _ _ [.tmp 2] Tryz.func69 rfl rfl (by decide+kernel) rfl rfl (by simp) ?_;simp only[go_sem];refine jnj (fun h=>absurd h hne') ?_;simp only[hne',go_sem];exact⟨jon l,by omega⟩
end
end Go.Proofs.YtgncgpfjldefpaaGreat
namespace Go.Abs
section
section
variable{L R:Rows}{k d s b:Nat}{es:List (List IV)}
theorem look_filterQ(q:Nat->Bool)(l:Rows)(k:Nat):look (l.filter fun p=>q p.1) k=if q k=true then look l k else none:=jbx l q k
theorem jb4(h:blks L)(hd:d<100000):look L d=none:=by
 cases hl:look L d with
 | none=>rfl
 | some x=>obtain⟨b,e⟩:=h d x hl;unfold hp at e;omega
theorem filter_of_none(h:look L d=none):L.filter (fun p=>p.1 !=d)=L:=by
 induction L with
 | nil=>rfl
 | cons p L ih=>
  obtain⟨j,v⟩:=p;by_cases e:d=j
  ·subst e;rw[ja2]at h;cases h
  ·rw[ja0 _ _ e]at h;rw[jA,ih h,zm (by simp only[qz,ne_eq];exact fun x=>e x.symm)]
theorem jch(h:look L d=none):L.map (fun p=>if p.1=d then(p.1,s,es)else p)=L:=by
 induction L with
 | nil=>rfl
 | cons p L ih=>
  obtain⟨j,v⟩:=p;by_cases e:d=j
  ·subst e;rw[ja2]at h;cases h
  ·rw[ja0 _ _ e]at h;rw[zn,ih h,zp (fun x=>e x.symm)]
theorem je9(h:blks L)(hd:d<100000):L.filter (fun p=>p.1 !=d)=L:=filter_of_none (jb4 h hd)
theorem jne(h:blks L)(hd:d<100000):L.map (fun p=>if p.1=d then(p.1,s,es)else p)=L:=jch (jb4 h hd)
theorem jab{x:Nat×List (List IV)}(h:look L k=some x):look (L.map (fun p=>if p.1=k then(p.1,s,es)else p)) k=some (s,es):=
 jc2 (by rw[h];rfl)
theorem jaf{j:Nat}(h:j≠k):look (L.map (fun p=>if p.1=k then(p.1,s,es)else p)) j=look L j:=jce h
theorem jb7(h:blks L):blks (L.map (fun p=>if p.1=k then(p.1,s,es)else p)):=fun j x hj=>by
 have:(look L j).isSome:=by
  have e:=jbv (l:=L) (d:=k) (s:=s) (k:=j) (es:=es);unfold setRow at e;rw[<-e,hj];rfl
 obtain⟨y,hy⟩:=zl.1 this;exact h j y hy
theorem jao(h:blks L):blks ((hp b,s,es)::L):=fun j x hj=>by
 by_cases e:j=hp b
 ·exact⟨b,e⟩
 ·rw[ja0 _ _ e]at hj;exact h j x hj
theorem jb3:blks []:=fun _ _ h=>by cases h
theorem jbj(h:blks L):blks (del L d):=fun j x hj=>by
 by_cases e:j=d
 ·subst e;rw[ja9]at hj;cases hj
 ·rw[ja5 _ e]at hj;exact h j x hj
def hiR(R:Rows):Rows:=R.filter fun p=>Nat.ble 100000 p.1
theorem jmv:look (hiR R) k=if 100000<=k then look R k else none:=by
 unfold hiR;rw[look_filterQ];by_cases h:100000<=k
 ·rw[zm (Nat.ble_eq▸h),zm h]
 ·rw[zp (fun e=>h (yh e)),zp h]
theorem jag:look (hiR R) (hp b)=look R (hp b):=by rw[jmv,zm (by unfold hp;omega)]
theorem jd5:blks (hiR R):=fun k x h=>by
 rw[jmv]at h;split at h
 ·rename_i hk;exact⟨_,hp_of hk⟩
 ·cases h
theorem hiR_ret:∀k x,look (hiR R) k=some x->100000<=k/\look R k=some x:=fun k x h=>by
 rw[jmv]at h;split at h
 ·exact⟨‹_›,h⟩
 ·cases h
theorem ja3{x:Nat×List (List IV)}(hd:d<100000)(hL:blks L)(h:SubR L R):SubR L ((d,x)::R):=fun k y hk=>by
 rw[ja0 _ _ (fun e=>by subst e;rw[jb4 hL hd]at hk;cases hk)];exact h k y hk
theorem ja6:SubR [] R:=fun _ _ h=>by cases h
theorem jaz{R':Rows}(p:Nat×Nat×List (List IV))(hs:SubR R' R):SubR (p::R') (p::R):=fun k x hk=>by
 obtain⟨j,v⟩:=p;by_cases e:k=j
 ·subst e;rw[ja2]at hk⊢;exact hk
 ·rw[ja0 _ _ e]at hk⊢;exact hs k x hk
theorem jar{R':Rows}{p:Nat×Nat×List (List IV)}(h:look R' p.1=none)(hs:SubR R' R):SubR R' (p::R):=fun k x hk=>by
 obtain⟨j,v⟩:=p;rw[ja0 _ _ (fun e=>by subst e;rw[h]at hk;cases hk)];exact hs k x hk
theorem jc4{L L':Rows}:∀(pre:Rows),(∀p∈pre,look L p.1=none)->jfc (pre++L) L L' (pre++L')
 | [],_=>fun _ _ h=> .inl h
 | (j,v)::pre,hp=>fun k x h=>by
  by_cases e:k=j
  ·subst e;rw[List.cons_append,ja2]at h⊢;exact .inr ⟨hp _ (qy ..),h⟩
  ·rw[List.cons_append,ja0 _ _ e]at h⊢;exact jc4 pre (fun p h=>hp p (qw _ h)) k x h
theorem jbs{L':Rows}:jfc R L L' L':=fun _ _ h=> .inl h
end
section
variable{R:Rows}
theorem jbd{G:Ctx}{rs:List ResultVar}{st:St}{φ:AV->Rows->Prop}(h:jm8 G rs (fun r=>φ r (hiR st.rows)) st): @RetH G rs st ⟨φ⟩:=RetH_of (hiR st.rows) hiR_ret h
theorem jbf{G:Ctx}{rs:List ResultVar}{st:St}{φ:AV->Rows->Prop}(L':Rows)(hb:blks L')(hs:SubR L' st.rows)(h:jm8 G rs (fun r=>φ r L') st): @RetH G rs st ⟨φ⟩:=
 RetH_of L' (fun k x hk=>⟨by obtain⟨b,rfl⟩:=hb k x hk;unfold hp;omega,hs k x hk⟩) h
end
def tab{α:Type}(n:Nat)(f:Nat->α):List α:=(List.range n).map f
section
variable{α β:Type}{n:Nat}{f g:Nat->α}
theorem jac:(tab n f).length=n:=by simp[tab]
theorem jg6{i:Nat}(h:i<n):(tab n f)[i]? =some (f i):=by simp[tab,h]
theorem tab_get_none{i:Nat}(h:¬i<n):(tab n f)[i]? =none:=by simp[tab];omega
theorem jaw(h:∀k,k<n->f k=g k):tab n f=tab n g:=jb fun k hk=>h k (qe.1 hk)
theorem tab_ext{l:List α}(hl:l.length=n)(h:∀k,k<n->l[k]? =some (f k)):l=tab n f:=by
 apply vf;intro i;by_cases hi:i<n
 ·rw[h i hi,jg6 hi]
 ·rw[tab_get_none hi,q8 (by omega)]
theorem jmi{i:Nat}{x:α}:(tab n f).set i x=tab n fun k=>if k=i then x else f k:=by
 refine tab_ext (by rw[z7,jac]) fun k hk=> ?_;by_cases e:k=i
 ·subst e;rw[zm rfl,List.getElem?_set_self (by rw[jac];exact hk)]
 ·rw[zp e,jw (fun h=>e h.symm),jg6 hk]
theorem ji1:tab (n+1) f=tab n f++[f n]:=by simp[tab,List.range_succ]
theorem tab_zero:tab 0 f=[]:=rfl
theorem tab_replicate{x:α}:List.replicate n x=tab n fun _=>x:=tab_ext (by simp) fun k hk=>by simp[hk]
theorem tab_mem{x:α}(h:x∈tab n f):∃i,i<n/\f i=x:=by
 obtain⟨i,hi,rfl⟩:=qg.1 h;exact⟨i,qe.1 hi,rfl⟩
theorem mem_tab{i:Nat}(h:i<n):f i∈tab n f:=qg.2 ⟨i,qe.2 h,rfl⟩
theorem jc8:(tab n f).take n=tab n f:=zE (by rw[jac];exact zu _)
theorem tab_nodup{A:Nat->Nat}(h:(tab n A).Nodup){i j:Nat}(hi:i<n)(hj:j<n)(e:A i=A j):i=j:=by
 have h1:=jg6 (f:=A) hi;have h2:=jg6 (f:=A) hj;rw[<-e]at h2;rw[zr]at h1 h2;obtain⟨a1,a2⟩:=h1;obtain⟨b1,b2⟩:=h2;exact(List.getElem_inj h).1 (a2.trans b2.symm)
end
theorem bF{L:Rows}(hb:blks L)(d:Nat)(h:d<100000):L.filter (fun p=>p.1 !=d)=L:=je9 hb h
theorem bN{L:Rows}(hb:blks L)(d:Nat)(h:d<100000):look L d=none:=jb4 hb h
theorem bK{L:Rows}(hb:blks L)(d s:Nat)(es:List (List IV))(h:d<100000):L.map (fun p=>if p.1=d then(p.1,s,es)else p)=L:=jne hb h
end
section
theorem CtrH.loc{P:Program}{f:FuncId}{b s i j:Nat}{args:List AV}{L:Rows}{φ:AV->Rows->Prop}(h:CtrH P f (.im (.pr b s i j)::args) L φ):CtrH P f (.loc (hp b) s i j::args) L φ:=
 fun w M vs h1 h2 h3 h4=>h w M vs h1 h2 (by simpa using h3) fun k av v hk hv=>by
  cases k with
  | zero=>
   simp at hk;subst hk;obtain⟨b',e1,e2⟩:=h4 0 (.loc (hp b) s i j) v rfl hv;rw[pβ_hp]at e1;cases e1;rw[e2];exact Rep.pr b s i j
  | succ k=>exact h4 (k+1) av v (by simpa using hk) hv
theorem St.le_lend(s:St)(d:Nat):St.Le s (s.lend d):=fun _ _ _ β _ _ h=>⟨β,h.lend d⟩
theorem jja{G:Ctx}{c:Code}{Q:Exit->St->Prop}{st:St}(d:Nat)(h: @LoopP G ⟨c⟩ ⟨Q⟩ (st.lend d)): @LoopP G ⟨c⟩ ⟨Q⟩ st:=by
 obtain⟨I,n,⟨s0,h1,h2⟩,h3⟩:=h;exact⟨I,n,⟨s0,(St.le_lend st d).trans h1,h2⟩,h3⟩
end
section
open Go.RowKit (Below)
def isSp(o:Oper):Bool:=
 match o.op with
 | .call c=>match c.callee with
  | .value _=>true
  | .builtin b=>match b with
   | .append=>true
   | _=>false
  | _=>false
 | _=>false
def spY(G:Ctx)(st:St)(o:Oper)(T:AV->Rows->Prop):Prop:=if isSp o=true then sp G st o T else aq G st o fun av=>T av st.rows
def spListY(G:Ctx)(Rs:Rows)(K:St->Prop):List Oper->St->Prop
 | [],st=>K st
 | o::r,st=>o.guard=none/\spY G st o fun av R'=>(∀k x,look Rs k=some x->look R' k=some x)/\spListY G Rs K r ((⟨st.fr,R',st.toks⟩:St).put o.dst av)
section
variable{G:Ctx}{N:Nat}{w0:Base}{w w':World}{M0:Nat->Nat->Prop}{β:Nat->Option Nat}{st st':St}{a:Act}{ops:List Oper}
end
section
variable{G:Ctx}
def jfe(G:Ctx)(ops:List Oper)(K:St->Prop)(Rs:Rows)(d:Nat)(z:List IV)(sps l:List Oper)(st:St):Prop:=
 spListY G Rs (fun s'=>NewH (fun s''=>alist G ops K l s'') s' z.length [z] d (fun b=> .loc (hp b) z.length 0 0)) sps st
def jea(G:Ctx)(ops:List Oper)(K:St->Prop)(R0 Rs:Rows)(d:Nat)(z:List IV)(sps:List Oper)(k:List Nat)(l:List Oper)(st:St):Prop:=
 jdr G ops (fun s=>jfe G ops K Rs d z (sps.reverse++jjh (k.map (· ==1)) l) (l.drop k.length) ⟨s.fr,R0,s.toks⟩) (k.map (· !=0)) l st
theorem aheadYN_nil1(ops:List Oper)(K:St->Prop)(R0 Rs:Rows)(d:Nat)(z:List IV)(o:Oper)(l:List Oper)(st:St):jea G ops K R0 Rs d z [o] [] l st=jfe G ops K Rs d z [o] l ⟨st.fr,R0,st.toks⟩:=by
 unfold jea;simp[jjh,jdr]
theorem aheadYN_nil2(ops:List Oper)(K:St->Prop)(R0 Rs:Rows)(d:Nat)(z:List IV)(o o':Oper)(l:List Oper)(st:St):jea G ops K R0 Rs d z [o',o] [] l st=jfe G ops K Rs d z [o,o'] l ⟨st.fr,R0,st.toks⟩:=by
 unfold jea;simp[jjh,jdr]
theorem aheadYN_sp(ops:List Oper)(K:St->Prop)(R0 Rs:Rows)(d:Nat)(z:List IV)(sps:List Oper)(k:List Nat)(o:Oper)(l:List Oper)(st:St):
  jea G ops K R0 Rs d z sps (1::k) (o::l) st=jea G ops K R0 Rs d z (o::sps) k l st:=by
 simp[jea,jjh,jdr]
theorem aheadYN_var(ops:List Oper)(K:St->Prop)(R0 Rs:Rows)(d:Nat)(z:List IV)(sps:List Oper)(k:List Nat)(o:Oper)(l:List Oper)(st:St):
  jea G ops K R0 Rs d z sps (2::k) (o::l) st=jea G ops K R0 Rs d z sps k l st:=by
 simp[jea,jjh,jdr]
theorem aheadYN_free(ops:List Oper)(K:St->Prop)(R0 Rs:Rows)(d:Nat)(z:List IV)(sps:List Oper)(k:List Nat)(dst:Option Tmp)(op:Op)(ty:TypeId)(pos:String)(af:Array Edge)(r:List Oper)(st:St):
  jea G ops K R0 Rs d z sps (0::k) (⟨dst,op,ty,pos,af,none⟩::r) st=aq G st ⟨dst,op,ty,pos,af,none⟩ (fun av=>jea G ops K R0 Rs d z sps k r (st.put dst av)):=by
 simp[jea,jjh,jdr]
theorem spListYN_nil(ops:List Oper)(K:St->Prop)(Rs:Rows)(d:Nat)(z:List IV)(l:List Oper)(st:St):jfe G ops K Rs d z [] l st=NewP z.length [z] d (K:=⟨fun s=>alist G ops K l s⟩) (A:=⟨(st,fun b=> .loc (hp b) z.length 0 0)⟩):=rfl
theorem spListYN_call(ops:List Oper)(K:St->Prop)(Rs:Rows)(d:Nat)(z:List IV)(l:List Oper)(dst:Option Tmp)(f:Operand)(azz:Array Operand)(ts:Array TypeId)(ty:TypeId)(pos:String)(af:Array Edge)(r:List Oper)(st:St):
  jfe G ops K Rs d z (⟨dst,.call ⟨.value f,azz,ts⟩,ty,pos,af,none⟩::r) l st=SpCall G (evO st f) (azz.toList.map (evO st)) st.rows (T:=⟨fun av R'=>SubR Rs R'/\jfe G ops K Rs d z r l ((⟨st.fr,R',st.toks⟩:St).put dst av)⟩):=
 propext ⟨fun h=>h.2,fun h=>⟨rfl,h⟩⟩
theorem spListYN_build(ops:List Oper)(K:St->Prop)(Rs:Rows)(d:Nat)(z:List IV)(l:List Oper)(dst:Option Tmp)(t:TypeId)(fs:Array (Nat×Operand))(ty:TypeId)(pos:String)(af:Array Edge)(r:List Oper)(st:St):
  jfe G ops K Rs d z (⟨dst,.build t fs,ty,pos,af,none⟩::r) l st=aq G st ⟨dst,.build t fs,ty,pos,af,none⟩ (fun av=>SubR Rs st.rows/\jfe G ops K Rs d z r l ((⟨st.fr,st.rows,st.toks⟩:St).put dst av)):=
 propext ⟨fun h=>h.2,fun h=>⟨rfl,h⟩⟩
end
attribute [go_sem ↓] aheadYN_nil1 aheadYN_nil2 aheadYN_sp aheadYN_var aheadYN_free spListYN_nil spListYN_call spListYN_build
end
section
open Go.RowKit (Below)
def jgq(G:Ctx)(t:TypeId)(p x:AV)(R:Rows)(T:AV->Rows->Prop):Prop:=
 match x,p.dp with
 | .im y,.loc d s i j=>match look R d with
  | some (s',es)=>match es[i]? with
   | some c=>s'=s/\(G.ti t).size≠0/\(cellsOf y).length=(G.ti t).size/\(cellsOf y).all IV.one=true/\j+(G.ti t).size<=c.length/\
     T jcg (setRow R d s (es.set i (jbu c j (cellsOf y))))
   | none=>False
  | none=>False
 | _,_=>False
def spZ(G:Ctx)(st:St)(o:Oper)(T:AV->Rows->Prop):Prop:=
 match o.op with
 | .store t p x=>jgq G t (evO st p) (evO st x) st.rows T
 | _=>if isSp o=true then sp G st o T else aq G st o fun av=>T av st.rows
def spZ1(G:Ctx)(st:St)(o:Oper)(T:AV->Rows->Prop):Prop:=
 match o.op with
 | .store t p x=>jgq G t (evO st p) (evO st x) st.rows T
 | _=>if isSp o=true then sp G st o T else ∃av,qVal G st o av/\T av st.rows
def jjc(ops:Array Oper):Nat->Nat->Nat->Bool
 | 0,j,i=>Region.waitsFor .any ops j i
 | f+1,j,i=>Region.waitsFor .any ops j i || (List.range j).any fun l=>Region.waitsFor .any ops j l&&jjc ops f l i
theorem waitsT_listed{ops:Array Oper}{n:Nat}{listed:Array Bool}(inv:HeadInv .any ops n listed)(hw:∀j i,Region.waitsFor .any ops j i=true->listed.getD j false=true->listed.getD i false=true):
  ∀(f j i:Nat),jjc ops f j i=true->listed.getD j false=true->listed.getD i false=true:=by
 intro f
 induction f with
 | zero=>exact fun j i h hl=>hw j i h hl
 | succ f ih=>
  intro j i h hl;rw[jjc,qC]at h;rcases h with h | h
  ·exact hw j i h hl
  ·obtain⟨l,_,h2⟩:=ja.1 h;rw[zD]at h2;exact ih l i h2.2 (hw j l h2.1 hl)
theorem spZ_1{G:Ctx}{st:St}{o:Oper}{T:AV->Rows->Prop}(h:spZ G st o T):spZ1 G st o T:=by
 unfold spZ at h;unfold spZ1;split at h
 ·exact h
 ·by_cases hs:isSp o=true
  ·rw[zm hs]at h⊢;exact h
  ·rw[zp hs]at h⊢;obtain⟨av,h1,h2⟩:=jhx h;exact⟨av,h1,h2⟩
def isStZ(o:Oper):Bool:=
 match o.op with
 | .store _ _ _=>true
 | _=>false
def stZ(ops:Array Oper)(m:List Bool):Bool:=(List.range m.length).all fun i=>(List.range m.length).all fun j=> !(m.getD i false) || m.getD j false || (match ops[i]?,ops[j]? with
 | some oi,some oj=> !isStZ oi || !jfw oj || Region.waitsFor .any ops i j
 | _,_=>true)
section
variable{G:Ctx}{N:Nat}{w0:Base}{w w':World}{M0:Nat->Nat->Prop}{β:Nat->Option Nat}{st st':St}{a:Act}{ops:List Oper}
theorem spZ_congr{o:Oper}{T:AV->Rows->Prop}(h:∀t∈o.looksAt ops.toArray,st.get t=st'.get t)(hr:st.rows=st'.rows)(ht:st.toks=st'.toks)(hs:spZ1 G st o T):spZ1 G st' o T:=by
 have hx:∀x∈o.op.operands,evO st x=evO st' x:=fun x hx=>jgu fun t ht=>h t (jdi hx ht);unfold spZ1 at hs⊢;split at hs
 ·rename_i t p x ho;rw[ho]at hx;rw[<-hx p (by simp[Op.operands]),<-hx x (by simp[Op.operands]),<-hr];exact hs
 ·by_cases hp:isSp o=true
  ·rw[zm hp]at hs⊢;exact sp_congr h hr hs
  ·rw[zp hp]at hs⊢;obtain⟨av,h1,h2⟩:=hs;exact⟨av,jiu h hr ht h1,hr▸h2⟩
theorem spZ_sound(hG:G.Good)(h:Sim N w0 M0 β st a w){o:Oper}{T:AV->Rows->Prop}(hd:∀d,o.dst=some d->d<N)(hA:spZ1 G st o T){K':Act->World->Prop}{Q':Exit->Act->World->Prop}
  (hK:∀av R' β' a' w',T av R'->Sim N w0 M0 β' ((⟨st.fr,R',st.toks⟩:St).put o.dst av) a' w'->K' a' w'):o.wp G.P a w K' Q':=by
 unfold spZ1 at hA;split at hA
 ·rename_i t p x ho;have haop:aop G o (fun st'=>∃av R',st'=(⟨st.fr,R',st.toks⟩:St).put o.dst av/\T av R') st:=by
   unfold aop;rw[ho];dsimp only;unfold jgq at hA;split at hA
   ·rename_i y d s i j hx hp;have hl:st.lendO x=st:=by
     unfold St.lendO;rw[hx]
    rw[hl];unfold jm7;rw[hx,hp];dsimp only[ivE,ivOf];split at hA
    ·rename_i s' es hlk;rw[hlk];dsimp only;split at hA
     ·rename_i c hc;rw[hc];obtain⟨h1,h2,h3,h4,h5,h6⟩:=hA;exact⟨h1,h2,h3,h4,h5,_,_,rfl,h6⟩
     ·exact hA.elim
    ·exact hA.elim
   ·exact hA.elim
  refine jdz hG h hd haop ?_;rintro st' β' a' w' ⟨av,R',rfl,hT⟩ hs;exact hK av R' β' a' w' hT hs
 ·by_cases hp:isSp o=true
  ·rw[zm hp]at hA;exact sp_sound hG h hd hA hK
  ·rw[zp hp]at hA;obtain⟨av,h1,h2⟩:=hA;refine je5 hG h h1 fun v w2 hb hv=>hK av st.rows β _ w2 h2 ?_;exact(h.ext hb).put (dst:=o.dst) hd hv
end
section
variable{G:Ctx}
def jng(G:Ctx)(t:TypeId)(p x:AV)(R:Rows)[T:Hold (Rows->Prop)]:Prop:=jgq G t p x R fun _ R'=>T.val R'
theorem jfd{t:TypeId}{p x:AV}{R:Rows}{T T':AV->Rows->Prop}(h:jgq G t p x R T)(hT:∀av R',T av R'->T' av R'):jgq G t p x R T':=by
 unfold jgq at h⊢;split at h
 ·split at h
  ·split at h
   ·obtain⟨h1,h2,h3,h4,h5,h6⟩:=h;exact⟨h1,h2,h3,h4,h5,hT _ _ h6⟩
   ·exact h.elim
  ·exact h.elim
 ·exact h.elim
theorem SpStore_loc(t:TypeId)(d s i j:Nat)(y:IV)(R:Rows)(T:Rows->Prop): @jng G t (.loc d s i j) (.im y) R ⟨T⟩=Opt (look R d) (K:=⟨fun p=>Opt p.2[i]? (K:=⟨fun c=>p.1=s/\(G.ti t).size≠0/\(cellsOf y).length=(G.ti t).size/\(cellsOf y).all IV.one=true/\j+(G.ti t).size<=c.length/\
  T (setRow R d s (p.2.set i (jbu c j (cellsOf y))))⟩)⟩):=by
 unfold jng jgq Opt AV.dp;dsimp only;cases h:look R d with
 | none=>rfl
 | some p=>
  obtain⟨s',es⟩:=p;dsimp only;cases es[i]? <;>rfl
end
attribute [go_sem ↓] SpStore_loc
end
end Go.Abs
