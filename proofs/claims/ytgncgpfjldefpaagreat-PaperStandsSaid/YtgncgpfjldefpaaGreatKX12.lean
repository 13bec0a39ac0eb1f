/- A part of the proof. No further condition. -/
import Derived.Test.YtgncgpfjldefpaaGreatKX11
import Derived.Test.YtgncgpfjldefpaaGreatKX10
set_option linter.all false
set_option maxRecDepth 100000
namespace Go.Proofs.YtgncgpfjldefpaaGreat
section
open Go.Abs
attribute [local go_sem] ints ic
set_option maxHeartbeats 1000000 in
theorem jf5(l:List Int)(hl:OkD l)(hlen:l.length<=1000000000000):Ctr G.P 141 [ints l] (· =ints (dig (val l).toNat)):=by
 refine jab good _ _ [.tmp 2] Tryz.func141 rfl rfl (by decide+kernel) rfl ?_;simp only[go_sem];refine jaq [0,3] [] (fun n:Nat=>⟨[(0,.im (.sl (l.map ic))),(3,.im (.int n))],[],[]⟩) (fun n=>n<=l.length/\∀i,n<=i->dgt l i=0) (fun n=>n) l.length ?_ ⟨Nat.le_refl _,fun i hi=>jey hi⟩ ?_
 ·simp only[go_sem]
 ·intro n ⟨hn,hz⟩;have fin:n=0\/dgt l (n-1)≠0->(l.map ic).take n=(dig (val l).toNat).map ic:=fun h=>by
   rw[<-List.map_take,jpx hl hn hz h]
  have hnn:(n:Int)<=l.length:=by omega
  rcases n with _ | m
  ·have hd:decide ((0:Int)<((0:Nat):Int))=false:=by decide
   have hf:=fin (.inl rfl);rw[List.take_zero]at hf;have hg:dig (val l).toNat=[]:=List.map_eq_nil_iff.1 hf.symm;rw[hg];simp only[hd,Int.natCast_zero,Int.lt_irrefl,jql,go_sem]
  ·have hd:decide ((0:Int)<((m+1:Nat):Int))=true:=decide_eq_true (by omega);have h1:=jaa (n:=(m:Int)) (by omega);have h2:((m+1:Nat):Int)-1=m:=by omega
   have h3:((m+1:Nat):Int).toNat=m+1:=by omega
   have h4:(0:Int)<=((m+1:Nat):Int):=by omega
   obtain⟨d,hx⟩:∃d,l[m]? =some d:=⟨_,List.getElem?_eq_getElem (by omega)⟩;have hdm:=dgt_at hx;simp only[hd,h1,h2,List.getElem?_map,hx,go_sem];refine jdc (fun hb hb'=> ?_) (fun hb hb'=> ?_)
   ·simp only[hd,h1,h2,hb,go_sem];refine jad m ?_ (by omega) ⟨by omega,fun i hi=> ?_⟩
    ·simp only[h1,h2,go_sem]
    ·rcases Nat.lt_or_ge m i with h | h
     ·exact hz i h
     ·rw[show i=m by omega,hdm];exact hb'
   ·have hf:=fin (.inr (by rw[Nat.add_sub_cancel,hdm];exact hb'));simp only[jql,hnn,h3,h4,hb,hf,Nat.sub_zero,go_sem]
set_option maxHeartbeats 1000000 in
theorem t_ptrimO(l:List Int)(hl:OkD l)(hlen:l.length<=1000000000000):CtrM G.P 141 [.gsl 900 3 1 l.length] [(900,1,l.map ic)] (fun r Es new=>r= .gsl 900 3 1 (dig (val l).toNat).length/\Es=[l.map ic]/\new=none):=by
 refine jn5 good _ _ [.tmp 2] Tryz.func141 rfl rfl (by decide+kernel) rfl rfl (by simp) ?_;simp only[go_sem];refine jaq [0,3] [900] (fun n:Nat=>⟨[(0,.gsl 900 3 1 l.length),(3,.im (.int n))],[(900,1,l.map ic)],[]⟩) (fun n=>n<=l.length/\∀i,n<=i->dgt l i=0) (fun n=>n) l.length ?_ ⟨Nat.le_refl _,fun i hi=>jey hi⟩ ?_
 ·simp only[go_sem]
 ·intro n ⟨hn,hz⟩;have fin:n=0\/dgt l (n-1)≠0->(dig (val l).toNat).length=n:=fun h=>by
   rw[<-jpx hl hn hz h,List.length_take];omega
  have hnn:(n:Int)<=l.length:=by omega
  rcases n with _ | m
  ·have hd:decide ((0:Int)<((0:Nat):Int))=false:=by decide
   have hf:=fin (.inl rfl);rw[hf];simp only[hd,Int.natCast_zero,Int.lt_irrefl,jql,Int.le_refl,Int.toNat_zero,eq_self,go_sem]
  ·have hd:decide ((0:Int)<((m+1:Nat):Int))=true:=decide_eq_true (by omega);have h1:=jaa (n:=(m:Int)) (by omega);have h2:((m+1:Nat):Int)-1=m:=by omega
   have h3:((m+1:Nat):Int).toNat=m+1:=by omega
   have h4:(0:Int)<=((m+1:Nat):Int):=by omega
   have h5:(m:Int)<l.length:=by omega
   obtain⟨d,hx⟩:∃d,l[m]? =some d:=⟨_,List.getElem?_eq_getElem (by omega)⟩;have hdm:=dgt_at hx;simp only[hd,h1,h2,h5,List.getElem?_map,hx,go_sem];refine jdc (fun hb hb'=> ?_) (fun hb hb'=> ?_)
   ·simp only[hd,h1,h2,hb,go_sem];refine jad m ?_ (by omega) ⟨by omega,fun i hi=> ?_⟩
    ·simp only[h1,h2,go_sem]
    ·rcases Nat.lt_or_ge m i with h | h
     ·exact hz i h
     ·rw[show i=m by omega,hdm];exact hb'
   ·have hf:=fin (.inr (by rw[Nat.add_sub_cancel,hdm];exact hb'));rw[hf];simp only[jql,hnn,h3,h4,hb,Nat.sub_zero,eq_self,go_sem]
theorem jhn(l:List Int)(hlen:l.length<=1000000000000):Ctr G.P 69 [ints l] (· =ints l):=by
 refine jab good _ _ [.tmp 2] Tryz.func69 rfl rfl (by decide+kernel) rfl ?_;simp only[go_sem];refine jnd (fun h=> ?_) ?_
 ·have:l=[]:=List.map_eq_nil_iff.1 h;subst this;simp only[List.map_nil,go_sem]
 ·simp only[go_sem];exact⟨by simp,joi l,by omega⟩
theorem t_cloneO(l:List Int)(hne:l≠[])(hlen:l.length<=1000000000000):CtrM G.P 69 [.im (ints l)] [] (fun r Es new=>r= .gsl 901 3 1 l.length/\Es=[]/\new=some (1,l.map ic)):=by
 have hne':l.map ic≠[]:=fun h=>hne (List.map_eq_nil_iff.1 h);refine jn5 goodO _ _ [.tmp 2] Tryz.func69 rfl rfl (by decide+kernel) rfl rfl (by simp) ?_;simp only[go_sem];refine jnd (fun h=>absurd h hne') ?_;simp only[hne',go_sem];exact⟨joi l,by omega⟩
end
end Go.Proofs.YtgncgpfjldefpaaGreat
namespace Go.Abs
section
section
variable{L R:Rows}{k d s b:Nat}{es:List (List IV)}
theorem look_filterQ(q:Nat->Bool)(l:Rows)(k:Nat):look (l.filter fun p=>q p.1) k=if q k=true then look l k else none:=jbs l q k
theorem jb1(h:blks L)(hd:d<100000):look L d=none:=by
 cases hl:look L d with
 | none=>rfl
 | some x=>obtain⟨b,e⟩:=h d x hl;unfold hp at e;omega
theorem filter_of_none(h:look L d=none):L.filter (fun p=>p.1 !=d)=L:=by
 induction L with
 | nil=>rfl
 | cons p L ih=>
  obtain⟨j,v⟩:=p;by_cases e:d=j
  ·subst e;rw[ja2]at h;cases h
  ·rw[ja0 _ _ e]at h;rw[List.filter_cons,ih h,if_pos (by simp only[bne_iff_ne,ne_eq];exact fun x=>e x.symm)]
theorem jf8(h:look L d=none):L.map (fun p=>if p.1=d then(p.1,s,es)else p)=L:=by
 induction L with
 | nil=>rfl
 | cons p L ih=>
  obtain⟨j,v⟩:=p;by_cases e:d=j
  ·subst e;rw[ja2]at h;cases h
  ·rw[ja0 _ _ e]at h;rw[List.map_cons,ih h,if_neg (fun x=>e x.symm)]
theorem je9(h:blks L)(hd:d<100000):L.filter (fun p=>p.1 !=d)=L:=filter_of_none (jb1 h hd)
theorem jn9(h:blks L)(hd:d<100000):L.map (fun p=>if p.1=d then(p.1,s,es)else p)=L:=jf8 (jb1 h hd)
theorem jac{x:Nat×List (List IV)}(h:look L k=some x):look (L.map (fun p=>if p.1=k then(p.1,s,es)else p)) k=some (s,es):=
 jbz (by rw[h];rfl)
theorem jah{j:Nat}(h:j≠k):look (L.map (fun p=>if p.1=k then(p.1,s,es)else p)) j=look L j:=jcd h
theorem jb8(h:blks L):blks (L.map (fun p=>if p.1=k then(p.1,s,es)else p)):=fun j x hj=>by
 have:(look L j).isSome:=by
  have e:=jbr (l:=L) (d:=k) (s:=s) (k:=j) (es:=es);unfold setRow at e;rw[<-e,hj];rfl
 obtain⟨y,hy⟩:=Option.isSome_iff_exists.1 this;exact h j y hy
theorem jam(h:blks L):blks ((hp b,s,es)::L):=fun j x hj=>by
 by_cases e:j=hp b
 ·exact⟨b,e⟩
 ·rw[ja0 _ _ e]at hj;exact h j x hj
theorem jb3:blks []:=fun _ _ h=>by cases h
theorem jbh(h:blks L):blks (del L d):=fun j x hj=>by
 by_cases e:j=d
 ·subst e;rw[ja9]at hj;cases hj
 ·rw[ja4 _ e]at hj;exact h j x hj
def hiR(R:Rows):Rows:=R.filter fun p=>Nat.ble 100000 p.1
theorem jmt:look (hiR R) k=if 100000<=k then look R k else none:=by
 unfold hiR;rw[look_filterQ];by_cases h:100000<=k
 ·rw[if_pos (Nat.ble_eq▸h),if_pos h]
 ·rw[if_neg (fun e=>h (Nat.le_of_ble_eq_true e)),if_neg h]
theorem jag:look (hiR R) (hp b)=look R (hp b):=by rw[jmt,if_pos (by unfold hp;omega)]
theorem jda:blks (hiR R):=fun k x h=>by
 rw[jmt]at h;split at h
 ·rename_i hk;exact⟨_,hp_of hk⟩
 ·cases h
theorem hiR_ret:∀k x,look (hiR R) k=some x->100000<=k/\look R k=some x:=fun k x h=>by
 rw[jmt]at h;split at h
 ·exact⟨‹_›,h⟩
 ·cases h
theorem ja3{x:Nat×List (List IV)}(hd:d<100000)(hL:blks L)(h:SubR L R):SubR L ((d,x)::R):=fun k y hk=>by
 rw[ja0 _ _ (fun e=>by subst e;rw[jb1 hL hd]at hk;cases hk)];exact h k y hk
theorem ja7:SubR [] R:=fun _ _ h=>by cases h
theorem jaw{R':Rows}(p:Nat×Nat×List (List IV))(hs:SubR R' R):SubR (p::R') (p::R):=fun k x hk=>by
 obtain⟨j,v⟩:=p;by_cases e:k=j
 ·subst e;rw[ja2]at hk⊢;exact hk
 ·rw[ja0 _ _ e]at hk⊢;exact hs k x hk
theorem jap{R':Rows}{p:Nat×Nat×List (List IV)}(h:look R' p.1=none)(hs:SubR R' R):SubR R' (p::R):=fun k x hk=>by
 obtain⟨j,v⟩:=p;rw[ja0 _ _ (fun e=>by subst e;rw[h]at hk;cases hk)];exact hs k x hk
theorem jc3{L L':Rows}:∀(pre:Rows),(∀p∈pre,look L p.1=none)->jfd (pre++L) L L' (pre++L')
 | [],_=>fun _ _ h=> .inl h
 | (j,v)::pre,hp=>fun k x h=>by
  by_cases e:k=j
  ·subst e;rw[List.cons_append,ja2]at h⊢;exact .inr ⟨hp _ (List.mem_cons_self ..),h⟩
  ·rw[List.cons_append,ja0 _ _ e]at h⊢;exact jc3 pre (fun p h=>hp p (List.mem_cons_of_mem _ h)) k x h
theorem jbp{L':Rows}:jfd R L L' L':=fun _ _ h=> .inl h
end
section
variable{R:Rows}
theorem jba{G:Ctx}{rs:List ResultVar}{st:St}{φ:AV->Rows->Prop}(h:jm6 G rs (fun r=>φ r (hiR st.rows)) st): @RetH G rs st ⟨φ⟩:=RetH_of (hiR st.rows) hiR_ret h
theorem jbd{G:Ctx}{rs:List ResultVar}{st:St}{φ:AV->Rows->Prop}(L':Rows)(hb:blks L')(hs:SubR L' st.rows)(h:jm6 G rs (fun r=>φ r L') st): @RetH G rs st ⟨φ⟩:=
 RetH_of L' (fun k x hk=>⟨by obtain⟨b,rfl⟩:=hb k x hk;unfold hp;omega,hs k x hk⟩) h
end
def tab{α:Type}(n:Nat)(f:Nat->α):List α:=(List.range n).map f
section
variable{α β:Type}{n:Nat}{f g:Nat->α}
theorem jae:(tab n f).length=n:=by simp[tab]
theorem jg8{i:Nat}(h:i<n):(tab n f)[i]? =some (f i):=by simp[tab,h]
theorem tab_get_none{i:Nat}(h:¬i<n):(tab n f)[i]? =none:=by simp[tab];omega
theorem jav(h:∀k,k<n->f k=g k):tab n f=tab n g:=List.map_congr_left fun k hk=>h k (List.mem_range.1 hk)
theorem tab_ext{l:List α}(hl:l.length=n)(h:∀k,k<n->l[k]? =some (f k)):l=tab n f:=by
 apply List.ext_getElem?;intro i;by_cases hi:i<n
 ·rw[h i hi,jg8 hi]
 ·rw[tab_get_none hi,List.getElem?_eq_none (by omega)]
theorem jme{i:Nat}{x:α}:(tab n f).set i x=tab n fun k=>if k=i then x else f k:=by
 refine tab_ext (by rw[List.length_set,jae]) fun k hk=> ?_;by_cases e:k=i
 ·subst e;rw[if_pos rfl,List.getElem?_set_self (by rw[jae];exact hk)]
 ·rw[if_neg e,List.getElem?_set_ne (fun h=>e h.symm),jg8 hk]
theorem ji0:tab (n+1) f=tab n f++[f n]:=by simp[tab,List.range_succ]
theorem tab_zero:tab 0 f=[]:=rfl
theorem tab_replicate{x:α}:List.replicate n x=tab n fun _=>x:=tab_ext (by simp) fun k hk=>by simp[hk]
theorem tab_mem{x:α}(h:x∈tab n f):∃i,i<n/\f i=x:=by
 obtain⟨i,hi,rfl⟩:=List.mem_map.1 h;exact⟨i,List.mem_range.1 hi,rfl⟩
theorem mem_tab{i:Nat}(h:i<n):f i∈tab n f:=List.mem_map.2 ⟨i,List.mem_range.2 h,rfl⟩
theorem jc5:(tab n f).take n=tab n f:=List.take_of_length_le (by rw[jae];exact Nat.le_refl _)
theorem tab_nodup{A:Nat->Nat}(h:(tab n A).Nodup){i j:Nat}(hi:i<n)(hj:j<n)(e:A i=A j):i=j:=by
 have h1:=jg8 (f:=A) hi;have h2:=jg8 (f:=A) hj;rw[<-e]at h2;rw[List.getElem?_eq_some_iff]at h1 h2;obtain⟨a1,a2⟩:=h1;obtain⟨b1,b2⟩:=h2;exact(List.getElem_inj h).1 (a2.trans b2.symm)
end
theorem bF{L:Rows}(hb:blks L)(d:Nat)(h:d<100000):L.filter (fun p=>p.1 !=d)=L:=je9 hb h
theorem bN{L:Rows}(hb:blks L)(d:Nat)(h:d<100000):look L d=none:=jb1 hb h
theorem bK{L:Rows}(hb:blks L)(d s:Nat)(es:List (List IV))(h:d<100000):L.map (fun p=>if p.1=d then(p.1,s,es)else p)=L:=jn9 hb h
end
section
theorem CtrH.loc{P:Program}{f:FuncId}{b s i j:Nat}{args:List AV}{L:Rows}{φ:AV->Rows->Prop}(h:CtrH P f (.im (.pr b s i j)::args) L φ):CtrH P f (.loc (hp b) s i j::args) L φ:=
 fun w M vs h1 h2 h3 h4=>h w M vs h1 h2 (by simpa using h3) fun k av v hk hv=>by
  cases k with
  | zero=>
   simp at hk;subst hk;obtain⟨b',e1,e2⟩:=h4 0 (.loc (hp b) s i j) v rfl hv;rw[pβ_hp]at e1;cases e1;rw[e2];exact Rep.pr b s i j
  | succ k=>exact h4 (k+1) av v (by simpa using hk) hv
theorem St.le_lend(s:St)(d:Nat):St.Le s (s.lend d):=fun _ _ _ β _ _ h=>⟨β,h.lend d⟩
theorem jj8{G:Ctx}{c:Code}{Q:Exit->St->Prop}{st:St}(d:Nat)(h: @LoopP G ⟨c⟩ ⟨Q⟩ (st.lend d)): @LoopP G ⟨c⟩ ⟨Q⟩ st:=by
 obtain⟨I,n,⟨s0,h1,h2⟩,h3⟩:=h;exact⟨I,n,⟨s0,(St.le_lend st d).trans h1,h2⟩,h3⟩
end
section
open Go.RowKit (Below)
def isSp(o:Oper):Bool:=
 match o.op with
 | .call c=>match c.callee with
  | .value _=>true
  | .builtin b=>match b with
   | .append=>true
   | _=>false
  | _=>false
 | _=>false
def spY(G:Ctx)(st:St)(o:Oper)(T:AV->Rows->Prop):Prop:=if isSp o=true then sp G st o T else aq G st o fun av=>T av st.rows
def jk3(G:Ctx)(Rs:Rows)(K:St->Prop):List Oper->St->Prop
 | [],st=>K st
 | o::r,st=>o.guard=none/\spY G st o fun av R'=>(∀k x,look Rs k=some x->look R' k=some x)/\jk3 G Rs K r ((⟨st.fr,R',st.toks⟩:St).put o.dst av)
def drawY(ops:Array Oper)(m:List Bool)(p:Nat):Bool:=
 drawB ops m.length&&decide (p<m.length)&& !(m.getD p false)&&(List.range m.length).all (fun j=>(List.range j).all fun i=>
  (!(m.getD i false&&m.getD j false) || Region.waitsFor .any ops j i)&&
  (!(m.getD i false&& !(m.getD j false)) || (match ops[i]?,ops[j]? with
   | some oi,some oj=>oi.apart ops oj
   | _,_=>false)))&&(List.range m.length).all (fun j=>decide (j=p) || (match ops[p]?,ops[j]? with
   | some op,some oj=>op.apart ops oj
   | _,_=>false))
section
variable{G:Ctx}{N:Nat}{w0:Base}{w w':World}{M0:Nat->Nat->Prop}{β:Nat->Option Nat}{st st':St}{a:Act}{ops:List Oper}
theorem sp_frame{o:Oper}{T:AV->Rows->Prop}{X:Nat}{x:Nat×List (List IV)}(hX:look st.rows (hp X)=none)(h:sp G st o T):
  sp G ⟨st.fr,(hp X,x)::st.rows,st.toks⟩ o (fun av R''=>∃R',T av R'/\look R' (hp X)=none/\∀k,look R'' k=look ((hp X,x)::R') k):=by
 have hev:∀y,evO st y=evO (⟨st.fr,(hp X,x)::st.rows,st.toks⟩:St) y:=fun y=>jfx fun t _=>rfl;have hin:∀k v,look st.rows k=some v->look ((hp X,x)::st.rows) k=some v:=fun k v hk=>by
  have:k≠hp X:=fun e=>by subst e;rw[hX]at hk;cases hk
  simp only[look,this,if_false];exact hk
 have hne:∀b v,look st.rows (hp b)=some v->hp b≠hp X:=fun b v hk e=>by rw[e,hX]at hk;cases hk
 unfold sp at h⊢;cases ho:o.op with
 | call c=>
  rw[ho]at h;dsimp only at h⊢;cases hc:c.callee with
  | value f=>
   rw[hc]at h;dsimp only at h⊢;obtain⟨g,caps,hf,hg,L,φ,h1,h2,h3,h4⟩:=h;have hmap:c.args.toList.map (evO st)=c.args.toList.map (evO (⟨st.fr,(hp X,x)::st.rows,st.toks⟩:St)):=List.map_congr_left fun y _=>hev y;have hLX:look L (hp X)=none:=by
    cases hl:look L (hp X)with
    | none=>rfl
    | some v=>have:=h2 _ _ hl;rw[hX]at this;cases this
   refine⟨g,caps,by rw[<-hev];exact hf,hg,L,φ,h1,fun k v hk=>hin k v (h2 k v hk),by rw[<-hmap];exact h3,fun r L' hφ hfr=> ?_⟩;obtain⟨R',h5,h6⟩:=h4 r L' hφ (fun k hk=>(hfr k hk).imp id fun hn=>by
    simp only[look]at hn;split at hn
    ·cases hn
    ·exact hn)
   have hR':look R' (hp X)=none:=by
    cases hl:look R' (hp X)with
    | none=>rfl
    | some v=>
     rcases h5 _ _ hl with h7 | ⟨_,h7⟩
     ·rcases hfr (hp X) (by rw[h7];rfl)with h8 | h8
      ·rw[hLX]at h8;cases h8
      ·simp[look]at h8
     ·rw[hX]at h7;cases h7
   refine⟨(hp X,x)::R',fun k v hk=> ?_,R',h6,hR',fun _=>rfl⟩;simp only[look]at hk;split at hk
   ·rename_i e;subst e;exact .inr ⟨hLX,by simp only[look,if_true];exact hk⟩
   ·rcases h5 k v hk with h7 | ⟨h7,h8⟩
    ·exact .inl h7
    ·exact .inr ⟨h7,hin k v h8⟩
  | builtin b=>
   rw[hc]at h;dsimp only at h⊢;cases b with
   | append=>
    dsimp only at h⊢;split at h
    ·rename_i d t t' s y h1 h2 h3;split at h
     ·rename_i e hk;refine⟨h.1,?_⟩;obtain⟨rfl,xs,hxs,z1,z2,z3,z4,hor⟩:=h;rw[<-hev,<-hev];refine⟨xs,hxs,z1,z2,z3,z4,?_⟩;rcases hor with ⟨b,n,es,hsv,hl,z5,z6,hT⟩ | ⟨hsv,hp',hne',z6,hT⟩ | ⟨he0,hx0,hT⟩
      ·have hbX:=hne b _ hl;refine .inl ⟨b,n,es,hsv,hin _ _ hl,z5,z6,fun X' hX'=> ?_⟩;have hXX:hp X'≠hp X:=fun e=>by
        rw[e,ja4 _ (Ne.symm hbX)]at hX';simp[look]at hX'
       have hd:look (del st.rows (hp b)) (hp X')=none:=by
        by_cases e:hp X'=hp b
        ·rw[e];exact ja9 _ _
        ·rw[ja4 _ e];rw[ja4 _ e]at hX';simp only[look,hXX,if_false]at hX';exact hX'
       refine⟨_,hT X' hd,?_,fun k=> ?_⟩
       ·simp only[look,Ne.symm hXX,if_false];rw[ja4 _ (Ne.symm hbX)];exact hX
       ·simp only[look];by_cases e1:k=hp X'
        ·subst e1;simp[hXX]
        ·by_cases e2:k=hp b
         ·subst e2;simp only[e1,if_false,hbX];rw[ja9,ja9]
         ·simp only[e1,if_false];rw[ja4 _ e2,ja4 _ e2];simp only[look]
      ·refine .inr (.inl ⟨hsv,hp',hne',z6,fun b hb=> ?_⟩);have hbX:hp b≠hp X:=fun e=>by rw[e]at hb;simp[look]at hb
       simp only[look,hbX,if_false]at hb;refine⟨_,hT b hb,?_,fun k=> ?_⟩
       ·simp only[look,Ne.symm hbX,if_false];exact hX
       ·simp only[look];by_cases e1:k=hp b
        ·subst e1;simp[hbX]
        ·simp only[e1,if_false]
      ·exact .inr (.inr ⟨he0,hx0,st.rows,hT,hX,fun k=>rfl⟩)
     ·exact h.elim
    ·exact h.elim
   | _=>exact h.elim
  | _=>rw[hc]at h;exact h.elim
 | _=>rw[ho]at h;exact h.elim
theorem spY_step{o:Oper}{T:AV->Rows->Prop}(hs:isSp o=false)(hg:o.guard=none)(h:spY G st o T):∃av,qStep G ops st o av/\T av st.rows:=by
 unfold spY at h;rw[hs]at h;obtain⟨av,h1,h2⟩:=jh3 (by simpa using h);exact⟨av,by unfold qStep;rw[hg];exact h1,h2⟩
theorem jje{A:Rows}{X:Nat}{x:Nat×List (List IV)}{R:Rows}{k:Nat}{v:Nat×List (List IV)}(hR:look R (hp X)=none)(h:look R k=some v):look ((hp X,x)::R) k=some v:=by
 have:k≠hp X:=fun e=>by subst e;rw[hR]at h;cases h
 simp only[look,this,if_false];exact h
def upRow(b:Bool)(X:Nat)(x:Nat×List (List IV))(R:Rows):Rows:=if b=true then(hp X,x)::R else R
theorem draw_soundY(hG:G.Good)(id:Nat)(m:List Bool)(p:Nat){dp:Nat}{zp:List IV}{tp:TypeId}{op:Oper}(Rs:Rows)(hX:drawY ops.toArray m p=true)(hop:ops[p]? =some op)(hopa:op.op= .alloc tp)(hopd:op.dst=some dp)(hopg:op.guard=none)
  (hopz:jcl G tp=some zp) (hperm:G.perm.contains dp=true) (hd0:∀o∈ops,∀d,o.dst=some d->d<N) {K:St->Prop} {Q':Exit->Act->World->Prop}
  (hK:∀st' β' a' w',K st'->Sim N w0 M0 β' st' a' w'->Q' .normal a' w') (h:Sim N w0 M0 β st a w) (hRs:∀k x,look Rs k=some x->look st.rows k=some x)
  (hA:jd0 G ops (fun s=>jk3 G Rs (fun s'=>NewH (fun s''=>alist G ops K (ops.drop m.length) s'') s' zp.length [zp] dp (fun b=> .loc (hp b) zp.length 0 0)) (je1 m ops) ⟨s.fr,st.rows,s.toks⟩) (m.set p true) ops ⟨st.fr,Rs,st.toks⟩):(Code.region id ops.toArray true).wp G.P Q' a w:=by
 rw[drawY,Bool.and_eq_true,Bool.and_eq_true,Bool.and_eq_true,Bool.and_eq_true]at hX;obtain⟨⟨⟨⟨hB,hpn⟩,hmp⟩,hS⟩,hP⟩:=hX;simp only[drawB,Bool.and_eq_true,decide_eq_true_eq,Bool.or_eq_true,beq_iff_eq]at hB;obtain⟨⟨⟨⟨hn,hafter⟩,hpair⟩,htail⟩,hseq⟩:=hB;have hpn:p<m.length:=by simpa using hpn
 have hmp:m.getD p false=false:=by simpa using hmp
 have hsz:ops.toArray.size=ops.length:=by simp
 have hnl:m.length<=ops.length:=by rw[<-hsz];exact hn
 have hm2n:(m.set p true).length=m.length:=List.length_set ..;have hm2:∀i,(m.set p true).getD i false=(decide (i=p) || m.getD i false):=by
  intro i;rw[List.getD_eq_getElem?_getD,List.getD_eq_getElem?_getD,List.getElem?_set];by_cases e:p=i
  ·subst e;simp[hpn]
  ·have e':i≠p:=fun h=>e h.symm;simp[e,e']
 obtain⟨res0,hres,hfin⟩:=jfz (m.set p true) ops _ (by rw[hm2n];exact hnl) hA;rw[ji6 m ops hnl]at hfin;rw[hm2n]at hres hfin;generalize hm2e:m.set p true=m2 at*;generalize hmn:m.length=n at*;have htake:∀i,i<n->(ops.take n)[i]? =ops[i]? :=fun i hi=>by rw[List.getElem?_take,if_pos hi]
 have hlt:∀i o,(ops.take n)[i]? =some o->i<n/\ops[i]? =some o:=fun i o hi=>by
  rw[List.getElem?_take]at hi;split at hi
  ·exact⟨‹_›,hi⟩
  ·cases hi
 have arr:∀(i:Nat) (o:Oper),ops[i]? =some o->ops.toArray[i]? =some o:=fun i o h=>by simpa using h
 have hpair':∀i j oi oj,i<j->j<n->ops[i]? =some oi->ops[j]? =some oj->Region.waitsFor .any ops.toArray j i=true\/oi.apart ops.toArray oj=true:=by
  intro i j oi oj hij hj h1 h2;have:=List.all_eq_true.1 (List.all_eq_true.1 hpair j (List.mem_range.2 hj)) i (List.mem_range.2 hij);rw[arr i oi h1,arr j oj h2]at this
  simpa using this
 have hspec:∀i j,i<j->j<n->m.getD i false=true->m.getD j false=true->Region.waitsFor .any ops.toArray j i=true:=by
  intro i j hij hj h1 h2;have:=List.all_eq_true.1 (List.all_eq_true.1 hS j (List.mem_range.2 hj)) i (List.mem_range.2 hij);rw[Bool.and_eq_true,h1,h2]at this
  simpa using this.1
 have hfree:∀i j oi oj,i<j->j<n->m.getD i false=true->m.getD j false=false->ops[i]? =some oi->ops[j]? =some oj->oi.apart ops.toArray oj=true:=by
  intro i j oi oj hij hj h1 h2 h3 h4;have:=List.all_eq_true.1 (List.all_eq_true.1 hS j (List.mem_range.2 hj)) i (List.mem_range.2 hij);rw[Bool.and_eq_true,h1,h2,arr i oi h3,arr j oj h4]at this
  simpa using this.2
 have hpap:∀j oj,j<n->j≠p->ops[j]? =some oj->op.apart ops.toArray oj=true:=by
  intro j oj hj hjp h1;have:=List.all_eq_true.1 hP j (List.mem_range.2 hj);rw[arr p op hop,arr j oj h1]at this
  simpa [hjp]using this
 have hafter':∀(j:Nat) oj,ops[j]? =some oj->∀e∈oj.after,Region.binds .any e=true->e.on<j:=by
  intro j oj hj e he hb;have hjl:j<ops.toArray.size:=by rw[hsz];exact(List.getElem?_eq_some_iff.1 hj).1
  have:=List.all_eq_true.1 hafter j (List.mem_range.2 hjl);rw[arr j oj hj]at this;have:=Array.all_eq_true'.1 this e he
  simpa [hb]using this
 have hf:∀(l:List Oper) (res:Nat->AV) (L:Nat->Bool) (st:St),(∀i,L i=false)->stUp res L l st=st:=by
  intro l
  induction l with
  | nil=>intros;rfl
  | cons o l ih=>
   intro res L st hL;simp only[stUp,hL 0];exact ih _ _ _ fun i=>hL (i+1)
 have hput:∀(x:St) (d:Option Nat) (av:AV),(x.put d av).rows=x.rows/\(x.put d av).toks=x.toks:=fun x d av=>by unfold St.put;split<;>exact⟨rfl,rfl⟩
 have main:∀c (listed:Array Bool) (a:Act) (w:World),cntB listed n=c->HeadInv .any ops.toArray n listed->
   (∃(res:Nat->AV) (β:Nat->Option Nat) (R:Rows) (s:St) (X:Nat),(∀i,i<n->m2.getD i false=false->res i=res0 i)/\
    Sim N w0 M0 β (stUp res (fun i=>listed.getD i false) (ops.take n) ⟨st.fr,upRow (listed.getD p false) X (zp.length,[zp]) R,st.toks⟩) a w/\
    (listed.getD p false=true->look R (hp X)=none/\res p= .loc (hp X) zp.length 0 0)/\
    (∀k x,look Rs k=some x->look R k=some x)/\jk3 G Rs (fun s'=>NewH (fun s''=>alist G ops K (ops.drop n) s'') s' zp.length [zp] dp (fun b=> .loc (hp b) zp.length 0 0)) (((List.range n).filter (fun i=>m.getD i false&& !(listed.getD i false))).filterMap (fun i=>ops[i]?)) s/\s.rows=R/\s.toks=st.toks/\
    ∀t,s.get t=(stUp res (fun i=>hd m2 i || (m.getD i false&&listed.getD i false)) (ops.take n) ⟨st.fr,R,st.toks⟩).get t)->wpAny G.P .any ops.toArray Q' (c+(ops.toArray.size-n)) listed a w:=by
  intro c
  induction c with
  | zero=>
   rintro listed a w hc inv ⟨res,β,R,s,X,hr0,hs,hXp,hsub,hsp,hsr,hst,hsg⟩;rw[Nat.zero_add];have hall:=jfc hc;have hcan:listed=jel n ops.toArray.size:=by
    apply Array.ext
    ·rw[inv.size];simp[jel]
    ·intro i h1 h2;have hil:i<ops.length:=by rw[inv.size]at h1;simpa using h1
     by_cases hin:i<n
     ·have:=hall i hin;have e1:listed[i]=true:=by simpa [h1]using this
      rw[e1];simp[jel,hin]
     ·have:=inv.tail i (by omega) (by rw[inv.size]at h1;exact h1);have e1:listed[i]=false:=by simpa [h1]using this
      rw[e1];simp[jel,hin]
   have hrem:(List.range n).filter (fun i=>m.getD i false&& !(listed.getD i false))=[]:=List.filter_eq_nil_iff.2 fun k hk=>by
    rw[hall k (List.mem_range.1 hk)];simp
   rw[hrem]at hsp;have hlp:=hall p hpn;obtain⟨hRX,hresp⟩:=hXp hlp;have hsp':NewH (fun s''=>alist G ops K (ops.drop n) s'') s zp.length [zp] dp (fun b=> .loc (hp b) zp.length 0 0):=hsp;have hfinal:=hsp' X (by rw[hsr];exact hRX);have hs':Sim N w0 M0 β (s.addH X zp.length [zp] dp (.loc (hp X) zp.length 0 0)) a w:=by
    refine hs.congr (fun t=> ?_) ?_ ?_
    ·by_cases hdt:dp=t
     ·subst hdt;rw[jcp (ops.take n) res _ _ p op (by rw[htake p hpn];exact hop) hopd hlp fun k ok hpk hk hLk hdk=>by
       obtain⟨hkn,hok⟩:=hlt k ok hk;exact(Oper.apart_spec (hpap k ok hkn (by omega) hok)).2.1 dp hopd hdk]
      rw[hresp];simp[St.addH,St.get,look]
     ·have e1:(s.addH X zp.length [zp] dp (.loc (hp X) zp.length 0 0)).get t=s.get t:=by
       simp[St.addH,St.get,look,Ne.symm hdt]
      rw[e1,hsg];refine jbj _ _ _ _ _ _ rfl fun i o hi hdo=> ?_;obtain⟨hin,ho⟩:=hlt i o hi;have hip:i≠p:=fun e=>by
       subst e;rw[hop]at ho;cases ho;rw[hopd]at hdo;cases hdo;exact hdt rfl
      rw[hall i hin];unfold hd;rw[hm2 i];simp[hip]
    ·rw[(ja5 _ _ _ _).1,hlp];show(hp X,zp.length,[zp])::R=(hp X,zp.length,[zp])::s.rows;rw[hsr]
    ·rw[(ja5 _ _ _ _).2];exact hst.symm
   have hlist:=jea hG hK (ops.drop n) _ β a w (fun o ho=>hd0 o (List.mem_of_mem_drop ho)) hfinal hs';have hdl:(ops.drop n).length=ops.toArray.size-n:=by simp
   have:=wpAny_of_seq (P:=G.P) (md:= .any) (Q':=Q') (ops.drop n) n listed a w (fun j=>by simp[List.getElem?_drop]) (by rw[hcan,hdl];exact hseq) hlist
   rwa [hdl]at this
  | succ c ih=>
   rintro listed a w hc inv ⟨res,β,R,s,X,hr0,hs,hXp,hsub,hsp,hsr,hst,hsg⟩;obtain⟨i0,hi0,hun0,hmin⟩:=jhf (by omega:cntB listed n≠0);have hL:∀i,i<n->(listed.getD i true=false↔listed.getD i false=false):=fun i hi=>by
    have:i<listed.size:=by rw[inv.size];omega
    simp[this]
   have hready0:i0∈Region.ready .any ops.toArray listed:=by
    have hil:i0<ops.length:=by rw[<-hsz];omega
    refine mem_ready.2 ⟨(hL i0 hi0).2 hun0,ops[i0],arr i0 _ (List.getElem?_eq_getElem hil),fun e he hb=>hmin _ (hafter' i0 _ (List.getElem?_eq_getElem hil) e he hb)⟩
   have hgoal:(Region.ready .any ops.toArray listed=[]->Q' .normal a w)/\∀i∈Region.ready .any ops.toArray listed,wpOp G.P ops.toArray Q' i (wpAny G.P .any ops.toArray Q' (c+(ops.toArray.size-n)) (listed.setIfInBounds i true)) a w:=by
    refine⟨fun hr=>(by rw[hr]at hready0;cases hready0),fun i hi=> ?_⟩;obtain⟨hun,oi,hoi,hall⟩:=mem_ready.1 hi;have hoi':ops[i]? =some oi:=by simpa using hoi
    have hisz:i<ops.toArray.size:=(Array.getElem?_eq_some_iff.1 hoi).1;have hin:i<n:=by
     rcases Nat.lt_or_ge i n with h' | h'
     ·exact h'
     ·rcases htail with e | ⟨hsink,hchain⟩
      ·omega
      ·exact absurd hi (tail_waits hsink hchain (by omega) inv _ i0 rfl hi0 ((hL i0 hi0).2 hun0) i h')
    have hunf:listed.getD i false=false:=(hL i hin).1 hun;have hwait:∀k,Region.waitsFor .any ops.toArray i k=true->listed.getD k false=true:=fun k hk=>by
     obtain⟨oj,hoj,e,he,hb,hon⟩:=Region.waitsFor_spec hk;rw[hoi]at hoj;cases hoj;rw[<-hon];exact hall e he hb
    have hlate:∀k,Region.waitsFor .any ops.toArray k i=true->listed.getD k false=false:=fun k hk=>by
     obtain⟨ok,hok,e,he,hb,hon⟩:=Region.waitsFor_spec hk;cases hl:listed.getD k false with
     | false=>rfl
     | true=>
      have:=inv.closed k ok hok hl e he hb;rw[hon,hunf]at this;cases this
    have hisL:i<listed.size:=by rw[inv.size];exact hisz
    have hcnt:cntB (listed.setIfInBounds i true) n=c:=by
     have:=jhe hisL hunf n;rw[if_pos hin]at this;omega
    have hset:∀k,k≠i->(listed.setIfInBounds i true).getD k false=listed.getD k false:=fun k hk=>getD_set_ne false (Ne.symm hk);have hseti:(listed.setIfInBounds i true).getD i false=true:=by simp[hisL]
    have hlast:∀(t:Nat),oi.dst=some t->∀k ok,i<k->(ops.take n)[k]? =some ok->listed.getD k false=true->ok.dst≠some t:=by
     intro t hdt k ok hik hk hLk hdk;obtain⟨hkn,hok⟩:=hlt k ok hk;rcases hpair' i k oi ok hik hkn hoi' hok with hw | hap
     ·rw[hlate k hw]at hLk;cases hLk
     ·exact(Oper.apart_spec hap).2.1 t hdt hdk
    by_cases hip:i=p
    ·
     subst hip;rw[hop]at hoi';cases hoi';have hm2i:m2.getD i false=true:=by rw[hm2];simp
     have hs0:Sim N w0 M0 β (stUp res (fun k=>listed.getD k false) (ops.take n) ⟨st.fr,R,st.toks⟩) a w:=by
      have e:upRow (listed.getD i false) X (zp.length,[zp]) R=R:=by rw[hunf];rfl
      rw[e]at hs;exact hs
     have hrem:(List.range n).filter (fun k=>m.getD k false&& !((listed.setIfInBounds i true).getD k false))=(List.range n).filter (fun k=>m.getD k false&& !(listed.getD k false)):=by
      congr 1;funext k;by_cases hk:k=i
      ·subst hk;rw[hmp];rfl
      ·rw[hset k hk]
     unfold wpOp;rw[hoi];dsimp only;rw[if_pos (by simp[Region.wanted,hopg])];refine .inl (jdm (K:=fun s2=>∃b,look R (hp b)=none/\s2=(stUp res (fun k=>listed.getD k false) (ops.take n) ⟨st.fr,R,st.toks⟩).addH b zp.length [zp] dp (.loc (hp b) zp.length 0 0)) hG hs0 (hd0 op (List.mem_of_getElem? hop)) ?_ ?_)
     ·unfold aop;rw[hopa];dsimp only;rw[hopd,hopz];dsimp only;rw[if_pos hperm];intro b hb;rw[(ja5 _ _ _ _).1]at hb;exact⟨b,hb,rfl⟩
     ·rintro st2 β' a' w' ⟨b,hb,rfl⟩ hs2;refine ih _ _ _ hcnt (inv.set hi hin) ⟨fun k=>if k=i then .loc (hp b) zp.length 0 0 else res k,β',R,s,b,fun k hk hmk=> ?_,hs2.congr (fun t=> ?_) ?_ ?_,fun _=>⟨hb,if_pos rfl⟩,hsub,?_,hsr,hst,fun t=> ?_⟩
      ·show(if k=i then AV.loc (hp b) zp.length 0 0 else res k)=res0 k;rw[if_neg (fun e=>by subst e;rw[hm2i]at hmk;cases hmk)];exact hr0 k hk hmk
      ·by_cases hdt:dp=t
       ·subst hdt;have:=jcp (ops.take n) (fun k=>if k=i then .loc (hp b) zp.length 0 0 else res k) (fun k=>(listed.setIfInBounds i true).getD k false) ⟨st.fr,upRow ((listed.setIfInBounds i true).getD i false) b (zp.length,[zp]) R,st.toks⟩ i op (by rw[htake i hin];exact hop) hopd hseti fun k ok hik hk hLk hdk=>by
         obtain⟨hkn,hok⟩:=hlt k ok hk;exact(Oper.apart_spec (hpap k ok hkn (by omega) hok)).2.1 dp hopd hdk
        rw[this,if_pos rfl];simp[St.addH,St.get,look]
       ·have e1:((stUp res (fun k=>listed.getD k false) (ops.take n) ⟨st.fr,R,st.toks⟩).addH b zp.length [zp] dp (.loc (hp b) zp.length 0 0)).get t=(stUp res (fun k=>listed.getD k false) (ops.take n) ⟨st.fr,R,st.toks⟩).get t:=by
         simp[St.addH,St.get,look,Ne.symm hdt]
        rw[e1];refine jd4 _ _ _ _ _ _ _ rfl fun k ok hk hdk=> ?_;have hki:k≠i:=fun e=>by
         subst e;obtain⟨_,hok⟩:=hlt k ok hk;rw[hop]at hok;cases hok;rw[hopd]at hdk;cases hdk;exact hdt rfl
        exact⟨(hset k hki).symm,fun _=>(if_neg hki).symm⟩
      ·rw[(ja5 _ _ _ _).1,hseti];show(hp b,zp.length,[zp])::(stUp _ _ _ _).rows=(hp b,zp.length,[zp])::R;rw[(ja5 _ _ _ _).1]
      ·rw[(ja5 _ _ _ _).2];show(stUp _ _ _ _).toks=_;rw[(ja5 _ _ _ _).2]
      ·rw[hrem];exact hsp
      ·rw[hsg];refine jd4 _ _ _ _ _ _ _ rfl fun k ok hk hdk=> ?_;by_cases hki:k=i
       ·subst hki;unfold hd;rw[hm2i,hmp];simp
       ·exact⟨by rw[hset k hki],fun _=>(if_neg hki).symm⟩
    have hpi:p≠i:=fun e=>hip e.symm;have hm2i:m2.getD i false=m.getD i false:=by rw[hm2];simp[hip]
    have hlp:(listed.setIfInBounds i true).getD p false=listed.getD p false:=hset p hpi;have hapi:op.apart ops.toArray oi=true:=hpap i oi hin hip hoi';have hsub2:∀k x,look Rs k=some x->look (upRow (listed.getD p false) X (zp.length,[zp]) R) k=some x:=fun k x hk=>by
     unfold upRow;split
     ·exact jje (A:=[]) (hXp ‹_›).1 (hsub k x hk)
     ·exact hsub k x hk
    have hup:∀k x,look R k=some x->look (upRow (listed.getD p false) X (zp.length,[zp]) R) k=some x:=fun k x hk=>by
     unfold upRow;split
     ·exact jje (A:=[]) (hXp ‹_›).1 hk
     ·exact hk
    generalize hRR:upRow (listed.getD p false) X (zp.length,[zp]) R=RR at*;cases hmi:m.getD i false with
    | false=>
     rw[hmi]at hm2i;have hhd:hd m2 i=true:=by unfold hd;rw[hm2i];rfl
     have hagree:∀t∈oi.looksAt ops.toArray,(stUp res0 (fun k=>hd m2 k&&decide (k<i)) ops ⟨st.fr,RR,st.toks⟩).get t=(stUp res (fun k=>listed.getD k false) (ops.take n) ⟨st.fr,RR,st.toks⟩).get t:=by
      intro t ht;have e1:(stUp res0 (fun k=>hd m2 k&&decide (k<i)) ops ⟨st.fr,RR,st.toks⟩).get t=(stUp res0 (fun k=>hd m2 k&&decide (k<i)) (ops.take n) ⟨st.fr,RR,st.toks⟩).get t:=by
       have:∀(l:List Oper) (r:Nat->AV) (L:Nat->Bool) (n:Nat) (s:St),(∀k,n<=k->L k=false)->(stUp r L l s).get t=(stUp r L (l.take n) s).get t:=by
        intro l
        induction l with
        | nil=>intros;simp
        | cons o l ih=>
         intro r L n s hk;cases n with
         | zero=>
          rw[hf _ _ _ _ fun i=>hk i (Nat.zero_le _)];rfl
         | succ n=>exact ih _ _ n _ fun k hk'=>hk (k+1) (by omega)
       exact this _ _ _ _ _ fun k hk=>by simp;omega
      rw[e1];refine jd4 _ _ _ _ _ _ _ rfl fun k ok hk hdk=> ?_;obtain⟨hkn,hok⟩:=hlt k ok hk;by_cases hkp:k=p
      ·subst hkp;rw[hop]at hok;cases hok;exact absurd ht ((Oper.apart_spec hapi).1 t hdk)
      have hm2k:m2.getD k false=m.getD k false:=by rw[hm2];simp[hkp]
      cases hmk:m.getD k false with
      | true=>
       have hap:ok.apart ops.toArray oi=true\/oi.apart ops.toArray ok=true\/listed.getD k false=false:=by
        rcases Nat.lt_trichotomy k i with hki | hki | hki
        ·exact .inl (hfree k i ok oi hki hin hmk hmi hok hoi')
        ·subst hki;rw[hmi]at hmk;cases hmk
        ·rcases hpair' i k oi ok hki hkn hoi' hok with hw | hap
         ·exact .inr (.inr (hlate k hw))
         ·exact .inr (.inl hap)
       have hh:hd m2 k=false:=by unfold hd;rw[hm2k,hmk];rfl
       rcases hap with hap | hap | hap
       ·exact absurd ht ((Oper.apart_spec hap).1 t hdk)
       ·exact absurd ht ((Oper.apart_spec hap).2.2 t hdk)
       ·rw[hh,hap];simp
      | false=>
       have hh:hd m2 k=true:=by unfold hd;rw[hm2k,hmk];rfl
       refine⟨?_,fun _=>(hr0 k hkn (by rw[hm2k];exact hmk)).symm⟩;rw[hh];rcases Nat.lt_trichotomy k i with hki | hki | hki
       ·rcases hpair' k i ok oi hki hin hok hoi' with hw | hap
        ·rw[hwait k hw];simp[hki]
        ·exact absurd ht ((Oper.apart_spec hap).1 t hdk)
       ·subst hki;rw[hunf];simp
       ·rcases hpair' i k oi ok hki hkn hoi' hok with hw | hap
        ·rw[hlate k hw];simp;omega
        ·exact absurd ht ((Oper.apart_spec hap).2.2 t hdk)
     have hq0:=hres i oi (by omega) hm2i hoi';have hq1:qStep G ops (stUp res0 (fun k=>hd m2 k&&decide (k<i)) ops ⟨st.fr,RR,st.toks⟩) oi (res0 i):=by
      have:=jfs (r:=RR) (.inr fun d x hx=>hsub2 d x (by rwa [(ja5 _ _ _ _).1]at hx)) hq0;refine jcs (fun t _=> ?_) ?_ ?_ this
      ·show(stUp res0 (fun k=>hd m2 k&&decide (k<i)) ops ⟨st.fr,Rs,st.toks⟩).get t=_;exact jbj _ _ _ _ _ _ rfl fun _ _ _ _=>rfl
      ·show RR=_;rw[(ja5 _ _ _ _).1]
      ·show(stUp res0 (fun k=>hd m2 k&&decide (k<i)) ops ⟨st.fr,Rs,st.toks⟩).toks=_;rw[(ja5 _ _ _ _).2,(ja5 _ _ _ _).2]
     have hq:qStep G ops (stUp res (fun k=>listed.getD k false) (ops.take n) ⟨st.fr,RR,st.toks⟩) oi (res i):=by
      rw[hr0 i hin hm2i];exact jcs hagree (by rw[(ja5 _ _ _ _).1,(ja5 _ _ _ _).1]) (by rw[(ja5 _ _ _ _).2,(ja5 _ _ _ _).2]) hq1
     have next:∀v w2,Below w.heap.size w w2->RepA w2 (Mo M0 β (stUp res (fun k=>listed.getD k false) (ops.take n) ⟨st.fr,RR,st.toks⟩)) β (stUp res (fun k=>listed.getD k false) (ops.take n) ⟨st.fr,RR,st.toks⟩).toks (res i) v->
       wpAny G.P .any ops.toArray Q' (c+(ops.toArray.size-n)) (listed.setIfInBounds i true) (a.put oi.dst v) w2:=by
      intro v w2 hb hv;have hs2:=(hs.ext hb).put (dst:=oi.dst) (hd0 oi (List.mem_of_getElem? hoi')) hv;refine ih _ _ _ hcnt (inv.set hi hin) ⟨res,β,R,s,X,hr0,hs2.congr (fun t=> ?_) ?_ ?_,(by rw[hlp];exact hXp),hsub,?_,hsr,hst,fun t=> ?_⟩
      ·by_cases hdt:oi.dst=some t
       ·rw[hdt,jbi];refine(jcp (ops.take n) res _ _ i oi (by rw[htake i hin];exact hoi') hdt hseti fun k ok hik hk hLk=> ?_).symm;rw[hset k (by omega)]at hLk;exact hlast t hdt k ok hik hk hLk
       ·rw[jce hdt];refine jbj _ _ _ _ _ _ rfl fun k ok hk hdk=> ?_;have:k≠i:=fun e=>by
         subst e;obtain⟨_,hok⟩:=hlt k ok hk;rw[hoi']at hok;cases hok;exact hdt hdk
        exact(hset k this).symm
      ·rw[(hput _ _ _).1,(ja5 _ _ _ _).1,(ja5 _ _ _ _).1,hlp];exact hRR.symm
      ·rw[(hput _ _ _).2,(ja5 _ _ _ _).2,(ja5 _ _ _ _).2]
      ·have e:(fun k=>m.getD k false&& !((listed.setIfInBounds i true).getD k false))=fun k=>m.getD k false&& !(listed.getD k false):=by
        funext k;by_cases hk:k=i
        ·subst hk;rw[hmi];rfl
        ·rw[hset k hk]
       rw[e];exact hsp
      ·rw[hsg];refine jbj _ _ _ _ _ _ rfl fun k ok hk hdk=> ?_;by_cases hk:k=i
       ·subst hk;rw[hhd];rfl
       ·rw[hset k hk]
     unfold wpOp;rw[hoi];dsimp only;unfold qStep at hq;cases hg:oi.guard with
     | none=>
      rw[hg]at hq;rw[if_pos (by simp[Region.wanted,hg])];exact .inl (jcj hG hs hq next)
     | some p'=>
      obtain⟨j,want⟩:=p';rw[hg]at hq;dsimp only at hq;split at hq
      ·rename_i b hy;have hyc:=jdp hs hy;by_cases hb:b=want
       ·rw[if_pos hb]at hq;rw[if_pos (by simp[Region.wanted,hg,hyc,hb])];exact .inl (jcj hG hs hq next)
       ·rw[if_neg hb]at hq;rw[if_neg (by simp[Region.wanted,hg,hyc,hb])];exact next _ w (Below.refl _ _) (by rw[hq];exact Rep.sc _ rfl)
      ·rename_i hy;have hyc:=jdq hs hy;rw[if_neg (by simp[Region.wanted,hg,hyc])];exact next _ w (Below.refl _ _) (by rw[hq];exact Rep.sc _ rfl)
      ·exact hq.elim
    | true=>
     rw[hmi]at hm2i;have hfst:(List.range n).filter (fun k=>m.getD k false&& !(listed.getD k false))=i::(List.range n).filter (fun k=>m.getD k false&& !((listed.setIfInBounds i true).getD k false)):=by
      refine jgv (by rw[hmi,hunf];rfl) (fun k hk=> ?_) (fun k=> ?_) hin
      ·cases hmk:m.getD k false with
       | false=>rfl
       | true=>rw[hwait k (hspec k i hk hin hmk hmi)];rfl
      ·by_cases hk:k=i
       ·subst hk;rw[hseti];simp
       ·rw[hset k hk];simp[hk]
     rw[hfst,List.filterMap_cons,hoi']at hsp;dsimp only at hsp;obtain⟨hg,hsp⟩:=hsp;have hagree:∀t∈oi.looksAt ops.toArray,s.get t=(stUp res (fun k=>listed.getD k false) (ops.take n) ⟨st.fr,R,st.toks⟩).get t:=by
      intro t ht;rw[hsg];refine jbj _ _ _ _ _ _ rfl fun k ok hk hdk=> ?_;obtain⟨hkn,hok⟩:=hlt k ok hk;by_cases hkp:k=p
      ·subst hkp;rw[hop]at hok;cases hok;exact absurd ht ((Oper.apart_spec hapi).1 t hdk)
      have hm2k:m2.getD k false=m.getD k false:=by rw[hm2];simp[hkp]
      cases hmk:m.getD k false with
      | true=>
       have hh:hd m2 k=false:=by unfold hd;rw[hm2k,hmk];rfl
       rw[hh];simp
      | false=>
       rcases Nat.lt_trichotomy k i with hki | hki | hki
       ·rcases hpair' k i ok oi hki hin hok hoi' with hw | hap
        ·have hh:hd m2 k=true:=by unfold hd;rw[hm2k,hmk];rfl
         rw[hwait k hw,hh];simp
        ·exact absurd ht ((Oper.apart_spec hap).1 t hdk)
       ·subst hki;rw[hmi]at hmk;cases hmk
       ·exact absurd ht ((Oper.apart_spec (hfree i k oi ok hki hkn hmi hmk hoi' hok)).2.2 t hdk)
     have hs1:Sim N w0 M0 β ⟨(stUp res (fun k=>listed.getD k false) (ops.take n) ⟨st.fr,R,st.toks⟩).fr,RR,st.toks⟩ a w:=by
      refine hs.congr (fun t=> ?_) ?_ ?_
      ·show _=(stUp res (fun k=>listed.getD k false) (ops.take n) ⟨st.fr,R,st.toks⟩).get t;exact jbj _ _ _ _ _ _ rfl fun _ _ _ _=>rfl
      ·rw[(ja5 _ _ _ _).1]
      ·rw[(ja5 _ _ _ _).2]
     have fin:∀av R' R'' β' a' w',((∀k x,look Rs k=some x->look R' k=some x)/\jk3 G Rs (fun s'=>NewH (fun s''=>alist G ops K (ops.drop n) s'') s' zp.length [zp] dp (fun b=> .loc (hp b) zp.length 0 0)) (((List.range n).filter (fun i_1=>m.getD i_1 false&& !((listed.setIfInBounds i true).getD i_1 false))).filterMap (fun i=>ops[i]?)) ((⟨s.fr,R',s.toks⟩:St).put oi.dst av))->
       (listed.getD p false=true->look R' (hp X)=none)->(∀k,look R'' k=look (upRow (listed.getD p false) X (zp.length,[zp]) R') k)->
       Sim N w0 M0 β' ((⟨(stUp res (fun k=>listed.getD k false) (ops.take n) ⟨st.fr,R,st.toks⟩).fr,R'',st.toks⟩:St).put oi.dst av) a' w'->wpAny G.P .any ops.toArray Q' (c+(ops.toArray.size-n)) (listed.setIfInBounds i true) a' w':=by
      rintro av R' R'' β' a' w' ⟨hT1,hT2⟩ hRX' hlk hs2;refine ih _ _ _ hcnt (inv.set hi hin) ⟨fun k=>if k=i then av else res k,β',R',_,X,fun k hk hmk=> ?_,hs2.congrL (fun t=> ?_) ?_ ?_,(by
       rw[hlp];exact fun hh=>⟨hRX' hh,by show(if p=i then av else res p)=_;rw[if_neg hpi];exact(hXp hh).2⟩),hT1,hT2,?_,?_,fun t=> ?_⟩
      ·show(if k=i then av else res k)=res0 k;rw[if_neg (fun e=>by subst e;rw[hm2i]at hmk;cases hmk)];exact hr0 k hk hmk
      ·by_cases hdt:oi.dst=some t
       ·rw[hdt,jbi];have:=jcp (ops.take n) (fun k=>if k=i then av else res k) (fun k=>(listed.setIfInBounds i true).getD k false) ⟨st.fr,upRow ((listed.setIfInBounds i true).getD p false) X (zp.length,[zp]) R',st.toks⟩ i oi (by rw[htake i hin];exact hoi') hdt hseti fun k ok hik hk hLk=>by
         rw[hset k (by omega)]at hLk;exact hlast t hdt k ok hik hk hLk
        rw[this,if_pos rfl]
       ·rw[jce hdt];have e1:(⟨(stUp res (fun k=>listed.getD k false) (ops.take n) ⟨st.fr,R,st.toks⟩).fr,R'',st.toks⟩:St).get t=(stUp res (fun k=>listed.getD k false) (ops.take n) ⟨st.fr,R,st.toks⟩).get t:=rfl;rw[e1];refine jd4 _ _ _ _ _ _ _ rfl fun k ok hk hdk=> ?_;have hki:k≠i:=fun e=>by
         subst e;obtain⟨_,hok⟩:=hlt k ok hk;rw[hoi']at hok;cases hok;exact hdt hdk
        exact⟨(hset k hki).symm,fun _=>(if_neg hki).symm⟩
      ·intro k;rw[(hput _ _ _).1,(ja5 _ _ _ _).1,hlp];exact hlk k
      ·intro k;rw[(hput _ _ _).2,(ja5 _ _ _ _).2]
      ·exact(hput _ _ _).1
      ·rw[(hput _ _ _).2];exact hst
      ·by_cases hdt:oi.dst=some t
       ·rw[hdt,jbi];have:=jcp (ops.take n) (fun k=>if k=i then av else res k) (fun k=>hd m2 k || (m.getD k false&&(listed.setIfInBounds i true).getD k false)) ⟨st.fr,R',st.toks⟩ i oi (by rw[htake i hin];exact hoi') hdt (by rw[hseti,hmi];simp) fun k ok hik hk hLk hdk=>by
         obtain⟨hkn,hok⟩:=hlt k ok hk;by_cases hkp:k=p
         ·subst hkp;rw[hop]at hok;cases hok;exact(Oper.apart_spec hapi).2.1 t hdk hdt
         have hm2k:m2.getD k false=m.getD k false:=by rw[hm2];simp[hkp]
         cases hmk:m.getD k false with
         | true=>
          have hh:hd m2 k=false:=by unfold hd;rw[hm2k,hmk];rfl
          rw[hh,hmk,Bool.false_or,Bool.true_and,hset k (by omega)]at hLk;exact hlast t hdt k ok hik hk hLk hdk
         | false=>exact(Oper.apart_spec (hfree i k oi ok hik hkn hmi hmk hoi' hok)).2.1 t hdt hdk
        rw[this,if_pos rfl]
       ·rw[jce hdt];have e1:(⟨s.fr,R',s.toks⟩:St).get t=s.get t:=rfl;rw[e1,hsg];refine jd4 _ _ _ _ _ _ _ rfl fun k ok hk hdk=> ?_;have hki:k≠i:=fun e=>by
         subst e;obtain⟨_,hok⟩:=hlt k ok hk;rw[hoi']at hok;cases hok;exact hdt hdk
        exact⟨by rw[hset k hki],fun _=>(if_neg hki).symm⟩
     unfold wpOp;rw[hoi];dsimp only;rw[if_pos (by simp[Region.wanted,hg])];refine .inl ?_;cases hisp:isSp oi with
     | false=>
      obtain⟨av,hq0,hT⟩:=spY_step (ops:=ops) hisp hg hsp;rw[hsr]at hT;have hq1:=jcs (st':=stUp res (fun k=>listed.getD k false) (ops.take n) ⟨st.fr,R,st.toks⟩) hagree (by rw[(ja5 _ _ _ _).1,hsr]) (by rw[(ja5 _ _ _ _).2,hst]) hq0;have hq2:=jfs (r:=RR) (.inr fun d x hx=>by
       rw[(ja5 _ _ _ _).1]at hx;exact hup d x hx) hq1
      have hq3:qStep G ops ⟨(stUp res (fun k=>listed.getD k false) (ops.take n) ⟨st.fr,R,st.toks⟩).fr,RR,st.toks⟩ oi av:=
       jcs (st:=⟨(stUp res (fun k=>listed.getD k false) (ops.take n) ⟨st.fr,R,st.toks⟩).fr,RR,(stUp res (fun k=>listed.getD k false) (ops.take n) ⟨st.fr,R,st.toks⟩).toks⟩) (fun _ _=>rfl) rfl (ja5 res (fun k=>listed.getD k false) (ops.take n) ⟨st.fr,R,st.toks⟩).2 hq2
      unfold qStep at hq3;rw[hg]at hq3;exact jcj hG hs1 hq3 fun v w2 hb hv=>fin av R RR β _ _ hT (fun hh=>(hXp hh).1) (fun k=>by rw[hRR]) ((hs1.ext hb).put (dst:=oi.dst) (hd0 oi (List.mem_of_getElem? hoi')) hv)
     | true=>
      unfold spY at hsp;rw[if_pos hisp]at hsp;have hsp':=jjn (st':=stUp res (fun k=>listed.getD k false) (ops.take n) ⟨st.fr,R,st.toks⟩) hagree (by rw[hsr,(ja5 _ _ _ _).1]) hsp;cases hlpv:listed.getD p false with
      | false=>
       have eRR:RR=R:=by rw[<-hRR,hlpv];rfl
       rw[eRR]at hs1;have hsp2:=jjn (st':=(⟨(stUp res (fun k=>listed.getD k false) (ops.take n) ⟨st.fr,R,st.toks⟩).fr,R,st.toks⟩:St)) (ops:=ops) (st:=stUp res (fun k=>listed.getD k false) (ops.take n) ⟨st.fr,R,st.toks⟩) (fun _ _=>rfl) (by rw[(ja5 _ _ _ _).1]) hsp';exact jmj hG hs1 (hd0 oi (List.mem_of_getElem? hoi')) hsp2 fun av R' β' a' w' hT hs2=>fin av R' R' β' a' w' hT (fun hh=>by rw[hlpv]at hh;cases hh) (fun k=>by rw[hlpv];rfl) hs2
      | true=>
       have eRR:RR=(hp X,zp.length,[zp])::R:=by rw[<-hRR,hlpv];rfl
       rw[eRR]at hs1;have hsp2:=sp_frame (X:=X) (x:=(zp.length,[zp])) (by rw[(ja5 _ _ _ _).1];exact(hXp hlpv).1) hsp';have hsp3:=jjn (ops:=ops) (st:=(⟨(stUp res (fun k=>listed.getD k false) (ops.take n) ⟨st.fr,R,st.toks⟩).fr,(hp X,zp.length,[zp])::(stUp res (fun k=>listed.getD k false) (ops.take n) ⟨st.fr,R,st.toks⟩).rows,(stUp res (fun k=>listed.getD k false) (ops.take n) ⟨st.fr,R,st.toks⟩).toks⟩:St)) (st':=(⟨(stUp res (fun k=>listed.getD k false) (ops.take n) ⟨st.fr,R,st.toks⟩).fr,(hp X,zp.length,[zp])::R,st.toks⟩:St)) (fun _ _=>rfl) (by
        show(hp X,zp.length,[zp])::(stUp res (fun k=>listed.getD k false) (ops.take n) ⟨st.fr,R,st.toks⟩).rows=(hp X,zp.length,[zp])::R;rw[(ja5 _ _ _ _).1]) hsp2
       exact jmj hG hs1 (hd0 oi (List.mem_of_getElem? hoi')) hsp3 fun av R'' β' a' w' ⟨R',hT,hRX',hlk⟩ hs2=>fin av R' R'' β' a' w' hT (fun _=>hRX') (fun k=>by rw[hlpv];exact hlk k) hs2
   have:c+1+(ops.toArray.size-n)=(c+(ops.toArray.size-n))+1:=by omega
   rw[this];exact hgoal
 refine wp_region_any hG.mixed ?_;have inv0:HeadInv .any ops.toArray n (Array.replicate ops.toArray.size false):=
  ⟨by simp,fun j oj _ hl=>(by rw[getD_replicate_false]at hl;cases hl),fun t _ ht=>getD_in (by simpa using ht) (getD_replicate_false _ _)⟩
 have hc0:∀k,cntB (Array.replicate ops.toArray.size false) k=k:=fun k=>by
  induction k with
  | zero=>rfl
  | succ k ihk=>simp only[cntB,ihk,getD_replicate_false];simp
 have:=main n (Array.replicate ops.toArray.size false) a _ (hc0 n) inv0 ⟨res0,β,st.rows,⟨(stUp res0 (hd m2) (ops.take n) ⟨st.fr,Rs,st.toks⟩).fr,st.rows,(stUp res0 (hd m2) (ops.take n) ⟨st.fr,Rs,st.toks⟩).toks⟩,0,fun _ _ _=>rfl,h.drew.congr (fun t=>by
  rw[hf _ _ _ _ fun i=>getD_replicate_false _ _];rfl) (by rw[(ja5 _ _ _ _).1,getD_replicate_false];rfl) (by rw[(ja5 _ _ _ _).2]),(fun hh=>by rw[getD_replicate_false]at hh;cases hh),hRs,(by
   have e:(fun i=>m.getD i false&& !((Array.replicate ops.toArray.size false).getD i false))=fun i=>m.getD i false:=by
    funext i;rw[getD_replicate_false];simp
   rw[e];exact hfin),rfl,(ja5 _ _ _ _).2,fun t=>by
   show(stUp res0 (hd m2) (ops.take n) ⟨st.fr,Rs,st.toks⟩).get t=_;exact jbj _ _ _ _ _ _ rfl fun k _ _ _=>by rw[getD_replicate_false];simp⟩
 rwa [show n+(ops.toArray.size-n)=ops.toArray.size by omega]at this
end
section
variable{G:Ctx}
def jew(G:Ctx)(ops:List Oper)(K:St->Prop)(Rs:Rows)(d:Nat)(z:List IV)(sps l:List Oper)(st:St):Prop:=
 jk3 G Rs (fun s'=>NewH (fun s''=>alist G ops K l s'') s' z.length [z] d (fun b=> .loc (hp b) z.length 0 0)) sps st
def jdt(G:Ctx)(ops:List Oper)(K:St->Prop)(R0 Rs:Rows)(d:Nat)(z:List IV)(sps:List Oper)(k:List Nat)(l:List Oper)(st:St):Prop:=
 jd0 G ops (fun s=>jew G ops K Rs d z (sps.reverse++je1 (k.map (· ==1)) l) (l.drop k.length) ⟨s.fr,R0,s.toks⟩) (k.map (· !=0)) l st
def drawYk(ops:Array Oper)(k:List Nat)(p:Nat):Bool:=drawY ops (k.map (· ==1)) p&&(k.map (· !=0)==(k.map (· ==1)).set p true)
theorem jra{ops:List Oper}{Q:Exit->St->Prop}{st:St}(k:List Nat)(p dp:Nat)(tp ty:TypeId)(pos:String)(af:Array Edge)(Rs:Rows)(h:drawYk ops.toArray k p=true)(hop:ops[p]? =some ⟨some dp,.alloc tp,ty,pos,af,none⟩)(hperm:G.perm.contains dp=true)(hs:SubR Rs st.rows)
  (hA:Opt (jcl G tp) (K:=⟨fun z=>jdt G ops (Q .normal) st.rows Rs dp z [] k ops ⟨st.fr,Rs,st.toks⟩⟩)): @DrawP G ⟨ops⟩ ⟨Q⟩ st:=by
 refine jhj fun N w0 M0 β a w id Q' hG hd hK hsim=> ?_;rw[drawYk,Bool.and_eq_true,beq_iff_eq]at h;obtain⟨h1,h2⟩:=h;unfold Opt at hA;split at hA
 ·rename_i z hz;refine draw_soundY hG id (k.map (· ==1)) p (zp:=z) Rs h1 hop rfl rfl rfl hz hperm hd hK hsim hs ?_;dsimp only at hA;unfold jdt at hA;rw[h2]at hA
  simpa [jew]using hA
 ·exact hA.elim
theorem aheadYN_nil1(ops:List Oper)(K:St->Prop)(R0 Rs:Rows)(d:Nat)(z:List IV)(o:Oper)(l:List Oper)(st:St):jdt G ops K R0 Rs d z [o] [] l st=jew G ops K Rs d z [o] l ⟨st.fr,R0,st.toks⟩:=by
 unfold jdt;simp[je1,jd0]
theorem aheadYN_nil2(ops:List Oper)(K:St->Prop)(R0 Rs:Rows)(d:Nat)(z:List IV)(o o':Oper)(l:List Oper)(st:St):jdt G ops K R0 Rs d z [o',o] [] l st=jew G ops K Rs d z [o,o'] l ⟨st.fr,R0,st.toks⟩:=by
 unfold jdt;simp[je1,jd0]
theorem aheadYN_sp(ops:List Oper)(K:St->Prop)(R0 Rs:Rows)(d:Nat)(z:List IV)(sps:List Oper)(k:List Nat)(o:Oper)(l:List Oper)(st:St):
  jdt G ops K R0 Rs d z sps (1::k) (o::l) st=jdt G ops K R0 Rs d z (o::sps) k l st:=by
 simp[jdt,je1,jd0]
theorem aheadYN_var(ops:List Oper)(K:St->Prop)(R0 Rs:Rows)(d:Nat)(z:List IV)(sps:List Oper)(k:List Nat)(o:Oper)(l:List Oper)(st:St):
  jdt G ops K R0 Rs d z sps (2::k) (o::l) st=jdt G ops K R0 Rs d z sps k l st:=by
 simp[jdt,je1,jd0]
theorem aheadYN_free(ops:List Oper)(K:St->Prop)(R0 Rs:Rows)(d:Nat)(z:List IV)(sps:List Oper)(k:List Nat)(dst:Option Tmp)(op:Op)(ty:TypeId)(pos:String)(af:Array Edge)(r:List Oper)(st:St):
  jdt G ops K R0 Rs d z sps (0::k) (⟨dst,op,ty,pos,af,none⟩::r) st=aq G st ⟨dst,op,ty,pos,af,none⟩ (fun av=>jdt G ops K R0 Rs d z sps k r (st.put dst av)):=by
 simp[jdt,je1,jd0]
theorem spListYN_nil(ops:List Oper)(K:St->Prop)(Rs:Rows)(d:Nat)(z:List IV)(l:List Oper)(st:St):jew G ops K Rs d z [] l st=NewP z.length [z] d (K:=⟨fun s=>alist G ops K l s⟩) (A:=⟨(st,fun b=> .loc (hp b) z.length 0 0)⟩):=rfl
theorem spListYN_call(ops:List Oper)(K:St->Prop)(Rs:Rows)(d:Nat)(z:List IV)(l:List Oper)(dst:Option Tmp)(f:Operand)(azz:Array Operand)(ts:Array TypeId)(ty:TypeId)(pos:String)(af:Array Edge)(r:List Oper)(st:St):
  jew G ops K Rs d z (⟨dst,.call ⟨.value f,azz,ts⟩,ty,pos,af,none⟩::r) l st=jr5 G (evO st f) (azz.toList.map (evO st)) st.rows (T:=⟨fun av R'=>SubR Rs R'/\jew G ops K Rs d z r l ((⟨st.fr,R',st.toks⟩:St).put dst av)⟩):=
 propext ⟨fun h=>h.2,fun h=>⟨rfl,h⟩⟩
theorem spListYN_build(ops:List Oper)(K:St->Prop)(Rs:Rows)(d:Nat)(z:List IV)(l:List Oper)(dst:Option Tmp)(t:TypeId)(fs:Array (Nat×Operand))(ty:TypeId)(pos:String)(af:Array Edge)(r:List Oper)(st:St):
  jew G ops K Rs d z (⟨dst,.build t fs,ty,pos,af,none⟩::r) l st=aq G st ⟨dst,.build t fs,ty,pos,af,none⟩ (fun av=>SubR Rs st.rows/\jew G ops K Rs d z r l ((⟨st.fr,st.rows,st.toks⟩:St).put dst av)):=
 propext ⟨fun h=>h.2,fun h=>⟨rfl,h⟩⟩
end
attribute [go_sem ↓] aheadYN_nil1 aheadYN_nil2 aheadYN_sp aheadYN_var aheadYN_free spListYN_nil spListYN_call spListYN_build
end
end Go.Abs
