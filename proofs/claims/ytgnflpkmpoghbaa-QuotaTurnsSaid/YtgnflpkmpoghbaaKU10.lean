/- A part of the proof. No further condition. -/
import Derived.Test.YtgnflpkmpoghbaaKU9
import Derived.LoopN
set_option linter.all false
set_option maxRecDepth 10000000
set_option maxHeartbeats 16000000
namespace Go.LQ
section
open Go.Abs (mget mput)
theorem gD{α:Type}{l:List α}{i:Nat}(d:α)(h:i<l.length):l.getD i d=l[i]:=by rw[List.getD_eq_getElem?_getD,List.getElem?_eq_getElem h];rfl
def cmpL:List Int->List Int->Int
 | [],[]=>0
 | [],_::_=> -1
 | _::_,[]=>1
 | x::a,y::b=>if x<y then-1 else if y<x then 1 else cmpL a b
theorem cmpL_refl:∀a,cmpL a a=0
 | []=>rfl
 | x::a=>by
  rw[cmpL,if_neg (Int.lt_irrefl x),if_neg (Int.lt_irrefl x)];exact cmpL_refl a
theorem cmpL_flip:∀a b,cmpL b a= -cmpL a b
 | [],[]=>rfl
 | [],_::_=>rfl
 | _::_,[]=>rfl
 | x::a,y::b=>by
  rw[cmpL,cmpL];by_cases h1:x<y
  ·rw[if_pos h1,if_neg (by omega),if_pos h1];rfl
  ·by_cases h2:y<x
   ·rw[if_pos h2,if_neg h1,if_pos h2]
   ·rw[if_neg h2,if_neg h1,if_neg h1,if_neg h2];exact cmpL_flip a b
theorem cmpL_eq:∀{a b},cmpL a b=0->a=b
 | [],[],_=>rfl
 | [],_::_,h=>by simp[cmpL]at h
 | _::_,[],h=>by simp[cmpL]at h
 | x::a,y::b,h=>by
  rw[cmpL]at h;split at h
  ·exact absurd h (by decide)
  ·split at h
   ·exact absurd h (by decide)
   ·rw[cmpL_eq h,show x=y by omega]
theorem cmpL_trans:∀{a b c},cmpL a b<0->cmpL b c<0->cmpL a c<0
 | [],[],_,h,_=>by simp[cmpL]at h
 | [],_::_,[],_,h=>by simp[cmpL]at h
 | [],_::_,_::_,_,_=>by simp[cmpL]
 | _::_,[],_,h,_=>by simp[cmpL]at h
 | _::_,_::_,[],_,h=>by simp[cmpL]at h
 | x::a,y::b,z::c,h1,h2=>by
  rw[cmpL]at h1 h2⊢;by_cases hxy:x<y
  ·by_cases hyz:y<z
   ·rw[if_pos (by omega)];decide
   ·rw[if_neg hyz]at h2;by_cases hzy:z<y
    ·rw[if_pos hzy]at h2;exact absurd h2 (by decide)
    ·rw[if_pos (by omega)];decide
  ·rw[if_neg hxy]at h1;by_cases hyx:y<x
   ·rw[if_pos hyx]at h1;exact absurd h1 (by decide)
   ·rw[if_neg hyx]at h1;have exy:x=y:=by omega
    subst exy;by_cases hyz:x<z
    ·rw[if_pos hyz];decide
    ·rw[if_neg hyz]at h2⊢;by_cases hzy:z<x
     ·rw[if_pos hzy]at h2;exact absurd h2 (by decide)
     ·rw[if_neg hzy]at h2⊢;exact cmpL_trans h1 h2
theorem cmpL_ne{a b:List Int}(h:cmpL a b<0):a≠b:=fun e=>by rw[e,cmpL_refl]at h;exact absurd h (by decide)
theorem cmpL_cases(a b:List Int):cmpL a b= -1\/cmpL a b=0\/cmpL a b=1:=by
 induction a generalizing b with
 | nil=>cases b<;>simp[cmpL]
 | cons x a ih=>
  cases b with
  | nil=>simp[cmpL]
  | cons y b=>
   rw[cmpL];split
   ·exact .inl rfl
   ·split
    ·exact .inr (.inr rfl)
    ·exact ih b
abbrev Tab:=List (List Int×List Int)
def vof(t:Tab)(k:List Int):Int:=match mget t k with
 | some v=>v.headD 0
 | none=>0
def Dist(t:Tab):Prop:=(t.map (·.1)).Nodup
def Shape(n:Nat)(t:Tab):Prop:=∀p∈t,p.1.length=n/\p.2.length=1
theorem mget_none:∀{t:Tab} {k:List Int},mget t k=none↔k∉t.map (·.1)
 | [],k=>by simp[mget]
 | (u,v)::t,k=>by
  rw[mget,List.map_cons,List.mem_cons];by_cases h:k=u
  ·rw[if_pos h];simp[h]
  ·rw[if_neg h,mget_none];simp[h]
theorem jj4:∀{t:Tab} {k v:List Int},mget t k=some v->(k,v)∈t
 | [],k,v,h=>by cases h
 | (u,w)::t,k,v,h=>by
  rw[mget]at h;split at h
  ·rename_i e;cases h;rw[e];exact List.mem_cons_self
  ·exact List.mem_cons_of_mem _ (jj4 h)
theorem jcn:∀{t:Tab} {k v:List Int},Dist t->(k,v)∈t->mget t k=some v
 | [],k,v,_,h=>by cases h
 | (u,w)::t,k,v,hd,h=>by
  rw[Dist,List.map_cons,List.nodup_cons]at hd;rw[mget];rcases List.mem_cons.1 h with e | h
  ·cases e;rw[if_pos rfl]
  ·rw[if_neg (fun e=>hd.1 (by rw[<-e];exact List.mem_map.2 ⟨_,h,rfl⟩))];exact jcn hd.2 h
theorem jf1:∀(t:Tab) (k v:List Int),(mput t k v).map (·.1)=if k∈t.map (·.1)then t.map (·.1)else t.map (·.1)++[k]
 | [],k,v=>by simp[mput]
 | (u,w)::t,k,v=>by
  rw[mput];by_cases h:k=u
  ·subst h;simp
  ·rw[if_neg h];have ih:=jf1 t k v;rw[List.map_cons,ih];by_cases h2:k∈t.map (·.1)
   ·rw[if_pos h2,if_pos (by rw[List.map_cons];exact List.mem_cons_of_mem _ h2)];rfl
   ·rw[if_neg h2,if_neg (by rw[List.map_cons,List.mem_cons];rintro(e | e);exact h e;exact h2 e)];rfl
theorem jgp{t:Tab}(h:Dist t)(k v:List Int):Dist (mput t k v):=by
 unfold Dist at*;rw[jf1];split
 ·exact h
 ·rename_i h2;exact List.nodup_append.2 ⟨h,by simp,fun x hx y hy=>by simp at hy;subst hy;exact fun e=>h2 (e▸hx)⟩
theorem jkd:∀{t:Tab} {k v:List Int} {p:List Int×List Int},p∈mput t k v->p=(k,v)\/p∈t
 | [],k,v,p,h=>by simpa [mput]using h
 | (u,w)::t,k,v,p,h=>by
  rw[mput]at h;split at h
  ·rcases List.mem_cons.1 h with e | h
   ·exact .inl e
   ·exact .inr (List.mem_cons_of_mem _ h)
  ·rcases List.mem_cons.1 h with e | h
   ·exact .inr (by rw[e];exact List.mem_cons_self)
   ·exact(jkd h).imp id (List.mem_cons_of_mem _)
theorem jde{n:Nat}{t:Tab}(h:Shape n t){k v:List Int}(hk:k.length=n)(hv:v.length=1):Shape n (mput t k v):=fun p hp=>by
 rcases jkd hp with rfl | hp
 ·exact⟨hk,hv⟩
 ·exact h p hp
theorem jia(t:Tab)(k v:List Int):(mput t k v).length<=t.length+1:=by
 have:=congrArg List.length (jf1 t k v);rw[List.length_map]at this;rw[this];split<;>simp
theorem mput_new{t:Tab}{k v:List Int}(h:k∉t.map (·.1)):mput t k v=t++[(k,v)]:=by
 induction t with
 | nil=>rfl
 | cons p t ih=>
  obtain⟨u,w⟩:=p;rw[List.map_cons,List.mem_cons]at h;rw[mput,if_neg (fun e=>h (.inl e)),ih (fun e=>h (.inr e))];rfl
theorem jib:∀(l:Tab) (x v y:List Int),mget (mput l x v) y=if y=x then some v else mget l y
 | [],x,v,y=>by
  rw[mput,mget];rfl
 | (k,u)::l,x,v,y=>by
  rw[mput];by_cases h:x=k
  ·subst h;rw[if_pos rfl,mget,mget];split<;>rfl
  ·rw[if_neg h,mget,mget,jib];by_cases h2:y=k
   ·subst h2;rw[if_pos rfl,if_neg (fun e=>h e.symm),if_pos rfl]
   ·rw[if_neg h2,if_neg h2]
theorem jfi(t:Tab)(k k':List Int)(v:Int):vof (mput t k [v]) k'=if k'=k then v else vof t k':=by
 unfold vof;rw[jib];by_cases h:k'=k
 ·rw[if_pos h,if_pos h];rfl
 ·rw[if_neg h,if_neg h]
theorem jcc{t:Tab}{k:List Int}(h:k∉t.map (·.1)):vof t k=0:=by unfold vof;rw[mget_none.2 h]
theorem vof_mem{t:Tab}(hd:Dist t){k:List Int}{v:Int}(h:(k,[v])∈t):vof t k=v:=by unfold vof;rw[jcn hd h];rfl
def nz(t:Tab):Tab:=t.filter fun p=> !decide (p.2.headD 0=0)
theorem ji8{t:Tab}(h:Dist t):Dist (nz t):=List.Nodup.sublist (List.Sublist.map _ List.filter_sublist) h
theorem jf0{n:Nat}{t:Tab}(h:Shape n t):Shape n (nz t):=fun p hp=>h p (List.mem_filter.1 hp).1
theorem nz_vof{t:Tab}(hd:Dist t)(k:List Int):vof (nz t) k=vof t k:=by
 by_cases h:k∈t.map (·.1)
 ·obtain⟨⟨k',v⟩,hp,rfl⟩:=List.mem_map.1 h;have h1:vof t k'=v.headD 0:=by unfold vof;rw[jcn hd hp]
  by_cases h0:v.headD 0=0
  ·have h2:vof t k'=0:=by rw[h1];exact h0
   show vof (nz t) k'=vof t k';rw[h2];refine jcc fun hm=> ?_;obtain⟨⟨k2,v2⟩,hp2,e⟩:=List.mem_map.1 hm;have e:k2=k':=e;subst e;rw[nz,List.mem_filter]at hp2;have:=jcn hd hp2.1;rw[jcn hd hp]at this;cases this;have h3:=hp2.2;dsimp only at h3;rw[h0]at h3;exact absurd h3 (by decide)
  ·have h2:(k',v)∈nz t:=List.mem_filter.2 ⟨hp,by dsimp only;rw[decide_eq_false h0];rfl⟩;show vof (nz t) k'=vof t k';unfold vof;rw[jcn hd hp,jcn (ji8 hd) h2]
 ·have hn:k∉(nz t).map (·.1):=fun hm=>h (List.Sublist.subset (List.Sublist.map _ List.filter_sublist) hm);rw[jcc h,jcc hn]
structure Quo where
 com:Int
 dep:Int
 day:Int
 kg:Int
 deriving DecidableEq
def Quo.k(q:Quo):List Int:=[q.dep,q.day,q.com]
def Quo.kv(q:Quo):List Int×List Int:=(q.k,[q.kg])
theorem Quo.ext_k{p q:Quo}(h:p.k=q.k)(h':p.kg=q.kg):p=q:=by
 obtain⟨a,b,c,d⟩:=p;obtain⟨a',b',c',d'⟩:=q;simp only[Quo.k,List.cons.injEq,and_true]at h;obtain⟨rfl,rfl,rfl⟩:=h;cases h';rfl
def Asc(l:List Quo):Prop:=l.Pairwise fun a b=>cmpL a.k b.k<0
def tabL(l:List Quo):Tab:=l.map Quo.kv
theorem jbx(l:List Quo):(tabL l).map (·.1)=l.map Quo.k:=by unfold tabL;rw[List.map_map];rfl
theorem Asc.nodup{l:List Quo}(h:Asc l):(l.map Quo.k).Nodup:=by
 refine List.pairwise_map.2 (h.imp fun h=>cmpL_ne h)
theorem Asc.dist{l:List Quo}(h:Asc l):Dist (tabL l):=by unfold Dist;rw[jbx];exact h.nodup
theorem jaq(l:List Quo):Shape 3 (tabL l):=fun p hp=>by
 obtain⟨q,_,rfl⟩:=List.mem_map.1 hp;exact⟨rfl,rfl⟩
theorem jdi{l:List Quo}(h:Asc l){q:Quo}(hq:q∈l):vof (tabL l) q.k=q.kg:=vof_mem h.dist (List.mem_map.2 ⟨q,hq,rfl⟩)
theorem jk2{l:List Quo}(h:Asc l):∀i,i<=l.length->(l.take i).foldl (fun t q=>mput t q.k [q.kg]) []=tabL (l.take i)
 | 0,_=>by simp[tabL]
 | i+1,hi=>by
  have hx:l[i]? =some l[i]:=List.getElem?_eq_getElem (by omega);have ht:l.take (i+1)=l.take i++[l[i]]:=by rw[List.take_add_one,hx];rfl
  rw[ht,List.foldl_append,jk2 h i (by omega)];show mput (tabL (l.take i)) (l[i]).k [(l[i]).kg]=_;rw[mput_new]
  ·unfold tabL;rw[List.map_append];rfl
  ·rw[jbx];have hn:=h.nodup;have h2:((l.take (i+1)).map Quo.k).Nodup:=List.Nodup.sublist (List.Sublist.map _ (List.take_sublist _ _)) hn;rw[ht,List.map_append]at h2;intro hm;exact(List.nodup_append.1 h2).2.2 _ hm _ List.mem_cons_self rfl
def insQ(a:Quo):List Quo->List Quo
 | []=>[a]
 | b::l=>if cmpL a.k b.k<0 then a::b::l else b::insQ a l
def sortQ:List Quo->List Quo
 | []=>[]
 | a::l=>insQ a (sortQ l)
theorem jgv(a:Quo):∀l,(insQ a l).Perm (a::l)
 | []=>List.Perm.refl _
 | b::l=>by
  rw[insQ];split
  ·exact List.Perm.refl _
  ·exact((jgv a l).cons b).trans (List.Perm.swap _ _ _)
theorem jfk:∀l,(sortQ l).Perm l
 | []=>List.Perm.refl _
 | a::l=>(jgv a _).trans ((jfk l).cons a)
theorem jkl{a:Quo}:∀{l:List Quo},Asc l->a.k∉l.map Quo.k->Asc (insQ a l)
 | [],_,_=>by simp[insQ,Asc]
 | b::l,h,hn=>by
  rw[insQ];rw[List.map_cons,List.mem_cons]at hn;have h':=List.pairwise_cons.1 h;split
  ·rename_i hl;exact List.pairwise_cons.2 ⟨fun x hx=>by
    rcases List.mem_cons.1 hx with rfl | hx
    ·exact hl
    ·exact cmpL_trans hl (h'.1 x hx),h⟩
  ·rename_i hl;have hba:cmpL b.k a.k<0:=by
    have h1:=cmpL_flip a.k b.k;rcases cmpL_cases a.k b.k with e | e | e
    ·omega
    ·exact absurd (cmpL_eq e) fun e=>hn (.inl e)
    ·omega
   refine List.pairwise_cons.2 ⟨fun x hx=> ?_,jkl h'.2 fun h=>hn (.inr h)⟩;rcases List.mem_cons.1 ((jgv a l).mem_iff.1 hx)with rfl | hx
   ·exact hba
   ·exact h'.1 x hx
theorem jir:∀{l:List Quo},(l.map Quo.k).Nodup->Asc (sortQ l)
 | [],_=>List.Pairwise.nil
 | a::l,h=>by
  rw[List.map_cons,List.nodup_cons]at h;refine jkl (jir h.2) fun hm=>h.1 ?_;exact((jfk l).map Quo.k).mem_iff.1 hm
theorem jik:∀{l m:List Quo},l.Perm m->Asc l->Asc m->l=m
 | [],m,h,_,_=>h.nil_eq
 | a::l,[],h,_,_=>absurd h.length_eq (by simp)
 | a::l,b::m,h,h1,h2=>by
  have h1':=List.pairwise_cons.1 h1;have h2':=List.pairwise_cons.1 h2;have ha:a∈b::m:=h.mem_iff.1 List.mem_cons_self;have hb:b∈a::l:=h.mem_iff.2 List.mem_cons_self;have e:a=b:=by
   rcases List.mem_cons.1 ha with e | ha
   ·exact e
   ·rcases List.mem_cons.1 hb with e | hb
    ·exact e.symm
    ·have:=cmpL_trans (h1'.1 b hb) (h2'.1 a ha);rw[cmpL_refl]at this;exact absurd this (by decide)
  subst e;rw[jik ((List.perm_cons a).1 h) h1'.2 h2'.2]
theorem jju{l m:List Quo}(hl:Asc l)(hm:Asc m)(zl:∀q∈l,q.kg≠0)(zm:∀q∈m,q.kg≠0)(h:∀q∈l++m,vof (tabL l) q.k=vof (tabL m) q.k):l=m:=by
 have key:∀{l m:List Quo},Asc l->Asc m->(∀q∈l,q.kg≠0)->(∀q∈l,vof (tabL l) q.k=vof (tabL m) q.k)->∀q∈l,q∈m:=fun{l m} hl hm zl h q hq=>by
  have h1:=h q hq;rw[jdi hl hq]at h1;by_cases hk:q.k∈(tabL m).map (·.1)
  ·rw[jbx]at hk;obtain⟨p,hp,e⟩:=List.mem_map.1 hk;rw[<-e,jdi hm hp]at h1;rw[show q=p from Quo.ext_k e.symm h1];exact hp
  ·rw[jcc hk]at h1;exact absurd h1 (zl q hq)
 have nd:∀{l:List Quo},Asc l->l.Nodup:=fun h=>List.Pairwise.imp (fun{a b} h=>show a≠b from fun e=>cmpL_ne h (by rw[e])) h;have nl:=nd hl;have nm:=nd hm;refine jik ((List.perm_ext_iff_of_nodup nl nm).2 fun q=>⟨fun hq=> ?_,fun hq=> ?_⟩) hl hm
 ·exact key hl hm zl (fun q hq=>h q (List.mem_append_left _ hq)) q hq
 ·exact key hm hl zm (fun q hq=>(h q (List.mem_append_right _ hq)).symm) q hq
def toQ(p:List Int×List Int):Quo:=⟨p.1.getD 2 0,p.1.getD 0 0,p.1.getD 1 0,p.2.headD 0⟩
def quoL(t:Tab):List Quo:=sortQ (t.map toQ)
theorem toQ_k{p:List Int×List Int}(h:p.1.length=3):(toQ p).k=p.1:=by
 obtain⟨k,v⟩:=p
 match k,h with
 | [a,b,c],_=>rfl
theorem toQ_kv{p:List Int×List Int}(h:p.1.length=3)(hv:p.2.length=1):(toQ p).kv=p:=by
 obtain⟨k,v⟩:=p
 match k,v,h,hv with
 | [a,b,c],[d],_,_=>rfl
theorem jiv{t:Tab}(h:Shape 3 t):(t.map toQ).map Quo.k=t.map (·.1):=by
 rw[List.map_map];exact List.map_congr_left fun p hp=>toQ_k (h p hp).1
theorem ji3{t:Tab}(h:Shape 3 t)(hd:Dist t):Asc (quoL t):=jir (by rw[jiv h];exact hd)
theorem jdp(t:Tab):(quoL t).Perm (t.map toQ):=jfk _
theorem ji2(t:Tab):(quoL t).length=t.length:=by rw[(jdp t).length_eq,List.length_map]
theorem ji1{t:Tab}(h:Shape 3 t){q:Quo}:q∈quoL t↔(q.k,[q.kg])∈t:=by
 rw[(jdp t).mem_iff,List.mem_map];constructor
 ·rintro⟨p,hp,rfl⟩;have:=toQ_kv (h p hp).1 (h p hp).2;rw[Quo.kv]at this;rw[this];exact hp
 ·intro hm;exact⟨_,hm,rfl⟩
theorem quoL_vof{t:Tab}(h:Shape 3 t)(hd:Dist t)(k:List Int):vof (tabL (quoL t)) k=vof t k:=by
 have ha:=ji3 h hd;by_cases hk:k∈t.map (·.1)
 ·obtain⟨p,hp,rfl⟩:=List.mem_map.1 hk;have hq:toQ p∈quoL t:=(jdp t).mem_iff.2 (List.mem_map.2 ⟨p,hp,rfl⟩);have h1:=jdi ha hq;rw[toQ_k (h p hp).1]at h1;rw[h1];unfold vof;rw[jcn hd (show(p.1,p.2)∈t from hp)];rfl
 ·rw[jcc hk,jcc];rw[jbx,((jdp t).map Quo.k).mem_iff,jiv h];exact hk
end
end Go.LQ
namespace Go.Proofs.Ytgnflpkmpoghbaa
section
open Go.Shelf Go.RowKit Go.Lib Go.Sort
structure KeyV where
 a:Int
 b:Int
 c:Int
 deriving Inhabited
def KeyV.l(x:KeyV):List Int:=[x.a,x.b,x.c]
def KeyV.enc(x:KeyV):List Value:=[.int .i64 x.a,.int .i64 x.b,.int .i64 x.c]
def KeyV.cmp(x y:KeyV):Int:=LQ.cmpL x.l y.l
theorem ci_eq{x:Int}:compareInt x x=0:=by unfold compareInt;rw[if_neg (by omega),if_neg (by omega)]
theorem ci_ne{x y:Int}(h:x≠y):compareInt x y≠0:=by
 unfold compareInt;split
 ·decide
 ·split
  ·decide
  ·omega
theorem cl_ne{x y:Int}{a b:List Int}(h:x≠y):LQ.cmpL (x::a) (y::b)=compareInt x y:=by
 rw[LQ.cmpL];unfold compareInt;by_cases h1:x<y
 ·rw[if_pos h1,if_pos h1]
 ·rw[if_neg h1,if_neg h1,if_pos (by omega),if_pos (by omega)]
theorem cl_eq{x:Int}{a b:List Int}:LQ.cmpL (x::a) (x::b)=LQ.cmpL a b:=by rw[LQ.cmpL,if_neg (by omega),if_neg (by omega)]
theorem cmp3_1(B1 B2:Nat)(x y:KeyV)(W:World)(hc:compareInt x.a y.a≠0)(h0:W.cell? ⟨B1,0,none⟩=some (.int .i64 x.a))(h1:W.cell? ⟨B1,1,none⟩=some (.int .i64 x.b))(h2:W.cell? ⟨B1,2,none⟩=some (.int .i64 x.c))
  (g0:W.cell? ⟨B2,0,none⟩=some (.int .i64 y.a)) (g1:W.cell? ⟨B2,1,none⟩=some (.int .i64 y.b)) (g2:W.cell? ⟨B2,2,none⟩=some (.int .i64 y.c)):
  Calls Try.prog 23 #[.slice (some ⟨B1,0,none⟩) 3 3,.slice (some ⟨B2,0,none⟩) 3 3] W fun e w'=>e= .returned (.int .i64 (compareInt x.a y.a))/\w'=W:=by
 have hcon:=fun p q W'=>AnyG.cmp_Compare_int jgc p q W';change ∀p q W',Calls Try.prog 29 _ _ _ at hcon;obtain⟨a,b,c⟩:=x;obtain⟨a',b',c'⟩:=y;dsimp only at*
 go_enter Try.func23,Try.ntmps23
 go_wp2
 refine wp_loop_rounds 4 ?_;rw[rounds_succ]
 go_wp2_with (go_at_call 29;refine(hcon _ _ _).mono ?_;rintro e w' ⟨rfl,rfl⟩)
 go_ret
 exact⟨rfl,rfl⟩
theorem cmp3_2(B1 B2:Nat)(x y:KeyV)(W:World)(ha:compareInt x.a y.a=0)(hc:compareInt x.b y.b≠0)(h0:W.cell? ⟨B1,0,none⟩=some (.int .i64 x.a))(h1:W.cell? ⟨B1,1,none⟩=some (.int .i64 x.b))(h2:W.cell? ⟨B1,2,none⟩=some (.int .i64 x.c))
  (g0:W.cell? ⟨B2,0,none⟩=some (.int .i64 y.a)) (g1:W.cell? ⟨B2,1,none⟩=some (.int .i64 y.b)) (g2:W.cell? ⟨B2,2,none⟩=some (.int .i64 y.c)):
  Calls Try.prog 23 #[.slice (some ⟨B1,0,none⟩) 3 3,.slice (some ⟨B2,0,none⟩) 3 3] W fun e w'=>e= .returned (.int .i64 (compareInt x.b y.b))/\w'=W:=by
 have hcon:=fun p q W'=>AnyG.cmp_Compare_int jgc p q W';change ∀p q W',Calls Try.prog 29 _ _ _ at hcon;obtain⟨a,b,c⟩:=x;obtain⟨a',b',c'⟩:=y;dsimp only at*
 go_enter Try.func23,Try.ntmps23
 go_wp2
 refine wp_loop_rounds 4 ?_;rw[rounds_succ]
 go_wp2_with (go_at_call 29;refine(hcon _ _ _).mono ?_;rintro e w' ⟨rfl,rfl⟩)
 rw[rounds_succ]
 go_wp2_with (go_at_call 29;refine(hcon _ _ _).mono ?_;rintro e w' ⟨rfl,rfl⟩)
 go_ret
 exact⟨rfl,rfl⟩
theorem cmp3_3(B1 B2:Nat)(x y:KeyV)(W:World)(ha:compareInt x.a y.a=0)(hb:compareInt x.b y.b=0)(hc:compareInt x.c y.c≠0)(h0:W.cell? ⟨B1,0,none⟩=some (.int .i64 x.a))(h1:W.cell? ⟨B1,1,none⟩=some (.int .i64 x.b))(h2:W.cell? ⟨B1,2,none⟩=some (.int .i64 x.c))
  (g0:W.cell? ⟨B2,0,none⟩=some (.int .i64 y.a)) (g1:W.cell? ⟨B2,1,none⟩=some (.int .i64 y.b)) (g2:W.cell? ⟨B2,2,none⟩=some (.int .i64 y.c)):
  Calls Try.prog 23 #[.slice (some ⟨B1,0,none⟩) 3 3,.slice (some ⟨B2,0,none⟩) 3 3] W fun e w'=>e= .returned (.int .i64 (compareInt x.c y.c))/\w'=W:=by
 have hcon:=fun p q W'=>AnyG.cmp_Compare_int jgc p q W';change ∀p q W',Calls Try.prog 29 _ _ _ at hcon;obtain⟨a,b,c⟩:=x;obtain⟨a',b',c'⟩:=y;dsimp only at*
 go_enter Try.func23,Try.ntmps23
 go_wp2
 refine wp_loop_rounds 4 ?_;rw[rounds_succ]
 go_wp2_with (go_at_call 29;refine(hcon _ _ _).mono ?_;rintro e w' ⟨rfl,rfl⟩)
 rw[rounds_succ]
 go_wp2_with (go_at_call 29;refine(hcon _ _ _).mono ?_;rintro e w' ⟨rfl,rfl⟩)
 rw[rounds_succ]
 go_wp2_with (go_at_call 29;refine(hcon _ _ _).mono ?_;rintro e w' ⟨rfl,rfl⟩)
 go_ret
 exact⟨rfl,rfl⟩
theorem cmp3_4(B1 B2:Nat)(x y:KeyV)(W:World)(ha:compareInt x.a y.a=0)(hb:compareInt x.b y.b=0)(hc:compareInt x.c y.c=0)(h0:W.cell? ⟨B1,0,none⟩=some (.int .i64 x.a))(h1:W.cell? ⟨B1,1,none⟩=some (.int .i64 x.b))(h2:W.cell? ⟨B1,2,none⟩=some (.int .i64 x.c))
  (g0:W.cell? ⟨B2,0,none⟩=some (.int .i64 y.a)) (g1:W.cell? ⟨B2,1,none⟩=some (.int .i64 y.b)) (g2:W.cell? ⟨B2,2,none⟩=some (.int .i64 y.c)):
  Calls Try.prog 23 #[.slice (some ⟨B1,0,none⟩) 3 3,.slice (some ⟨B2,0,none⟩) 3 3] W fun e w'=>e= .returned (.int .i64 (0))/\w'=W:=by
 have hcon:=fun p q W'=>AnyG.cmp_Compare_int jgc p q W';change ∀p q W',Calls Try.prog 29 _ _ _ at hcon;obtain⟨a,b,c⟩:=x;obtain⟨a',b',c'⟩:=y;dsimp only at*
 go_enter Try.func23,Try.ntmps23
 go_wp2
 refine wp_loop_rounds 4 ?_;rw[rounds_succ]
 go_wp2_with (go_at_call 29;refine(hcon _ _ _).mono ?_;rintro e w' ⟨rfl,rfl⟩)
 rw[rounds_succ]
 go_wp2_with (go_at_call 29;refine(hcon _ _ _).mono ?_;rintro e w' ⟨rfl,rfl⟩)
 rw[rounds_succ]
 go_wp2_with (go_at_call 29;refine(hcon _ _ _).mono ?_;rintro e w' ⟨rfl,rfl⟩)
 rw[rounds_succ]
 go_wp2_with (go_at_call 29;refine(hcon _ _ _).mono ?_;rintro e w' ⟨rfl,rfl⟩)
 go_ret
 exact⟨rfl,rfl⟩
theorem cmp3(B1 B2:Nat)(x y:KeyV)(W:World)(h0:W.cell? ⟨B1,0,none⟩=some (.int .i64 x.a))(h1:W.cell? ⟨B1,1,none⟩=some (.int .i64 x.b))(h2:W.cell? ⟨B1,2,none⟩=some (.int .i64 x.c))
  (g0:W.cell? ⟨B2,0,none⟩=some (.int .i64 y.a)) (g1:W.cell? ⟨B2,1,none⟩=some (.int .i64 y.b)) (g2:W.cell? ⟨B2,2,none⟩=some (.int .i64 y.c)):
  Calls Try.prog 23 #[.slice (some ⟨B1,0,none⟩) 3 3,.slice (some ⟨B2,0,none⟩) 3 3] W fun e w'=>e= .returned (.int .i64 (KeyV.cmp x y))/\w'=W:=by
 unfold KeyV.cmp KeyV.l;by_cases e1:x.a=y.a
 ·rw[e1,cl_eq];have c1:compareInt x.a y.a=0:=by rw[e1];exact ci_eq
  by_cases e2:x.b=y.b
  ·rw[e2,cl_eq];have c2:compareInt x.b y.b=0:=by rw[e2];exact ci_eq
   by_cases e3:x.c=y.c
   ·rw[e3,cl_eq];exact cmp3_4 B1 B2 x y W c1 c2 (by rw[e3];exact ci_eq) h0 h1 h2 g0 g1 g2
   ·rw[cl_ne e3];exact cmp3_3 B1 B2 x y W c1 c2 (ci_ne e3) h0 h1 h2 g0 g1 g2
  ·rw[cl_ne e2];exact cmp3_2 B1 B2 x y W c1 (ci_ne e2) h0 h1 h2 g0 g1 g2
 ·rw[cl_ne e1];exact cmp3_1 B1 B2 x y W (ci_ne e1) h0 h1 h2 g0 g1 g2
theorem KeyV.lt(x y:KeyV):ltOf KeyV.cmp x y=decide (LQ.cmpL x.l y.l<0):=rfl
theorem KeyV.swo:SWO (ltOf KeyV.cmp) where
 irrefl x:=by rw[KeyV.lt,LQ.cmpL_refl];rfl
 trans x y z h1 h2:=by rw[KeyV.lt]at*;exact decide_eq_true (LQ.cmpL_trans (of_decide_eq_true h1) (of_decide_eq_true h2))
 ntrans x y z h1 h2:=by
  rw[KeyV.lt]at*;have h1:=of_decide_eq_false h1;have h2:=of_decide_eq_false h2;refine decide_eq_false fun h=> ?_;have hf:=LQ.cmpL_flip x.l y.l;rcases LQ.cmpL_cases x.l y.l with e | e | e
  ·omega
  ·rw[LQ.cmpL_eq e]at h;exact h2 h
  ·exact h2 (LQ.cmpL_trans (by omega) h)
theorem two_cells(W:World)(a b c a' b' c':Value)(T:TypeId)(n:Nat):
  (((W.alloc (Obj.cells #[a,b,c] T)).alloc (Obj.cells #[a',b',c'] T)).drewN n).cell? ⟨W.heap.size,0,none⟩=some a/\(((W.alloc (Obj.cells #[a,b,c] T)).alloc (Obj.cells #[a',b',c'] T)).drewN n).cell? ⟨W.heap.size,1,none⟩=some b/\(((W.alloc (Obj.cells #[a,b,c] T)).alloc (Obj.cells #[a',b',c'] T)).drewN n).cell? ⟨W.heap.size,2,none⟩=some c/\
  (((W.alloc (Obj.cells #[a,b,c] T)).alloc (Obj.cells #[a',b',c'] T)).drewN n).cell? ⟨W.heap.size+1,0,none⟩=some a'/\(((W.alloc (Obj.cells #[a,b,c] T)).alloc (Obj.cells #[a',b',c'] T)).drewN n).cell? ⟨W.heap.size+1,1,none⟩=some b'/\(((W.alloc (Obj.cells #[a,b,c] T)).alloc (Obj.cells #[a',b',c'] T)).drewN n).cell? ⟨W.heap.size+1,2,none⟩=some c':=by
 have h1:((W.alloc (Obj.cells #[a,b,c] T)).alloc (Obj.cells #[a',b',c'] T)).heap[W.heap.size]? =some (Obj.cells #[a,b,c] T):=by
  rw[heap_alloc_old _ _ (by rw[World.size_alloc];omega),heap_alloc_new]
 have h2:((W.alloc (Obj.cells #[a,b,c] T)).alloc (Obj.cells #[a',b',c'] T)).heap[W.heap.size+1]? =some (Obj.cells #[a',b',c'] T):=by
  have:=heap_alloc_new (W.alloc (Obj.cells #[a,b,c] T)) (Obj.cells #[a',b',c'] T);rw[World.size_alloc]at this;exact this
 simp only[World.cell?_drewN];unfold World.cell?;simp only[h1,h2];refine⟨rfl,rfl,rfl,rfl,rfl,rfl⟩
theorem sort_closureQ(x y:KeyV)(W:World):Calls Try.prog 28 #[.agg x.enc.toArray,.agg y.enc.toArray] W fun e w'=>e= .returned (.int .i64 (KeyV.cmp x y))/\∃q os',w'=grow (W.drewN q) os':=by
 have hcon:=cmp3;unfold KeyV.enc
 go_enter Try.func28,Try.ntmps28
 go_wp2
 have hcells:=two_cells W (.int .i64 x.a) (.int .i64 x.b) (.int .i64 x.c) (.int .i64 y.a) (.int .i64 y.b) (.int .i64 y.c) 49
 go_region_with (go_at_call 23;refine(hcon _ _ x y _ (by first | exact(hcells _).1 | exact(hcells 0).1) (hcells _).2.1 (hcells _).2.2.1 (hcells _).2.2.2.1 (hcells _).2.2.2.2.1 (hcells _).2.2.2.2.2).mono ?_;rintro e w' ⟨rfl,rfl⟩)
 all_goals
  go_wp2
  go_ret
  exact⟨rfl,_,_,by rw[alloc_eq_grow,alloc_eq_grow,grow_grow];rfl⟩
theorem sort_callsQ(blk off cap:Nat)(d:Array KeyV)(w:World)(hH:HoldsK KeyV.enc 3 w blk off d)(hblk:blk<w.heap.size)(hsz:d.size<4611686018427387904):
  Calls Try.prog 31 #[.slice (some ⟨blk,off,none⟩) d.size cap,.func (.func 28) #[] #[]] w fun e w'=>e= .returned (.tuple #[])/\∃d' n os,PermIn 0 d.size d d'/\SortedIn (ltOf KeyV.cmp) 0 d.size d'/\w'=sortWorldK KeyV.enc 3 w blk off n d' os:=by
 have eg:∀args w,(callFunc 28 args).run Try.prog w= .ok (.enter 28 args) w:=enters_of Try.func28 (by kernel_rfl) rfl;exact AnyQ.slices_SortFunc jk3 3 Try.isAgg49 Try.sizeOf49 KeyV.enc (fun x=>rfl) (fun x v hv=>by
  unfold KeyV.enc at hv;simp at hv;rcases hv with rfl | rfl | rfl<;>rfl) KeyV.cmp KeyV.swo 28 #[] blk off cap d w eg (fun _ _ _ _ x y=>sort_closureQ x y _) hH hblk hsz
end
end Go.Proofs.Ytgnflpkmpoghbaa
namespace Go.Abs
section
open Go.RowKit (Below)
def aRetO(rs:List ResultVar)(sc:Nat×Bool)(kvs:List (List Int×List Int))(st:St):Prop:=
 match rs with
 | [.tmp t]=>match st.get t with
  | .mpo d sc' kvs'=>sc'=sc/\kvs'=kvs/\look st.toks d=some (0,0)
  | _=>False
 | _=>False
theorem ctro_go{G:Ctx}(hG:G.Good){f:FuncId}{args:List IV}{sc:Nat×Bool}{kvs:List (List Int×List Int)}(fn:Func)(c:Code)(rs:List ResultVar)(hf:G.P.funcs[f]? =some fn)(hb:fn.body=some c)(hrs:fn.results.toList=rs)(hd:dstC fn.ntmps c=true)
  (hn:Nat.ble args.length fn.ntmps=true) (h:awp G c (fun x st=>match x with | .normal=>aRetO rs sc kvs st | .ret=>aRetO rs sc kvs st | _=>False) (jb9 args)):CtrO G.P f args sc kvs:=by
 subst hrs;intro w M vs hM hr;refine calls_of_wp hf hb ?_;obtain⟨hN,hd⟩:=jjr hd;refine wp_mono (jfe hG c _ _ _ _ _ hd h (Sim.init hN hM hr (Nat.le_of_ble_eq_true hn))) fun x a' w' hq=> ?_;obtain⟨β,st,hq,hs⟩:=hq;have fin:aRetO fn.results.toList sc kvs st->a'.defers=[]/\∃v,(results fn a'.tmps).run G.P w'= .ok v w'/\∃b es c,Ending.returned v= .returned (.map (some b))/\Below w.heap.size w w'/\w.heap.size<=b/\w'.heap[b]? =some (.map es c)/\Ents sc kvs es/\Born es c:=by
  intro hq;unfold aRetO at hq;split at hq
  ·rename_i t hrs;have hres:(results fn a'.tmps).run G.P w'= .ok (a'.tmps.getD t undef) w':=by
    rw[je5,Sem.run_bind,Array.mapM_eq_mapM_toList,Sem.run_map,hrs];rfl
   have hv:=hs.fr t;refine⟨hs.defers,_,hres,?_⟩;split at hq
   ·rename_i d sc' kvs' hg;obtain⟨rfl,rfl,htok⟩:=hq;rw[hg]at hv;obtain⟨b,h1,h2,h3⟩:=hv;obtain⟨es,cl,h4,h5,h6⟩:=h3 htok;obtain⟨h7,h8⟩:=hs.toks d _ _ htok b h1;exact⟨b,es,cl,by rw[h2],hs.below.below,Nat.le_of_not_lt h7,h4,h5,h6⟩
   ·exact hq.elim
  ·exact hq.elim
 cases x with
 | normal=>obtain⟨h1,v,h2,h3⟩:=fin hq;exact⟨h1,v,h2,h3⟩
 | ret=>obtain⟨h1,v,h2,h3⟩:=fin hq;exact⟨h1,v,h2,h3⟩
 | _=>exact hq.elim
theorem CtrO.ctr{P:Program}{f:FuncId}{args:List IV}{sc:Nat×Bool}{kvs:List (List Int×List Int)}(h:CtrO P f args sc kvs):Ctr P f args (· = .mp sc kvs):=by
 intro w M vs hM hr;refine(h w M vs hM hr).mono fun en w' ⟨b,es,c,he,hb,hbn,hh,hen,hbo⟩=> ?_;exact⟨_,_,rfl,he,.mp sc kvs b es c hh (fun hm=>absurd (hM b 0 hm) (by omega)) hen hbo,hb⟩
theorem DrawLe_of{G:Ctx}{ops:List Oper}{Q:Exit->St->Prop}{st st':St}(h:St.Le st st')(hA: @DrawP G ⟨ops⟩ ⟨Q⟩ st'): @DrawP G ⟨ops⟩ ⟨Q⟩ st:=fun N w0 M0 β a w id Q' hG hd hK hs=>
 let⟨β',hs'⟩:=h N w0 M0 β a w hs
 hA N w0 M0 β' a w id Q' hG hd hK hs'
theorem jkg(st:St):∀ds:List Nat,St.Le st (ds.foldl St.lend st)
 | []=>St.Le.refl _
 | d::ds=>St.Le.trans (fun _ _ _ β _ _ h=>⟨β,h.lend d⟩) (jkg (st.lend d) ds)
def aqO(G:Ctx)(st:St)(d:Nat)(o:Oper)(K:AV->Prop):Prop:=
 match o.op with
 | .call c=>match c.callee with
  | .value f=>match evO st f,ivsOf (c.args.toList.map (evO st))with
   | .im (.clo g caps),some xs=>(3<=g/\g<G.fns)/\∃sc kvs,CtrO G.P g (xs++caps) sc kvs/\look st.toks d=some (0,0)/\K (.mpo d sc kvs)
   | _,_=>False
  | _=>False
 | _=>False
def jdy(G:Ctx)(ops:List Oper)(K:St->Prop)(d:Nat):Nat->List Oper->St->Prop
 | _,[],_=>False
 | 0,o::r,st=>o.guard=none/\o.dst=some d/\aqO G st d o fun av=>ahead G ops K r (st.put o.dst av)
 | k+1,o::r,st=>match o.guard with
  | none=>aq G st o fun av=>jdy G ops K d k r (st.put o.dst av)
  | some (j,want)=>match jbj st ops j with
   | some (some b)=>(b=want->aq G st o fun av=>jdy G ops K d k r (st.put o.dst av))/\(b≠want->jdy G ops K d k r (st.put o.dst jb6))
   | some none=>jdy G ops K d k r (st.put o.dst jb6)
   | none=>False
section
variable{G:Ctx}{N:Nat}{w0:Base}{w w':World}{M0:Nat->Nat->Prop}{β:Nat->Option Nat}{st st':St}{a:Act}{ops:List Oper}
def qValO(G:Ctx)(st:St)(d:Nat)(o:Oper)(av:AV):Prop:=
 ∃c f g caps xs sc kvs,o.op= .call c/\c.callee= .value f/\evO st f= .im (.clo g caps)/\ivsOf (c.args.toList.map (evO st))=some xs/\(3<=g/\g<G.fns)/\CtrO G.P g (xs++caps) sc kvs/\look st.toks d=some (0,0)/\av= .mpo d sc kvs
def jfy(G:Ctx)(ops:List Oper)(st:St)(d:Nat)(b:Bool)(o:Oper)(av:AV):Prop:=
 if b=true then o.guard=none/\o.dst=some d/\qValO G st d o av else qStep G ops st o av
theorem qStepO_congr{d:Nat}{b:Bool}{o:Oper}{av:AV}(h:∀t∈o.looksAt ops.toArray,st.get t=st'.get t)(hr:st.rows=st'.rows)(ht:st.toks=st'.toks)(hq:jfy G ops st d b o av):jfy G ops st' d b o av:=by
 unfold jfy at hq⊢;split at hq
 ·rename_i hb;rw[if_pos hb];obtain⟨h1,h2,c,f,g,caps,xs,sc,kvs,ho,hc,hf,hxs,hg,hv,htok,rfl⟩:=hq;have hx:∀x∈o.op.operands,evO st x=evO st' x:=fun x hx=>jbr fun t ht=>h t (jaj hx ht);refine⟨h1,h2,c,f,g,caps,xs,sc,kvs,ho,hc,?_,?_,hg,hv,by rw[<-ht];exact htok,rfl⟩
  ·rw[<-hx f (by rw[ho];simp[Op.operands,Call.operands,hc])];exact hf
  ·rw[<-hxs];congr 1;exact(List.map_congr_left fun x hx'=>(hx x (by rw[ho];simp[Op.operands,Call.operands,Array.mem_toList_iff.1 hx'])).symm)
 ·rename_i hb;rw[if_neg hb];exact jcw h hr ht hq
theorem jhv{K:St->Prop}{d:Nat}:∀(l:List Oper) (st:St) (k:Nat),jdy G ops K d k l st->
  ∃res:Nat->AV,(∀i o,l[i]? =some o->jfy G ops (stUp res (fun _=>true) (l.take i) st) d (decide (i=k)) o (res i))/\K (stUp res (fun _=>true) l st)
 | [],st,k,h=>by cases k<;>exact h.elim
 | o::l,st,0,h=>by
  obtain⟨hg,hdst,h⟩:=h;have key:∃av,qValO G st d o av/\ahead G ops K l (st.put o.dst av):=by
   unfold aqO at h;split at h
   ·rename_i c ho;split at h
    ·rename_i f hf;split at h
     ·rename_i g caps xs h1 h2;obtain⟨hg,sc,kvs,hv,htok,hk⟩:=h;exact⟨_,⟨c,f,g,caps,xs,sc,kvs,ho,hf,h1,h2,hg,hv,htok,rfl⟩,hk⟩
     ·exact h.elim
    ·exact h.elim
   ·exact h.elim
  obtain⟨av,h1,h2⟩:=key;obtain⟨res,h3,h4⟩:=jh7 l _ h2;refine⟨fun i=>match i with | 0=>av | i+1=>res i,fun i o' hi=> ?_,?_⟩
  ·cases i with
   | zero=>simp at hi;subst hi;exact⟨hg,hdst,h1⟩
   | succ i=>
    have:=h3 i o' (by simpa using hi);unfold jfy;rw[if_neg (by simp)]
    simpa [stUp]using this
  ·simpa [stUp]using h4
 | o::l,st,k+1,h=>by
  have key:∃av,qStep G ops st o av/\jdy G ops K d k l (st.put o.dst av):=by
   unfold jdy at h;unfold qStep;cases hg:o.guard with
   | none=>
    rw[hg]at h;obtain⟨av,h1,h2⟩:=jda h;exact⟨av,h1,h2⟩
   | some p=>
    obtain⟨j,want⟩:=p;rw[hg]at h;dsimp only at h⊢;cases hy:jbj st ops j with
    | none=>rw[hy]at h;exact h.elim
    | some x=>
     rw[hy]at h;cases x with
     | none=>exact⟨jb6,rfl,h⟩
     | some b=>
      dsimp only at h⊢;by_cases hb:b=want
      ·obtain⟨av,h1,h2⟩:=jda (h.1 hb);exact⟨av,by rw[if_pos hb];exact h1,h2⟩
      ·exact⟨jb6,by rw[if_neg hb],h.2 hb⟩
  obtain⟨av,h1,h2⟩:=key;obtain⟨res,h3,h4⟩:=jhv l _ k h2;refine⟨fun i=>match i with | 0=>av | i+1=>res i,fun i o' hi=> ?_,?_⟩
  ·cases i with
   | zero=>
    simp at hi;subst hi;unfold jfy;rw[if_neg (by simp)];exact h1
   | succ i=>
    have:=h3 i o' (by simpa using hi)
    simpa [stUp]using this
  ·simpa [stUp]using h4
theorem qValO_sound(hG:G.Good)(h:Sim N w0 M0 β st a w){d:Nat}{o:Oper}{av:AV}(hβ:β d=none)(hq:qValO G st d o av){K':Act->World->Prop}{Q':Exit->Act->World->Prop}
  (hK:∀β2 v w',Sim N w0 M0 β2 st a w'->RepA w' (Mo M0 β2 st) β2 st.toks av v->K' (a.put o.dst v) w'):o.wp G.P a w K' Q':=by
 obtain⟨c,f,g,caps,xs,sc,kvs,ho,hc,hf,hxs,hg,hctr,htok,rfl⟩:=hq;have hargs:=jdr h hxs;have hfv:=jab h f;rw[hf]at hfv;obtain⟨vs,hfe,hcaps⟩:=Rep.clo_inv hfv;have hall:RepL w (Mo M0 β st) (xs++caps) ((c.args.map a.eval)++vs).toList:=by
  refine⟨?_,fun k x v hx hv=> ?_⟩
  ·have h1:=hargs.1;have h2:=hcaps.1;simp at h1 h2;simp[h1,h2]
  ·rw[Array.toList_append,Array.toList_map]at hv;have h1:=hargs.1;by_cases hk:k<xs.length
   ·rw[List.getElem?_append_left hk]at hx;rw[List.getElem?_append_left (by omega)]at hv;exact hargs.2 k x v hx hv
   ·rw[List.getElem?_append_right (by omega)]at hx;rw[List.getElem?_append_right (by omega),<-h1]at hv;exact hcaps.2 _ x v hx hv
 have hrow:look st.rows d=none:=by
  cases hr:look st.rows d with
  | none=>rfl
  | some x=>have:=h.excl d (by simp[hr]);rw[htok]at this;cases this
 have hcalls:=hctr w (Mo M0 β st) _ (fun b o hm=>h.mlt hm) hall;have hrun:(execOp a.eval o).run G.P w= .ok (.enter g (c.args.map a.eval++vs)) w:=by
  unfold execOp;rw[ho];simp only[resolve,hc,hfe,Deferred.ofValue,Sem.run_bind,Sem.run_pure,Result.andThen_ok,Array.empty_append,invoke,jd6 (hG.fn g hg)]
 unfold Oper.wp;rw[hrun,Oper.upon_enter];rw[Array.toArray_toList]at hcalls;refine hcalls.mono fun en w' ⟨b,es,cl,he,hb,hbn,hh,hen,hbo⟩=> ?_;subst he;exact hK (upd β d (some b)) _ w' (h.tokAt hb htok hβ hbn (Array.getElem?_eq_some_iff.1 hh).1) ⟨b,jaa _ _ _,rfl,fun _=>⟨es,cl,hh,hen,hbo⟩⟩
theorem draw_soundO(hG:G.Good)(id n i1 d1 s1 n1:Nat)(hB:drawB ops.toArray n=true)(hd1:d1<100000)(hd:∀o∈ops,∀d,o.dst=some d->d<N){K:St->Prop}{Q':Exit->Act->World->Prop}
  (hK:∀st' β' a' w',K st'->Sim N w0 M0 β' st' a' w'->Q' .normal a' w') (h:Sim N w0 M0 β st a w)
  (hA:jdy G ops (fun s=>alist G ops K (ops.drop n) s) d1 i1 (ops.take n) (tokSt st d1 d1 s1 n1)) (hst0:look (tokSt st d1 d1 s1 n1).toks d1=some (s1,n1)):(Code.region id ops.toArray true).wp G.P Q' a w:=by
 simp only[drawB,Bool.and_eq_true,decide_eq_true_eq,Bool.or_eq_true,beq_iff_eq]at hB;obtain⟨⟨⟨⟨hn,hafter⟩,hpair⟩,htail⟩,hseq⟩:=hB;obtain⟨res,hres,hfin⟩:=jhv _ _ _ hA;have h0:Sim N w0 M0 (upd β d1 none) (tokSt st d1 d1 s1 n1) a w:=h.newTok (w':=w) (src:=d1) (dst:=d1) (s:=s1) (n:=n1) (X:=none) (Kept.less w fun b o hm=>Mo_tok0 hm) h.below (Shp.refl _) (Nat.le_refl _) (fun _ _ _ _=>rfl) (by simp) (.inl rfl) hd1;generalize tokSt st d1 d1 s1 n1=st at*;have hsz:ops.toArray.size=ops.length:=by simp
 have htake:∀i,i<n->(ops.take n)[i]? =ops[i]? :=fun i hi=>by rw[List.getElem?_take,if_pos hi]
 have hlt:∀i o,(ops.take n)[i]? =some o->i<n/\ops[i]? =some o:=fun i o hi=>by
  rw[List.getElem?_take]at hi;split at hi
  ·exact⟨‹_›,hi⟩
  ·cases hi
 have arr:∀(i:Nat) (o:Oper),ops[i]? =some o->ops.toArray[i]? =some o:=fun i o h=>by simpa using h
 have hpair':∀i j oi oj,i<j->j<n->ops[i]? =some oi->ops[j]? =some oj->Region.waitsFor .any ops.toArray j i=true\/oi.apart ops.toArray oj=true:=by
  intro i j oi oj hij hj h1 h2;have:=List.all_eq_true.1 (List.all_eq_true.1 hpair j (List.mem_range.2 hj)) i (List.mem_range.2 hij);rw[arr i oi h1,arr j oj h2]at this
  simpa using this
 have hafter':∀(j:Nat) oj,ops[j]? =some oj->∀e∈oj.after,Region.binds .any e=true->e.on<j:=by
  intro j oj hj e he hb;have hjl:j<ops.toArray.size:=by rw[hsz];exact(List.getElem?_eq_some_iff.1 hj).1
  have:=List.all_eq_true.1 hafter j (List.mem_range.2 hjl);rw[arr j oj hj]at this;have:=Array.all_eq_true'.1 this e he
  simpa [hb]using this
 have main:∀c (listed:Array Bool) (a:Act) (w:World),cntB listed n=c->HeadInv .any ops.toArray n listed->
   (∃β,(listed.getD i1 false=false->β d1=none)/\Sim N w0 M0 β (stUp res (fun i=>listed.getD i false) (ops.take n) st) a w)->wpAny G.P .any ops.toArray Q' (c+(ops.toArray.size-n)) listed a w:=by
  intro c
  induction c with
  | zero=>
   rintro listed a w hc inv ⟨β,_,hs⟩;rw[Nat.zero_add];have hall:=jd0 hc;have hcan:listed=jch n ops.toArray.size:=by
    apply Array.ext
    ·rw[inv.size];simp[jch]
    ·intro i h1 h2;have hil:i<ops.length:=by rw[inv.size]at h1;simpa using h1
     by_cases hin:i<n
     ·have:=hall i hin;have e1:listed[i]=true:=by simpa [h1]using this
      rw[e1];simp[jch,hin]
     ·have:=inv.tail i (by omega) (by rw[inv.size]at h1;exact h1);have e1:listed[i]=false:=by simpa [h1]using this
      rw[e1];simp[jch,hin]
   have hs':Sim N w0 M0 β (stUp res (fun _=>true) (ops.take n) st) a w:=by
    refine hs.congr (fun t=>jap _ _ _ _ _ _ rfl fun i o hi _=>hall i (hlt i o hi).1) ?_ ?_
    ·rw[(ja4 _ _ _ _).1,(ja4 _ _ _ _).1]
    ·rw[(ja4 _ _ _ _).2,(ja4 _ _ _ _).2]
   have hlist:=jd1 hG hK (ops.drop n) _ β a w (fun o ho=>hd o (List.mem_of_mem_drop ho)) hfin hs';have hdl:(ops.drop n).length=ops.toArray.size-n:=by simp
   have:=wpAny_of_seq (P:=G.P) (md:= .any) (Q':=Q') (ops.drop n) n listed a w (fun j=>by simp[List.getElem?_drop]) (by rw[hcan,hdl];exact hseq) hlist
   rwa [hdl]at this
  | succ c ih=>
   rintro listed a w hc inv ⟨β,hβ1,hs⟩;obtain⟨i0,hi0,hun0,hmin⟩:=jec (by omega:cntB listed n≠0);have hL:∀i,i<n->(listed.getD i true=false↔listed.getD i false=false):=fun i hi=>by
    have:i<listed.size:=by rw[inv.size];omega
    simp[this]
   have hready0:i0∈Region.ready .any ops.toArray listed:=by
    have hil:i0<ops.length:=by rw[<-hsz];omega
    refine mem_ready.2 ⟨(hL i0 hi0).2 hun0,ops[i0],arr i0 _ (List.getElem?_eq_getElem hil),fun e he hb=>hmin _ (hafter' i0 _ (List.getElem?_eq_getElem hil) e he hb)⟩
   have hgoal:(Region.ready .any ops.toArray listed=[]->Q' .normal a w)/\∀i∈Region.ready .any ops.toArray listed,wpOp G.P ops.toArray Q' i (wpAny G.P .any ops.toArray Q' (c+(ops.toArray.size-n)) (listed.setIfInBounds i true)) a w:=by
    refine⟨fun hr=>(by rw[hr]at hready0;cases hready0),fun i hi=> ?_⟩;obtain⟨hun,oi,hoi,hall⟩:=mem_ready.1 hi;have hoi':ops[i]? =some oi:=by simpa using hoi
    have hisz:i<ops.toArray.size:=(Array.getElem?_eq_some_iff.1 hoi).1;have hin:i<n:=by
     rcases Nat.lt_or_ge i n with h' | h'
     ·exact h'
     ·rcases htail with e | ⟨hsink,hchain⟩
      ·omega
      ·exact absurd hi (tail_waits hsink hchain (by omega) inv _ i0 rfl hi0 ((hL i0 hi0).2 hun0) i h')
    have hunf:listed.getD i false=false:=(hL i hin).1 hun;have hwait:∀k,Region.waitsFor .any ops.toArray i k=true->listed.getD k false=true:=fun k hk=>by
     obtain⟨oj,hoj,e,he,hb,hon⟩:=Region.waitsFor_spec hk;rw[hoi]at hoj;cases hoj;rw[<-hon];exact hall e he hb
    have hlate:∀k,Region.waitsFor .any ops.toArray k i=true->listed.getD k false=false:=fun k hk=>by
     obtain⟨ok,hok,e,he,hb,hon⟩:=Region.waitsFor_spec hk;cases hl:listed.getD k false with
     | false=>rfl
     | true=>
      have:=inv.closed k ok hok hl e he hb;rw[hon,hunf]at this;cases this
    have hagree:∀t∈oi.looksAt ops.toArray,(stUp res (fun _=>true) ((ops.take n).take i) st).get t=(stUp res (fun k=>listed.getD k false) (ops.take n) st).get t:=by
     intro t ht;rw[jev];refine jap _ _ _ _ _ _ rfl fun k ok hk hdk=> ?_;obtain⟨hkn,hok⟩:=hlt k ok hk;rcases Nat.lt_trichotomy k i with hki | hki | hki
     ·rcases hpair' k i ok oi hki hin hok hoi' with hw | hap
      ·rw[hwait k hw];simp[hki]
      ·exact absurd ht ((Oper.apart_spec hap).1 t hdk)
     ·subst hki;rw[hunf];simp
     ·rcases hpair' i k oi ok hki hkn hoi' hok with hw | hap
      ·rw[hlate k hw];simp;omega
      ·exact absurd ht ((Oper.apart_spec hap).2.2 t hdk)
    have hq:jfy G ops (stUp res (fun k=>listed.getD k false) (ops.take n) st) d1 (decide (i=i1)) oi (res i):=
     qStepO_congr hagree (by rw[(ja4 _ _ _ _).1,(ja4 _ _ _ _).1]) (by rw[(ja4 _ _ _ _).2,(ja4 _ _ _ _).2]) (hres i oi (by rw[htake i hin];exact hoi'))
    have hisL:i<listed.size:=by rw[inv.size];exact hisz
    have hcnt:cntB (listed.setIfInBounds i true) n=c:=by
     have:=jeb hisL hunf n;rw[if_pos hin]at this;omega
    have next:∀(β2:Nat->Option Nat) v w2,((listed.setIfInBounds i true).getD i1 false=false->β2 d1=none)->Sim N w0 M0 β2 (stUp res (fun k=>listed.getD k false) (ops.take n) st) a w2->RepA w2 (Mo M0 β2 (stUp res (fun k=>listed.getD k false) (ops.take n) st)) β2 (stUp res (fun k=>listed.getD k false) (ops.take n) st).toks (res i) v->
      wpAny G.P .any ops.toArray Q' (c+(ops.toArray.size-n)) (listed.setIfInBounds i true) (a.put oi.dst v) w2:=by
     intro β2 v w2 hβ2 hsx hv;have hs2:=hsx.put (dst:=oi.dst) (hd oi (List.mem_of_getElem? hoi')) hv;refine ih _ _ _ hcnt (inv.set hi hin) ⟨β2,hβ2,hs2.congr (fun t=> ?_) ?_ ?_⟩
     ·have hset:∀k,k≠i->(listed.setIfInBounds i true).getD k false=listed.getD k false:=fun k hk=>getD_set_ne false (Ne.symm hk);by_cases hdt:oi.dst=some t
      ·rw[hdt,jan];refine(jcf (ops.take n) res _ st i oi (by rw[htake i hin];exact hoi') hdt (by simp[hisL]) fun k ok hik hk hLk hdk=> ?_).symm;obtain⟨hkn,hok⟩:=hlt k ok hk;rw[hset k (by omega)]at hLk;rcases hpair' i k oi ok hik hkn hoi' hok with hw | hap
       ·rw[hlate k hw]at hLk;cases hLk
       ·exact(Oper.apart_spec hap).2.1 t hdt hdk
      ·rw[jbm hdt];refine jap _ _ _ _ _ _ rfl fun k ok hk hdk=> ?_;have:k≠i:=fun e=>by
        subst e;obtain⟨_,hok⟩:=hlt k ok hk;rw[hoi']at hok;cases hok;exact hdt hdk
       exact(hset k this).symm
     ·rw[show((stUp res (fun k=>listed.getD k false) (ops.take n) st).put oi.dst (res i)).rows=(stUp res (fun k=>listed.getD k false) (ops.take n) st).rows by unfold St.put;split<;>rfl,(ja4 _ _ _ _).1,(ja4 _ _ _ _).1]
     ·rw[show((stUp res (fun k=>listed.getD k false) (ops.take n) st).put oi.dst (res i)).toks=(stUp res (fun k=>listed.getD k false) (ops.take n) st).toks by unfold St.put;split<;>rfl,(ja4 _ _ _ _).2,(ja4 _ _ _ _).2]
    have next0:∀v w2,Below w.heap.size w w2->(i≠i1)->RepA w2 (Mo M0 β (stUp res (fun k=>listed.getD k false) (ops.take n) st)) β (stUp res (fun k=>listed.getD k false) (ops.take n) st).toks (res i) v->
      wpAny G.P .any ops.toArray Q' (c+(ops.toArray.size-n)) (listed.setIfInBounds i true) (a.put oi.dst v) w2:=fun v w2 hb hne hv=>
     next β v w2 (fun hl=>hβ1 (by rwa [getD_set_ne false hne]at hl)) (hs.ext hb) hv
    unfold wpOp;rw[hoi];dsimp only;unfold jfy at hq;by_cases hii:i=i1
    ·subst hii;rw[if_pos (decide_eq_true rfl)]at hq;obtain⟨hg,hdst,hq⟩:=hq;rw[if_pos (by simp[Region.wanted,hg])];refine .inl (qValO_sound hG hs (hβ1 hunf) hq fun β2 v w2 hs2 hv=> ?_);exact next β2 v w2 (fun hl=>by simp[hisL]at hl) hs2 hv
    ·rw[if_neg (by simpa using hii)]at hq;unfold qStep at hq;cases hg:oi.guard with
     | none=>
      rw[hg]at hq;rw[if_pos (by simp[Region.wanted,hg])];exact .inl (jb8 hG hs hq fun v w2 hb hv=>next0 v w2 hb hii hv)
     | some p=>
      obtain⟨j,want⟩:=p;rw[hg]at hq;dsimp only at hq;split at hq
      ·rename_i b hy;have hyc:=jc6 hs hy;by_cases hb:b=want
       ·rw[if_pos hb]at hq;rw[if_pos (by simp[Region.wanted,hg,hyc,hb])];exact .inl (jb8 hG hs hq fun v w2 hb hv=>next0 v w2 hb hii hv)
       ·rw[if_neg hb]at hq;rw[if_neg (by simp[Region.wanted,hg,hyc,hb])];exact next0 _ w (Below.refl _ _) hii (by rw[hq];exact Rep.sc _ rfl)
      ·rename_i hy;have hyc:=jcr hs hy;rw[if_neg (by simp[Region.wanted,hg,hyc])];exact next0 _ w (Below.refl _ _) hii (by rw[hq];exact Rep.sc _ rfl)
      ·exact hq.elim
   have:c+1+(ops.toArray.size-n)=(c+(ops.toArray.size-n))+1:=by omega
   rw[this];exact hgoal
 refine wp_region_any hG.mixed ?_;have inv0:HeadInv .any ops.toArray n (Array.replicate ops.toArray.size false):=
  ⟨by simp,fun j oj _ hl=>(by rw[getD_replicate_false]at hl;cases hl),fun t _ ht=>getD_in (by simpa using ht) (getD_replicate_false _ _)⟩
 have hc0:∀k,cntB (Array.replicate ops.toArray.size false) k=k:=fun k=>by
  induction k with
  | zero=>rfl
  | succ k ihk=>simp only[cntB,ihk,getD_replicate_false];simp
 have:=main n (Array.replicate ops.toArray.size false) a _ (hc0 n) inv0 ⟨_,fun _=>jaa _ _ _,h0.drew.congr (fun t=>by
  have hf:∀(l:List Oper) (res:Nat->AV) (L:Nat->Bool) (st:St),(∀i,L i=false)->stUp res L l st=st:=by
   intro l
   induction l with
   | nil=>intros;rfl
   | cons o l ih=>
    intro res L st hL;simp only[stUp,hL 0];exact ih _ _ _ fun i=>hL (i+1)
  rw[hf _ _ _ _ fun i=>getD_replicate_false _ _]) (ja4 _ _ _ _).1.symm (ja4 _ _ _ _).2.symm⟩
 rwa [show n+(ops.toArray.size-n)=ops.toArray.size by omega]at this
end
section
variable{G:Ctx}
def jfr(G:Ctx)(ops:List Oper)(K:St->Prop)(d i1 n:Nat)(l:List Oper)(st:St):Prop:=jdy G ops (fun s=>alist G ops K (l.drop n) s) d i1 (l.take n) st
theorem DrawO_of{ops:List Oper}{Q:Exit->St->Prop}{st:St}(n i1 d:Nat)(h:(drawB ops.toArray n&&Nat.blt d 100000)=true)
  (hA:jfr G ops (Q .normal) d i1 n ops (tokSt st d d 0 0)): @DrawP G ⟨ops⟩ ⟨Q⟩ st:=by
 rw[Bool.and_eq_true,Nat.blt_eq]at h;exact fun _ _ _ _ _ _ id _ hG hd hK hs=>draw_soundO hG id n i1 d 0 0 h.1 h.2 hd hK hs hA (by simp[tokSt,look])
theorem aheadON_free(ops:List Oper)(K:St->Prop)(d i n:Nat)(dst:Option Tmp)(op:Op)(ty:TypeId)(pos:String)(af:Array Edge)(r:List Oper)(st:St):
  jfr G ops K d (i+1) (n+1) (⟨dst,op,ty,pos,af,none⟩::r) st=aq G st ⟨dst,op,ty,pos,af,none⟩ (fun av=>jfr G ops K d i n r (st.put dst av)):=by
 simp only[jfr,List.take_succ_cons,List.drop_succ_cons]
 conv=>lhs;unfold jdy
theorem aheadON_here(ops:List Oper)(K:St->Prop)(d n:Nat)(op:Op)(ty:TypeId)(pos:String)(af:Array Edge)(r:List Oper)(st:St)(d':Nat):
  jfr G ops K d 0 (n+1) (⟨some d',op,ty,pos,af,none⟩::r) st=(d'=d/\aqO G st d ⟨some d',op,ty,pos,af,none⟩ (fun av=>jej G ops K n r (st.put (some d') av))):=by
 simp only[jfr,jej,List.take_succ_cons,List.drop_succ_cons]
 conv=>lhs;unfold jdy
 simp
def CallO(G:Ctx)(g:Nat)(xs:List IV)(tok:Option (Nat×Nat))(d:Nat)[K:Hold (AV->Prop)]:Prop:=
 (3<=g/\g<G.fns)/\∃sc kvs,CtrO G.P g xs sc kvs/\tok=some (0,0)/\K.val (.mpo d sc kvs)
theorem CallO_eq{g:Nat}{xs:List IV}{tok:Option (Nat×Nat)}{d:Nat}{K:AV->Prop}{sc:Nat×Bool}{kvs:List (List Int×List Int)}(h:CtrO G.P g xs sc kvs)(hg:3<=g/\g<G.fns)(ht:tok=some (0,0))(hK:K (.mpo d sc kvs)): @CallO G g xs tok d ⟨K⟩:=⟨hg,sc,kvs,h,ht,hK⟩
theorem aqO_call(dst:Option Tmp)(ty:TypeId)(pos:String)(af:Array Edge)(gd:Option (Nat×Bool))(f:Operand)(azz:Array Operand)(ts:Array TypeId)(d:Nat)(K:AV->Prop)(st:St):aqO G st d ⟨dst,.call ⟨.value f,azz,ts⟩,ty,pos,af,gd⟩ K=
  match evO st f,ivsOf (azz.toList.map (evO st))with
  | .im (.clo g caps),some xs=>CallO G g (xs++caps) (look st.toks d) d (K:=⟨K⟩)
  | _,_=>False:=propext ⟨fun h=>h,fun h=>h⟩
end
attribute [go_sem ↓] aheadON_free aheadON_here aqO_call
attribute [go_sem] aRetO
