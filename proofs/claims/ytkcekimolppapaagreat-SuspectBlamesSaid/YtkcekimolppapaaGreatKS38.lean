/- A part of the proof. No further condition. -/
import Derived.Test.YtkcekimolppapaaGreatKS37
set_option linter.all false
set_option maxRecDepth 10000000
set_option maxHeartbeats 16000000
namespace Go.Abs
section
def AV.em:AV->AV
 | .sx []=> .im .emp
 | x=>x
def St.em(s:St):St:=⟨s.fr.map fun p=>(p.1,p.2.em),s.rows,s.toks⟩
theorem look_em:∀(l:List (Nat×AV)) (t:Nat),look (l.map fun p=>(p.1,p.2.em)) t=(look l t).map AV.em
 | [],_=>rfl
 | p::l,t=>by
  by_cases e:t=p.1
  ·subst e;obtain⟨k,v⟩:=p;rw[zB,ja2,ja2];rfl
  ·obtain⟨k,v⟩:=p;rw[zB,ja0 _ _ e,ja0 _ _ e,look_em l t]
theorem St.get_em(s:St)(t:Nat):s.em.get t=(s.get t).em:=by
 show(look _ t).getD AV.und=_;unfold St.em;rw[look_em];unfold St.get;cases look s.fr t<;>rfl
theorem St.le_em(s:St):St.Le s s.em:=by
 intro N w0 M0 β a w h;refine⟨β,h.size,h.defers,h.below,h.m0,fun t=> ?_,h.rows,h.toks,h.inj,h.excl,h.nam,h.np,h.perm⟩;rw[St.get_em];have hv:=h.fr t;generalize s.get t=x at hv;cases x with
 | sx es=>
  cases es with
  | nil=>
   obtain⟨_,ad,hv⟩:=hv;show Rep _ _ _ _;rw[hv];exact Rep.emp ad
  | cons c cs=>exact hv
 | _=>exact hv
theorem LoopP_em{G:Ctx}{c:Code}{Q:Exit->St->Prop}{st:St}(h: @LoopP G ⟨c⟩ ⟨Q⟩ st.em): @LoopP G ⟨c⟩ ⟨Q⟩ st:=by
 obtain⟨I,n,⟨s0,h1,h2⟩,h3⟩:=h;exact⟨I,n,⟨s0,(St.le_em st).trans h1,h2⟩,h3⟩
attribute [go_sem] St.em AV.em
def AV.lp:AV->AV
 | .loc d s i j=>if 100000<=d then .im (.pr (d-100000) s i j)else .loc d s i j
 | x=>x
def St.lp(s:St):St:=⟨s.fr.map fun p=>(p.1,p.2.lp),s.rows,s.toks⟩
theorem AV.lp_im(x:IV):AV.lp (.im x)= .im x:=rfl
theorem AV.lp_sx(es:List (List IV)):AV.lp (.sx es)= .sx es:=rfl
theorem AV.lp_und:AV.lp .und= .und:=rfl
attribute [go_sem] St.lp AV.lp_im AV.lp_sx AV.lp_und
end
section
section
variable{G:Ctx}{N:Nat}
theorem SemC.loop{α:Type}{c:Code}{Q:Exit->St->Prop}{st:St}(S:α->St)(P:α->Prop)(μ:α->Nat)(x:α)(hle:St.Le st (S x))(hP:P x)
  (h:∀x,P x->SemC G N c (fun e s=>match e with | .normal=>∃y,(P y/\μ y<μ x)/\St.Le s (S y) | e=>Q e s) (S x)):SemC G N (.loop c) Q st:=fun w0 M0 β a w hs=>by
 obtain⟨β0,hs0⟩:=hle N w0 M0 β a w hs;refine wp_loop_ghost (fun n a w=>∃β y,μ y=n/\P y/\Sim N w0 M0 β (S y) a w) (μ x) ⟨β0,x,rfl,hP,hs0⟩ fun n a w ⟨β,y,hn,hy,hs⟩=> ?_;refine wp_mono (h y hy w0 M0 β a w hs) fun e a' w' hq=> ?_;obtain⟨β',st',hq,hs'⟩:=hq;cases e with
 | normal=>
  obtain⟨z,⟨h1,h2⟩,h3⟩:=hq;obtain⟨β1,h4⟩:=h3 N w0 M0 β' a' w' hs';exact⟨μ z,by omega,β1,z,rfl,h1,h4⟩
 | _=>exact⟨β',st',hq,hs'⟩
theorem SemC.block{id:Nat}{c:Code}{Q:Exit->St->Prop}{st:St}(h:SemC G N c (fun e s=>match e with | .exit k=>if k=id then Q .normal s else Q (.exit k) s | e=>Q e s) st):SemC G N (.block id c) Q st:=fun w0 M0 β a w hs=>by
 refine wp_block (wp_mono (h w0 M0 β a w hs) fun e a' w' hq=> ?_);obtain⟨β',st',hq,hs'⟩:=hq;cases e with
 | exit k=>
  dsimp only at hq;show(if k=id then liftQ N w0 M0 Q .normal a' w' else liftQ N w0 M0 Q (.exit k) a' w');by_cases hk:k=id
  ·rw[zm hk]at hq⊢;exact⟨β',st',hq,hs'⟩
  ·rw[zn hk]at hq⊢;exact⟨β',st',hq,hs'⟩
 | _=>exact⟨β',st',hq,hs'⟩
end
def inL:Code->Code
 | .seq x _=>x
 | c=>c
def inR:Code->Code
 | .seq _ y=>y
 | c=>c
def inB:Code->Code
 | .block _ c=>c
 | .loop c=>c
 | c=>c
theorem inL_seq(x y:Code):inL (.seq x y)=x:=rfl
theorem inR_seq(x y:Code):inR (.seq x y)=y:=rfl
theorem inB_block(k:Nat)(c:Code):inB (.block k c)=c:=rfl
theorem inB_loop(c:Code):inB (.loop c)=c:=rfl
attribute [go_sem] inL_seq inR_seq inB_block inB_loop
end
section
theorem zeroCells_one(v:Value)(n:Nat):(Builtin.zeroCells #[v] n).toList=List.replicate n v:=by
 refine List.eq_replicate_iff.2 ⟨by simp[Builtin.zeroCells],fun x hx=> ?_⟩;unfold Builtin.zeroCells at hx;simp at hx;obtain⟨_,_,rfl⟩:=hx;rw[Nat.mod_one];rfl
theorem run_clearI{P:Program}(w:World)(t e ty:TypeId)(b i n c:Nat)(cur:Array Value)(T:TypeId)(hu:P.underlying t=some (.slice e))(hz:∀w,(zeroValue e).run P w= .ok (.int .i64 0) w)(hg:w.heap[b]? =some (.cells cur T (0,0)))(hfit:i+n<=cur.size)(hn:n≠0):
  (Builtin.clear_ #[t] ty #[.slice (some ⟨b,i,none⟩) n c]).run P w= .ok (.tuple #[]) (w.setRow b (cur.toList.take i++List.replicate n (Value.int .i64 0)++cur.toList.drop (i+n)).toArray):=by
 have hst:=run_storeCells_at (P:=P) b i T (List.replicate n (Value.int .i64 0)) 0 cur w hg (by simpa using hfit) (fun v hv=>by rw[(y7.1 hv).2];rfl);simp only[Nat.add_zero,zT]at hst;obtain⟨m,rfl⟩:=Nat.exists_eq_succ_of_ne_zero hn;have hc:(Value.int IntKind.i64 0).cells= #[.int .i64 0]:=rfl;unfold Builtin.clear_;simp[run_underlying hu,hz,hc,zeroCells_one,hst]
section
variable{G:Ctx}{N:Nat}{w0:Base}{w:World}{M0:Nat->Nat->Prop}{β:Nat->Option Nat}{st:St}{a:Act}
def jiy(es:List (List IV))(i n:Nat):List (List IV):=es.take i++List.replicate n [.int 0]++es.drop (i+n)
theorem clearI_run(hG:G.Good)(h:Sim N w0 M0 β st a w){t e ty:TypeId}{d i n:Nat}{es:List (List IV)}{v:Value}(hu:G.P.underlying t=some (.slice e))(hz:∀w,(zeroValue e).run G.P w= .ok (.int .i64 0) w)
  (hrow:look st.rows d=some (1,es)) (hin:i+n<=es.length) (hv:RepA w (Mo M0 β st) β st.toks (.osl d 1 i n) v):
  ∃w',(Builtin.clear_ #[t] ty #[v]).run G.P w= .ok (.tuple #[]) w'/\Sim N w0 M0 β (if n=0 then st else{st with rows:=Abs.setRow st.rows d 1 (jiy es i n)}) a w':=by
 obtain⟨ad,c,hle,rfl,hb⟩:=hv;by_cases hn:n=0
 ·subst hn;rw[zm rfl];refine⟨w,?_,h⟩;unfold Builtin.clear_;cases ad<;>simp[run_underlying hu]
 rw[zn hn];obtain⟨b,hb2,rfl⟩:=hb hn;clear hb;have hb:=hb2;obtain⟨b',hb',hnb,cur,T,hcur,hl1,hcells⟩:=h.rows d 1 es hrow;rw[hb]at hb';cases hb';have hsz:es.length<=cur.size:=by
  rcases ye es.length with h0 | h0
  ·omega
  ·have hx:es[es.length-1]? =some es[es.length-1]:=ze (by omega);have h1:=hl1 _ (zk hx);obtain⟨x,hxe⟩:∃x,es[es.length-1]=[x]:=by
    match es[es.length-1],h1 with
    | [x],_=>exact⟨x,rfl⟩
   obtain⟨_,u,hu2,_⟩:=hcells _ _ 0 x hx (by rw[hxe];rfl);have:=(zI.1 hu2).1;omega
 have hrun:=run_clearI (P:=G.P) w t e ty b (i*1) n c cur T hu hz hcur (by omega) hn;refine⟨_,hrun,h.setRow hrow hb hcur ?_ ?_ fun k c j x hk hj=> ?_⟩
 ·simp;omega
 ·intro c hc;unfold jiy at hc;rcases qj.1 hc with hc | hc
  ·rcases qj.1 hc with hc | hc
   ·exact hl1 c (qT hc)
   ·rw[(y7.1 hc).2];rfl
  ·exact hl1 c (q9 hc)
 ·have hj0:j=0:=by
   have hlen:c.length=1:=by
    have hc:=zk hk;unfold jiy at hc;rcases qj.1 hc with hc | hc
    ·rcases qj.1 hc with hc | hc
     ·exact hl1 c (qT hc)
     ·rw[(y7.1 hc).2];rfl
    ·exact hl1 c (q9 hc)
   have:=(zl.1 hj).1;omega
  subst hj0;rw[vj,vj,Nat.add_zero];unfold jiy at hk;have htl:(es.take i).length=i:=by rw[zY];omega
  have hcl:(cur.toList.take i).length=i:=by rw[zY,Array.length_toList];omega
  rw[jz];by_cases h1:k<i
  ·rw[zS,zM (by omega),vx h1]at hk;rw[zS,zM (by omega),vx h1];obtain⟨g1,u,g2,g3⟩:=hcells k c 0 x hk hj;rw[vj,Nat.add_zero]at g2;exact⟨g1,u,by simpa using g2,g3⟩
  ·by_cases h2:k<i+n
   ·rw[zS,zL (by omega),zM (by simp;omega),htl,qF,zm (by omega)]at hk;rw[zS,zL (by omega),zM (by simp;omega),hcl,qF,zm (by omega)];cases hk;cases hj;exact⟨rfl,_,rfl,.sc _ rfl⟩
   ·rw[zS,zL (by omega),zL (by simp;omega),htl,zT,qt]at hk;rw[zS,zL (by omega),zL (by simp;omega),hcl,zT,qt];have e1:i+n+(k-i-n)=k:=by omega
    rw[e1]at hk⊢;obtain⟨g1,u,g2,g3⟩:=hcells k c 0 x hk hj;rw[vj,Nat.add_zero]at g2;exact⟨g1,u,by simpa using g2,g3⟩
def clist(G:Ctx)(K:St->Prop):List Oper->St->Prop
 | [],_=>False
 | [o],st=>o.guard=none/\o.dst=none/\∃x t e d i n es,o.op= .call ⟨.builtin .clear, #[x], #[t]⟩/\G.P.underlying t=some (.slice e)/\(∀w,(zeroValue e).run G.P w= .ok (.int .i64 0) w)/\evO st x= .osl d 1 i n/\look st.rows d=some (1,es)/\i+n<=es.length/\
   K (if n=0 then st else{st with rows:=Abs.setRow st.rows d 1 (jiy es i n)})
 | o::o'::r,st=>o.guard=none/\aop G o (fun s=>clist G K (o'::r) s) st
theorem jm3(hG:G.Good){ops:Array Oper}{K:St->Prop}{Q':Exit->Act->World->Prop}(hK:∀st' β' a' w',K st'->Sim N w0 M0 β' st' a' w'->Q' .normal a' w'):
  ∀(l:List Oper) (st:St) (β:Nat->Option Nat) (a:Act) (w:World),(∀o∈l,∀d,o.dst=some d->d<N)->clist G K l st->Sim N w0 M0 β st a w->wpList G.P ops Q' l a w
 | [],st,β,a,w,_,hA,h=>hA.elim
 | [o],st,β,a,w,hd,hA,h=>by
  obtain⟨hg,hdst,x,t,e,d,i,n,es,ho,hu,hz,hx,hrow,hin,hA⟩:=hA;have hxv:=jbb h x;rw[hx]at hxv;obtain⟨w',hrun,hsim⟩:=clearI_run hG h (ty:=o.type) hu hz hrow hin hxv;unfold wpList;have hw:Region.wanted o (yielded ops a.tmps)=true:=by simp[Region.wanted,hg]
  rw[zm hw];refine .inl ?_;unfold Oper.wp execOp;rw[ho];simp only[resolve,invoke,builtin,Sem.run_bind,Sem.run_pure,Result.andThen_ok,y5,zB,zF,hrun,Oper.upon_value,hdst];exact hK _ _ _ _ hA hsim
 | o::o'::r,st,β,a,w,hd,hA,h=>by
  have ih:=jm3 hG (ops:=ops) hK (o'::r);have hd0:=hd o (by simp);have hd':∀q∈o'::r,∀d,q.dst=some d->d<N:=fun q hq=>hd q (qq _ hq);obtain⟨hg,hA⟩:=hA;unfold wpList;have hw:Region.wanted o (yielded ops a.tmps)=true:=by simp[Region.wanted,hg]
  rw[zm hw];exact .inl (jdr hG h hd0 hA fun st' β' a' w' hk hs=>ih st' β' a' w' hd' hk hs)
theorem SemC.clear{id:Nat}{ops:List Oper}{Q:Exit->St->Prop}{st:St}(hG:G.Good)(hd:dstsB N ops=true)(h:clist G (Q .normal) ops st):SemC G N (.region id ops.toArray false) Q st:=fun w0 M0 β a w hs=>
 wp_region_list (by simpa using jm3 (ops:=ops.toArray) hG (fun st' β' a' w' hk hs=>⟨β',st',hk,hs⟩) ops st β a w (jrh hd) h hs)
theorem SemC.cond{c:Operand}{x y:Code}{Q:Exit->St->Prop}{st:St}{t:Bool}(hc:evO st c= .im (.sc (.bool t)))(h1:t=true->SemC G N x Q st)(h2:t=false->SemC G N y Q st):SemC G N (.cond c x y) Q st:=fun w0 M0 β a w hs=>by
 have hv:=jbb hs c;rw[hc]at hv;exact wp_cond_split (Rep.sc_inv hv) (fun e=>h1 e w0 M0 β a w hs) (fun e=>h2 e w0 M0 β a w hs)
end
end
end Go.Abs
namespace Go.Proofs.YtkcekimolppapaaGreat
section
open Go.Abs
attribute [local go_sem] ints ic
theorem SemC.endLe{G:Ctx}{N:Nat}{c:Code}{T:St->Prop}{st:St}(h:SemC G N c (endQ fun s=>∃s',Abs.St.Le s s'/\T s') st):SemC G N c (endQ T) st:=fun w0 M0 β a w hs=>by
 refine wp_mono (h w0 M0 β a w hs) fun e a' w' hq=> ?_;obtain⟨β',st',hq,hs'⟩:=hq;cases e with
 | normal=>
  obtain⟨s',hl,hq⟩:=hq;obtain⟨β2,h2⟩:=hl _ _ _ _ _ _ hs';exact⟨β2,s',hq,h2⟩
 | ret=>
  obtain⟨s',hl,hq⟩:=hq;obtain⟨β2,h2⟩:=hl _ _ _ _ _ _ hs';exact⟨β2,s',hq,h2⟩
 | _=>exact hq.elim
def firstF(p:Int->Bool)(l:List Int)(k:Int):Prop:=(k= -1/\l.any p=false)\/∃i:Nat,k=i/\(l.take i).any p=false/\∃x,l[i]? =some x/\p x=true
section
variable{l:List Int}{p:Int->Bool}{g:Nat}{caps:List IV}{b:Nat}
theorem jnz{i:Nat}{x:Int}(hx:l[i]? =some x):(l.map ic)[i]? =some [.int x]:=by rw[za,hx];rfl
theorem su_index(hg:3<=g/\g<G.fns)(hc:∀x,Ctr G.P g (.int x::caps) (· = .bool (p x)))(hl:l.length<=100000):
  CtrH G.P 177 [.im (.ref b 3 1 l.length),.im (.clo g caps)] [(hp b,1,l.map ic)] (fun r L'=>∃k,r= .im (.int k)/\firstF p l k/\L'=[(hp b,1,l.map ic)]):=by
 have hne:=fun(d:Nat) (h:d<100000)=>hp_ne (n:=d) (b:=b) h;refine jao [] [] [.tmp 4] Tryz.func177 ?_;simp only[go_sem];refine jap [0,1,7,8] (fun i:Nat=>⟨[(0,.im (.ref b 3 1 l.length)),(1,.im (.clo g caps)),(7,.im (.int l.length)),(8,.im (.int i))],[(hp b,1,l.map ic)],[]⟩)
  (fun i=>i<=l.length/\(l.take i).any p=false) (fun i=>l.length-i) 0 ?_ (SubR.of_eq rfl) rfl ⟨zH _,rfl⟩ ?_
 ·simp only[Int.natCast_zero,go_sem]
 ·intro i ⟨hi,ha⟩;by_cases hp':(i:Int)<l.length
  ·have hd:decide ((i:Int)<l.length)=true:=zh hp';obtain⟨x,hx⟩:=jbf hp';have h1:=ja7 (n:=(i:Int)+1) (by omega);have hcx:=hc x;have hi0:(0:Int)<=i:=by omega
   have hgx:=jnz hx;simp only[hd,hi0,hp',hgx,Int.toNat_natCast,go_sem];refine jbv hcx hg ?_;simp only[go_sem];refine jc1 (fun he=> ?_) (fun he=> ?_)
   ·simp only[he,go_sem];refine jfl [(hp b,1,l.map ic)] (fun k x hk=> ?_) ?_
    ·by_cases e:k=hp b
     ·subst e;exact⟨by unfold hp;omega,hk⟩
     ·rw[ja0 _ _ e]at hk;cases hk
    ·simp only[go_sem];exact⟨_,rfl,.inr ⟨i,rfl,ha,x,hx,he⟩⟩
   ·simp only[he,go_sem];refine ja6 (i+1) ?_ (SubR.of_eq rfl) rfl (by omega) ⟨by omega,by rw[jcu hx,ha,he];rfl⟩;simp only[h1,Int.natCast_add,go_sem]
  ·have hd:decide ((i:Int)<l.length)=false:=zw hp';rw[zu (by omega)]at ha;simp only[hd,go_sem];refine jfl [(hp b,1,l.map ic)] (fun k x hk=> ?_) ?_
   ·by_cases e:k=hp b
    ·subst e;exact⟨by unfold hp;omega,hk⟩
    ·rw[ja0 _ _ e]at hk;cases hk
   ·simp only[go_sem];exact⟨_,rfl,.inl ⟨rfl,ha⟩⟩
structure DelI(p:Int->Bool)(l R:List Int)(i j:Nat):Prop where
 len:R.length=l.length
 keep:R.take i=(l.take j).filter fun x=> !p x
 rest:R.drop j=l.drop j
 lt:i<j
 le:j<=l.length
theorem DelI.skip{R:List Int}{i j:Nat}{x:Int}(h:DelI p l R i j)(hx:l[j]? =some x)(hp:p x=true):DelI p l R i (j+1) where
 len:=h.len
 keep:=by
  have:(!p x)=false:=by rw[hp];rfl
  rw[take_succ hx,jD,h.keep,ym,this];simp
 rest:=by rw[<-je,h.rest,je]
 lt:=by have:=h.lt;omega
 le:=(zl.1 hx).1
theorem DelI.put{R:List Int}{i j:Nat}{x:Int}(h:DelI p l R i j)(hx:l[j]? =some x)(hp:p x=false):DelI p l (R.set i x) (i+1) (j+1) where
 len:=by rw[qa];exact h.len
 keep:=by
  have h1:(!p x)=true:=by rw[hp];rfl
  have hj:=(zl.1 hx).1;have hi:=h.lt;have hl:=h.len;rw[take_succ hx,jD,<-h.keep,ym,h1,zm rfl,List.filter_nil];have h2:(R.set i x)[i]? =some x:=by rw[jv,zm rfl,zm (by omega)]
  rw[take_succ h2,List.take_set_of_le (zt _)]
 rest:=by
  have hi:=h.lt;rw[List.drop_set,zm (by omega),<-je,h.rest,je]
 lt:=by have:=h.lt;omega
 le:=(zl.1 hx).1
theorem firstF.start{k:Int}(h:firstF p l k)(hk:k≠ -1):∃i:Nat,k=i/\DelI p l l i (i+1):=by
 rcases h with ⟨h,_⟩ | ⟨i,rfl,h1,x,hx,h2⟩
 ·exact absurd h hk
 ·have hi:=(zl.1 hx).1;refine⟨i,rfl,rfl,?_,rfl,by omega,by omega⟩;have h3:(!p x)=false:=by rw[h2];rfl
  rw[take_succ hx,jD,ym,h3,List.filter_eq_self.2 fun y hy=>by
   rw[vv]at h1;have:=h1 y hy
   simpa using this]
  simp
def SD(b n:Nat)(g:Nat×List Int):St:=⟨[(0,.im (.ref b 3 1 n)),(5,.im (.int g.1))],[(hp b,1,g.2.map ic)],[]⟩
theorem su_del1(hg:3<=g/\g<G.fns)(hc:∀x,Ctr G.P g (.int x::caps) (· = .bool (p x)))(hl:l.length<=100000){P:Exit->St->Prop}(hR:∀s,l.any p=false->s.get 4= .im (.ref b 3 1 l.length)->s.rows=[(hp b,1,l.map ic)]->P .ret s)
  (hN:∀i R s,DelI p l R i l.length->Abs.St.Le s (SD b l.length (i,R))->P .normal s):
  awp (GH [] []) (putN 4 (tailN 0 (jdg Tryz.f143)) .skip) P (jc9 [.im (.ref b 3 1 l.length),.im (.clo g caps)] [(hp b,1,l.map ic)]):=by
 have ki:=su_index (b:=b) hg hc hl;have hne:=fun(d:Nat) (h:d<100000)=>hp_ne (n:=d) (b:=b) h;refine jh5 rfl ?_;simp only[go_sem];refine jai ki (by decide) rfl (fun k x hk=> ?_) (SubR.of_eq rfl) ?_
 ·by_cases e:k=hp b
  ·exact⟨b,e⟩
  ·rw[ja0 _ _ e]at hk;cases hk
 rintro r L' ⟨k,rfl,hk,rfl⟩ hfr;refine⟨_,jba,?_⟩;by_cases e:k= -1
 ·subst e;simp only[go_sem];refine hR _ ?_ rfl rfl;rcases hk with ⟨_,h⟩ | ⟨i,h,_⟩
  ·exact h
  ·omega
 ·obtain⟨i,rfl,hD⟩:=hk.start e;have hd:decide ((i:Int)= -1)=false:=zw e;have h1:=ja7 (n:=(i:Int)+1) (by have:=hD.le;omega);simp only[hd,h1,go_sem];refine jap [0,1,5,6] (fun a:(Nat×Nat)×List Int=>⟨[(0,.im (.ref b 3 1 l.length)),(1,.im (.clo g caps)),(5,.im (.int a.1.1)),(6,.im (.int a.1.2))],[(hp b,1,a.2.map ic)],[]⟩)
   (fun a=>DelI p l a.2 a.1.1 a.1.2) (fun a=>l.length-a.1.2) ((i,i+1),l) ?_ (SubR.of_eq rfl) rfl hD ?_
  ·simp only[Int.natCast_add,go_sem]
  ·rintro⟨⟨i,j⟩,R⟩ hD;dsimp only at hD⊢;have hL:=hD.len;have hlt:=hD.lt;have hle:=hD.le;by_cases hp':(j:Int)<l.length
   ·have hd:decide ((j:Int)<l.length)=true:=zh hp';obtain⟨x,hx⟩:=jbf hp';have hxR:R[j]? =some x:=by
     have:=qx (·[0]?) hD.rest;simp only[qt,Nat.add_zero]at this;rw[this,hx]
    have h1:=ja7 (n:=(j:Int)+1) (by omega);have h2:=ja7 (n:=(i:Int)+1) (by omega);have hcx:=hc x;have hi0:(0:Int)<=j:=by omega
    have hi2:(0:Int)<=i:=by omega
    have hp2:(i:Int)<l.length:=by omega
    have hgx:=jnz hxR;obtain⟨y,hy⟩:∃y,R[i]? =some y:=⟨_,ze (by omega)⟩;have hgy:=jnz hy;simp only[hd,hi0,hp',hgx,Int.toNat_natCast,go_sem];refine jbv hcx hg ?_;simp only[go_sem];refine jc1 (fun he=> ?_) (fun he=> ?_)
    ·simp only[he,h1,go_sem];refine ja6 ((i,j+1),R) ?_ (SubR.of_eq rfl) rfl (by dsimp only;omega) (hD.skip hx he);simp only[Int.natCast_add,go_sem]
    ·simp only[he,h2,hi2,hp2,hgy,Int.toNat_natCast,h1,go_sem];refine ja6 ((i+1,j+1),R.set i x) ?_ (SubR.of_eq ?_) rfl (by dsimp only;omega) (hD.put hx he)
     ·simp only[Int.natCast_add,go_sem]
     ·rw[qD];rfl
   ·have hd:decide ((j:Int)<l.length)=false:=zw hp';have hj:j=l.length:=by omega
    subst hj;simp only[hd,go_sem];refine hN i R _ hD ?_;exact jhk (S:=SD b l.length (i,R)) [0,5] rfl (SubR.of_eq rfl) rfl
theorem any_filter(h:l.any p=false):(l.filter fun x=> !p x)=l:=List.filter_eq_self.2 fun y hy=>by
 rw[vv]at h;have:=h y hy
 simpa using this
theorem frz_get{s:St}{t k:Nat}{es:List (List IV)}(hr:Abs.look s.rows (hp b)=some (k,es)):(s.frz b).get t=(s.get t).frz b k es:=by
 unfold St.frz;rw[hr];show(Abs.look (s.fr.map fun p=>(p.1,p.2.frz b k es)) t).getD .und=((Abs.look s.fr t).getD .und).frz b k es;rw[jf2];cases Abs.look s.fr t<;>rfl
theorem su_end{i:Nat}{R:List Int}{s:St}(hi:i<=R.length)(h4:s.get 4= .im (.ref b 3 1 i))(hr:s.rows=[(hp b,1,R.map ic)]):∃s',Abs.St.Le s s'/\aRetH (GH [] []) [.tmp 4] (fun r L'=>r= .im (ints (R.take i))/\L'=[]) s':=by
 refine⟨s.frz b,fun _ _ _ β _ _ h=>⟨β,h.frz b⟩,[],fun k x hk=>(by cases hk),?_,rfl⟩;show((s.frz b).get 4).toH=_;rw[frz_get (k:=1) (es:=R.map ic) (by rw[hr,ja2]),h4];have hi':i<=(R.map ic).length:=by rw[zq];exact hi
 simp only[AV.frz,frz3,frz2,frz1,qm,hi',jk,AV.toH];rw[<-jR];rfl
theorem su_del(hg:3<=g/\g<G.fns)(hc:∀x,Ctr G.P g (.int x::caps) (· = .bool (p x)))(hl:l.length<=100000):
  CtrH G.P 143 [.im (.ref b 3 1 l.length),.im (.clo g caps)] [(hp b,1,l.map ic)] (fun r L'=>r= .im (ints (l.filter fun x=> !p x))/\L'=[]):=by
 have hne:=fun(d:Nat) (h:d<100000)=>hp_ne (n:=d) (b:=b) h;refine jkg (goodH [] []) [.tmp 4] Tryz.func143 rfl rfl (by decide+kernel) rfl (SemC.endLe ?_);refine SemC.cutsF (goodH [] []) (SD b l.length) (fun i=>DelI p l i.2 i.1 l.length) 4 rfl (by decide+kernel) (su_del1 hg hc hl (fun s h1 h2 h3=> ?_) fun i R s h1 h2=>⟨(i,R),h1,h2⟩) ?_
 ·rw[any_filter h1];have:=su_end (zt _) h2 h3
  rwa [qe]at this
 rintro⟨i,R⟩ hD;dsimp only at hD;rw[jdf];have hL:=hD.len;have hk:=hD.keep;rw[qe]at hk;have hlt:=hD.lt;have hm:i<=(R.map ic).length:=by rw[zq];omega
 have hi2:(0:Int)<=i:=by omega
 have hi3:(i:Int)<=l.length:=by omega
 rw[<-hk];refine SemC.seq (SemC.clear (goodH [] []) (by decide+kernel) ?_);unfold clist SD;refine⟨rfl,?_⟩;simp only[go_sem];unfold clist;refine⟨rfl,?_⟩;simp only[go_sem];unfold clist;refine⟨rfl,?_⟩;simp only[hi2,hi3,go_sem];refine Opt_of _ (zm (yq _)) ?_;unfold clist;refine⟨rfl,rfl,.tmp 38,31,3,hp b,i,l.length-i,R.map ic,rfl,rfl,?_,?_,?_,?_,?_⟩
 ·intro w;rfl
 ·show AV.osl (hp b) 1 i ((l.length:Int)-i).toNat=_;rw[show((l.length:Int)-i).toNat=l.length-i by omega]
 ·exact ja2 ..
 ·rw[zq];omega
 rw[zn (by omega)];have hcl:jiy (R.map ic) i (l.length-i)=(R.take i++List.replicate (l.length-i) 0).map ic:=by
  unfold jiy;rw[qy (by rw[zq];omega),zX,qf,jR,yf];rfl
 rw[hcl];refine SemC.awp (goodH [] []) (by decide+kernel) ?_;have ht:(R.take i++List.replicate (l.length-i) (0:Int)).take i=R.take i:=by
  rw[jU (by rw[zY];omega),List.take_take,Nat.min_self]
 generalize hR2:R.take i++List.replicate (l.length-i) (0:Int)=R2 at ht⊢;have hl2:i<=R2.length:=by rw[<-hR2,zG,zY];omega
 rw[<-ht];simp only[hi2,hi3,go_sem];exact su_end hl2 rfl rfl
end
end
section
open Go.Abs
open Go.LP (Dic Rw RT Ov OvRw Own Free Final first jb4 tsum Sol)
attribute [local go_sem] fc ints ic rwC tmC
section
variable{N:Nat}{ws:List Rw}{l:List Nat}
def Unsat(N:Nat)(ws:List Rw)(l:List Nat):Prop:=∀x:Nat->Rat,(∀k,k<N->0<=x k)->(∀k,k∈l->∀w,ws[k]? =some w->w.sat x)->False
theorem Unsat.mono{l':List Nat}(h:Unsat N ws l)(hl:∀k,k∈l->k∈l'):Unsat N ws l':=fun x h1 h2=>h x h1 fun k hk w hw=>h2 k (hl k hk) w hw
theorem Unsat.ne(h:Unsat N ws l):l≠[]:=fun e=>h (fun _=>0) (fun _ _=>ya) fun k hk=>by rw[e]at hk;cases hk
theorem jko{y:Nat->Rat}{k:Nat}:∀{i:Nat},k∈usedL l y i->i<=l.length->k∈l
 | 0,h,_=>by cases h
 | i+1,h,hi=>by
  rw[usedL]at h;rcases qj.1 h with h | h
  ·exact jko h (by omega)
  ·split at h
   ·cases h
   ·rw[zC.1 h,ze (by omega)];exact js _
theorem jqa{y:Nat->Rat}{r k:Nat}(hr:l[r]? =some k)(hy:y r≠0):∀{i:Nat},r<i->k∈usedL l y i
 | 0,h=>by omega
 | i+1,h=>by
  rw[usedL];by_cases e:r=i
  ·subst e;have hs:(y r).num.sign≠0:=fun h=>hy (by
    have:=yp.1 h;exact v8.1 this)
   rw[zn hs,hr];exact y9 _ (zC.2 rfl)
  ·exact yz _ (jqa hr hy (by omega))
theorem Refu.unsat{y:Nat->Rat}(hs:SysOk N ws)(h:AscN l ws.length)(hl:l.length<=ws.length)(hy:Refu N (partW ws l) y):Unsat N ws (usedL l y l.length):=fun x h1 h2=>
 hy.no (part_ok hs h hl).ok h1 fun r w hr hn=>by
  obtain⟨k,hk,hw⟩:=jq5 h hr;exact h2 k (jqa hk hn (zl.1 hk).1) w hw
theorem AscN.pair{n:Nat}:AscN l n↔l.Pairwise (· < ·)/\∀k∈l,k<n:=by
 constructor
 ·intro h;refine⟨?_,fun k hk=> ?_⟩
  ·rw[jq];intro i j hi hj hij
   induction j with
   | zero=>omega
   | succ j ih=>
    have h1:=(h (j+1) l[j+1] (ze hj)).2 l[j] (ze (by omega)) (qk j);by_cases e:i=j
    ·subst e;exact h1
    ·have:=ih (by omega) (by omega);omega
  ·obtain⟨i,hi⟩:=qo hk;exact h.get hi
 ·rintro⟨h1,h2⟩ i x hx;refine⟨h2 x (zk hx),fun y hy h0=> ?_⟩;obtain⟨hi,rfl⟩:=zl.1 hx;obtain⟨hj,rfl⟩:=zl.1 hy;exact jq.1 h1 _ _ hj hi (by omega)
theorem AscN.filter{n:Nat}(h:AscN l n)(p:Nat->Bool):AscN (l.filter p) n:=by
 rw[AscN.pair]at h⊢;exact⟨h.1.filter p,fun k hk=>h.2 k (qH.1 hk).1⟩
theorem AscN.range(n:Nat):AscN (List.range n) n:=by
 rw[AscN.pair];exact⟨List.pairwise_lt_range,fun k hk=>qd.1 hk⟩
theorem nn_filter(l:List Nat)(i:Nat):(nn l).filter (fun x=> !(decide (x=(i:Int))))=nn (l.filter fun k=> !(decide (k=i))):=by
 unfold nn;rw[List.filter_map];congr 1;refine List.filter_congr fun k _=> ?_;simp only[Function.comp];have:((k:Int)=(i:Int))↔(k=i):=by omega
 rw[yk.2 this]
theorem su_pred(i x:Int):Ctr G.P 144 [.int x,.ip [.int i] 0] (· = .bool (decide (x=i))):=by
 refine ja5 [.tmp 3] Tryz.func144 ?_;simp only[go_sem]
theorem jnv(l:List Int)(hne:l≠[])(hl:l.length<=100000):CtrH G.P 141 [.im (ints l)] [] (fun r L'=>∃X,r= .im (.ref X 3 1 l.length)/\L'=[(hp X,1,l.map ic)]):=by
 have hne':l.map ic≠[]:=fun h=>hne (qO.1 h);refine jao [7] [] [.tmp 2] Tryz.func141 ?_;simp only[go_sem];refine jey (fun h=>absurd h hne') ?_;simp only[hne',go_sem];refine And.intro (fun c hc=>by obtain⟨z,_,rfl⟩:=z8.1 hc;rfl) (And.intro (by omega) (je5 (fun X hX=> ?_)));clear hX;simp only[zq,go_sem];refine jb7 [(hp X,1,l.map ic)] (jad jaq) (SubR.of_eq rfl) ?_;simp only[go_sem];exact⟨X,rfl,rfl⟩
def ConfR(N:Nat)(ws:List Rw)(r:IV):Prop:=∃left,AscN left ws.length/\Unsat N ws left/\r= .tup [ints (nn left),.int 0]
theorem ConfR.of{left:List Nat}(h:AscN left ws.length)(hu:Unsat N ws left):ConfR N ws (.tup [.sl ((nn left).map ic),.sc (.int .i64 0)]):=⟨left,h,hu,rfl⟩
def fillN(n i:Nat):List (List IV):=tab n fun k=>[.int (if k<i then(k:Int)else 0)]
theorem fillN_full(n:Nat):fillN n n=(nn (List.range n)).map ic:=by
 unfold fillN nn tab;rw[yR];refine ja fun k hk=> ?_;rw[zm (qd.1 hk)];rfl
theorem fillN_zero(n:Nat):fillN n 0=List.replicate n [.int 0]:=by
 unfold fillN;rw[jih];exact jar fun k _=>by rw[zn (yN k)]
theorem fillN_set{n i:Nat}:(fillN n i).set i [.int (i:Int)]=fillN n (i+1):=by
 unfold fillN;rw[jgi];refine jar fun k _=> ?_;by_cases e:k=i
 ·subst e;rw[zm rfl,zm (by omega)]
 ·rw[zn e];by_cases h:k<i
  ·rw[zm h,zm (by omega)]
  ·rw[zn h,zn (by omega)]
theorem jqi(n i:Nat):(fillN n i).length=n:=jaa
theorem jq6:partW ws (List.range ws.length)=ws:=by
 unfold partW;apply jI;intro i;by_cases hi:i<ws.length
 ·rw[za,jb hi,Option.map_some,ze hi];rfl
 ·rw[qG (by simp;omega),qG (by omega)]
theorem jdw{R:Abs.Rows}{b:Nat}{v:Nat×List (List IV)}(h:Abs.look R (hp b)=none):jev ((hp b,v)::R) [(hp b,v)] [] R:=fun k x hk=>by
 have e:k≠hp b:=fun e=>by rw[e,h]at hk;cases hk
 exact .inr ⟨by rw[ja0 _ _ e];rfl,by rw[ja0 _ _ e];exact hk⟩
theorem blks_one{b:Nat}{v:Nat×List (List IV)}:blks [(hp b,v)]:=jad jaq
def ConfP(N:Nat)(ws:List Rw)(r:IV):Prop:=((∃x,Sol N ws x)/\r= .tup [.sl [],.int 0])\/ConfR N ws r
theorem su_conf(hs:SysOk N ws):Ctr G.P 99 [.agg [.int N,.sl (ws.map rwC)]] (ConfP N ws):=by
 have hlen:=hs.len;have kq:=jqy ws N hs.ok (by omega) (by have:=hs.n;omega) fun w hw=>⟨by have:=(hs.row w hw).1;have:=hs.n;omega,(hs.row w hw).2⟩;refine jm1 (goodH [] []) _ _ [.tmp 2,.tmp 3] Tryz.func99 rfl rfl (by decide+kernel) rfl ?_;simp only[go_sem];refine ja1 kq ?_;simp only[zq,zT,go_sem];refine And.intro (by omega) ?_;refine jap [1,4,19,20,21] (fun i:Nat=>⟨[(1,.loc 1 2 0 0),(4,.gsl 18 3 1 ws.length),(19,.gsl 18 3 1 ws.length),(20,.im (.int ws.length)),(21,.im (.int i))],[(18,1,fillN ws.length i),(1,2,[[.int N,.sl (ws.map rwC)]])],[]⟩)
  (fun i=>i<=ws.length) (fun i=>ws.length-i) 0 ?_ ?_ rfl (zH _) ?_
 ·simp only[Int.natCast_zero,go_sem]
 ·exact SubR.of_eq (by rw[fillN_zero])
 intro i hi;by_cases hp':(i:Int)<ws.length
 ·have hd:decide ((i:Int)<ws.length)=true:=zh hp';have h1:=ja7 (n:=(i:Int)+1) (by omega);have hi0:(0:Int)<=i:=by omega
  have hgf:(fillN ws.length i)[i]? =some [.int 0]:=by unfold fillN;rw[jcw (by omega),zn (by omega)]
  simp only[hd,hi0,hp',hgf,Int.toNat_natCast,jqi,go_sem];refine ja6 (i+1) ?_ (SubR.of_eq ?_) rfl (by omega) (by omega)
  ·simp only[h1,Int.natCast_add,go_sem]
  ·rw[<-fillN_set]
 have hd:decide ((i:Int)<ws.length)=false:=zw hp';have e:i=ws.length:=by omega
 subst e;have hR:=jmq hs (AscN.range ws.length) (by rw[qE];exact zt _);rw[jq6]at hR;have hff:=fillN_full ws.length;have hfl:(fillN ws.length ws.length).length=ws.length:=jqi _ _;have hle:ws.length<=(fillN ws.length ws.length).length:=by rw[hfl];exact zt _
 have htk:(fillN ws.length ws.length).take ws.length=(nn (List.range ws.length)).map ic:=by rw[zu (by rw[hfl];exact zt _),hff]
 rcases hR with ⟨x,hx,kr⟩ | ⟨y,hy,kr⟩
 ·simp only[hd,hle,htk,go_sem];refine ja1 kr ?_;simp only[go_sem];refine jfm [] ?_;simp only[List.foldl_nil,go_sem];exact .inl ⟨⟨x,hx⟩,rfl⟩
 ·simp only[hd,hle,htk,go_sem];refine ja1 kr ?_;simp only[zq,go_sem];refine jap [1,4,6,39,40] (fun g:Nat×(List Nat×List Nat)=>⟨[(1,.loc 1 2 0 0),(4,.im (ints (nn g.2.1))),(6,.im (ints (nn g.2.2))),(39,.im (.int ws.length)),(40,.im (.int g.1))],[(1,2,[[.int N,.sl (ws.map rwC)]])],[]⟩)
   (fun g=>g.1<=ws.length/\AscN g.2.1 ws.length/\g.2.1.length<=ws.length/\g.2.2.length<=ws.length/\Unsat N ws g.2.2/\∀k,k∈g.2.2->k∈g.2.1) (fun g=>ws.length-g.1) (0,List.range ws.length,usedL (List.range ws.length) y (List.range ws.length).length) ?_ ?_ rfl ?_ ?_
  ·simp only[Int.natCast_zero,hle,htk,go_sem]
  ·exact SubR.of_eq rfl
  ·refine⟨zH _,AscN.range _,by dsimp only;rw[qE];exact zt _,qn (jif y _) (by rw[qE];exact zt _),?_,fun k hk=>jko hk (zt _)⟩;exact Refu.unsat hs (AscN.range _) (by rw[qE];exact zt _) (by rw[jq6];exact hy)
  clear hd hle htk hff hfl kr hy hi hp';rintro⟨i,left,used⟩ ⟨hi,ha,hll,hlu,hu,hsub⟩;dsimp only at hi ha hll hlu hu hsub⊢;by_cases hp':(i:Int)<ws.length
  ·have hd:decide ((i:Int)<ws.length)=true:=zh hp';have h1:=ja7 (n:=(i:Int)+1) (by omega);have hn0:nn left≠[]:=fun e=>(hu.mono hsub).ne (by unfold nn at e;exact qO.1 e);have kc:=jnv (nn left) hn0 (by rw[jfh];omega);have kp:=su_pred i;simp only[hd,go_sem];refine jcz kc (by decide) rfl jaq jac ?_;rintro _ _ ⟨X,rfl,rfl⟩ hfr;refine⟨_,jfa (ja2 _ _ _),?_⟩;clear hfr;have kd:=su_del (b:=X) (g:=144) (caps:=[.ip [.int i] 0]) (l:=nn left) (by decide) kp (by rw[jfh];omega);rw[nn_filter]at kd;simp only[jfh,go_sem];refine jai kd (by decide) (by simp only[zB,zF,AV.toH,jfh]) blks_one (jaz (ja2 _ _ _)) ?_;rintro _ _ ⟨rfl,rfl⟩ hfr;refine⟨_,jdw (by rw[ja0 _ _ (hp_ne (by decide)).symm];rfl),?_⟩;clear hfr kd kp kc;have kin:=jl5 (nn used) i (by rw[jfh];omega);obtain⟨less,hless⟩:∃less,less=left.filter fun k=> !(decide (k=i)):=⟨_,rfl⟩;rw[<-hless];have hA:AscN less ws.length:=hless▸ha.filter _;have hL:less.length<=ws.length:=by rw[hless];exact qn (vo _ _) hll
   have hm:∀k,k∈less↔k∈left/\k≠i:=fun k=>by rw[hless,qH];simp
   simp only[go_sem];refine ja1 kin ?_;simp only[go_sem];refine jc1 (fun he=> ?_) (fun he=> ?_)
   ·rcases jmq hs hA hL with ⟨x,hx,kr⟩ | ⟨y',hy',kr⟩
    ·simp only[he,go_sem];refine ja1 kr ?_;simp only[go_sem];refine ja6 (i+1,left,used) ?_ (SubR.of_eq rfl) rfl (by dsimp only;omega) ⟨by dsimp only;omega,ha,hll,hlu,hu,hsub⟩;simp only[h1,Int.natCast_add,go_sem]
    ·simp only[he,go_sem];refine ja1 kr ?_;simp only[go_sem];refine ja6 (i+1,less,usedL less y' less.length) ?_ (SubR.of_eq rfl) rfl (by dsimp only;omega) ⟨by dsimp only;omega,hA,hL,qn (jif y' _) hL,Refu.unsat hs hA hL hy',fun k hk=>jko hk (zt _)⟩;simp only[h1,Int.natCast_add,go_sem]
   ·have hni:∀k,k∈used->k≠i:=fun k hk e=>by
     have:(nn used).contains (i:Int)=true:=by
      rw[qX];exact z8.2 ⟨k,hk,by rw[e]⟩
     rw[he]at this;cases this
    simp only[he,go_sem];refine ja6 (i+1,less,used) ?_ (SubR.of_eq rfl) rfl (by dsimp only;omega) ⟨by dsimp only;omega,hA,hL,hlu,hu,fun k hk=>(hm k).2 ⟨hsub k hk,hni k hk⟩⟩;simp only[h1,Int.natCast_add,go_sem]
  ·have hd:decide ((i:Int)<ws.length)=false:=zw hp';simp only[hd,go_sem];refine jfm [] ?_;simp only[List.foldl_nil,go_sem];exact .inr (ConfR.of ha (hu.mono hsub))
end
end
section
open Go.Abs
open Go.LP (Rw RT tsum Sol)
theorem ivl_hi{cs:List Cert}{rs:List Recall}{sc rd day:Int}{a b:Rat}(h:ivlF cs rs sc rd day=some (a,b)):0<=b:=by
 unfold ivlF at h;split at h
 ·cases h
 split at h
 ·cases h
 split at h
 ·cases h
 rename_i c _;split at h
 ·rename_i hv;rw[zD]at hv;have hb:=btw_iff.1 hv.2;obtain⟨_,_,_,⟨h1,_⟩,⟨h2,_⟩,⟨h3,_⟩,_⟩:=jqx hv.1 hb;injection h with h;injection h with h4 h5;subst h5;have e1:(0:Rat)<=(rd:Rat):=vH.2 hb.1;have e2:(0:Rat)<=Rat.divInt (c.perMille*rd) 1000:=(Rat.divInt_nonneg_iff_of_pos_right (by decide)).2 h1;have e3:(0:Rat)<=((c.grams+c.drift*(day-c.fr):Int):Rat):=vH.2 (by omega);exact Rat.add_nonneg e1 (Rat.add_nonneg e2 e3)
 ·cases h
theorem jp8:∀ts:List (Nat×Rat),tsum ts (fun _=>0)=0
 | []=>rfl
 | t::ts=>by show t.2*0+tsum ts (fun _=>0)=0;rw[jp8 ts,Rat.mul_zero,yQ]
section
variable{e:Evid}{w:Rw}{S:List Int}
theorem og_zero{k n mt ix:Int}(h:OgOk e w [.int k,.int n,.int mt,.int ix])(hk:k≠1):w.sat (fun _=>0):=by
 obtain⟨k',mt',ix',n',x,hc,hx,h⟩:=h;injection hc with hc _;injection hc with hc;injection hc with _ hc;subst hc;rcases h with ⟨_,_,h⟩ | ⟨h,_⟩ | ⟨_,_,lo,hi,hv,rfl⟩ | ⟨_,h⟩
 ·obtain⟨mat,_,rfl⟩:=mem_stockR.1 h;unfold LP.Rw.sat;rw[jp8];exact⟨fun _=>ya,fun _=>ya⟩
 ·exact absurd h hk
 ·unfold LP.Rw.sat;rw[jp8];exact⟨fun h=>absurd rfl h,fun _=>ivl_hi hv⟩
 ·unfold purR at h;obtain⟨p,_,h4⟩:=jd.1 h;unfold pur1 at h4;split at h4
  ·rcases zP.1 h4 with rfl | h4
   ·unfold LP.Rw.sat;rw[jp8];exact⟨fun _=>ya,fun _=>ya⟩
   ·rcases zP.1 h4 with rfl | h4
    ·unfold LP.Rw.sat;rw[jp8];exact⟨fun _=>ya,fun _=>ya⟩
    ·cases h4
  ·cases h4
theorem og_off{c:List IV}(h:OgOk e w c):∃(k mt ix:Int) (n:Nat) (x:Move),c=[.int k,.int (n:Int),.int mt,.int ix]/\e.moves[n]? =some x/\((k=1\/k=2)/\S.contains x.scale=true\/w∈rowsE (offE S e)):=by
 obtain⟨k,mt,ix,n,x,hc,hx,h⟩:=h;refine⟨k,mt,ix,n,x,hc,hx,?_⟩;have hn:=(zl.1 hx).1;have key:∀v,(k=1\/k=2)->x.scale≠ -1->v∈jbp e e.mats.toNat n x->(k=1\/k=2)/\S.contains x.scale=true\/v∈rowsE (offE S e):=fun v hk hs hv=>by
  by_cases hS:S.contains x.scale=true
  ·exact .inl ⟨hk,hS⟩
  ·refine .inr (mem_off.2 ⟨n,x,hn,hx,yz _ (y9 _ ?_)⟩);rw[zn fun h=>hS h.2];exact hv
 rcases h with ⟨_,hb,h⟩ | ⟨hk,hs,lo,hi,hv,rfl⟩ | ⟨hk,hs,lo,hi,hv,rfl⟩ | ⟨_,h⟩
 ·refine .inr (mem_off.2 ⟨n,x,hn,hx,yz _ (yz _ ?_)⟩);rw[zn (by rw[hb];decide)];exact h
 ·exact key _ (.inl hk) hs (by unfold jbp;rw[zn hs,hv];exact zZ)
 ·exact key _ (.inr hk) hs (by unfold jbp;rw[zn hs,hv];exact qq _ zZ)
 ·exact .inr (mem_off.2 ⟨n,x,hn,hx,y9 _ h⟩)
def BlameR(e:Evid)(cs:List (List IV)):Prop:=∃left,Unsat (nV e) (rowsE e) left/\cs.length=left.length/\cs.length<=2000/\∀(i k:Nat) (c:List IV),left[i]? =some k->cs[i]? =some c->∃w,(rowsE e)[k]? =some w/\OgOk e w c
variable{cs:List (List IV)}
theorem BlameR.ne(h:BlameR e cs):cs≠[]:=fun he=>by
 obtain⟨left,hu,hl,_,_⟩:=h;subst he;exact hu.ne (qM.1 hl.symm)
theorem BlameR.len(h:BlameR e cs):cs.length<=2000:=by
 obtain⟨_,_,_,h,_⟩:=h;exact h
theorem BlameR.form(h:BlameR e cs){c:List IV}(hc:c∈cs):∃(k mt ix:Int) (n:Nat) (x:Move),c=[.int k,.int (n:Int),.int mt,.int ix]/\e.moves[n]? =some x:=by
 obtain⟨left,_,hl,_,hr⟩:=h;obtain⟨i,hi⟩:=qo hc;have:=(zl.1 hi).1;obtain⟨w,_,k,mt,ix,n,x,h1,h2,_⟩:=hr i left[i] c (ze (by omega)) hi;exact⟨k,mt,ix,n,x,h1,h2⟩
theorem BlameR.low(h:BlameR e cs):∃n mt ix:Int,[.int 1,.int n,.int mt,.int ix]∈cs:=by
 refine yu fun hno=> ?_;obtain⟨left,hu,hl,_,hr⟩:=h;refine hu (fun _=>0) (fun _ _=>ya) fun k hk w hw=> ?_;obtain⟨i,hi⟩:=qo hk;have hil:=(zl.1 hi).1;have hci:cs[i]? =some cs[i]:=ze (by omega);obtain⟨w',hw',hog⟩:=hr i k _ hi hci;rw[hw]at hw';cases hw';obtain⟨q,mt,ix,n,x,h1,_⟩:=id hog;rw[h1]at hog hci;refine og_zero hog fun hq=>hno ?_;subst hq;exact⟨n,mt,ix,zk hci⟩
theorem BlameR.hit(h:BlameR e cs)(hp:Pos e S):∃(k mt ix:Int) (n:Nat) (x:Move),[.int k,.int (n:Int),.int mt,.int ix]∈cs/\e.moves[n]? =some x/\(k=1\/k=2)/\S.contains x.scale=true:=by
 refine yu fun hno=> ?_;obtain⟨left,hu,hl,_,hr⟩:=h;obtain⟨v,hv⟩:=hp;refine hu v hv.pos fun k hk w hw=> ?_;obtain⟨i,hi⟩:=qo hk;have hil:=(zl.1 hi).1;have hci:cs[i]? =some cs[i]:=ze (by omega);obtain⟨w',hw',hog⟩:=hr i k _ hi hci;rw[hw]at hw';cases hw';obtain⟨q,mt,ix,n,x,h1,h2,h3 | h3⟩:=og_off (S:=S) hog
 ·rw[h1]at hci;exact absurd ⟨q,mt,ix,n,x,zk hci,h2,h3.1,h3.2⟩ hno
 ·exact hv.row w h3
end
end
section
open Go.Abs
attribute [local go_sem] ints ic
theorem su_len64(n:Nat)(h:n<=12):Ctr G.P 187 [.sc (.int .u64 n)] (fun r=>∃k,r= .int k):=by
 have d1:decide ((4294967296:Int)<=n)=false:=zw (by omega);have d2:decide ((65536:Int)<=n)=false:=zw (by omega);have d3:decide ((256:Int)<=n)=false:=zw (by omega);refine ja5 [.tmp 2] Tryz.func187 ?_;simp only[d1,d2,d3,go_sem];have w:(IntKind.u8.wrap (n:Int)).toNat=n:=by
  have:IntKind.u8.wrap (n:Int)=n:=by
   show(n:Int) % 256=n;omega
  rw[this];rfl
 rw[w];split
 ·simp only[go_sem];exact⟨_,rfl⟩
 ·rename_i heq;exfalso;rcases(by omega:n=0\/n=1\/n=2\/n=3\/n=4\/n=5\/n=6\/n=7\/n=8\/n=9\/n=10\/n=11\/n=12)with e | e | e | e | e | e | e | e | e | e | e | e | e<;>subst e<;>cases heq
end
section
open Go.Abs
attribute [local go_sem] ints ic
theorem su_len(n:Nat)(h:n<=12):Ctr G.P 149 [.sc (.int .u64 n)] (fun r=>∃k,r= .int k):=by
 have k1:=su_len64 n h;refine ja5 [.tmp 2] Tryz.func149 ?_;simp only[go_sem];refine jck k1 ?_;rintro _ ⟨k,rfl⟩;simp only[go_sem];exact⟨_,rfl⟩
theorem su_nan(x:Int):Ctr G.P 150 [.int x] (· = .bool false):=by
 have h:decide (x=x)=true:=zh rfl;refine ja5 [.tmp 2] Tryz.func150 ?_;simp only[go_sem]
theorem su_less(x y:Int):Ctr G.P 209 [.int x,.int y] (· = .bool (decide (x<y))):=by
 have k:=su_nan x;refine ja5 [.tmp 4] Tryz.func209 ?_;simp only[go_sem];refine ja1 k ?_;simp only[go_sem]
def swapF(f:Nat->Int)(j:Nat)(k:Nat):Int:=if k=j-1 then f j else if k=j then f (j-1)else f k
structure InsI(n i j:Nat)(f0 f:Nat->Int):Prop where
 perm:(tab n f).Perm (tab n f0)
 asc:∀p q,p<q->q<=i->p≠j->q≠j->f p<=f q
 low:∀q,j<q->q<=i->f j<=f q
 le:j<=i
structure InsO(n i:Nat)(f0 f:Nat->Int):Prop where
 perm:(tab n f).Perm (tab n f0)
 asc:∀p q,p<q->q<i->f p<=f q
theorem InsO.start{n i:Nat}{f0 f:Nat->Int}(h:InsO n i f0 f):InsI n i i f0 f where
 perm:=h.perm
 asc:=fun p q h1 h2 _ h4=>h.asc p q h1 (by omega)
 low:=fun q h1 h2=>by omega
 le:=zt _
theorem InsI.done{n i j:Nat}{f0 f:Nat->Int}(h:InsI n i j f0 f)(hj:j=0\/f (j-1)<=f j):InsO n (i+1) f0 f where
 perm:=h.perm
 asc:=fun p q h1 h2=>by
  by_cases e1:p=j
  ·subst e1;exact h.low q h1 (by omega)
  by_cases e2:q=j
  ·subst e2;rcases hj with hj | hj
   ·omega
   ·by_cases e3:p=q-1
    ·rw[e3];exact hj
    ·exact Int.le_trans (h.asc p (q-1) (by omega) (by omega) (by omega) (by omega)) hj
  ·exact h.asc p q h1 (by omega) e1 e2
theorem InsI.swap{n i j:Nat}{f0 f:Nat->Int}(h:InsI n i j f0 f)(hj:0<j)(hn:i<n)(hl:f j<f (j-1)):InsI n i (j-1) f0 (swapF f j) where
 perm:=by
  refine .trans ?_ h.perm;have h1:j<(tab n f).length:=by rw[jaa];have:=h.le;omega
  have h2:j-1<(tab n f).length:=by rw[jaa];have:=h.le;omega
  have:=List.set_set_perm h1 h2;have e1:(tab n f)[j]=f j:=yE (by rw[<-ze h1,jcw (by rw[jaa]at h1;exact h1)]);have e2:(tab n f)[j-1]=f (j-1):=yE (by rw[<-ze h2,jcw (by rw[jaa]at h2;exact h2)]);rw[e1,e2,jgi,jgi]at this;exact this
 asc:=fun p q h1 h2 h3 h4=>by
  have hle:=h.le;unfold swapF;rw[zn h3,zn h4];by_cases e2:q=j
  ·rw[zm e2,zn (by omega)];exact h.asc p (j-1) (by omega) (by omega) (by omega) (by omega)
  ·rw[zn e2];by_cases e1:p=j
   ·rw[zm e1];exact h.asc (j-1) q (by omega) h2 (by omega) e2
   ·rw[zn e1];exact h.asc p q h1 h2 e1 e2
 low:=fun q h1 h2=>by
  have hle:=h.le;unfold swapF;rw[zm rfl,zn (by omega)];by_cases e2:q=j
  ·rw[zm e2];omega
  ·rw[zn e2];exact h.low q (by omega) h2
 le:=by have:=h.le;omega
theorem swap_row{n j:Nat}{f:Nat->Int}:((tab n fun k=>[IV.int (f k)]).set j [.int (f (j-1))]).set (j-1) [.int (f j)]=tab n fun k=>[IV.int (swapF f j k)]:=by
 rw[jgi,jgi];refine jar fun k _=> ?_;unfold swapF;by_cases e:k=j-1
 ·rw[zm e,zm e]
 ·rw[zn e,zn e];by_cases e':k=j
  ·rw[zm e',zm e']
  ·rw[zn e',zn e']
theorem su_ins{b n:Nat}(f:Nat->Int)(hn:n<=12):CtrH G.P 203 [.im (.ref b 3 1 n),.im (.int 0),.im (.int n)] [(hp b,1,tab n fun k=>[.int (f k)])]
  (fun r L'=>∃g:Nat->Int,InsO n n f g/\L'=[(hp b,1,tab n fun k=>[.int (g k)])]):=by
 have hne:=fun(d:Nat) (h:d<100000)=>hp_ne (n:=d) (b:=b) h;obtain⟨f0,hf0⟩:∃f0,f0=f:=⟨_,rfl⟩;rw[<-hf0];refine jao [] [] [] Tryz.func203 ?_;simp only[go_sem];refine jap [0,1,2,6] (fun g:Nat×(Nat->Int)=>⟨[(0,.im (.ref b 3 1 n)),(1,.im (.int 0)),(2,.im (.int n)),(6,.im (.int g.1))],[(hp b,1,tab n fun k=>[.int (g.2 k)])],[]⟩)
  (fun g=>1<=g.1/\InsO n g.1 f0 g.2) (fun g=>n-g.1) (1,f0) ?_ (SubR.of_eq rfl) rfl ⟨zt _,⟨.refl _,fun p q h1 h2=>by omega⟩⟩ ?_
 ·simp only[show IntKind.i64.wrap 1=1 from rfl,Int.natCast_one,go_sem]
 rintro⟨i,f⟩ ⟨hi,hO⟩;dsimp only at hi hO⊢;by_cases hp':(i:Int)<n
 ·have hd:decide ((i:Int)<n)=true:=zh hp';simp only[hd,go_sem];refine jap [0,1,2,6,7] (fun g:Nat×(Nat->Int)=>⟨[(0,.im (.ref b 3 1 n)),(1,.im (.int 0)),(2,.im (.int n)),(6,.im (.int i)),(7,.im (.int g.1))],[(hp b,1,tab n fun k=>[.int (g.2 k)])],[]⟩)
   (fun g=>InsI n i g.1 f0 g.2) (fun g=>g.1) (i,f) ?_ (SubR.of_eq rfl) rfl hO.start ?_
  ·simp only[go_sem]
  rintro⟨j,f⟩ hI;dsimp only at hI⊢;have hj:=hI.le;have hin:i<n:=by omega
  by_cases hj0:(0:Int)<j
  ·have hd:decide ((0:Int)<j)=true:=zh hj0;have hjn:(j:Int)<n:=by omega
   have hj0':(0:Int)<=j:=by omega
   have w1:=ja7 (n:=(j:Int)-1) (by omega);have hj1:(0:Int)<=(j:Int)-1:=by omega
   have hj2:(j:Int)-1<n:=by omega
   have t1:((j:Int)-1).toNat=j-1:=by omega
   have g1:(tab n fun k=>[IV.int (f k)])[j]? =some [.int (f j)]:=jcw (by omega);have g2:(tab n fun k=>[IV.int (f k)])[j-1]? =some [.int (f (j-1))]:=jcw (by omega);have kl:=su_less (f j) (f (j-1));simp only[hd,go_sem];refine jae 15 ?_;simp only[hd,hjn,hj0',w1,hj1,hj2,t1,g1,g2,Int.toNat_natCast,jaa,go_sem];refine ja4 kl (by decide) ?_;simp only[go_sem];refine jc1 (fun he=> ?_) (fun he=> ?_)
   ·have g3:((tab n fun k=>[IV.int (f k)]).set j [.int (f (j-1))])[j-1]? =some [.int (f (j-1))]:=by rw[yI (by omega),g2]
    have hsw:=swap_row (n:=n) (j:=j) (f:=f);simp only[he,go_sem];refine jam ?_;simp only[hjn,hj0',w1,hj1,hj2,t1,g1,g2,g3,Int.toNat_natCast,jaa,go_sem];refine ja6 (j-1,swapF f j) ?_ (SubR.of_eq ?_) rfl (by dsimp only;omega) (hI.swap (by omega) hin (zJ he))
    ·have e:((j-1:Nat):Int)=(j:Int)-1:=by omega
     simp only[e,w1,go_sem]
    ·dsimp only;rw[<-hsw]
   ·have h1:=ja7 (n:=(i:Int)+1) (by omega);simp only[he,go_sem];refine ja6 (i+1,f) ?_ (SubR.of_eq rfl) rfl (by dsimp only;omega) ⟨by dsimp only;omega,hI.done (.inr (by have:=zN he;omega))⟩;simp only[h1,Int.natCast_add,go_sem]
  ·have hd0:decide ((0:Int)<j)=false:=zw hj0;have h1:=ja7 (n:=(i:Int)+1) (by omega);simp only[hd0,go_sem];refine jae 15 ?_;simp only[hd0,go_sem];refine ja6 (i+1,f) ?_ (SubR.of_eq rfl) rfl (by dsimp only;omega) ⟨by dsimp only;omega,hI.done (.inl (by omega))⟩;simp only[h1,Int.natCast_add,go_sem]
 ·have hd0:decide ((i:Int)<n)=false:=zw hp';simp only[hd0,go_sem];refine jb7 [(hp b,1,tab n fun k=>[.int (f k)])] (jad jaq) (SubR.of_eq rfl) ?_;simp only[go_sem];exact⟨f,⟨hO.perm,fun p q h1 h2=>hO.asc p q h1 (by omega)⟩,rfl⟩
end
section
open Go.Abs
attribute [local go_sem] ints ic
theorem su_pdq{b n:Nat}(f:Nat->Int)(hn:n<=12)(k:Int):CtrH G.P 174 [.im (.ref b 3 1 n),.im (.int 0),.im (.int n),.im (.int k)] [(hp b,1,tab n fun k=>[.int (f k)])]
  (fun r L'=>r= .im (.tup [])/\∃g:Nat->Int,InsO n n f g/\L'=[(hp b,1,tab n fun k=>[.int (g k)])]):=by
 have hne:=fun(d:Nat) (h:d<100000)=>hp_ne (n:=d) (b:=b) h;have ki:=su_ins (b:=b) f hn;have w1:=ja7 (n:=(n:Int)) (by omega);have hd:decide ((n:Int)<=12)=true:=zh (by omega);refine jao [] [] [] Tryz.func174 ?_;simp only[go_sem];refine jap [0,1,2,3] (fun _:Unit=>⟨[(0,.im (.ref b 3 1 n)),(1,.im (.int 0)),(2,.im (.int n)),(3,.im (.int k))],[(hp b,1,tab n fun k=>[.int (f k)])],[]⟩)
  (fun _=>True) (fun _=>0) () ?_ (SubR.of_eq rfl) rfl trivial ?_
 ·simp only[go_sem]
 intro _ _;simp only[w1,hd,jh,go_sem];refine jai ki (by decide) rfl (jad jaq) (SubR.of_eq rfl) ?_;rintro r _ ⟨g,hg,rfl⟩ _;refine⟨_,jba,?_⟩;simp only[go_sem];refine jb7 [(hp b,1,tab n fun k=>[.int (g k)])] (jad jaq) (SubR.of_eq rfl) ?_;simp only[go_sem];exact⟨g,hg,rfl⟩
theorem su_sort{b n:Nat}(f:Nat->Int)(hn:n<=12):CtrH G.P 137 [.im (.ref b 3 1 n)] [(hp b,1,tab n fun k=>[.int (f k)])]
  (fun r L'=>r= .im (.tup [])/\∃g:Nat->Int,InsO n n f g/\L'=[(hp b,1,tab n fun k=>[.int (g k)])]):=by
 have hne:=fun(d:Nat) (h:d<100000)=>hp_ne (n:=d) (b:=b) h;have kl:=su_len n hn;have w1:IntKind.u64.wrap (n:Int)=n:=u64_in n (by omega);refine jao [] [] [] Tryz.func137 ?_;simp only[w1,go_sem];refine jck kl ?_;rintro _ ⟨k,rfl⟩;have kp:=su_pdq (b:=b) f hn k;simp only[go_sem];refine jai kp (by decide) rfl (jad jaq) (SubR.of_eq rfl) ?_;rintro r _ ⟨rfl,g,hg,rfl⟩ _;refine⟨_,jba,?_⟩;simp only[go_sem];refine jb7 [(hp b,1,tab n fun k=>[.int (g k)])] (jad jaq) (SubR.of_eq rfl) ?_;simp only[go_sem];exact⟨g,hg,rfl⟩
end
section
open Go.Abs
attribute [local go_sem] ints ic
def dedF(f:Nat->Int):Nat->List Int
 | 0=>[]
 | 1=>[f 0]
 | i+2=>dedF f (i+1)++if f (i+1)=f i then []else [f (i+1)]
theorem ded_mem{f:Nat->Int}{x:Int}:∀{i:Nat},x∈dedF f i↔∃k,k<i/\f k=x
 | 0=>by simp[dedF]
 | 1=>by
  rw[dedF,zC];constructor
  ·rintro rfl;exact⟨0,by omega,rfl⟩
  ·rintro⟨k,hk,rfl⟩;rw[show k=0 by omega]
 | i+2=>by
  rw[dedF,qj,ded_mem (i:=i+1)];constructor
  ·rintro(⟨k,hk,rfl⟩ | h)
   ·exact⟨k,by omega,rfl⟩
   ·split at h
    ·cases h
    ·rw[zC.1 h];exact⟨i+1,by omega,rfl⟩
  ·rintro⟨k,hk,rfl⟩;by_cases e:k=i+1
   ·subst e;by_cases h:f (i+1)=f i
    ·exact .inl ⟨i,by omega,h.symm⟩
    ·rw[zn h];exact .inr (zC.2 rfl)
   ·exact .inl ⟨k,by omega,rfl⟩
theorem jri{f:Nat->Int}{n:Nat}(h:∀p q,p<q->q<n->f p<=f q):∀{i:Nat},i<=n->(dedF f i).Pairwise (· < ·)
 | 0,_=> .nil
 | 1,_=>by rw[dedF];exact vg _ _
 | i+2,hi=>by
  rw[dedF];split
  ·rw[zX];exact jri h (by omega)
  ·rename_i hne;rw[vA];refine⟨jri h (by omega),vg _ _,fun x hx y hy=> ?_⟩;rw[zC.1 hy];obtain⟨k,hk,rfl⟩:=ded_mem.1 hx;have h1:=h i (i+1) (by omega) (by omega);by_cases e:k=i
   ·subst e;omega
   ·have:=h k i (by omega) (by omega);omega
