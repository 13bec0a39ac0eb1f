/- A part of the proof. No further condition. -/
import Derived.Test.YtgncgpfjldefpaaGreatKN11
import Derived.Test.YtgncgpfjldefpaaGreatKN12
set_option linter.all false
set_option maxRecDepth 10000000
set_option maxHeartbeats 16000000
namespace Go.Proofs.YtgncgpfjldefpaaGreat
section
open Go.Abs
attribute [local go_sem] ints ic Bat.c Pap.c Led.c
theorem pb_cloneB(l:List Bat)(hne:l≠[])(hl:l.length<=100000):
  CtrH G.P 99 [.im (.sl (l.map Bat.c))] [] (fun r L'=>∃X,r= .im (.ref X 52 2 l.length)/\blks L'/\Abs.look L' (hp X)=some (2,l.map Bat.c)/\∀k,k≠hp X->Abs.look L' k=none):=by
 have hne':l.map Bat.c≠[]:=fun h=>hne (ju.1 h);have hlen:∀(c:List IV),c∈l.map Bat.c->c.length=2:=fun c hc=>by
  obtain⟨z,_,rfl⟩:=qy.1 hc;rfl
 refine jao [7] [] [.tmp 2] Tryz.func99 ?_;simp only[go_sem];refine jol (fun h=>absurd h hne') ?_;simp only[hne',go_sem];refine And.intro hlen (And.intro (by omega) (jff (fun X hX=> ?_)));clear hX;simp only[zw,go_sem];obtain⟨M,hM,b1,l1,n1⟩:∃M:Abs.Rows,M=[(hp X,2,l.map Bat.c)]/\blks M/\Abs.look M (hp X)=some (2,l.map Bat.c)/\∀k,k≠hp X->Abs.look M k=none:=
  ⟨_,rfl,jaq jb2,ja2 _ _ _,fun k hk=>by rw[ja0 _ _ hk];rfl⟩
 refine jba M b1 (SubR.of_eq hM) ?_;simp only[go_sem];exact⟨X,rfl,b1,l1,n1⟩
end
end Go.Proofs.YtgncgpfjldefpaaGreat
namespace Go.Abs
section
section
variable{G:Ctx}{N:Nat}{w0:Base}{M0:Nat->Nat->Prop}
def blist(G:Ctx)(K:St->Prop):List Oper->St->Prop
 | [],st=>K st
 | o::r,st=>o.guard=none/\(aop G o (fun s=>blist G K r s) st\/spN1 G st o fun av R'=>blist G K r ((⟨st.fr,R',st.toks⟩:St).put o.dst av))
theorem jlz(hG:G.Good){ops:Array Oper}{K:St->Prop}{Q':Exit->Act->World->Prop}(hK:∀st' β' a' w',K st'->Sim N w0 M0 β' st' a' w'->Q' .normal a' w'):
  ∀(l:List Oper) (st:St) (β:Nat->Option Nat) (a:Act) (w:World),(∀o∈l,∀d,o.dst=some d->d<N)->blist G K l st->Sim N w0 M0 β st a w->wpList G.P ops Q' l a w
 | [],st,β,a,w,_,hA,h=>hK st β a w hA h
 | o::l,st,β,a,w,hd,hA,h=>by
  have ih:=jlz hG (ops:=ops) hK l;have hd0:=hd o (by simp);have hd':∀o∈l,∀d,o.dst=some d->d<N:=fun o ho=>hd o (by simp[ho]);obtain⟨hg,hA⟩:=hA;unfold wpList;have hw:Region.wanted o (yielded ops a.tmps)=true:=by simp[Region.wanted,hg]
  rw[zm hw];rcases hA with hA | hA
  ·exact .inl (je7 hG h hd0 hA fun st' β' a' w' hk hs=>ih st' β' a' w' hd' hk hs)
  ·exact .inl (jp5 hG h hd0 hA fun av R' β' a' w' hk hs=>ih _ β' a' w' hd' hk hs)
def SemC(G:Ctx)(N:Nat)(c:Code)(Q:Exit->St->Prop)(st:St):Prop:=∀(w0:Base) (M0:Nat->Nat->Prop) (β:Nat->Option Nat) (a:Act) (w:World),Sim N w0 M0 β st a w->c.wp G.P (liftQ N w0 M0 Q) a w
theorem SemC.awp{c:Code}{Q:Exit->St->Prop}{st:St}(hG:G.Good)(hd:dstB N c=true)(h:awp G c Q st):SemC G N c Q st:=fun w0 M0 β a w hs=>jhg hG c Q st β a w hd h hs
theorem SemC.seq{x y:Code}{Q:Exit->St->Prop}{st:St}(h:SemC G N x (fun e s=>match e with | .normal=>SemC G N y Q s | e=>Q e s) st):SemC G N (x.seq y) Q st:=fun w0 M0 β a w hs=>by
 refine wp_seq (wp_mono (h w0 M0 β a w hs) fun e a' w' hq=> ?_);obtain⟨β',st',hq,hs'⟩:=hq;cases e with
 | normal=>exact hq w0 M0 β' a' w' hs'
 | _=>exact⟨β',st',hq,hs'⟩
theorem SemC.list{id:Nat}{ops:List Oper}{Q:Exit->St->Prop}{st:St}(hG:G.Good)(hd:dstsB N ops=true)(h:blist G (Q .normal) ops st):SemC G N (.region id ops.toArray false) Q st:=fun w0 M0 β a w hs=>
 wp_region_list (by simpa using jlz (ops:=ops.toArray) hG (fun st' β' a' w' hk hs=>⟨β',st',hk,hs⟩) ops st β a w (dsts_of hd) h hs)
theorem spN1_app0{st:St}{d:Tmp}{t e:TypeId}{s x:Operand}{ty:TypeId}{pos:String}{af:Array Edge}{T:AV->Rows->Prop}(hk:(G.ti t).kind= .sl e)(hs:evO st s= .sx [])(hx:jcj (evO st x)=some [])(h1:(G.ti t).size≠0)(h2:(G.ti e).size≠0)(h3:(G.ti e).bytes≠0)
  (hT:T (.sx []) st.rows):spN1 G st ⟨some d,.call ⟨.builtin .append, #[s,x], #[t,t]⟩,ty,pos,af,none⟩ T:=by
 unfold spN1 spZ1;dsimp only;rw[zm (show isSp _=true from rfl)];unfold sp;dsimp only;rw[hk];exact⟨rfl,[],hx,h1,h2,h3,fun c hc=>(by cases hc),.inr (.inr ⟨by rw[hs];rfl,rfl,by rw[hs];exact hT⟩)⟩
theorem ctrE_of(hG:G.Good){f:FuncId}{fn:Func}{c:Code}{xs:List IV}{t:Tmp}(hf:G.P.funcs[f]? =some fn)(hb:fn.body=some c)(hd:dstC fn.ntmps c=true)(hn:xs.length<=fn.ntmps)(hr:fn.results.toList=[.tmp t])
  (h:SemC G fn.ntmps c (fun e s=>match e with | .normal=>s.get t= .sx [] | .ret=>s.get t= .sx [] | _=>False) (jbk (xs.map .im) [])):CtrH G.P f (xs.map .im) [] (fun r L'=>r= .im .emp/\L'=[]):=by
 obtain⟨hN,_⟩:=jls hd;intro w M vs hM hrows hlen hargs;rw[zw]at hlen;refine calls_of_wp hf hb ?_;have hMo:∀b o,Mo M pβ (jbk (xs.map .im) []) b o->MoH M [] b o:=by
  rintro b o (hm | ⟨d,s,es,hd,hb⟩ | ⟨d,s,n,hd,_⟩)
  ·exact .inl hm
  ·simp[jbk,look]at hd
  ·simp[jbk,look]at hd
 have hsim:Sim fn.ntmps (Base.exH w []) M pβ (jbk (xs.map .im) []) {tmps:=vs.toArray++Array.replicate (fn.ntmps-vs.toArray.size) undef,defers:=[]} w:=by
  refine⟨by simp;omega,rfl,Base.Fr.refl _,fun b o hm=>⟨hM b o hm,rfl⟩,fun t=> ?_,fun d s es hd=>by simp[jbk,look]at hd,fun d s n hd=>by simp[jbk,look]at hd,fun d d' b h1 h2 hb hb'=> ?_,fun d _=>rfl,fun k _ hk hr=>by simp[jbk,look]at hr,hN,pβ_hp⟩
  ·have hg:=jgo (xs.map .im) 0 t;rw[zm (zF _),Nat.sub_zero]at hg;have hg2:(jbk (xs.map .im) []).get t=(look (jgm 0 (xs.map .im)) t).getD .und:=rfl;rw[hg2,hg];cases hx:(xs.map AV.im)[t]? with
   | none=>trivial
   | some x=>
    have htl:t<vs.length:=by rw[hlen];have:=(zt.1 hx).1;simpa using this
    have hv:(vs.toArray++Array.replicate (fn.ntmps-vs.toArray.size) undef).getD t undef=vs[t]:=by
     simp[jk,htl]
    show RepA _ _ _ _ _ _;rw[hv];exact(hargs t x _ hx (ze htl)).move (Kept.less w hMo) (fun _ _=>rfl) (fun _ _ _ _ hl=>hl) (fun _ _ _ _ _=>rfl) (Shp.refl _)
  ·rw[pβ_of hb,pβ_of hb']
 refine wp_mono (h _ _ _ _ _ hsim) fun e a' w' hq=> ?_;obtain⟨β,st,hq,hs⟩:=hq
 suffices hsuff:st.get t= .sx []->a'.defers=[]/\∃v,(results fn a'.tmps).run G.P w'= .ok v w'/\∃r v2 L',(r=AV.im IV.emp/\L'=[])/\Ending.returned v= .returned v2/\r.toArg=r/\(Base.exH w []).Fr w'/\
   (∀k s es,look L' k=some (s,es)->∃b,k=hp b/\((look ([]:Rows) k).isSome\/w.heap.size<=b)/\RowRep w' (MoH M L') b s es)/\RepA w' (MoH M L') pβ [] r v2 by
  cases e with
  | normal=>obtain⟨h1,v,h2,h3⟩:=hsuff hq;exact⟨h1,v,h2,h3⟩
  | ret=>obtain⟨h1,v,h2,h3⟩:=hsuff hq;exact⟨h1,v,h2,h3⟩
  | _=>exact hq.elim
 intro hq;have hrun:(results fn a'.tmps).run G.P w'= .ok (a'.tmps.getD t undef) w':=by
  rw[jee,Sem.run_bind,q8,Sem.run_map,hr];rfl
 have hv:=hs.fr t;rw[hq]at hv;obtain⟨_,ad,hv⟩:=hv;refine⟨hs.defers,_,hrun,_,_,[],⟨rfl,rfl⟩,rfl,rfl,hs.below,fun k s es hk=>(by cases hk),?_⟩;rw[hv];exact Rep.emp ad
end
end
end Go.Abs
namespace Go.Proofs.YtgncgpfjldefpaaGreat
section
open Go.Abs
attribute [local go_sem] ints ic Bat.c Pap.c Led.c
theorem jg0:CtrH G.P 99 [.im (.sl [])] [] (fun r L'=>r= .im .emp/\L'=[]):=by
 refine ctrE_of (xs:=[.sl []]) (t:=2) good Tryz.func99 rfl (by decide+kernel) (by decide) rfl ?_;refine SemC.seq ?_;refine SemC.awp good (by decide+kernel) ?_;simp only[go_sem];refine SemC.seq ?_;refine SemC.awp good (by decide+kernel) ?_;simp only[go_sem];refine jol (fun h=> ?_) ?_
 ·simp only[go_sem]
 ·simp only[go_sem];refine SemC.seq ?_;refine SemC.list good (by decide+kernel) ?_;refine⟨rfl,.inl ?_⟩;simp only[go_sem];refine⟨rfl,.inl ?_⟩;simp only[go_sem];refine⟨rfl,.inr (spN1_app0 (e:=52) rfl rfl rfl (by decide) (by decide) (by decide) ?_)⟩;refine⟨rfl,.inl ?_⟩;simp only[go_sem];refine SemC.awp good (by decide+kernel) ?_;simp only[go_sem]
