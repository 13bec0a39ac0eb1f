/- A part of the proof. No further condition. -/
import Derived.Test.YtgncgpfjldefpaaGreatKP13
import Derived.Test.YtgncgpfjldefpaaGreatKP19
set_option linter.all false
set_option maxRecDepth 10000000
set_option maxHeartbeats 16000000
namespace Go.Abs
section
open Go.RowKit (Below)
section
variable{G:Ctx}
end
section
variable{G:Ctx}{N:Nat}{w0:Base}{w:World}{M0:Nat->Nat->Prop}{β:Nat->Option Nat}{st:St}{a:Act}
theorem Sim.rowsTo(h:Sim N w0 M0 β st a w)(R:Rows)(hk:∀k,(look R k).isSome=(look st.rows k).isSome)
  (hr:∀k s es,look R k=some (s,es)->∀b,β k=some b->RowRep w (Mo M0 β st) b s es):Sim N w0 M0 β ⟨st.fr,R,st.toks⟩ a w:=by
 have key:∀k,(∃s es,look R k=some (s,es))↔∃s es,look st.rows k=some (s,es):=fun k=>by
  have:=hk k;cases h1:look R k with
  | none=>cases h2:look st.rows k with
   | none=>simp
   | some q=>simp[h1,h2]at this
  | some p=>cases h2:look st.rows k with
   | none=>simp[h1,h2]at this
   | some q=>exact⟨fun _=>⟨q.1,q.2,rfl⟩,fun _=>⟨p.1,p.2,rfl⟩⟩
 have hless:∀b o,Mo M0 β ⟨st.fr,R,st.toks⟩ b o->Mo M0 β st b o:=fun b o hm=>by
  rcases hm with hm | ⟨k,s,es,hk',hb⟩ | hm
  ·exact .inl hm
  ·obtain⟨s2,es2,h2⟩:=(key k).1 ⟨s,es,hk'⟩;exact .inr (.inl ⟨k,s2,es2,h2,hb⟩)
  ·exact .inr (.inr hm)
 have hkp:=Kept.less w hless;refine⟨h.size,h.defers,h.below,h.m0,fun t=> ?_,fun k s es hk'=> ?_,h.toks,fun k k' b h1 h2=> ?_,fun k hk'=> ?_,fun k hN hN' hk'=> ?_,h.np,h.perm⟩
 ·exact(h.fr t).move (β':=β) (toks':=st.toks) hkp (fun _ _=>rfl) (fun _ _ _ _ hl=>hl) (fun _ _ _ _ _=>rfl) (Shp.refl _)
 ·obtain⟨s2,es2,h2⟩:=(key k).1 ⟨s,es,hk'⟩;obtain⟨b,g1,g2,_⟩:=h.rows k s2 es2 h2;exact⟨b,g1,g2,(hr k s es hk' b g1).move hkp rfl⟩
 ·exact h.inj k k' b (by simpa [hk]using h1) (by simpa [hk]using h2)
 ·exact h.excl k (by rw[<-hk];exact hk')
 ·exact h.nam k hN hN' (by rw[<-hk];exact hk')
def frzC(b s:Nat)(es:List (List IV))(c:List IV):List IV:=c.map (frz1 b s es)
def St.frzR(st:St)(b:Nat):St:=
 match look st.rows (hp b)with
 | some (s,es)=>⟨(st.frz b).fr,(st.frz b).rows.map fun p=>(p.1,p.2.1,p.2.2.map (frzC b s es)),(st.frz b).toks⟩
 | none=>st
theorem Sim.frzR(h:Sim N w0 M0 β st a w)(b:Nat):Sim N w0 M0 β (st.frzR b) a w:=by
 unfold St.frzR;split
 case h_2=>exact h
 case h_1 s es hd=>
  have h1:=h.frz b;obtain⟨b',hb',hb0,hrow⟩:=h.rows _ s es hd;rw[h.perm]at hb';cases hb';have htok:look st.toks (hp b)=none:=h.excl _ (jbn hd);have e0:st.frz b=⟨st.fr.map fun p=>(p.1,p.2.frz b s es),del st.rows (hp b),st.toks⟩:=by unfold St.frz;rw[hd]
  have hless:∀b' o,Mo M0 β (st.frz b) b' o->Mo M0 β st b' o:=fun b' o hm=>by rw[e0]at hm;exact jmc hm
  have hnm:∀o,¬Mo M0 β (st.frz b) b o:=by
   rw[e0];rintro o (hm | ⟨k,s',es',hk',hkb⟩ | ⟨k,s',n,hk',hkb,_⟩)
   ·exact hb0 (h.m0 b o hm)
   ·by_cases e:k=hp b
    ·subst e;simp[ja9]at hk'
    ·exact e (h.inj k (hp b) b (.inl (by simp only[ja5 _ e]at hk';simp[hk'])) (.inl (by simp[hd])) hkb (h.perm b))
   ·have:=h.inj k (hp b) b (.inr (by simp only at hk';simp[hk'])) (.inl (by simp[hd])) hkb (h.perm b);subst this;simp only at hk';rw[htok]at hk';cases hk'
  have hrow':=hrow.move (Kept.less w hless) rfl;have hlk:∀k,look ((st.frz b).rows.map fun p=>(p.1,p.2.1,p.2.2.map (frzC b s es))) k=(look (st.frz b).rows k).map fun q:Nat×List (List IV)=>(q.1,q.2.map (frzC b s es)):=fun k=>jga _ (fun q:Nat×List (List IV)=>(q.1,q.2.map (frzC b s es))) k;refine h1.rowsTo _ (fun k=>by rw[hlk];cases look (st.frz b).rows k<;>rfl) fun k s2 es2 hk b2 hb2=> ?_;rw[hlk]at hk;obtain⟨⟨s3,es3⟩,g1,g2⟩:=zW.1 hk;cases g2;obtain⟨b3,q1,_,cur,T,q2,q3,q4⟩:=h1.rows k s3 es3 g1;rw[hb2]at q1;cases q1;refine⟨cur,T,q2,fun c hc=> ?_,fun i c j y hi hj=> ?_⟩
  ·obtain⟨c0,hc0,rfl⟩:=qg.1 hc;unfold frzC;rw[za];exact q3 c0 hc0
  ·rw[zq]at hi;obtain⟨c0,hc0,rfl⟩:=zW.1 hi;unfold frzC at hj;rw[zq]at hj;obtain⟨y0,hy0,rfl⟩:=zW.1 hj;obtain⟨o1,u,o2,o3⟩:=q4 i c0 j y0 hc0 hy0;exact⟨by rw[jr9];exact o1,u,o2,jn5 hrow' hnm o3⟩
end
section
variable{G:Ctx}
end
def tailN:Nat->Code->Code
 | 0,c=>c
 | n+1,.seq _ y=>tailN n y
 | _+1,c=>c
def putN:Nat->Code->Code->Code
 | 0,_,y=>y
 | n+1,.seq x c,y=> .seq x (putN n c y)
 | _+1,c,_=>c
section
variable{G:Ctx}
def postF(G:Ctx)(rs:List ResultVar)(φ:IV->Prop):Exit->St->Prop
 | .normal,st=> @RetF G rs st ⟨φ⟩
 | .ret,st=> @RetF G rs st ⟨φ⟩
 | _,_=>False
theorem postF_normal{rs:List ResultVar}{φ:IV->Prop}{st:St}:postF G rs φ .normal st= @RetF G rs st ⟨φ⟩:=propext ⟨fun h=>h,fun h=>h⟩
theorem postF_ret{rs:List ResultVar}{φ:IV->Prop}{st:St}:postF G rs φ .ret st= @RetF G rs st ⟨φ⟩:=propext ⟨fun h=>h,fun h=>h⟩
end
attribute [go_sem] St.frzR frzC tailN putN postF_normal postF_ret
end
section
section
variable{G:Ctx}{N:Nat}
theorem SemC.le{c:Code}{Q:Exit->St->Prop}{st S:St}(hl:St.Le st S)(h:SemC G N c Q S):SemC G N c Q st:=fun w0 M0 β a w hs=>
 let⟨β2,h2⟩:=hl N w0 M0 β a w hs;h w0 M0 β2 a w h2
def LeC(s S:St):Prop:=St.Le s S
theorem jim{s S:St}(L:List Nat)(hf:L.map (fun t=>(t,s.get t))=S.fr)(hr:SubR S.rows s.rows)(ht:S.toks=[]):LeC s S:=(St.sub_of L hf hr ht).le
def isSeq:Nat->Code->Bool
 | 0,_=>true
 | k+1,.seq _ y=>isSeq k y
 | _+1,_=>false
theorem SemC.cuts(hG:G.Good){Q:Exit->St->Prop}(S:St):∀(k:Nat) {c:Code} {st:St},isSeq k c=true->dstB N c=true->Go.Abs.awp G (putN k c .skip) (fun e s=>match e with | .normal=>LeC s S | e=>Q e s) st->SemC G N (tailN k c) Q S->SemC G N c Q st
 | 0,c,st,_,_,h1,h2=>SemC.le h1 h2
 | k+1,.seq x y,st,hs,hd,h1,h2=>by
  simp only[dstB,zD]at hd;refine SemC.seq fun w0 M0 β a w hsim=> ?_;refine wp_mono (jh3 hG x _ st β a w hd.1 h1 hsim) fun e a' w' hq=> ?_;obtain⟨β',st',hq,hs'⟩:=hq;refine⟨β',st',?_,hs'⟩;cases e with
  | normal=>exact SemC.cuts hG S k hs hd.2 hq h2
  | _=>exact hq
theorem ctrX_of(hG:G.Good){f:FuncId}{fn:Func}{c:Code}{xs:List IV}{t:Tmp}{x:IV}(hf:G.P.funcs[f]? =some fn)(hb:fn.body=some c)(hd:dstC fn.ntmps c=true)(hn:xs.length<=fn.ntmps)(hr:fn.results.toList=[.tmp t])
  (h:SemC G fn.ntmps c (fun e s=>match e with | .normal=>s.get t= .im x | .ret=>s.get t= .im x | _=>False) (jbl (xs.map .im) [])):Ctr G.P f xs (· =x):=by
 refine jgh (φ:=fun r L'=>r= .im x/\L'=[]) ?_ (fun r L' ⟨h1,h2⟩=>⟨x,[],h1,rfl⟩);obtain⟨hN,_⟩:=jky hd;intro w M vs hM hrows hlen hargs;rw[za]at hlen;refine calls_of_wp hf hb ?_;have hMo:∀b o,Mo M pβ (jbl (xs.map .im) []) b o->MoH M [] b o:=by
  rintro b o (hm | ⟨d,s,es,hd,hb⟩ | ⟨d,s,n,hd,_⟩)
  ·exact .inl hm
  ·simp[jbl,look]at hd
  ·simp[jbl,look]at hd
 have hsim:Sim fn.ntmps (Base.exH w []) M pβ (jbl (xs.map .im) []) {tmps:=vs.toArray++Array.replicate (fn.ntmps-vs.toArray.size) undef,defers:=[]} w:=by
  refine⟨by simp;omega,rfl,Base.Fr.refl _,fun b o hm=>⟨hM b o hm,rfl⟩,fun t=> ?_,fun d s es hd=>by simp[jbl,look]at hd,fun d s n hd=>by simp[jbl,look]at hd,fun d d' b h1 h2 hb hb'=> ?_,fun d _=>rfl,fun k _ hk hr=>by simp[jbl,look]at hr,hN,pβ_hp⟩
  ·have hg:=jgf (xs.map .im) 0 t;rw[zm (zI _),Nat.sub_zero]at hg;have hg2:(jbl (xs.map .im) []).get t=(look (jgd 0 (xs.map .im)) t).getD .und:=rfl;rw[hg2,hg];cases hx:(xs.map AV.im)[t]? with
   | none=>trivial
   | some x=>
    have htl:t<vs.length:=by rw[hlen];have:=(zr.1 hx).1;simpa using this
    have hv:(vs.toArray++Array.replicate (fn.ntmps-vs.toArray.size) undef).getD t undef=vs[t]:=by
     simp[jj,htl]
    show RepA _ _ _ _ _ _;rw[hv];exact(hargs t x _ hx (zk htl)).move (Kept.less w hMo) (fun _ _=>rfl) (fun _ _ _ _ hl=>hl) (fun _ _ _ _ _=>rfl) (Shp.refl _)
  ·rw[pβ_of hb,pβ_of hb']
 refine wp_mono (h _ _ _ _ _ hsim) fun e a' w' hq=> ?_;obtain⟨β,st,hq,hs⟩:=hq;have hless:∀b o,MoH M [] b o->Mo M β st b o:=by
  rintro b o (hm | hm)
  ·exact .inl hm
  ·cases hm
 suffices hsuff:st.get t= .im x->a'.defers=[]/\∃v,(results fn a'.tmps).run G.P w'= .ok v w'/\∃r v2 L',(r=AV.im x/\L'=[])/\Ending.returned v= .returned v2/\r.toArg=r/\(Base.exH w []).Fr w'/\
   (∀k s es,look L' k=some (s,es)->∃b,k=hp b/\((look ([]:Rows) k).isSome\/w.heap.size<=b)/\RowRep w' (MoH M L') b s es)/\RepA w' (MoH M L') pβ [] r v2 by
  cases e with
  | normal=>obtain⟨h1,v,h2,h3⟩:=hsuff hq;exact⟨h1,v,h2,h3⟩
  | ret=>obtain⟨h1,v,h2,h3⟩:=hsuff hq;exact⟨h1,v,h2,h3⟩
  | _=>exact hq.elim
 intro hq;have hrun:(results fn a'.tmps).run G.P w'= .ok (a'.tmps.getD t undef) w':=by
  rw[je4,Sem.run_bind,qO,Sem.run_map,hr];rfl
 have hv:=hs.fr t;rw[hq]at hv;exact⟨hs.defers,_,hrun,_,_,[],⟨rfl,rfl⟩,rfl,rfl,hs.below,fun k s es hk=>(by cases hk),Rep.less hv hless⟩
end
end
end Go.Abs
