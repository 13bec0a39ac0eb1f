/- A part of the proof. No further condition. -/
import Derived.Test.YtjcjcpebocbonaaGreatKZ3
import Derived.Laws.CopyRow
set_option linter.all false
set_option maxRecDepth 10000000
set_option maxHeartbeats 16000000
namespace Go.Abs
section
open Go.RowKit (Below)
def pβ(k:Nat):Option Nat:=if 100000<=k then some (k-100000)else none
theorem pβ_hp(b:Nat):pβ (hp b)=some b:=by unfold pβ hp;rw[iPo];simp
theorem pβ_of{k b:Nat}(h:pβ k=some b):k=hp b:=by
 unfold pβ at h;split at h
 ·have:=jJ h;unfold hp;omega
 ·cases h
theorem hp_of{k:Nat}(h:100000<=k):k=hp (k-100000):=by unfold hp;omega
def MoH(M:Nat->Nat->Prop)(L:Rows)(b o:Nat):Prop:=M b o\/(look L (hp b)).isSome
def Base.exH(w:World)(L:Rows):Base:={w:=w,P:=fun b=>b<w.heap.size/\look L (hp b)=none,lt:=fun _ h=>h.1}
def CtrH(P:Program)(f:FuncId)(args:List AV)(L:Rows)(φ:AV->Rows->Prop):Prop:=
 ∀(w:World) (M:Nat->Nat->Prop) (vs:List Value),(∀b o,M b o->b<w.heap.size)->
  (∀k s es,look L k=some (s,es)->∃b,k=hp b/\(∀o,¬M b o)/\RowRep w (MoH M L) b s es)->
  vs.length=args.length->(∀(i:Nat) av v,args[i]? =some av->vs[i]? =some v->RepA w (MoH M L) pβ [] av v)->
  Calls P f vs.toArray w fun en w'=>∃r v L',φ r L'/\en= .returned v/\r.toArg=r/\(Base.exH w L).Fr w'/\
   (∀k s es,look L' k=some (s,es)->∃b,k=hp b/\((look L k).isSome\/w.heap.size<=b)/\RowRep w' (MoH M L') b s es)/\RepA w' (MoH M L') pβ [] r v
def AV.toH:AV->AV
 | .sx es=> .im (.sl es)
 | .vec _ _ _ es=> .im (.sl es)
 | .mpo _ _ _=> .und
 | .osl d s i n=>if 100000<=d then .osl d s i n else .und
 | .gsl d e s n=>if 100000<=d then .gsl d e s n else .und
 | .loc d s i j=>if 100000<=d then .loc d s i j else .und
 | .im x=> .im x
 | .und=> .und
structure HandsH(st:St)(L:Rows):Prop where
 blk:∀k x,look L k=some x->∃b,k=hp b
 rows:∀k x,look L k=some x->look st.rows k=some x
section
variable{G:Ctx}{N:Nat}{w0:Base}{w w':World}{M M' M0:Nat->Nat->Prop}{β β':Nat->Option Nat}{st:St}{a:Act}{toks toks':List (Nat×Nat×Nat)}{av:AV}{v:Value}
theorem jc1{α:Type}{o:Option α}{x:α}(h:o=some x):o.isSome:=by rw[h];rfl
def MhH(M0:Nat->Nat->Prop)(β:Nat->Option Nat)(st:St)(L:Rows)(b o:Nat):Prop:=Mo M0 β st b o/\look L (hp b)=none
theorem HandsH.mo(h:Sim N w0 M0 β st a w){L:Rows}(H:HandsH st L){b:Nat}(hb:(look L (hp b)).isSome)(o:Nat):Mo M0 β st b o:=by
 obtain⟨⟨s,es⟩,hl⟩:=zD.1 hb;exact .inr (.inl ⟨_,s,es,H.rows _ _ hl,h.perm b⟩)
theorem jtm(h:Sim N w0 M0 β st a w){L:Rows}(H:HandsH st L){b o:Nat}(hm:MoH (MhH M0 β st L) L b o):Mo M0 β st b o:=
 hm.elim (·.1) fun hb=>H.mo h hb o
theorem Sim.handH(h:Sim N w0 M0 β st a w){L:Rows}(H:HandsH st L):(∀b o,MhH M0 β st L b o->b<w.heap.size)/\
  ∀k s es,look L k=some (s,es)->∃b,k=hp b/\(∀o,¬MhH M0 β st L b o)/\RowRep w (MoH (MhH M0 β st L) L) b s es:=by
 refine⟨fun b o hm=>h.mlt hm.1,fun k s es hk=> ?_⟩;obtain⟨b,rfl⟩:=H.blk k _ hk;obtain⟨b',h1,_,h3⟩:=h.rows _ s es (H.rows _ _ hk);rw[h.perm]at h1;cases h1;exact⟨b,rfl,fun o hm=>(by rw[hm.2]at hk;cases hk),h3.move (Kept.less w fun b o hm=>jtm h H hm) rfl⟩
theorem RepA.handH(h:Sim N w0 M0 β st a w){L:Rows}(H:HandsH st L)(hv:RepA w (Mo M0 β st) β st.toks av v):RepA w (MoH (MhH M0 β st L) L) pβ [] av.toH v:=by
 have hk:Kept w (Mo M0 β st) w (MoH (MhH M0 β st L) L):=Kept.less w fun b o hm=>jtm h H hm;have hb:∀d b,100000<=d->β d=some b->pβ d=some b:=fun d b hd hb=>by
  rw[hp_of hd,h.perm]at hb;rw[<-hb];unfold pβ;rw[zh hd]
 cases av with
 | im x=>exact Rep.kept (w:=w) hv hk
 | und=>trivial
 | sx es=>exact Rep.kept (w:=w) hv.1 hk
 | vec d e s es=>exact Rep.kept (w:=w) hv.1 hk
 | mpo d sc kvs=>trivial
 | osl d s i n=>
  simp only[AV.toH];split
  ·rename_i hd;obtain⟨ad,c,h1,h2,h3⟩:=hv;exact⟨ad,c,h1,h2,fun hn=>let⟨b,h4,h5⟩:=h3 hn;⟨b,hb d b hd h4,h5⟩⟩
  ·trivial
 | gsl d e s n=>
  simp only[AV.toH];split
  ·rename_i hd;obtain⟨b,cap,cur,h1,h2⟩:=hv;exact⟨b,cap,cur,hb d b hd h1,h2⟩
  ·trivial
 | loc d s i j=>
  simp only[AV.toH];split
  ·rename_i hd;obtain⟨b,h1,h2⟩:=hv;exact⟨b,hb d b hd h1,h2⟩
  ·trivial
theorem RepA.backH(hβ:∀b,β (hp b)=some b){M2:Nat->Nat->Prop}{r:AV}(h:RepA w M pβ [] r v)(hr:r.toArg=r)(hM:∀b o,M2 b o->M b o):RepA w M2 β toks r v:=by
 have hb:∀d b,pβ d=some b->β d=some b:=fun d b hb=>by rw[pβ_of hb,hβ]
 cases r with
 | im x=>exact Rep.kept (w:=w) h (Kept.less w hM)
 | und=>trivial
 | sx es=>simp[AV.toArg]at hr
 | vec d e s es=>simp[AV.toArg]at hr
 | osl d s i n=>
  obtain⟨ad,c,h1,h2,h3⟩:=h;exact⟨ad,c,h1,h2,fun hn=>let⟨b,h4,h5⟩:=h3 hn;⟨b,hb d b h4,h5⟩⟩
 | gsl d e s n=>
  obtain⟨b,cap,cur,h1,h2⟩:=h;exact⟨b,cap,cur,hb d b h1,h2⟩
 | loc d s i j=>
  obtain⟨b,h1,h2⟩:=h;exact⟨b,hb d b h1,h2⟩
 | mpo d sc kvs=>simp[AV.toArg]at hr
theorem Sim.afterH(h:Sim N w0 M0 β st a w){L L' R':Rows}(H:HandsH st L)(hf:(Base.exH w L).Fr w')
  (hE:∀k s es,look L' k=some (s,es)->∃b,k=hp b/\((look L k).isSome\/w.heap.size<=b)/\RowRep w' (MoH (MhH M0 β st L) L') b s es)
  (hR:∀k x,look R' k=some x->look L' k=some x\/(look L k=none/\look st.rows k=some x)):
  Sim N w0 M0 β ⟨st.fr,R',st.toks⟩ a w'/\∀b o,Mo M0 β ⟨st.fr,R',st.toks⟩ b o->MoH (MhH M0 β st L) L' b o:=by
 have b4:∀b,w0.P b->look L (hp b)=none:=fun b hb=>by
  cases hl:look L (hp b)with
  | none=>rfl
  | some x=>
   obtain⟨s,es⟩:=x;obtain⟨b',h1,h2,_⟩:=h.rows _ s es (H.rows _ _ hl);rw[h.perm]at h1;cases h1;exact absurd hb h2
 have a6:∀d b,((look st.rows d).isSome\/(look st.toks d).isSome)->β d=some b->look L d=none->look L (hp b)=none:=fun d b hd hb hn=>by
  cases hl:look L (hp b)with
  | none=>rfl
  | some x=>
   have:=h.inj d (hp b) b hd (.inl (jc1 (H.rows _ _ hl))) hb (h.perm b);rw[this,hl]at hn;cases hn
 have b0:∀d,(look st.toks d).isSome->look L d=none:=fun d hd=>by
  cases hl:look L d with
  | none=>rfl
  | some x=>
   have:=h.excl d (jc1 (H.rows _ _ hl));rw[this]at hd;cases hd
 have b2:∀d b,((look st.rows d).isSome\/(look st.toks d).isSome)->β d=some b->b<w.heap.size:=fun d b hd hb=>by
  rcases hd with hd | hd
  ·obtain⟨⟨s',es'⟩,hl⟩:=zD.1 hd;exact h.mlt (o:=0) (.inr (.inl ⟨d,s',es',hl,hb⟩))
  ·obtain⟨⟨s',n'⟩,hl⟩:=zD.1 hd;exact(h.toks d s' n' hl b hb).2
 have a7:∀b o,Mo M0 β ⟨st.fr,R',st.toks⟩ b o->MoH (MhH M0 β st L) L' b o:=by
  rintro b o (hm | ⟨d,s,es,hd,hb⟩ | ⟨d,s,n,hd,hb,ho⟩)
  ·exact .inl ⟨.inl hm,b4 b (h.m0 b o hm)⟩
  ·rcases hR d _ hd with h1 | ⟨h1,h2⟩
   ·obtain⟨b',rfl,_⟩:=hE d s es h1;rw[h.perm]at hb;cases hb;exact .inr (jc1 h1)
   ·exact .inl ⟨.inr (.inl ⟨d,s,es,h2,hb⟩),a6 d b (.inl (jc1 h2)) hb h1⟩
  ·have hd:look st.toks d=some (s,n):=hd;exact .inl ⟨.inr (.inr ⟨d,s,n,hd,hb,ho⟩),a6 d b (.inr (jc1 hd)) hb (b0 d (jc1 hd))⟩
 have a1:∀b,b<w.heap.size->look L (hp b)=none->w'.heap[b]? =w.heap[b]? :=fun b h1 h2=>hf.block b ⟨h1,h2⟩;have a8:∀b o,b<w.heap.size->Mo M0 β ⟨st.fr,R',st.toks⟩ b o->Mo M0 β st b o:=fun b o hb hm=>by
  rcases a7 b o hm with hm | hm
  ·exact hm.1
  ·obtain⟨⟨s,es⟩,hl⟩:=zD.1 hm;obtain⟨b',h1,h2,_⟩:=hE _ s es hl;rw[hp_inj]at h1;subst h1;rcases h2 with h2 | h2
   ·exact H.mo h h2 o
   ·omega
 have b1:Kept w (Mo M0 β st) w' (Mo M0 β ⟨st.fr,R',st.toks⟩):=by
  have b5:∀b o,¬Mo M0 β st b o->look L (hp b)=none:=fun b o hn=>by
   cases hl:look L (hp b)with
   | none=>rfl
   | some x=>exact absurd (H.mo h (jc1 hl) o) hn
  refine⟨fun b o u hc hn=> ?_,fun b b9 c hc hn=> ?_,hf.shp⟩
  ·have hb:b<w.heap.size:=World.block_lt_of_cell? (a:=⟨b,o,none⟩) w hc;refine⟨?_,fun hm=>hn (a8 b o hb hm)⟩;rw[World.cell?_of_block (w:=w) (a:=⟨b,o,none⟩) (a1 b hb (b5 b o hn))];exact hc
  ·have hb:b<w.heap.size:=(zm.1 hc).1;refine⟨?_,fun hm=>hn (a8 b 0 hb hm)⟩;rw[a1 b hb (b5 b 0 hn)];exact hc
 have b8:w0.Fr w':=⟨hf.os.trans h.below.os,hf.tape.trans h.below.tape,hf.output.trans h.below.output,qH h.below.size hf.size,fun k hk=>by
  rw[a1 k (qw (w0.lt k hk) h.below.size) (b4 k hk)];exact h.below.block k hk,h.below.shp.trans hf.shp⟩
 refine⟨⟨h.size,h.defers,b8,h.m0,fun t=> ?_,fun d s es hd=> ?_,fun d s n hd b hb=> ?_,fun d d' b h1 h2 hb b3=> ?_,fun d hd=> ?_,fun k hN b6 hk=> ?_,h.np,h.perm⟩,a7⟩
 ·exact(h.fr t).move b1 (fun _ _=>rfl) (fun _ _ _ _ hl=>hl) (fun d b hl _ hb=>a1 b (b2 d b (.inr hl) hb) (a6 d b (.inr hl) hb (b0 d hl))) hf.shp
 ·rcases hR d _ hd with h1 | ⟨h1,h2⟩
  ·obtain⟨b,rfl,h3,h4⟩:=hE d s es h1;refine⟨b,h.perm b,?_,h4.move (Kept.less w' a7) rfl⟩;rcases h3 with h3 | h3
   ·obtain⟨⟨s',es'⟩,hl⟩:=zD.1 h3;obtain⟨b',g1,g2,_⟩:=h.rows _ s' es' (H.rows _ _ hl);rw[h.perm]at g1;cases g1;exact g2
   ·exact fun hp=>absurd (qw (w0.lt _ hp) h.below.size) (by omega)
  ·obtain⟨b,g1,g2,g3⟩:=h.rows d s es h2;exact⟨b,g1,g2,g3.move b1 (a1 b (b2 d b (.inl (jc1 h2)) g1) (a6 d b (.inl (jc1 h2)) g1 h1))⟩
 ·obtain⟨h1,h2⟩:=h.toks d s n hd b hb;exact⟨h1,qw h2 hf.size⟩
 ·
  have b7:∀d,((look R' d).isSome\/(look st.toks d).isSome)->β d=some b->((look st.rows d).isSome\/(look st.toks d).isSome)\/(d=hp b/\w.heap.size<=b):=fun d hd hb=>by
   rcases hd with hd | hd
   ·obtain⟨⟨s,es⟩,hl⟩:=zD.1 hd;rcases hR d _ hl with h1 | ⟨_,h2⟩
    ·obtain⟨b',rfl,h3,_⟩:=hE d s es h1;rw[h.perm]at hb;cases hb;rcases h3 with h3 | h3
     ·obtain⟨x,hx⟩:=zD.1 h3;exact .inl (.inl (jc1 (H.rows _ _ hx)))
     ·exact .inr ⟨rfl,h3⟩
    ·exact .inl (.inl (jc1 h2))
   ·exact .inl (.inr hd)
  rcases b7 d h1 hb with g1 | ⟨g1,g2⟩<;>rcases b7 d' h2 b3 with g3 | ⟨g3,g4⟩
  ·exact h.inj d d' b g1 g3 hb b3
  ·exact absurd (b2 d b g1 hb) (by omega)
  ·exact absurd (b2 d' b g3 b3) (by omega)
  ·rw[g1,g3]
 ·obtain⟨⟨s,es⟩,hl⟩:=zD.1 hd;rcases hR d _ hl with h1 | ⟨_,h2⟩
  ·obtain⟨b,rfl,h3,_⟩:=hE d s es h1;rcases h3 with h3 | h3
   ·obtain⟨x,hx⟩:=zD.1 h3;exact h.excl _ (jc1 (H.rows _ _ hx))
   ·exact(h.none_at h3).2
  ·exact h.excl d (jc1 h2)
 ·obtain⟨⟨s,es⟩,hl⟩:=zD.1 hk;rcases hR k _ hl with h1 | ⟨_,h2⟩
  ·obtain⟨b,rfl,_⟩:=hE k s es h1;unfold hp at b6;omega
  ·exact h.nam k hN b6 (jc1 h2)
def frz1(b s:Nat)(es:List (List IV)):IV->IV
 | .emp=> .sl []
 | .ref b' e s' n=>if b'=b/\s'=s/\n<=es.length then .sl (es.take n)else .ref b' e s' n
 | x=>x
def frz2(b s:Nat)(es:List (List IV)):IV->IV
 | .agg cs=> .agg (cs.map (frz1 b s es))
 | x=>frz1 b s es x
def frz3(b s:Nat)(es:List (List IV)):IV->IV
 | .tup cs=> .tup (cs.map (frz2 b s es))
 | x=>frz2 b s es x
theorem jt4(b s:Nat)(es:List (List IV))(x:IV):(frz1 b s es x).one=x.one:=by
 cases x<;>simp only[frz1]
 ·split<;>rfl
 ·rfl
theorem jot{b s:Nat}{es:List (List IV)}(a6:RowRep w M b s es)(hn:∀o,¬M b o){x:IV}(h:Rep w M x v):Rep w M (frz1 b s es x) v:=by
 cases x with
 | ref b' e s' n=>
  simp only[frz1];split
  ·rename_i hc;obtain⟨rfl,rfl,hle⟩:=hc;cases h with
   | ref _ _ _ _ cap cur h1 h2 h3 h4=>
    obtain⟨a7,T,g1,g2,g3⟩:=a6;rw[h1]at g1;cases g1;have hlen:(es.take n).length=n:=by simp;omega
    by_cases hz:n=0
    ·subst hz;exact .nil _ _
    ·have:=Rep.sl (w:=w) (M:=M) (es.take n) s' b' 0 cap (fun i j=>cur.getD (i*s'+j) undef) (fun e=>by rw[e]at hlen;simp at hlen;omega)
      (fun c hc=>g2 c (yz hc)) (by omega)
      (fun i c j x hi hj=>by
       have a1:es[i]? =some c:=by
        rw[qy]at hi;split at hi
        ·exact hi
        ·cases hi
       obtain⟨k1,u,k2,k3⟩:=g3 i c j x a1 hj;have hg:cur.getD (i*s'+j) undef=u:=by simp[k2]
       refine⟨k1,?_,hn _⟩;rw[qi,hg,cell_of_row w b' _ cur e _ h1,k2])
      (fun i c j x hi hj=>by
       have a1:es[i]? =some c:=by
        rw[qy]at hi;split at hi
        ·exact hi
        ·cases hi
       obtain⟨k1,u,k2,k3⟩:=g3 i c j x a1 hj;have hg:cur.getD (i*s'+j) undef=u:=by simp[k2]
       show Rep w M x (cur.getD (i*s'+j) undef);rw[hg];exact k3)
     rw[hlen]at this;exact this
  ·exact h
 | emp=>
  cases h with
  | emp a=>exact .nil _ _
 | _=>exact h
theorem jt3{b s:Nat}{es:List (List IV)}(a1:RowRep w M b s es)(hn:∀o,¬M b o){x:IV}(h:Rep w M x v):Rep w M (frz2 b s es x) v:=by
 cases x with
 | agg cs=>
  cases h with
  | agg _ vs h1 h2 h3=>
   refine .agg _ vs (by simpa using h1) (fun x hx=> ?_) (fun k x v hx hv=> ?_)
   ·obtain⟨y,hy,rfl⟩:=z8.1 hx;rw[jt4];exact h2 y hy
   ·rw[zq]at hx;obtain⟨y,hy,rfl⟩:=qz.1 hx;exact jot a1 hn (h3 k y v hy hv)
 | _=>exact jot a1 hn h
theorem jt2{b s:Nat}{es:List (List IV)}(a1:RowRep w M b s es)(hn:∀o,¬M b o){x:IV}(h:Rep w M x v):Rep w M (frz3 b s es x) v:=by
 cases x with
 | tup cs=>
  cases h with
  | tup _ vs h1 h3=>
   refine .tup _ vs (by simpa using h1) (fun k x v hx hv=> ?_);rw[zq]at hx;obtain⟨y,hy,rfl⟩:=qz.1 hx;exact jt3 a1 hn (h3 k y v hy hv)
 | _=>exact jt3 a1 hn h
def AV.frz(b s:Nat)(es:List (List IV)):AV->AV
 | .im x=> .im (frz3 b s es x)
 | .osl d s' i n=>if d=hp b then .und else .osl d s' i n
 | .gsl d e s' n=>if d=hp b then .und else .gsl d e s' n
 | .loc d s' i j=>if d=hp b then .und else .loc d s' i j
 | x=>x
def St.frz(st:St)(b:Nat):St:=
 match look st.rows (hp b)with
 | some (s,es)=>⟨st.fr.map fun p=>(p.1,p.2.frz b s es),del st.rows (hp b),st.toks⟩
 | none=>st
theorem Sim.frz(h:Sim N w0 M0 β st a w)(b:Nat):Sim N w0 M0 β (st.frz b) a w:=by
 unfold St.frz;split
 case h_2=>exact h
 case h_1 s es hd=>
  obtain⟨b',b3,b5,b1⟩:=h.rows _ s es hd;rw[h.perm]at b3;cases b3;have a6:look st.toks (hp b)=none:=h.excl _ (jc1 hd);have b0:∀b' o,Mo M0 β ⟨st.fr.map fun p=>(p.1,p.2.frz b s es),del st.rows (hp b),st.toks⟩ b' o->Mo M0 β st b' o:=fun b' o hm=>jnu hm;have hk:=Kept.less w b0;have b4:∀o,¬Mo M0 β ⟨st.fr.map fun p=>(p.1,p.2.frz b s es),del st.rows (hp b),st.toks⟩ b o:=by
   rintro o (hm | ⟨k,s',es',a1,hkb⟩ | ⟨k,s',n,a1,hkb,_⟩)
   ·exact b5 (h.m0 b o hm)
   ·by_cases e:k=hp b
    ·subst e;simp[jab]at a1
    ·exact e (h.inj k (hp b) b (.inl (by simp only[ja9 _ e]at a1;simp[a1])) (.inl (by simp[hd])) hkb (h.perm b))
   ·have:=h.inj k (hp b) b (.inr (by simp only at a1;simp[a1])) (.inl (by simp[hd])) hkb (h.perm b);subst this;simp only at a1;rw[a6]at a1;cases a1
  have a8:=b1.move hk rfl;refine⟨h.size,h.defers,h.below,h.m0,fun t=> ?_,fun k s' es' a1=> ?_,h.toks,fun k k' b2 h1 h2=> ?_,fun k a1=> ?_,fun k hN b6 a1=> ?_,h.np,h.perm⟩
  case refine_5=>
   by_cases e:k=hp b
   ·subst e;simp[jab]at a1
   ·exact h.nam k hN b6 (by simpa [ja9 _ e]using a1)
  ·have hg:(⟨st.fr.map fun p=>(p.1,p.2.frz b s es),del st.rows (hp b),st.toks⟩:St).get t=(st.get t).frz b s es:=by
    simp only[St.get];rw[jhw];cases look st.fr t<;>rfl
   rw[hg];have a7:=(h.fr t).move (β':=β) (toks':=st.toks) hk (fun _ _=>rfl) (fun _ _ _ _ hl=>hl) (fun _ _ _ _ _=>rfl) (Shp.refl _);generalize st.get t=av at a7;cases av with
   | im x=>exact jt2 a8 b4 a7
   | osl d s' i n=>simp only[AV.frz];split<;>first | trivial | exact a7
   | gsl d e s' n=>simp only[AV.frz];split<;>first | trivial | exact a7
   | loc d s' i j=>simp only[AV.frz];split<;>first | trivial | exact a7
   | _=>exact a7
  ·by_cases e:k=hp b
   ·subst e;simp[jab]at a1
   ·obtain⟨b2,h1,h2,h3⟩:=h.rows k s' es' (by simpa [ja9 _ e]using a1);exact⟨b2,h1,h2,h3.move hk rfl⟩
  ·refine h.inj k k' b2 ?_ ?_
   ·by_cases e:k=hp b
    ·subst e;simpa [jab,a6]using h1
    ·simpa [ja9 _ e]using h1
   ·by_cases e:k'=hp b
    ·subst e;simpa [jab,a6]using h2
    ·simpa [ja9 _ e]using h2
  ·by_cases e:k=hp b
   ·subst e;exact a6
   ·exact h.excl k (by simpa [ja9 _ e]using a1)
def frzO(st:St)(x:Operand):St:=
 match evO st x with
 | .im (.ref b _ _ _)=>st.frz b
 | _=>st
def St.frzOs(st:St)(xs:List Operand):St:=xs.foldl frzO st
theorem Sim.frzOs(h:Sim N w0 M0 β st a w)(xs:List Operand):Sim N w0 M0 β (st.frzOs xs) a w:=by
 induction xs generalizing st with
 | nil=>exact h
 | cons x xs ih=>
  refine ih (st:=Abs.frzO st x) ?_;unfold Abs.frzO;split
  ·exact h.frz _
  ·exact h
end
end
section
def aCopy(G:Ctx)(K:St->Prop)(st:St)(dst:Option Nat)(ts:List TypeId)(a1:List Operand):Prop:=
 match ts,a1 with
 | [t,_],[x,y]=>match evO st x,evO st y,(G.ti t).kind with
  | .im (.ref b e s n),.im (.sl xs),.sl e'=>match look st.rows (hp b)with
   | some (s',es)=>(G.ti t).size≠0/\(G.ti e').size=s/\s≠0/\s'=s/\xs.length=n/\(∀c∈xs,c.length=s)/\K (({st with rows:=Abs.setRow st.rows (hp b) s xs}:St).put dst (.im (.int n)))
   | none=>False
  | _,_,_=>False
 | _,_=>False
theorem run_copyS{P:Program}(w:World)(t t2 ty e:TypeId)(b n cap xc S:Nat)(a6:Option Addr)(cur:Array Value)(T:TypeId)(cs:List Value)(i:TypeInfo)(hu:P.underlying t=some (.slice e))(hi:P.info? e=some i)(hS:i.size=S)
  (hg:w.heap[b]? =some (.cells cur T (0,0))) (b1:cs.length=n*S) (a7:cs≠[]->∃A,a6=some A/\∀j v,cs[j]? =some v->w.cell? (A.add j)=some v) (hn:cs=[]->n=0) (a8:cs.length<=cur.size) (h1:∀v∈cs,v.oneCell'=true):
  (Builtin.copy_ #[t,t2] ty #[.slice (some ⟨b,0,none⟩) n cap,.slice a6 n xc]).run P w= .ok (.int .i64 n) (w.setRow b (cs++cur.toList.drop cs.length).toArray):=by
 have a1:=run_storeCells_at P b 0 T cs 0 cur w hg (by simpa using a8) h1;simp only[qi,List.take_zero,List.nil_append]at a1;by_cases hc:cs=[]
 ·have b0:=hn hc;subst hc b0;have hl:∀A:Addr,(loadCells A 0).run P w= .ok #[] w:=fun A=>rfl;cases a6 with
  | none=>simp[Builtin.copy_,run_underlying hu,Builtin.lenOf,Builtin.firstCells,sizeOf,typeInfo,hi,a1,goInt]
  | some A=>simp[Builtin.copy_,run_underlying hu,Builtin.lenOf,Builtin.firstCells,sizeOf,typeInfo,hi,a1,goInt,hl]
 ·obtain⟨A,rfl,hA⟩:=a7 hc;have hl:=run_loadCells_list (P:=P) w A cs hA;simp[Builtin.copy_,run_underlying hu,Builtin.lenOf,Builtin.firstCells,sizeOf,typeInfo,hi,hS,<-b1,hl,a1,goInt]
section
variable{G:Ctx}{N:Nat}{w0:Base}{w:World}{M0:Nat->Nat->Prop}{β:Nat->Option Nat}{st:St}{a:Act}
theorem copyH_run(hG:G.Ok)(h:Sim N w0 M0 β st a w){t t2 e ty T:TypeId}{b n s:Nat}{es xs:List (List IV)}{xv yv:Value}(h0:(G.ti t).size≠0)(hk:(G.ti t).kind= .sl e)(he:(G.ti e).size=s)(b0:s≠0)
  (b4:look st.rows (hp b)=some (s,es)) (b2:xs.length=n) (a6:∀c∈xs,c.length=s) (hx:Rep w (Mo M0 β st) (.ref b T s n) xv) (hy:Rep w (Mo M0 β st) (.sl xs) yv):
  ∃w',(Builtin.copy_ #[t,t2] ty #[xv,yv]).run G.P w= .ok (.int .i64 n) w'/\Sim N w0 M0 β {st with rows:=Abs.setRow st.rows (hp b) s xs} a w':=by
 have hu:=hG.sl h0 hk;obtain⟨i,z,hi,c0,c4,hz,_,c3⟩:=hG.info (t:=e) (by rw[he];exact b0);obtain⟨b9,xc,gx,rfl,_,a8⟩:=jip b0 hy a6;cases hx with
 | ref _ _ _ _ cap cur hcur hcap hml hcsz=>
  have b7:xs.flatten.length=n*s:=by rw[jd2 a6,b2]
  obtain⟨cs,hcs⟩:∃cs,cs=(List.range xs.flatten.length).map gx:=⟨_,rfl⟩;have a7:cs.length=n*s:=by rw[hcs,za,q9,b7]
  have b5:cs≠[]->xs≠[]:=fun h e=>h (by rw[hcs,e];rfl);have h1:∀v∈cs,v.oneCell'=true:=fun v hv=>by
   have a1:=b5 (List.ne_nil_of_mem hv);obtain⟨xb,xo,_,hc⟩:=a8 a1;rw[hcs]at hv;obtain⟨j,hj,rfl⟩:=z8.1 hv;obtain⟨x,hx⟩:∃x,xs.flatten[j]? =some x:=⟨_,zw (by simpa using hj)⟩;obtain⟨g1,_,g2⟩:=hc j x hx;exact g2.oneCell g1
  have hle:cs.length<=cur.size:=by rw[a7,hcsz];exact qj _ hcap
  have b3:=run_copyS (P:=G.P) w t t2 ty e b n cap xc s b9 cur T cs i hu hi (by rw[c0,he]) hcur a7 (fun hc=>by
   obtain⟨xb,xo,e1,b1⟩:=a8 (b5 hc);exact⟨_,e1,by rw[hcs];exact jf5 b1⟩) (fun hc=>by
   have:n*s=0:=by rw[<-a7,hc];rfl
   rcases wl.1 this with h | h
   ·exact h
   ·exact absurd h b0) hle h1
  rw[b2];refine⟨_,b3,h.setRow b4 (h.perm b) hcur (by simp;omega) a6 fun i c j x hi hj=> ?_⟩;have b8:=jdm a6 hi hj;have b6:=(zr.1 b8).1;have a1:xs≠[]:=fun e=>by subst e;simp at hi
  obtain⟨xb,xo,_,b1⟩:=a8 a1;obtain⟨g1,_,g2⟩:=b1 _ x b8;refine⟨g1,gx (i*s+j),?_,g2⟩;rw[jp,zK (by rw[a7,<-b7];exact b6),hcs,zq,jd b6];rfl
