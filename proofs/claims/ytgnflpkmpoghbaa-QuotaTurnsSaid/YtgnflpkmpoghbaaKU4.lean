/- A part of the proof. No further condition. -/
import Derived.Test.YtgnflpkmpoghbaaKU3
set_option linter.all false
set_option maxRecDepth 10000000
set_option maxHeartbeats 16000000
namespace Go.Abs
section
open Go.RowKit (Below)
abbrev Rows:=List (Nat×Nat×List (List IV))
def rnm(ρ:List (Nat×Nat))(k:Nat):Nat:=(look ρ k).getD k
def AV.rn(ρ:List (Nat×Nat)):AV->AV
 | .osl d s i n=> .osl (rnm ρ d) s i n
 | .gsl d e s n=> .gsl (rnm ρ d) e s n
 | .loc d s i j=> .loc (rnm ρ d) s i j
 | .mpo d sc kvs=> .mpo (rnm ρ d) sc kvs
 | x=>x
def AV.toArg:AV->AV
 | .sx es=> .im (.sl es)
 | .vec _ _ _ es=> .im (.sl es)
 | .mpo _ _ _=> .und
 | x=>x
def MoR(M:Nat->Nat->Prop)(β:Nat->Option Nat)(L:Rows)(b o:Nat):Prop:=M b o\/∃k s es,look L k=some (s,es)/\β k=some b
def MoN(M:Nat->Nat->Prop)(β β':Nat->Option Nat)(L:Rows)(new:Option (Nat×List (List IV)))(b o:Nat):Prop:=MoR M β L b o\/(new.isSome/\β' 901=some b)
def Base.ex(w:World)(β:Nat->Option Nat)(L:Rows):Base:={w:=w,P:=fun b=>b<w.heap.size/\∀k,(look L k).isSome->β k≠some b,lt:=fun _ h=>h.1,β:=β}
def CtrM(P:Program)(f:FuncId)(args:List AV)(L:Rows)(φ:AV->List (List (List IV))->Option (Nat×List (List IV))->Prop):Prop:=
 ∀(w:World) (M:Nat->Nat->Prop) (β:Nat->Option Nat) (vs:List Value),(∀b o,M b o->b<w.heap.size)->
  (∀k s es,look L k=some (s,es)->∃b,β k=some b/\(∀o,¬M b o)/\RowRep w (MoR M β L) b s es)->
  (∀k k' b,(look L k).isSome->(look L k').isSome->β k=some b->β k'=some b->k=k')->(∀b,β (hp b)=some b)->
  vs.length=args.length->(∀(i:Nat) av v,args[i]? =some av->vs[i]? =some v->RepA w (MoR M β L) β [] av v)->
  Calls P f vs.toArray w fun en w'=>∃r v Es new β',φ r Es new/\en= .returned v/\Es.length=L.length/\(r.toArg=r/\∀k,r.refs k->(look L k).isSome\/(new.isSome/\k=901))/\(Base.ex w β L).Fr w'/\(∀k,(look L k).isSome->β' k=β k)/\
   (∀(i k s:Nat) es es',L[i]? =some (k,s,es)->Es[i]? =some es'->∃b,β k=some b/\RowRep w' (MoN M β β' L new) b s es')/\
   (∀s es,new=some (s,es)->∃b,β' 901=some b/\w.heap.size<=b/\RowRep w' (MoN M β β' L new) b s es)/\RepA w' (MoN M β β' L new) β' [] r v
def jbc(ρ:List (Nat×Nat)):Rows->Rows->List (List (List IV))->Rows
 | rs,[],_=>rs
 | rs,_::_,[]=>rs
 | rs,(k,s,_)::L,es::Es=>jbc ρ (setRow rs (rnm ρ k) s es) L Es
theorem jey{ρ:List (Nat×Nat)}{d:Nat}:∀(L:Rows) (rs:Rows) (Es:List (List (List IV))),(∀p∈L,rnm ρ p.1≠d)->look (jbc ρ rs L Es) d=look rs d
 | [],rs,Es,_=>by simp[jbc]
 | p::L,rs,[],_=>by simp[jbc]
 | (k,s,es0)::L,rs,es::Es,h=>by
  simp only[jbc];rw[jey L _ Es fun p hp=>h p (List.mem_cons_of_mem _ hp),jbg (Ne.symm (h _ (List.mem_cons_self ..)))]
theorem jc7{ρ:List (Nat×Nat)}{d:Nat}:∀(L:Rows) (rs:Rows) (Es:List (List (List IV))),(look (jbc ρ rs L Es) d).isSome=(look rs d).isSome
 | [],rs,Es=>by simp[jbc]
 | p::L,rs,[]=>by simp[jbc]
 | (k,s,es0)::L,rs,es::Es=>by
  simp only[jbc];rw[jc7 L,jax]
theorem jgk{ρ:List (Nat×Nat)}:∀(L:Rows) (rs:Rows) (Es:List (List (List IV))) (i k s:Nat) (es es':List (List IV)),(L.map fun p=>rnm ρ p.1).Nodup->L[i]? =some (k,s,es)->Es[i]? =some es'->
  (look rs (rnm ρ k)).isSome->look (jbc ρ rs L Es) (rnm ρ k)=some (s,es')
 | [],rs,Es,i,k,s,es,es',_,h,_,_=>by simp at h
 | p::L,rs,[],i,k,s,es,es',_,_,h,_=>by simp at h
 | (k0,s0,es0)::L,rs,e0::Es,0,k,s,es,es',hN,h,h',hs=>by
  simp at h h';obtain⟨rfl,rfl,rfl⟩:=h;subst h';simp only[jbc];rw[List.map_cons,List.nodup_cons]at hN;rw[jey L _ Es fun p hp e=>hN.1 (List.mem_map.2 ⟨p,hp,e⟩)];exact jbf hs
 | (k0,s0,es0)::L,rs,e0::Es,i+1,k,s,es,es',hN,h,h',hs=>by
  simp only[jbc];rw[List.map_cons,List.nodup_cons]at hN;exact jgk L _ Es i k s es es' hN.2 (by simpa using h) (by simpa using h') (by rw[jax];exact hs)
def jjj(st:St)(ρ:List (Nat×Nat))(L:Rows)(Es:List (List (List IV)))(new:Option (Nat×List (List IV)))(dst:Option Nat)(r:AV):Option St:=
 match new with
 | none=>some ((⟨st.fr,jbc ρ st.rows L Es,st.toks⟩:St).put dst (r.rn ρ))
 | some (s,es)=>match dst with
  | some t=>some ⟨(t,r.rn ((901,t)::ρ))::((⟨st.fr,jbc ρ st.rows L Es,st.toks⟩:St).fresh t).fr,(t,s,es)::((⟨st.fr,jbc ρ st.rows L Es,st.toks⟩:St).fresh t).rows,((⟨st.fr,jbc ρ st.rows L Es,st.toks⟩:St).fresh t).toks⟩
  | none=>none
section
variable{G:Ctx}{N:Nat}{w0:Base}{w w':World}{M M' M0:Nat->Nat->Prop}{β β':Nat->Option Nat}{st:St}{a:Act}{toks toks':List (Nat×Nat×Nat)}{av:AV}{v:Value}
theorem RepA.toArg(h:RepA w M β toks av v):RepA w M β toks av.toArg v:=by
 cases av<;>first | exact h | exact h.1 | trivial
theorem jgs{α:Type}{l:List (Nat×α)}{k:Nat}{x:α}(hN:(l.map (·.1)).Nodup)(h:(k,x)∈l):look l k=some x:=by
 induction l with
 | nil=>cases h
 | cons p l ih=>
  obtain⟨j,y⟩:=p;rw[List.map_cons,List.nodup_cons]at hN;rcases List.mem_cons.1 h with e | h
  ·cases e;simp[look]
  ·have:k≠j:=fun e=>hN.1 (List.mem_map.2 ⟨_,h,e⟩);simp only[look,this,if_false];exact ih hN.2 h
theorem jbu{α:Type}{l:List (Nat×α)}{k:Nat}{x:α}(h:look l k=some x):(k,x)∈l:=by
 induction l with
 | nil=>simp[look]at h
 | cons p l ih=>
  obtain⟨j,y⟩:=p;by_cases e:k=j
  ·subst e;simp only[look,if_true,Option.some.injEq]at h;subst h;exact List.mem_cons_self ..
  ·simp only[look,e,if_false]at h;exact List.mem_cons_of_mem _ (ih h)
structure Hands(st:St)(ρ:List (Nat×Nat))(L:Rows):Prop where
 names:(L.map (·.1)).Nodup
 nodup:(L.map fun p=>rnm ρ p.1).Nodup
 rows:∀p∈L,look st.rows (rnm ρ p.1)=some p.2
 low:∀p∈ρ,p.1<100000
theorem Hands.hp{ρ:List (Nat×Nat)}{L:Rows}(H:Hands st ρ L)(b:Nat):rnm ρ (hp b)=hp b:=by
 unfold rnm;cases hl:look ρ (Abs.hp b)with
 | none=>rfl
 | some x=>exact absurd rfl (hp_ne (H.low _ (jbu hl)))
theorem Hands.at{ρ:List (Nat×Nat)}{L:Rows}(H:Hands st ρ L){k:Nat}(h:(look L k).isSome):(look st.rows (rnm ρ k)).isSome:=by
 obtain⟨x,hx⟩:=Option.isSome_iff_exists.1 h;have:=H.rows _ (jbu hx);rw[this];rfl
theorem Hands.inj{ρ:List (Nat×Nat)}{L:Rows}(H:Hands st ρ L){k k':Nat}(h:(look L k).isSome)(h':(look L k').isSome)(e:rnm ρ k=rnm ρ k'):k=k':=by
 obtain⟨x,hx⟩:=Option.isSome_iff_exists.1 h;obtain⟨y,hy⟩:=Option.isSome_iff_exists.1 h';have h1:=jbu hx;have h2:=jbu hy;have hN:=H.nodup;clear H hx hy h h'
 induction L with
 | nil=>cases h1
 | cons p L ih=>
  rw[List.map_cons,List.nodup_cons]at hN;rcases List.mem_cons.1 h1 with e1 | g1<;>rcases List.mem_cons.1 h2 with e2 | g2
  ·rw[<-e2]at e1;cases e1;rfl
  ·subst e1;exact absurd (List.mem_map.2 ⟨_,g2,e.symm⟩) hN.1
  ·subst e2;exact absurd (List.mem_map.2 ⟨_,g1,e⟩) hN.1
  ·exact ih g1 g2 hN.2
def Mh(M0:Nat->Nat->Prop)(β:Nat->Option Nat)(st:St)(ρ:List (Nat×Nat))(L:Rows)(b o:Nat):Prop:=Mo M0 β st b o/\∀k,(look L k).isSome->β (rnm ρ k)≠some b
theorem jim{ρ:List (Nat×Nat)}{L:Rows}(H:Hands st ρ L){b o:Nat}(h:MoR (Mh M0 β st ρ L) (fun k=>β (rnm ρ k)) L b o):Mo M0 β st b o:=by
 rcases h with h | ⟨k,s,es,hk,hb⟩
 ·exact h.1
 ·obtain⟨⟨s',es'⟩,hl⟩:=Option.isSome_iff_exists.1 (H.at (k:=k) (by simp[hk]));exact .inr (.inl ⟨_,s',es',hl,hb⟩)
theorem Sim.hand(h:Sim N w0 M0 β st a w){ρ:List (Nat×Nat)}{L:Rows}(H:Hands st ρ L):
  (∀b o,Mh M0 β st ρ L b o->b<w.heap.size)/\
  (∀k s es,look L k=some (s,es)->∃b,β (rnm ρ k)=some b/\(∀o,¬Mh M0 β st ρ L b o)/\RowRep w (MoR (Mh M0 β st ρ L) (fun k=>β (rnm ρ k)) L) b s es)/\
  (∀k k' b,(look L k).isSome->(look L k').isSome->β (rnm ρ k)=some b->β (rnm ρ k')=some b->k=k'):=by
 refine⟨fun b o hm=>h.mlt hm.1,fun k s es hk=> ?_,fun k k' b h1 h2 hb hb'=> ?_⟩
 ·have hl:=H.rows _ (jbu hk);obtain⟨b,h1,_,h2⟩:=h.rows _ s es hl;exact⟨b,h1,fun o hm=>hm.2 k (by simp[hk]) h1,h2.move (Kept.less w fun b o hm=>jim H hm) rfl⟩
 ·exact H.inj h1 h2 (h.inj _ _ b (.inl (H.at h1)) (.inl (H.at h2)) hb hb')
theorem RepA.hand{ρ:List (Nat×Nat)}{L:Rows}(H:Hands st ρ L){av':AV}(h:RepA w (Mo M0 β st) β st.toks av v)(he:av'.rn ρ=av.toArg):RepA w (MoR (Mh M0 β st ρ L) (fun k=>β (rnm ρ k)) L) (fun k=>β (rnm ρ k)) [] av' v:=by
 have hk:Kept w (Mo M0 β st) w (MoR (Mh M0 β st ρ L) (fun k=>β (rnm ρ k)) L):=Kept.less w fun b o hm=>jim H hm;have h':=h.toArg;rw[<-he]at h';cases av' with
 | im x=>exact Rep.kept (w:=w) h' hk
 | und=>trivial
 | sx es=>exact⟨Rep.kept h'.1 hk,h'.2⟩
 | vec d e s es=>exact⟨Rep.kept h'.1 hk,h'.2.1,fun hl=>by simp[look]at hl⟩
 | osl d s i n=>exact h'
 | gsl d e s n=>exact h'
 | loc d s i j=>exact h'
 | mpo d sc kvs=>cases av<;>simp[AV.toArg,AV.rn]at he
theorem Base.Fr.ex{B:Base}{βc:Nat->Option Nat}{L:Rows}(h:B.Fr w)(hf:(Base.ex w βc L).Fr w')(hP:∀k b,(look L k).isSome->βc k=some b->¬B.P b):B.Fr w':=
 ⟨hf.os.trans h.os,hf.tape.trans h.tape,hf.output.trans h.output,Nat.le_trans h.size hf.size,fun b hb=>by
  rw[<-h.block b hb];exact hf.block b ⟨Nat.lt_of_lt_of_le (B.lt b hb) h.size,fun k hk e=>hP k b hk e hb⟩,h.shp.trans hf.shp⟩
theorem Sim.behind(h:Sim N w0 M0 β st a w){ρ:List (Nat×Nat)}{L:Rows}(H:Hands st ρ L){Es:List (List (List IV))}{new:Option (Nat×List (List IV))}(hEl:Es.length=L.length)
  (hf:(Base.ex w (fun k=>β (rnm ρ k)) L).Fr w')
  (hE:∀(i k s:Nat) es es',L[i]? =some (k,s,es)->Es[i]? =some es'->∃b,β (rnm ρ k)=some b/\RowRep w' (MoN (Mh M0 β st ρ L) (fun k=>β (rnm ρ k)) β' L new) b s es'):
  Sim N w0 M0 β ⟨st.fr,jbc ρ st.rows L Es,st.toks⟩ a w'/\(∀b o,Mo M0 β ⟨st.fr,jbc ρ st.rows L Es,st.toks⟩ b o->MoR (Mh M0 β st ρ L) (fun k=>β (rnm ρ k)) L b o):=by
 have hrowP:∀k b,(look L k).isSome->β (rnm ρ k)=some b->¬w0.P b:=fun k b hk hb=>by
  obtain⟨⟨s,es⟩,hl⟩:=Option.isSome_iff_exists.1 (H.at hk);obtain⟨b',h1,h2,_⟩:=h.rows _ s es hl;rw[hb]at h1;cases h1;exact h2
 have hlive:∀d b,((look st.rows d).isSome\/(look st.toks d).isSome)->β d=some b->(∀k,(look L k).isSome->rnm ρ k≠d)->∀k,(look L k).isSome->β (rnm ρ k)≠some b:=fun d b hd hb hne k hk hkb=>
  hne k hk (h.inj _ d b (.inl (H.at hk)) hd hkb hb)
 have hlt:∀d b,((look st.rows d).isSome\/(look st.toks d).isSome)->β d=some b->b<w.heap.size:=fun d b hd hb=>by
  rcases hd with hd | hd
  ·obtain⟨⟨s',es'⟩,hl⟩:=Option.isSome_iff_exists.1 hd;exact h.mlt (o:=0) (.inr (.inl ⟨d,s',es',hl,hb⟩))
  ·obtain⟨⟨s',n'⟩,hl⟩:=Option.isSome_iff_exists.1 hd;exact(h.toks d s' n' hl b hb).2
 have htokne:∀d,(look st.toks d).isSome->∀k,(look L k).isSome->rnm ρ k≠d:=fun d hd k hk e=>by
  subst e;rw[h.excl _ (H.at hk)]at hd;cases hd
 have hmo:∀b o,Mo M0 β ⟨st.fr,jbc ρ st.rows L Es,st.toks⟩ b o->Mo M0 β st b o:=by
  rintro b o (hm | ⟨d,s,es,hd,hb⟩ | hm)
  ·exact .inl hm
  ·have:(look st.rows d).isSome:=by rw[<-jc7 L st.rows Es,hd];rfl
   obtain⟨⟨x,y⟩,hxy⟩:=Option.isSome_iff_exists.1 this;exact .inr (.inl ⟨d,x,y,hxy,hb⟩)
  ·exact .inr (.inr hm)
 have hback:∀b o,Mo M0 β ⟨st.fr,jbc ρ st.rows L Es,st.toks⟩ b o->MoR (Mh M0 β st ρ L) (fun k=>β (rnm ρ k)) L b o:=by
  intro b o hm;by_cases hex:∃k,(look L k).isSome/\β (rnm ρ k)=some b
  ·obtain⟨k,hk,hb⟩:=hex;obtain⟨⟨x,y⟩,hxy⟩:=Option.isSome_iff_exists.1 hk;exact .inr ⟨k,x,y,hxy,hb⟩
  ·exact .inl ⟨hmo b o hm,fun k hk hb=>hex ⟨k,hk,hb⟩⟩
 have hsame:∀b,b<w.heap.size->(∀k,(look L k).isSome->β (rnm ρ k)≠some b)->w'.heap[b]? =w.heap[b]? :=fun b hb hne=>hf.block b ⟨hb,hne⟩;have hkept:Kept w (Mo M0 β st) w' (Mo M0 β ⟨st.fr,jbc ρ st.rows L Es,st.toks⟩):=by
  refine⟨fun b o u hc hn=> ?_,fun b es2 c hc hn=> ?_,hf.shp⟩
  ·have hb:b<w.heap.size:=World.block_lt_of_cell? (a:=⟨b,o,none⟩) w hc;refine⟨?_,fun hm=>hn (hmo b o hm)⟩;rw[World.cell?_of_block (w:=w) (a:=⟨b,o,none⟩) (hsame b hb fun k hk hkb=> ?_)]
   ·exact hc
   ·obtain⟨⟨s,es⟩,hl⟩:=Option.isSome_iff_exists.1 (H.at hk);exact hn (.inr (.inl ⟨_,s,es,hl,hkb⟩))
  ·have hb:b<w.heap.size:=(Array.getElem?_eq_some_iff.1 hc).1;refine⟨?_,fun hm=>hn (hmo b 0 hm)⟩;rw[hsame b hb fun k hk hkb=> ?_]
   ·exact hc
   ·obtain⟨⟨s,es⟩,hl⟩:=Option.isSome_iff_exists.1 (H.at hk);exact hn (.inr (.inl ⟨_,s,es,hl,hkb⟩))
 refine⟨⟨h.size,h.defers,h.below.ex hf hrowP,h.m0,fun t=> ?_,fun d s es hd=> ?_,fun d s n hd b hb=> ?_,fun d d' b h1 h2=> ?_,fun d hd=> ?_,fun k hN hN' hk=>h.nam k hN hN' (by rw[<-jc7 L st.rows Es];exact hk),h.np,h.perm⟩,hback⟩
 ·exact(h.fr t).move hkept (fun _ _=>rfl) (fun _ _ _ _ hl=>hl) (fun d b hl _ hb=>hsame b (hlt d b (.inr hl) hb) (hlive d b (.inr hl) hb (htokne d hl))) hf.shp
 ·by_cases hex:∃k,(look L k).isSome/\rnm ρ k=d
  ·obtain⟨k,hk,rfl⟩:=hex;obtain⟨⟨s0,es0⟩,hx⟩:=Option.isSome_iff_exists.1 hk;obtain⟨i,hi⟩:=List.getElem?_of_mem (jbu hx);have hil:i<Es.length:=by rw[hEl];exact(List.getElem?_eq_some_iff.1 hi).1
   obtain⟨b,hb,hr⟩:=hE i k s0 es0 _ hi (List.getElem?_eq_getElem hil);have:=jgk (ρ:=ρ) L st.rows Es i k s0 es0 _ H.nodup hi (List.getElem?_eq_getElem hil) (H.at hk);rw[this]at hd;simp only[Option.some.injEq,Prod.mk.injEq]at hd;obtain⟨rfl,rfl⟩:=hd;exact⟨b,hb,hrowP k b hk hb,hr.move (Kept.less w' fun b o hm=> .inl (hback b o hm)) rfl⟩
  ·rw[jey L st.rows Es fun p hp e=>hex ⟨p.1,by rw[jgs H.names (show(p.1,p.2)∈L from hp)];rfl,e⟩]at hd;obtain⟨b,h1,h2,h3⟩:=h.rows d s es hd;have hne:=hlive d b (.inl (by simp[hd])) h1 fun k hk e=>hex ⟨k,hk,e⟩;exact⟨b,h1,h2,h3.move hkept (hsame b (hlt d b (.inl (by simp[hd])) h1) hne)⟩
 ·obtain⟨h1,h2⟩:=h.toks d s n hd b hb;exact⟨h1,Nat.lt_of_lt_of_le h2 hf.size⟩
 ·rw[jc7]at h1 h2;exact h.inj d d' b h1 h2
 ·rw[jc7]at hd;exact h.excl d hd
theorem Sim.addRow(h:Sim N w0 M0 β st a w){d s b:Nat}{es:List (List IV)}(hdN:d<N)(hc:st.Clean d)(hb:¬w0.P b)(hno:∀k,((look st.rows k).isSome\/(look st.toks k).isSome)->β k≠some b)
  (hfr:∀t,RepA w (Mo M0 (upd β d (some b)) {st with rows:=(d,s,es)::st.rows}) β st.toks (st.get t) (a.tmps.getD t undef))
  (hrows:∀k s' es',look st.rows k=some (s',es')->∃b',β k=some b'/\RowRep w (Mo M0 (upd β d (some b)) {st with rows:=(d,s,es)::st.rows}) b' s' es')
  (hr:RowRep w (Mo M0 (upd β d (some b)) {st with rows:=(d,s,es)::st.rows}) b s es):
  Sim N w0 M0 (upd β d (some b)) {st with rows:=(d,s,es)::st.rows} a w:=by
 refine⟨h.size,h.defers,h.below,h.m0,fun t=> ?_,fun k s' es' hk'=> ?_,fun k s' n hk' b' hb'=> ?_,fun k k' b' h1 h2 hb1 hb2=> ?_,fun k hk'=> ?_,fun k hN hN' hk'=> ?_,h.np,je7 h.perm (.inl (Nat.lt_of_lt_of_le hdN h.np))⟩
 case refine_6=>
  have e:k≠d:=by omega
  rw[ja9 _ _ e];exact h.nam k hN hN' (by simpa [look,e]using hk')
 ·exact(hfr t).move (Kept.refl _ _) (fun k hr=>ja9 _ _ (fun e=>hc.refs t (e▸hr))) (fun k s' n _ hl=>hl) (fun _ _ _ _ _=>rfl) (Shp.refl _)
 ·by_cases e:k=d
  ·subst e;simp only[look,if_true,Option.some.injEq,Prod.mk.injEq]at hk';obtain⟨rfl,rfl⟩:=hk';exact⟨b,jaa _ _ _,hb,hr⟩
  ·have hk2:look st.rows k=some (s',es'):=by simpa [look,e]using hk'
   obtain⟨b',h1,h2,_⟩:=h.rows k s' es' hk2;obtain⟨b2,h3,h4⟩:=hrows k s' es' hk2;rw[h1]at h3;cases h3;exact⟨b',by rw[ja9 _ _ e];exact h1,h2,h4⟩
 ·have e:k≠d:=fun e=>by subst e;rw[hc.toks]at hk';cases hk'
  rw[ja9 _ _ e]at hb';exact h.toks k s' n hk' b' hb'
 ·have dom:∀k,((look ((d,s,es)::st.rows) k).isSome\/(look st.toks k).isSome)->k≠d->((look st.rows k).isSome\/(look st.toks k).isSome):=fun k hk hne=>by
   simpa [look,hne]using hk
  by_cases e:k=d<;>by_cases e':k'=d
  ·omega
  ·subst e;rw[jaa]at hb1;rw[ja9 _ _ e']at hb2;cases hb1;exact absurd hb2 (hno k' (dom k' h2 e'))
  ·subst e';rw[jaa]at hb2;rw[ja9 _ _ e]at hb1;cases hb2;exact absurd hb1 (hno k (dom k h1 e))
  ·rw[ja9 _ _ e]at hb1;rw[ja9 _ _ e']at hb2;exact h.inj k k' b' (dom k h1 e) (dom k' h2 e') hb1 hb2
 ·by_cases e:k=d
  ·subst e;exact hc.toks
  ·exact h.excl k (by simpa [look,e]using hk')
theorem RepA.back{M2:Nat->Nat->Prop}{β2:Nat->Option Nat}{ρ:List (Nat×Nat)}{r:AV}(h:RepA w M β [] r v)(hr:r.toArg=r)(hβ:∀k,r.refs k->β k=β2 (rnm ρ k))(hM:∀b o,M2 b o->M b o):RepA w M2 β2 toks (r.rn ρ) v:=by
 cases r with
 | im x=>exact Rep.kept (w:=w) h (Kept.less w hM)
 | und=>trivial
 | sx es=>simp[AV.toArg]at hr
 | vec d e s es=>simp[AV.toArg]at hr
 | osl d s i n=>
  obtain⟨ad,c,h1,h2,h3⟩:=h;exact⟨ad,c,h1,h2,fun hn=>let⟨b,h4,h5⟩:=h3 hn;⟨b,by rw[<-hβ d rfl];exact h4,h5⟩⟩
 | gsl d e s n=>
  obtain⟨b,cap,cur,h1,h2⟩:=h;exact⟨b,cap,cur,by rw[<-hβ d rfl];exact h1,h2⟩
 | loc d s i j=>
  obtain⟨b,h1,h2⟩:=h;exact⟨b,by rw[<-hβ d rfl];exact h1,h2⟩
 | mpo d sc kvs=>simp[AV.toArg]at hr
theorem rnm_cons(ρ:List (Nat×Nat))(t k:Nat):rnm ((901,t)::ρ) k=if k=901 then t else rnm ρ k:=by
 by_cases h:k=901
 ·subst h;simp[rnm,look]
 ·simp only[rnm,look,h,if_false]
theorem Sim.after(h:Sim N w0 M0 β st a w){ρ:List (Nat×Nat)}{L:Rows}(H:Hands st ρ L){Es:List (List (List IV))}{new:Option (Nat×List (List IV))}{r:AV}{dst:Option Nat}{st':St}
  (hd:∀d,dst=some d->d<N) (hL:(look L 901)=none) (hdL:∀k,(look L k).isSome->dst≠some (rnm ρ k)) (hEl:Es.length=L.length) (hr:r.toArg=r/\∀k,r.refs k->(look L k).isSome\/(new.isSome/\k=901))
  (hf:(Base.ex w (fun k=>β (rnm ρ k)) L).Fr w') (hβ:∀k,(look L k).isSome->β' k=β (rnm ρ k))
  (hE:∀(i k s:Nat) es es',L[i]? =some (k,s,es)->Es[i]? =some es'->∃b,β (rnm ρ k)=some b/\RowRep w' (MoN (Mh M0 β st ρ L) (fun k=>β (rnm ρ k)) β' L new) b s es')
  (hN:∀s es,new=some (s,es)->∃b,β' 901=some b/\w.heap.size<=b/\RowRep w' (MoN (Mh M0 β st ρ L) (fun k=>β (rnm ρ k)) β' L new) b s es)
  (hv:RepA w' (MoN (Mh M0 β st ρ L) (fun k=>β (rnm ρ k)) β' L new) β' [] r v) (hst:jjj st ρ L Es new dst r=some st'):
  ∃β2,Sim N w0 M0 β2 st' (a.put dst v) w':=by
 obtain⟨hs,hback⟩:=h.behind H hEl hf hE;cases new with
 | none=>
  simp only[jjj,Option.some.injEq]at hst;subst hst;refine⟨β,hs.put hd (hv.back hr.1 (fun k hk=> ?_) fun b o hm=> .inl (hback b o hm))⟩;rcases hr.2 k hk with h1 | ⟨h1,_⟩
  ·exact hβ k h1
  ·cases h1
 | some p=>
  obtain⟨s,esn⟩:=p;cases dst with
  | none=>simp[jjj]at hst
  | some t=>
   simp only[jjj,Option.some.injEq]at hst;subst hst;obtain⟨b,hb1,hb2,hb3⟩:=hN s esn rfl;have hs2:=hs.fresh t;generalize hst2:(⟨st.fr,jbc ρ st.rows L Es,st.toks⟩:St).fresh t=st2 at hs2;have hcl:st2.Clean t:=by rw[<-hst2];exact jc9 _ t
   have hlt:∀d b,((look st.rows d).isSome\/(look st.toks d).isSome)->β d=some b->b<w.heap.size:=fun d b hd hb=>by
    rcases hd with hd | hd
    ·obtain⟨⟨s',es'⟩,hl⟩:=Option.isSome_iff_exists.1 hd;exact h.mlt (o:=0) (.inr (.inl ⟨d,s',es',hl,hb⟩))
    ·obtain⟨⟨s',n'⟩,hl⟩:=Option.isSome_iff_exists.1 hd;exact(h.toks d s' n' hl b hb).2
   have hrow2:∀k x,look st2.rows k=some x->k≠t/\look (jbc ρ st.rows L Es) k=some x:=fun k x hk=>by
    rw[<-hst2]at hk;by_cases e:k=t
    ·subst e;simp[St.fresh,ja2]at hk
    ·exact⟨e,by simpa [St.fresh,ja6 _ e]using hk⟩
   have htok2:∀k x,look st2.toks k=some x->look st.toks k=some x:=fun k x hk=>by
    rw[<-hst2]at hk;by_cases e:k=t
    ·subst e;simp[St.fresh,ja2]at hk
    ·simpa [St.fresh,ja6 _ e]using hk
   have hlive2:∀k,((look st2.rows k).isSome\/(look st2.toks k).isSome)->((look st.rows k).isSome\/(look st.toks k).isSome):=fun k hk=>by
    rcases hk with hk | hk
    ·obtain⟨x,hx⟩:=Option.isSome_iff_exists.1 hk;have:=(hrow2 k x hx).2;exact .inl (by rw[<-jc7 L st.rows Es (ρ:=ρ),this];rfl)
    ·obtain⟨x,hx⟩:=Option.isSome_iff_exists.1 hk;exact .inr (by rw[htok2 k x hx];rfl)
   have hM1:∀b' o,Mo M0 (upd β t (some b)) {st2 with rows:=(t,s,esn)::st2.rows} b' o->b'=b\/Mo M0 β ⟨st.fr,jbc ρ st.rows L Es,st.toks⟩ b' o:=by
    rintro b' o (hm | ⟨k,s',es',hk,hkb⟩ | ⟨k,s',n',hk,hkb,ho⟩)
    ·exact .inr (.inl hm)
    ·by_cases e:k=t
     ·subst e;rw[jaa]at hkb;cases hkb;exact .inl rfl
     ·rw[ja9 _ _ e]at hkb;have hk2:look st2.rows k=some (s',es'):=by simpa [look,e]using hk
      exact .inr (.inr (.inl ⟨k,s',es',(hrow2 k _ hk2).2,hkb⟩))
    ·have e:k≠t:=fun e=>by
      subst e;have:look st2.toks k=none:=hcl.toks;rw[this]at hk;cases hk
     rw[ja9 _ _ e]at hkb;exact .inr (.inr (.inr ⟨k,s',n',htok2 k _ hk,hkb,ho⟩))
   have hM2:∀b' o,Mo M0 (upd β t (some b)) {st2 with rows:=(t,s,esn)::st2.rows} b' o->MoN (Mh M0 β st ρ L) (fun k=>β (rnm ρ k)) β' L (some (s,esn)) b' o:=fun b' o hm=>by
    rcases hM1 b' o hm with rfl | hm
    ·exact .inr ⟨rfl,hb1⟩
    ·exact .inl (hback b' o hm)
   have hlive:∀d b,((look st.rows d).isSome\/(look st.toks d).isSome)->β d=some b->(∀k,(look L k).isSome->rnm ρ k≠d)->∀k,(look L k).isSome->β (rnm ρ k)≠some b:=fun d b hd hb hne k hk hkb=>
    hne k hk (h.inj _ d b (.inl (H.at hk)) hd hkb hb)
   have hmo:∀b o,Mo M0 β ⟨st.fr,jbc ρ st.rows L Es,st.toks⟩ b o->Mo M0 β st b o:=fun b o hm=>jim H (hback b o hm);have hkept:Kept w (Mo M0 β st) w' (Mo M0 (upd β t (some b)) {st2 with rows:=(t,s,esn)::st2.rows}):=by
    refine⟨fun b' o u hc hn=> ?_,fun b' es2 c hc hn=> ?_,hf.shp⟩
    ·have hbl:b'<w.heap.size:=World.block_lt_of_cell? (a:=⟨b',o,none⟩) w hc;refine⟨?_,fun hm=> ?_⟩
     ·rw[World.cell?_of_block (w:=w) (a:=⟨b',o,none⟩) (hf.block b' ⟨hbl,fun k hk hkb=> ?_⟩)]
      ·exact hc
      ·obtain⟨⟨s',es'⟩,hl⟩:=Option.isSome_iff_exists.1 (H.at hk);exact hn (.inr (.inl ⟨_,s',es',hl,hkb⟩))
     ·rcases hM1 b' o hm with rfl | hm
      ·omega
      ·exact hn (hmo b' o hm)
    ·have hbl:b'<w.heap.size:=(Array.getElem?_eq_some_iff.1 hc).1;refine⟨?_,fun hm=> ?_⟩
     ·rw[hf.block b' ⟨hbl,fun k hk hkb=> ?_⟩]
      ·exact hc
      ·obtain⟨⟨s',es'⟩,hl⟩:=Option.isSome_iff_exists.1 (H.at hk);exact hn (.inr (.inl ⟨_,s',es',hl,hkb⟩))
     ·rcases hM1 b' 0 hm with rfl | hm
      ·omega
      ·exact hn (hmo b' 0 hm)
   have hsim:=hs2.addRow (d:=t) (s:=s) (b:=b) (es:=esn) (hd t rfl) hcl (fun hp=>absurd (Nat.lt_of_lt_of_le (w0.lt _ hp) h.below.size) (by omega)) (fun k hk hkb=>by have:=hlt k b (hlive2 k hk) hkb;omega)
    (fun u=>by
     rw[<-hst2,jf6];rw[hst2];refine((h.fr u).purge t).move hkept (fun _ _=>rfl) (fun k s' n' _ hl=>htok2 k _ hl) (fun k b' hl _ hkb=> ?_) hf.shp;obtain⟨x,hx⟩:=Option.isSome_iff_exists.1 hl;have hl':(look st.toks k).isSome:=by rw[htok2 k x hx];rfl
     refine hf.block b' ⟨hlt k b' (.inr hl') hkb,hlive k b' (.inr hl') hkb fun k' hk' e=> ?_⟩;subst e;rw[h.excl _ (H.at hk')]at hl';cases hl')
    (fun k s' es' hk=>by
     obtain⟨hne,hk2⟩:=hrow2 k _ hk;by_cases hex:∃k',(look L k').isSome/\rnm ρ k'=k
     ·obtain⟨k',hk',rfl⟩:=hex;obtain⟨⟨s0,es0⟩,hx⟩:=Option.isSome_iff_exists.1 hk';obtain⟨i,hi⟩:=List.getElem?_of_mem (jbu hx);have hil:i<Es.length:=by rw[hEl];exact(List.getElem?_eq_some_iff.1 hi).1
      obtain⟨b',hb',hr'⟩:=hE i k' s0 es0 _ hi (List.getElem?_eq_getElem hil);have:=jgk (ρ:=ρ) L st.rows Es i k' s0 es0 _ H.nodup hi (List.getElem?_eq_getElem hil) (H.at hk');rw[this]at hk2;simp only[Option.some.injEq,Prod.mk.injEq]at hk2;obtain⟨rfl,rfl⟩:=hk2;exact⟨b',hb',hr'.move (Kept.less w' hM2) rfl⟩
     ·rw[jey L st.rows Es fun p hp e=>hex ⟨p.1,by rw[jgs H.names (show(p.1,p.2)∈L from hp)];rfl,e⟩]at hk2;obtain⟨b',h1,h2,h3⟩:=h.rows k s' es' hk2;have hn:=hlive k b' (.inl (by simp[hk2])) h1 fun k' hk' e=>hex ⟨k',hk',e⟩;exact⟨b',h1,h3.move hkept (hf.block b' ⟨hlt k b' (.inl (by simp[hk2])) h1,hn⟩)⟩)
    (hb3.move (Kept.less w' hM2) rfl)
   refine⟨_,hsim.put (dst:=some t) (av:=r.rn ((901,t)::ρ)) hd (hv.back hr.1 (fun k hk=> ?_) hM2)⟩;rw[rnm_cons];rcases hr.2 k hk with h1 | ⟨_,h1⟩
   ·have hk9:k≠901:=fun e=>by subst e;rw[hL]at h1;cases h1
    rw[if_neg hk9,hβ k h1,ja9 _ _ (fun e=>hdL k h1 (by rw[e]))]
   ·subst h1;rw[if_pos rfl,jaa,hb1]
end
end
section
open Go.RowKit (Below)
def AV.setM(d:Nat)(sc:Nat×Bool)(kvs:List (List Int×List Int)):AV->AV
 | .mpo d' sc' kvs'=>if d'=d then .mpo d sc kvs else .mpo d' sc' kvs'
 | .vec d' e s es=> .vec d' e s es
 | .osl d' s i n=> .osl d' s i n
 | .gsl d' e s n=> .gsl d' e s n
 | .loc d' s i j=> .loc d' s i j
 | .im x=> .im x
 | .und=> .und
 | .sx es=> .sx es
def jcu(d:Nat)(sc:Nat×Bool)(kvs:List (List Int×List Int)):List (Nat×AV)->List (Nat×AV)
 | []=>[]
 | (k,v)::r=>(k,v.setM d sc kvs)::jcu d sc kvs r
theorem jcx(d:Nat)(sc:Nat×Bool)(kvs:List (List Int×List Int))(k:Nat)(l:List (Nat×AV)):look (jcu d sc kvs l) k=(look l k).map (AV.setM d sc kvs):=by
 induction l with
 | nil=>rfl
 | cons p l ih=>
  obtain⟨j,v⟩:=p;by_cases hk:k=j
  ·subst hk;simp[jcu,look]
  ·simp[jcu,look,hk,ih]
section
variable{G:Ctx}{N:Nat}{w0:Base}{w w':World}{M M' M0:Nat->Nat->Prop}{β β':Nat->Option Nat}{st:St}{a:Act}{toks toks':List (Nat×Nat×Nat)}{av:AV}{v:Value}
theorem Born.push{es:Array MapEntry}{c:Nat}(h:Born es c)(e:MapEntry)(he:e.born=c):Born (es.push e) (c+1):=by
 obtain⟨h1,h2⟩:=h;refine⟨?_,fun x hx=> ?_⟩
 ·rw[Array.toList_push,List.map_append];refine List.nodup_append.2 ⟨h1,by simp,fun x hx y hy=> ?_⟩;rw[List.map_cons,List.map_nil,List.mem_singleton]at hy;subst hy;obtain⟨z,hz,rfl⟩:=List.mem_map.1 hx;have:=h2 z hz;omega
 ·rw[Array.toList_push]at hx;rcases List.mem_append.1 hx with hx | hx
  ·have:=h2 x hx;omega
  ·rw[List.mem_singleton]at hx;subst hx;omega
theorem Born.modify{es:Array MapEntry}{c:Nat}(h:Born es c)(i:Nat)(f:MapEntry->MapEntry)(hf:∀e,(f e).born=e.born):Born (es.modify i f) c:=by
 have e:(es.modify i f).toList.map (·.born)=es.toList.map (·.born):=by
  refine List.ext_getElem? fun j=> ?_;rw[List.getElem?_map,List.getElem?_map,Array.getElem?_toList,Array.getElem?_toList,Array.getElem?_modify];by_cases hij:i=j
  ·subst hij;rw[if_pos rfl,Option.map_map];congr 1;exact funext fun e=>hf e
  ·rw[if_neg hij]
 refine⟨by rw[e];exact h.1,fun x hx=> ?_⟩;have hm:x.born∈(es.modify i f).toList.map (·.born):=List.mem_map.2 ⟨x,hx,rfl⟩;rw[e]at hm;obtain⟨y,hy,hxy⟩:=List.mem_map.1 hm;rw[<-hxy];exact h.2 y hy
theorem Sim.setMap(h:Sim N w0 M0 β st a w){d b:Nat}{sc:Nat×Bool}{kvs:List (List Int×List Int)}{es es':Array MapEntry}{c c':Nat}(ht:look st.toks d=some (0,0))(hb:β d=some b)
  (hm:w.heap[b]? =some (.map es c)) (he:Ents sc kvs es') (hn:Born es' c'):
  Sim N w0 M0 β {st with fr:=jcu d sc kvs st.fr} a {w with heap:=w.heap.setIfInBounds b (.map es' c')}:=by
 have hlt:b<w.heap.size:=(Array.getElem?_eq_some_iff.1 hm).1;have hother:∀k,k≠b->({w with heap:=w.heap.setIfInBounds b (.map es' c')}:World).heap[k]? =w.heap[k]? :=fun k hk=>by
  simp[Array.getElem?_setIfInBounds_ne (Ne.symm hk)]
 have hnew:({w with heap:=w.heap.setIfInBounds b (.map es' c')}:World).heap[b]? =some (.map es' c'):=by simp[hlt]
 have hcne:∀(b':Nat) (cur:Array Value) (T:TypeId),w.heap[b']? =some (.cells cur T (0,0))->b'≠b:=fun b' cur T h1 e=>by
  subst e;rw[hm]at h1;cases h1
 have hshp:Shp w {w with heap:=w.heap.setIfInBounds b (.map es' c')}:=fun k cur T hk=>⟨cur,by rw[hother k (hcne k cur T hk)];exact hk,rfl⟩;have hmob:∀o,Mo M0 β st b o:=fun o=> .inr (.inr ⟨d,0,0,ht,hb,by simp⟩);have hk:Kept w (Mo M0 β st) {w with heap:=w.heap.setIfInBounds b (.map es' c')} (Mo M0 β {st with fr:=jcu d sc kvs st.fr}):=
  ⟨fun b' o u hc hn=>by
   have e:b'≠b:=fun e=>by subst e;exact hn (hmob o)
   exact⟨by rw[World.cell?_of_block (w:=w) (a:=⟨b',o,none⟩) (hother b' e)];exact hc,hn⟩,
   fun b' es2 c2 hc hn=>by
   have e:b'≠b:=fun e=>by subst e;exact hn (hmob 0)
   exact⟨by rw[hother b' e];exact hc,hn⟩,hshp⟩
 refine⟨h.size,h.defers,h.below.set (h.toks d 0 0 ht b hb).1 rfl rfl rfl (by simp) hother hshp,h.m0,fun t=> ?_,fun k s es2 hk'=> ?_,fun k s n hk' b' hb'=> ?_,h.inj,h.excl,h.nam,h.np,h.perm⟩
 ·have hg:({st with fr:=jcu d sc kvs st.fr}:St).get t=(st.get t).setM d sc kvs:=by
   simp only[St.get];rw[jcx];cases look st.fr t<;>rfl
  rw[hg];have hfr:=h.fr t;generalize st.get t=av at hfr;generalize a.tmps.getD t undef=v at hfr;cases av with
  | im x=>exact Rep.kept (w:=w) hfr hk
  | und=>trivial
  | sx es=>exact⟨Rep.kept hfr.1 hk,hfr.2⟩
  | vec d' e s es2=>
   refine⟨Rep.kept hfr.1 hk,hfr.2.1,fun hl=> ?_⟩;rcases hfr.2.2 hl with hc | ⟨b',cap,cur,h1,h2,h3,h4⟩
   ·exact .inl hc
   ·exact .inr ⟨b',cap,cur,h1,h2,by rw[hother b' (hcne b' cur e h3)];exact h3,h4⟩
  | osl d' s i n=>exact hfr
  | gsl d' e s n=>
   obtain⟨b',cap,cur,h1,h2,h3,h4⟩:=hfr;exact⟨b',cap,cur,h1,h2,by rw[hother b' (hcne b' cur e h3)];exact h3,h4⟩
  | loc d' s i j=>exact hfr
  | mpo d' sc' kvs'=>
   obtain⟨b',h1,rfl,h3⟩:=hfr;simp only[AV.setM];split
   ·rename_i e;subst e;rw[hb]at h1;cases h1;exact⟨b,hb,rfl,fun _=>⟨es',c',hnew,he,hn⟩⟩
   ·rename_i e;refine⟨b',h1,rfl,fun hl=> ?_⟩;have hne:b'≠b:=fun e'=>by
     subst e';exact e (h.inj d' d b' (.inr (by rw[hl];rfl)) (.inr (by rw[ht];rfl)) h1 hb)
    rw[hother b' hne];exact h3 hl
 ·obtain⟨b',h1,h2,h3⟩:=h.rows k s es2 hk';refine⟨b',h1,h2,h3.move hk (hother b' ?_)⟩;obtain⟨cur,T,h4,_⟩:=h3;exact hcne b' cur T h4
 ·obtain⟨h1,h2⟩:=h.toks k s n hk' b' hb';exact⟨h1,by simpa using h2⟩
theorem valI_rep{x:AV}{v:Value}{b:Bool}{vs:List Int}(hi:valI x=some (b,vs))(h:RepA w M β toks x v):v=elemV b vs:=by
 unfold valI at hi;split at hi
 ·cases hi;exact Rep.sc_inv h
 ·split at hi
  ·rename_i ns hns;cases hi;obtain⟨us,e,hu,_⟩:=Rep.agg_inv h;rw[e];have:=jj7 hns hu;show _=keyV _;unfold keyV;rw[<-this]
  ·cases hi
 ·cases hi
theorem mfind_some:∀{l:List (List Int×List Int)} {x v u:List Int} {j i:Nat},mfind l x j=some (i,v)->∃k,i=j+k/\l[k]? =some (x,v)/\mput l x u=l.set k (x,u)
 | [],x,v,u,j,i,h=>by cases h
 | (k,y)::r,x,v,u,j,i,h=>by
  simp only[mfind]at h;split at h
  ·rename_i e;cases h;subst e;exact⟨0,rfl,rfl,by simp[mput]⟩
  ·rename_i e;obtain⟨k',h1,h2,h3⟩:=mfind_some (u:=u) h;exact⟨k'+1,by omega,by simpa using h2,by simp[mput,e,h3]⟩
theorem je8:∀{l:List (List Int×List Int)} {x u:List Int} {j:Nat},mfind l x j=none->mput l x u=l++[(x,u)]
 | [],x,u,j,h=>rfl
 | (k,y)::r,x,u,j,h=>by
  simp only[mfind]at h;split at h
  ·cases h
  ·rename_i e;simp[mput,e,je8 (u:=u) h]
theorem mapUpdate_run(hG:G.Ok){t kt e:TypeId}{n b c:Nat}{sc:Nat×Bool}{kvs:List (List Int×List Int)}{es:Array MapEntry}{ks vs:List Int}(hu:G.P.underlying t=some (.map kt e))(hk:keyN G kt=some n)(hks:ks.length=n)
  (hsc:sc.1=n) (hb:w.heap[b]? =some (.map es c)) (he:Ents sc kvs es) (hbn:Born es c):
  ∃es' c',(Instr.mapUpdate t (.map (some b)) (keyV ks) (elemV sc.2 vs)).run G.P w= .ok () {w with heap:=w.heap.setIfInBounds b (.map es' c')}/\Ents sc (mput kvs ks vs) es'/\Born es' c':=by
 have hg:(getObj b).run G.P w= .ok (.map es c) w:=by simp[getObj,Sem.run,hb]
 have hs:∀o,(setObj b o).run G.P w= .ok () {w with heap:=w.heap.setIfInBounds b o}:=fun o=>by simp[setObj,Sem.run,hb]
 have hf:=run_findKey_rows (w:=w) hG hk hks (sc:=sc) (kvs:=kvs) (es:=es) (fun _=>hsc) he;have hck:=run_key_check hG hk hks false w;have hlen:es.toList.length=kvs.length:=by have:=congrArg List.length he.2;simpa using this
 have hat:∀(i:Nat),(es.toList[i]?).map (fun e=>(e.key,e.val))=(kvs[i]?).map (fun p=>(keyV p.1,elemV sc.2 p.2)):=fun i=>by
  rw[<-List.getElem?_map,<-List.getElem?_map,he.2]
 unfold Instr.mapUpdate;rw[Sem.run_bind,run_underlying hu,Result.andThen_ok];simp only[Sem.run_bind,hg,Result.andThen_ok,hck,hf];cases hfi:mfind kvs ks 0 with
 | none=>
  refine⟨es.push {key:=keyV ks,val:=elemV sc.2 vs,born:=c},c+1,?_,⟨?_,?_⟩,hbn.push _ rfl⟩
  ·simp only[Option.map_none,hs]
  ·rw[je8 hfi];intro p hp;rcases List.mem_append.1 hp with hp | hp
   ·exact he.1 p hp
   ·rw[List.mem_singleton]at hp;subst hp;show ks.length=_;omega
  ·rw[je8 hfi,Array.toList_push,List.map_append,List.map_append,he.2];rfl
 | some p=>
  obtain⟨i,v⟩:=p;obtain⟨k,h1,h2,h3⟩:=mfind_some (u:=vs) hfi;rw[Nat.zero_add]at h1;subst h1;have hkey:((es[i]?).map (·.key)).getD (keyV ks)=keyV ks:=by
   have:=hat i;rw[h2]at this;simp only[Array.getElem?_toList,Option.map_some]at this;cases hei:es[i]? with
   | none=>rfl
   | some e0=>
    rw[hei]at this;simp only[Option.map_some,Option.some.injEq,Prod.mk.injEq]at this;simp[this.1]
  refine⟨es.modify i fun e=>{e with key:=keyV ks,val:=elemV sc.2 vs},c,?_,⟨?_,?_⟩,hbn.modify i _ fun _=>rfl⟩
  ·simp only[Option.map_some,Sem.run_bind,hkey,Instr.keyThatStays,jfx,if_true,Sem.run_pure,Result.andThen_ok,hs]
  ·rw[h3];intro p hp;rcases List.mem_or_eq_of_mem_set hp with hp | hp
   ·exact he.1 p hp
   ·subst hp;show ks.length=_;omega
  ·rw[h3];apply List.ext_getElem?;intro j;have hj:=hat j;rw[List.getElem?_map,List.getElem?_map,Array.getElem?_toList,Array.getElem?_modify,List.getElem?_set];rw[Array.getElem?_toList]at hj;by_cases hij:i=j
   ·subst hij;have hik:i<kvs.length:=(List.getElem?_eq_some_iff.1 h2).1;have hil:i<es.size:=by rw[<-hlen,Array.length_toList]at hik;exact hik
    simp[hik,hil]
   ·simp only[if_neg hij];exact hj
theorem Sim.newMap(h:Sim N w0 M0 β st a w){d:Nat}{sc:Nat×Bool}(hd:d<N):
  Sim N w0 M0 (upd β d (some w.heap.size)) ((tokSt st d d 0 0).put (some d) (.mpo d sc [])) (a.put (some d) (.map (some w.heap.size))) (w.alloc (.map #[] 0)):=by
 have hold:∀b,b<w.heap.size->(w.alloc (.map #[] 0)).heap[b]? =w.heap[b]? :=fun b hb=>heap_alloc_old w _ hb;have hrowlt:∀k b,((look st.rows k).isSome\/(look st.toks k).isSome)->β k=some b->b<w.heap.size:=fun k b hk hb=>by
  rcases hk with hk | hk
  ·obtain⟨⟨s,es⟩,hl⟩:=Option.isSome_iff_exists.1 hk;obtain⟨b',hb',_,cur,T',h1,_⟩:=h.rows k s es hl;rw[hb]at hb';cases hb';exact(Array.getElem?_eq_some_iff.1 h1).1
  ·obtain⟨⟨s,n⟩,hl⟩:=Option.isSome_iff_exists.1 hk;exact(h.toks k s n hl b hb).2
 have hmo:∀b o,b<w.heap.size->¬Mo M0 β st b o->¬Mo M0 (upd β d (some w.heap.size)) (tokSt st d d 0 0) b o:=by
  intro b o hb hn hm;rcases hm with hm | ⟨k,s',es',hk,hkb⟩ | ⟨k,s',n,hk,hkb,ho⟩
  ·exact hn (.inl hm)
  ·have hne:k≠d:=fun e=>by subst e;simp[tokSt,ja2]at hk
   rw[ja9 _ _ hne]at hkb;simp only[tokSt,ja6 _ hne]at hk;exact hn (.inr (.inl ⟨k,s',es',hk,hkb⟩))
  ·by_cases hne:k=d
   ·subst hne;rw[jaa]at hkb;cases hkb;exact Nat.lt_irrefl _ hb
   ·rw[ja9 _ _ hne]at hkb;exact hn (.inr (.inr ⟨k,s',n,(jb1 hne hk).2,hkb,ho⟩))
 have h1:=h.newTok (w':=w.alloc (.map #[] 0)) (src:=d) (dst:=d) (s:=0) (n:=0) (X:=some w.heap.size)
  ⟨fun b o u hc hn=>by
   have hb:b<w.heap.size:=World.block_lt_of_cell? (a:=⟨b,o,none⟩) w hc;exact⟨by rw[World.cell?_alloc_lt w _ _ hb];exact hc,hmo b o hb hn⟩,
   fun b es c hc hn=>by
   have hb:=(Array.getElem?_eq_some_iff.1 hc).1;exact⟨by rw[hold b hb];exact hc,hmo b 0 hb hn⟩,Shp.old hold⟩
  (h.below.alloc _) (Shp.old hold) (by simp) (fun k b hkb hk=>hold b (hrowlt k b (hk.imp id And.left) hkb))
  (fun b hb=>by
   cases hb;exact⟨fun hp=>absurd (Nat.lt_of_lt_of_le (w0.lt _ hp) h.below.size) (Nat.lt_irrefl _),by simp,fun k _ _ hk hkb=>absurd (hrowlt k _ hk hkb) (Nat.lt_irrefl _)⟩) (.inl rfl) (Nat.lt_of_lt_of_le hd h.np)
 exact h1.put (dst:=some d) (fun d' e=>by cases e;exact hd) ⟨w.heap.size,jaa _ _ _,rfl,fun _=>⟨#[],0,heap_alloc_new w _,⟨by simp,rfl⟩,by simp,by simp⟩⟩
def jgg(G:Ctx)(K:St->Prop)(st:St)(dst:Option Nat)(t:TypeId):Prop:=
 match dst,(G.ti t).kind with
 | some d,.mp kt e=>match keyN G kt with
  | some n=>(G.ti t).size≠0/\K ((tokSt st d d 0 0).put (some d) (.mpo d (n,intK G e) []))
  | none=>False
 | _,_=>False
def jjk(G:Ctx)(K:St->Prop)(st:St)(dst:Option Nat)(t:TypeId)(m k x:AV):Prop:=
 match m,keyI k,valI x with
 | .mpo d sc kvs,some ks,some (b,vs)=>match(G.ti t).kind with
  | .mp kt e=>(G.ti t).size≠0/\look st.toks d=some (0,0)/\keyN G kt=some (nlen ks)/\sc=(nlen ks,b)/\K (St.put {st with fr:=jcu d sc (mput kvs ks vs) st.fr} dst (.im (.sc undef)))
  | _=>False
 | _,_,_=>False
end
end
section
open Go.RowKit (Below)
def pβ(k:Nat):Option Nat:=if 100000<=k then some (k-100000)else none
theorem pβ_hp(b:Nat):pβ (hp b)=some b:=by unfold pβ hp;rw[if_pos (by omega)];simp
theorem pβ_of{k b:Nat}(h:pβ k=some b):k=hp b:=by
 unfold pβ at h;split at h
 ·have:=Option.some.inj h;unfold hp;omega
 ·cases h
theorem hp_of{k:Nat}(h:100000<=k):k=hp (k-100000):=by unfold hp;omega
def MoH(M:Nat->Nat->Prop)(L:Rows)(b o:Nat):Prop:=M b o\/(look L (hp b)).isSome
def Base.exH(w:World)(L:Rows):Base:={w:=w,P:=fun b=>b<w.heap.size/\look L (hp b)=none,lt:=fun _ h=>h.1}
def CtrH(P:Program)(f:FuncId)(args:List AV)(L:Rows)(φ:AV->Rows->Prop):Prop:=
 ∀(w:World) (M:Nat->Nat->Prop) (vs:List Value),(∀b o,M b o->b<w.heap.size)->
  (∀k s es,look L k=some (s,es)->∃b,k=hp b/\(∀o,¬M b o)/\RowRep w (MoH M L) b s es)->
  vs.length=args.length->(∀(i:Nat) av v,args[i]? =some av->vs[i]? =some v->RepA w (MoH M L) pβ [] av v)->
  Calls P f vs.toArray w fun en w'=>∃r v L',φ r L'/\en= .returned v/\r.toArg=r/\(Base.exH w L).Fr w'/\
   (∀k s es,look L' k=some (s,es)->∃b,k=hp b/\((look L k).isSome\/w.heap.size<=b)/\RowRep w' (MoH M L') b s es)/\RepA w' (MoH M L') pβ [] r v
theorem CtrH.mono{P f args L}{φ ψ:AV->Rows->Prop}(h:CtrH P f args L φ)(hi:∀r L',φ r L'->ψ r L'):CtrH P f args L ψ:=
 fun w M vs h1 h2 h3 h4=>(h w M vs h1 h2 h3 h4).mono fun _ _ ⟨r,v,L',g1,g2⟩=>⟨r,v,L',hi r L' g1,g2⟩
def AV.toH:AV->AV
 | .sx es=> .im (.sl es)
 | .vec _ _ _ es=> .im (.sl es)
 | .mpo _ _ _=> .und
 | .osl d s i n=>if 100000<=d then .osl d s i n else .und
 | .gsl d e s n=>if 100000<=d then .gsl d e s n else .und
 | .loc d s i j=>if 100000<=d then .loc d s i j else .und
 | .im x=> .im x
 | .und=> .und
structure HandsH(st:St)(L:Rows):Prop where
 blk:∀k x,look L k=some x->∃b,k=hp b
 rows:∀k x,look L k=some x->look st.rows k=some x
section
variable{G:Ctx}{N:Nat}{w0:Base}{w w':World}{M M' M0:Nat->Nat->Prop}{β β':Nat->Option Nat}{st:St}{a:Act}{toks toks':List (Nat×Nat×Nat)}{av:AV}{v:Value}
theorem jau{α:Type}{o:Option α}{x:α}(h:o=some x):o.isSome:=by rw[h];rfl
def MhH(M0:Nat->Nat->Prop)(β:Nat->Option Nat)(st:St)(L:Rows)(b o:Nat):Prop:=Mo M0 β st b o/\look L (hp b)=none
theorem HandsH.mo(h:Sim N w0 M0 β st a w){L:Rows}(H:HandsH st L){b:Nat}(hb:(look L (hp b)).isSome)(o:Nat):Mo M0 β st b o:=by
 obtain⟨⟨s,es⟩,hl⟩:=Option.isSome_iff_exists.1 hb;exact .inr (.inl ⟨_,s,es,H.rows _ _ hl,h.perm b⟩)
theorem jkx(h:Sim N w0 M0 β st a w){L:Rows}(H:HandsH st L){b o:Nat}(hm:MoH (MhH M0 β st L) L b o):Mo M0 β st b o:=
 hm.elim (·.1) fun hb=>H.mo h hb o
theorem Sim.handH(h:Sim N w0 M0 β st a w){L:Rows}(H:HandsH st L):(∀b o,MhH M0 β st L b o->b<w.heap.size)/\
  ∀k s es,look L k=some (s,es)->∃b,k=hp b/\(∀o,¬MhH M0 β st L b o)/\RowRep w (MoH (MhH M0 β st L) L) b s es:=by
 refine⟨fun b o hm=>h.mlt hm.1,fun k s es hk=> ?_⟩;obtain⟨b,rfl⟩:=H.blk k _ hk;obtain⟨b',h1,_,h3⟩:=h.rows _ s es (H.rows _ _ hk);rw[h.perm]at h1;cases h1;exact⟨b,rfl,fun o hm=>(by rw[hm.2]at hk;cases hk),h3.move (Kept.less w fun b o hm=>jkx h H hm) rfl⟩
theorem RepA.handH(h:Sim N w0 M0 β st a w){L:Rows}(H:HandsH st L)(hv:RepA w (Mo M0 β st) β st.toks av v):RepA w (MoH (MhH M0 β st L) L) pβ [] av.toH v:=by
 have hk:Kept w (Mo M0 β st) w (MoH (MhH M0 β st L) L):=Kept.less w fun b o hm=>jkx h H hm;have hb:∀d b,100000<=d->β d=some b->pβ d=some b:=fun d b hd hb=>by
  rw[hp_of hd,h.perm]at hb;rw[<-hb];unfold pβ;rw[if_pos hd]
 cases av with
 | im x=>exact Rep.kept (w:=w) hv hk
 | und=>trivial
 | sx es=>exact Rep.kept (w:=w) hv.1 hk
 | vec d e s es=>exact Rep.kept (w:=w) hv.1 hk
 | mpo d sc kvs=>trivial
 | osl d s i n=>
  simp only[AV.toH];split
  ·rename_i hd;obtain⟨ad,c,h1,h2,h3⟩:=hv;exact⟨ad,c,h1,h2,fun hn=>let⟨b,h4,h5⟩:=h3 hn;⟨b,hb d b hd h4,h5⟩⟩
  ·trivial
 | gsl d e s n=>
  simp only[AV.toH];split
  ·rename_i hd;obtain⟨b,cap,cur,h1,h2⟩:=hv;exact⟨b,cap,cur,hb d b hd h1,h2⟩
  ·trivial
 | loc d s i j=>
  simp only[AV.toH];split
  ·rename_i hd;obtain⟨b,h1,h2⟩:=hv;exact⟨b,hb d b hd h1,h2⟩
  ·trivial
theorem RepA.backH(hβ:∀b,β (hp b)=some b){M2:Nat->Nat->Prop}{r:AV}(h:RepA w M pβ [] r v)(hr:r.toArg=r)(hM:∀b o,M2 b o->M b o):RepA w M2 β toks r v:=by
 have hb:∀d b,pβ d=some b->β d=some b:=fun d b hb=>by rw[pβ_of hb,hβ]
 cases r with
 | im x=>exact Rep.kept (w:=w) h (Kept.less w hM)
 | und=>trivial
 | sx es=>simp[AV.toArg]at hr
 | vec d e s es=>simp[AV.toArg]at hr
 | osl d s i n=>
  obtain⟨ad,c,h1,h2,h3⟩:=h;exact⟨ad,c,h1,h2,fun hn=>let⟨b,h4,h5⟩:=h3 hn;⟨b,hb d b h4,h5⟩⟩
 | gsl d e s n=>
  obtain⟨b,cap,cur,h1,h2⟩:=h;exact⟨b,cap,cur,hb d b h1,h2⟩
 | loc d s i j=>
  obtain⟨b,h1,h2⟩:=h;exact⟨b,hb d b h1,h2⟩
 | mpo d sc kvs=>simp[AV.toArg]at hr
theorem Sim.afterH(h:Sim N w0 M0 β st a w){L L' R':Rows}(H:HandsH st L)(hf:(Base.exH w L).Fr w')
  (hE:∀k s es,look L' k=some (s,es)->∃b,k=hp b/\((look L k).isSome\/w.heap.size<=b)/\RowRep w' (MoH (MhH M0 β st L) L') b s es)
  (hR:∀k x,look R' k=some x->look L' k=some x\/(look L k=none/\look st.rows k=some x)):
  Sim N w0 M0 β ⟨st.fr,R',st.toks⟩ a w'/\∀b o,Mo M0 β ⟨st.fr,R',st.toks⟩ b o->MoH (MhH M0 β st L) L' b o:=by
 have hno:∀b,w0.P b->look L (hp b)=none:=fun b hb=>by
  cases hl:look L (hp b)with
  | none=>rfl
  | some x=>
   obtain⟨s,es⟩:=x;obtain⟨b',h1,h2,_⟩:=h.rows _ s es (H.rows _ _ hl);rw[h.perm]at h1;cases h1;exact absurd hb h2
 have hlive:∀d b,((look st.rows d).isSome\/(look st.toks d).isSome)->β d=some b->look L d=none->look L (hp b)=none:=fun d b hd hb hn=>by
  cases hl:look L (hp b)with
  | none=>rfl
  | some x=>
   have:=h.inj d (hp b) b hd (.inl (jau (H.rows _ _ hl))) hb (h.perm b);rw[this,hl]at hn;cases hn
 have htokL:∀d,(look st.toks d).isSome->look L d=none:=fun d hd=>by
  cases hl:look L d with
  | none=>rfl
  | some x=>
   have:=h.excl d (jau (H.rows _ _ hl));rw[this]at hd;cases hd
 have hlt:∀d b,((look st.rows d).isSome\/(look st.toks d).isSome)->β d=some b->b<w.heap.size:=fun d b hd hb=>by
  rcases hd with hd | hd
  ·obtain⟨⟨s',es'⟩,hl⟩:=Option.isSome_iff_exists.1 hd;exact h.mlt (o:=0) (.inr (.inl ⟨d,s',es',hl,hb⟩))
  ·obtain⟨⟨s',n'⟩,hl⟩:=Option.isSome_iff_exists.1 hd;exact(h.toks d s' n' hl b hb).2
 have hback:∀b o,Mo M0 β ⟨st.fr,R',st.toks⟩ b o->MoH (MhH M0 β st L) L' b o:=by
  rintro b o (hm | ⟨d,s,es,hd,hb⟩ | ⟨d,s,n,hd,hb,ho⟩)
  ·exact .inl ⟨.inl hm,hno b (h.m0 b o hm)⟩
  ·rcases hR d _ hd with h1 | ⟨h1,h2⟩
   ·obtain⟨b',rfl,_⟩:=hE d s es h1;rw[h.perm]at hb;cases hb;exact .inr (jau h1)
   ·exact .inl ⟨.inr (.inl ⟨d,s,es,h2,hb⟩),hlive d b (.inl (jau h2)) hb h1⟩
  ·have hd:look st.toks d=some (s,n):=hd;exact .inl ⟨.inr (.inr ⟨d,s,n,hd,hb,ho⟩),hlive d b (.inr (jau hd)) hb (htokL d (jau hd))⟩
 have hsame:∀b,b<w.heap.size->look L (hp b)=none->w'.heap[b]? =w.heap[b]? :=fun b h1 h2=>hf.block b ⟨h1,h2⟩;have hback2:∀b o,b<w.heap.size->Mo M0 β ⟨st.fr,R',st.toks⟩ b o->Mo M0 β st b o:=fun b o hb hm=>by
  rcases hback b o hm with hm | hm
  ·exact hm.1
  ·obtain⟨⟨s,es⟩,hl⟩:=Option.isSome_iff_exists.1 hm;obtain⟨b',h1,h2,_⟩:=hE _ s es hl;rw[hp_inj]at h1;subst h1;rcases h2 with h2 | h2
   ·exact H.mo h h2 o
   ·omega
 have hkept:Kept w (Mo M0 β st) w' (Mo M0 β ⟨st.fr,R',st.toks⟩):=by
  have hn':∀b o,¬Mo M0 β st b o->look L (hp b)=none:=fun b o hn=>by
   cases hl:look L (hp b)with
   | none=>rfl
   | some x=>exact absurd (H.mo h (jau hl) o) hn
  refine⟨fun b o u hc hn=> ?_,fun b es2 c hc hn=> ?_,hf.shp⟩
  ·have hb:b<w.heap.size:=World.block_lt_of_cell? (a:=⟨b,o,none⟩) w hc;refine⟨?_,fun hm=>hn (hback2 b o hb hm)⟩;rw[World.cell?_of_block (w:=w) (a:=⟨b,o,none⟩) (hsame b hb (hn' b o hn))];exact hc
  ·have hb:b<w.heap.size:=(Array.getElem?_eq_some_iff.1 hc).1;refine⟨?_,fun hm=>hn (hback2 b 0 hb hm)⟩;rw[hsame b hb (hn' b 0 hn)];exact hc
 have hfr:w0.Fr w':=⟨hf.os.trans h.below.os,hf.tape.trans h.below.tape,hf.output.trans h.below.output,Nat.le_trans h.below.size hf.size,fun k hk=>by
  rw[hsame k (Nat.lt_of_lt_of_le (w0.lt k hk) h.below.size) (hno k hk)];exact h.below.block k hk,h.below.shp.trans hf.shp⟩
 refine⟨⟨h.size,h.defers,hfr,h.m0,fun t=> ?_,fun d s es hd=> ?_,fun d s n hd b hb=> ?_,fun d d' b h1 h2 hb hb'=> ?_,fun d hd=> ?_,fun k hN hN' hk=> ?_,h.np,h.perm⟩,hback⟩
 ·exact(h.fr t).move hkept (fun _ _=>rfl) (fun _ _ _ _ hl=>hl) (fun d b hl _ hb=>hsame b (hlt d b (.inr hl) hb) (hlive d b (.inr hl) hb (htokL d hl))) hf.shp
 ·rcases hR d _ hd with h1 | ⟨h1,h2⟩
  ·obtain⟨b,rfl,h3,h4⟩:=hE d s es h1;refine⟨b,h.perm b,?_,h4.move (Kept.less w' hback) rfl⟩;rcases h3 with h3 | h3
   ·obtain⟨⟨s',es'⟩,hl⟩:=Option.isSome_iff_exists.1 h3;obtain⟨b',g1,g2,_⟩:=h.rows _ s' es' (H.rows _ _ hl);rw[h.perm]at g1;cases g1;exact g2
   ·exact fun hp=>absurd (Nat.lt_of_lt_of_le (w0.lt _ hp) h.below.size) (by omega)
  ·obtain⟨b,g1,g2,g3⟩:=h.rows d s es h2;exact⟨b,g1,g2,g3.move hkept (hsame b (hlt d b (.inl (jau h2)) g1) (hlive d b (.inl (jau h2)) g1 h1))⟩
 ·obtain⟨h1,h2⟩:=h.toks d s n hd b hb;exact⟨h1,Nat.lt_of_lt_of_le h2 hf.size⟩
 ·
  have dom:∀d,((look R' d).isSome\/(look st.toks d).isSome)->β d=some b->((look st.rows d).isSome\/(look st.toks d).isSome)\/(d=hp b/\w.heap.size<=b):=fun d hd hb=>by
   rcases hd with hd | hd
   ·obtain⟨⟨s,es⟩,hl⟩:=Option.isSome_iff_exists.1 hd;rcases hR d _ hl with h1 | ⟨_,h2⟩
    ·obtain⟨b',rfl,h3,_⟩:=hE d s es h1;rw[h.perm]at hb;cases hb;rcases h3 with h3 | h3
     ·obtain⟨x,hx⟩:=Option.isSome_iff_exists.1 h3;exact .inl (.inl (jau (H.rows _ _ hx)))
     ·exact .inr ⟨rfl,h3⟩
    ·exact .inl (.inl (jau h2))
   ·exact .inl (.inr hd)
  rcases dom d h1 hb with g1 | ⟨g1,g2⟩<;>rcases dom d' h2 hb' with g3 | ⟨g3,g4⟩
  ·exact h.inj d d' b g1 g3 hb hb'
  ·exact absurd (hlt d b g1 hb) (by omega)
  ·exact absurd (hlt d' b g3 hb') (by omega)
  ·rw[g1,g3]
 ·obtain⟨⟨s,es⟩,hl⟩:=Option.isSome_iff_exists.1 hd;rcases hR d _ hl with h1 | ⟨_,h2⟩
  ·obtain⟨b,rfl,h3,_⟩:=hE d s es h1;rcases h3 with h3 | h3
   ·obtain⟨x,hx⟩:=Option.isSome_iff_exists.1 h3;exact h.excl _ (jau (H.rows _ _ hx))
   ·exact(h.none_at h3).2
  ·exact h.excl d (jau h2)
 ·obtain⟨⟨s,es⟩,hl⟩:=Option.isSome_iff_exists.1 hk;rcases hR k _ hl with h1 | ⟨_,h2⟩
  ·obtain⟨b,rfl,_⟩:=hE k s es h1;unfold hp at hN';omega
  ·exact h.nam k hN hN' (jau h2)
def frz1(b s:Nat)(es:List (List IV)):IV->IV
 | .emp=> .sl []
 | .ref b' e s' n=>if b'=b/\s'=s/\n<=es.length then .sl (es.take n)else .ref b' e s' n
 | x=>x
def frz2(b s:Nat)(es:List (List IV)):IV->IV
 | .agg cs=> .agg (cs.map (frz1 b s es))
 | x=>frz1 b s es x
def frz3(b s:Nat)(es:List (List IV)):IV->IV
 | .tup cs=> .tup (cs.map (frz2 b s es))
 | x=>frz2 b s es x
theorem frz1_one(b s:Nat)(es:List (List IV))(x:IV):(frz1 b s es x).one=x.one:=by
 cases x<;>simp only[frz1]
 ·split<;>rfl
 ·rfl
theorem jkt{b s:Nat}{es:List (List IV)}(hrow:RowRep w M b s es)(hn:∀o,¬M b o){x:IV}(h:Rep w M x v):Rep w M (frz1 b s es x) v:=by
 cases x with
 | ref b' e s' n=>
  simp only[frz1];split
  ·rename_i hc;obtain⟨rfl,rfl,hle⟩:=hc;cases h with
   | ref _ _ _ _ cap cur h1 h2 h3 h4=>
    obtain⟨cur',T,g1,g2,g3⟩:=hrow;rw[h1]at g1;cases g1;have hlen:(es.take n).length=n:=by simp;omega
    by_cases hz:n=0
    ·subst hz;exact .nil _ _
    ·have:=Rep.sl (w:=w) (M:=M) (es.take n) s' b' 0 cap (fun i j=>cur.getD (i*s'+j) undef) (fun e=>by rw[e]at hlen;simp at hlen;omega)
      (fun c hc=>g2 c (List.mem_of_mem_take hc)) (by omega)
      (fun i c j x hi hj=>by
       have hi':es[i]? =some c:=by
        rw[List.getElem?_take]at hi;split at hi
        ·exact hi
        ·cases hi
       obtain⟨k1,u,k2,k3⟩:=g3 i c j x hi' hj;have hg:cur.getD (i*s'+j) undef=u:=by simp[k2]
       refine⟨k1,?_,hn _⟩;rw[Nat.zero_add,hg,cell_of_row w b' _ cur e _ h1,k2])
      (fun i c j x hi hj=>by
       have hi':es[i]? =some c:=by
        rw[List.getElem?_take]at hi;split at hi
        ·exact hi
        ·cases hi
       obtain⟨k1,u,k2,k3⟩:=g3 i c j x hi' hj;have hg:cur.getD (i*s'+j) undef=u:=by simp[k2]
       show Rep w M x (cur.getD (i*s'+j) undef);rw[hg];exact k3)
     rw[hlen]at this;exact this
  ·exact h
 | emp=>
  cases h with
  | emp a=>exact .nil _ _
 | _=>exact h
theorem jks{b s:Nat}{es:List (List IV)}(hrow:RowRep w M b s es)(hn:∀o,¬M b o){x:IV}(h:Rep w M x v):Rep w M (frz2 b s es x) v:=by
 cases x with
 | agg cs=>
  cases h with
  | agg _ vs h1 h2 h3=>
   refine .agg _ vs (by simpa using h1) (fun x hx=> ?_) (fun k x v hx hv=> ?_)
   ·obtain⟨y,hy,rfl⟩:=List.mem_map.1 hx;rw[frz1_one];exact h2 y hy
   ·rw[List.getElem?_map]at hx;obtain⟨y,hy,rfl⟩:=Option.map_eq_some_iff.1 hx;exact jkt hrow hn (h3 k y v hy hv)
 | _=>exact jkt hrow hn h
theorem jkr{b s:Nat}{es:List (List IV)}(hrow:RowRep w M b s es)(hn:∀o,¬M b o){x:IV}(h:Rep w M x v):Rep w M (frz3 b s es x) v:=by
 cases x with
 | tup cs=>
  cases h with
  | tup _ vs h1 h3=>
   refine .tup _ vs (by simpa using h1) (fun k x v hx hv=> ?_);rw[List.getElem?_map]at hx;obtain⟨y,hy,rfl⟩:=Option.map_eq_some_iff.1 hx;exact jks hrow hn (h3 k y v hy hv)
 | _=>exact jks hrow hn h
def AV.frz(b s:Nat)(es:List (List IV)):AV->AV
 | .im x=> .im (frz3 b s es x)
 | .osl d s' i n=>if d=hp b then .und else .osl d s' i n
 | .gsl d e s' n=>if d=hp b then .und else .gsl d e s' n
 | .loc d s' i j=>if d=hp b then .und else .loc d s' i j
 | x=>x
def St.frz(st:St)(b:Nat):St:=
 match look st.rows (hp b)with
 | some (s,es)=>⟨st.fr.map fun p=>(p.1,p.2.frz b s es),del st.rows (hp b),st.toks⟩
 | none=>st
theorem Sim.frz(h:Sim N w0 M0 β st a w)(b:Nat):Sim N w0 M0 β (st.frz b) a w:=by
 unfold St.frz;split
 case h_2=>exact h
 case h_1 s es hd=>
  obtain⟨b',hb',hb0,hrow⟩:=h.rows _ s es hd;rw[h.perm]at hb';cases hb';have htok:look st.toks (hp b)=none:=h.excl _ (jau hd);have hless:∀b' o,Mo M0 β ⟨st.fr.map fun p=>(p.1,p.2.frz b s es),del st.rows (hp b),st.toks⟩ b' o->Mo M0 β st b' o:=fun b' o hm=>jjn hm;have hk:=Kept.less w hless;have hnm:∀o,¬Mo M0 β ⟨st.fr.map fun p=>(p.1,p.2.frz b s es),del st.rows (hp b),st.toks⟩ b o:=by
   rintro o (hm | ⟨k,s',es',hk',hkb⟩ | ⟨k,s',n,hk',hkb,_⟩)
   ·exact hb0 (h.m0 b o hm)
   ·by_cases e:k=hp b
    ·subst e;simp[ja2]at hk'
    ·exact e (h.inj k (hp b) b (.inl (by simp only[ja6 _ e]at hk';simp[hk'])) (.inl (by simp[hd])) hkb (h.perm b))
   ·have:=h.inj k (hp b) b (.inr (by simp only at hk';simp[hk'])) (.inl (by simp[hd])) hkb (h.perm b);subst this;simp only at hk';rw[htok]at hk';cases hk'
  have hrow':=hrow.move hk rfl;refine⟨h.size,h.defers,h.below,h.m0,fun t=> ?_,fun k s' es' hk'=> ?_,h.toks,fun k k' b2 h1 h2=> ?_,fun k hk'=> ?_,fun k hN hN' hk'=> ?_,h.np,h.perm⟩
  case refine_5=>
   by_cases e:k=hp b
   ·subst e;simp[ja2]at hk'
   ·exact h.nam k hN hN' (by simpa [ja6 _ e]using hk')
  ·have hg:(⟨st.fr.map fun p=>(p.1,p.2.frz b s es),del st.rows (hp b),st.toks⟩:St).get t=(st.get t).frz b s es:=by
    simp only[St.get];rw[je9];cases look st.fr t<;>rfl
   rw[hg];have hfr:=(h.fr t).move (β':=β) (toks':=st.toks) hk (fun _ _=>rfl) (fun _ _ _ _ hl=>hl) (fun _ _ _ _ _=>rfl) (Shp.refl _);generalize st.get t=av at hfr;cases av with
   | im x=>exact jkr hrow' hnm hfr
   | osl d s' i n=>simp only[AV.frz];split<;>first | trivial | exact hfr
   | gsl d e s' n=>simp only[AV.frz];split<;>first | trivial | exact hfr
   | loc d s' i j=>simp only[AV.frz];split<;>first | trivial | exact hfr
   | _=>exact hfr
  ·by_cases e:k=hp b
   ·subst e;simp[ja2]at hk'
   ·obtain⟨b2,h1,h2,h3⟩:=h.rows k s' es' (by simpa [ja6 _ e]using hk');exact⟨b2,h1,h2,h3.move hk rfl⟩
  ·refine h.inj k k' b2 ?_ ?_
   ·by_cases e:k=hp b
    ·subst e;simpa [ja2,htok]using h1
    ·simpa [ja6 _ e]using h1
   ·by_cases e:k'=hp b
    ·subst e;simpa [ja2,htok]using h2
    ·simpa [ja6 _ e]using h2
  ·by_cases e:k=hp b
   ·subst e;exact htok
   ·exact h.excl k (by simpa [ja6 _ e]using hk')
def frzO(st:St)(x:Operand):St:=
 match evO st x with
 | .im (.ref b _ _ _)=>st.frz b
 | _=>st
def St.frzOs(st:St)(xs:List Operand):St:=xs.foldl frzO st
theorem Sim.frzOs(h:Sim N w0 M0 β st a w)(xs:List Operand):Sim N w0 M0 β (st.frzOs xs) a w:=by
 induction xs generalizing st with
 | nil=>exact h
 | cons x xs ih=>
  refine ih (st:=Abs.frzO st x) ?_;unfold Abs.frzO;split
  ·exact h.frz _
  ·exact h
