/- A part of the proof. No further condition. -/
import Derived.Test.YtkcekimolppapaaGreatKC36
import Derived.Test.YtkcekimolppapaaGreatKC35
import Derived.RangeFuncWrites
import Derived.Maps.AppendAt
set_option linter.all false
set_option maxRecDepth 10000000
set_option maxHeartbeats 16000000
namespace Go.Proofs.YtkcekimolppapaaGreat
section
open Go.Abs
attribute [local go_sem] Evid.iv Evid.c Place.c Move.c Cert.c Recall.c Purity.c Sample.c Recipe.c ints ic
theorem CtrV.ctr{P:Program}{f:FuncId}{args:List IV}{e s:Nat}{es:List (List IV)}(h:CtrV P f args e s es):Ctr P f args (· = .sl es):=by
 intro w M vs hM hr;refine(h w M vs hM hr).mono fun en w' ⟨v,he,hb,hv⟩=> ?_;refine⟨_,v,rfl,he,?_,hb⟩;rcases hv with ⟨h1,_⟩ | ⟨b,cap,cur,_,_,h1,_⟩
 ·exact h1
 ·exact h1.less fun b o hm=> .inl hm
end
end Go.Proofs.YtkcekimolppapaaGreat
namespace Go.Abs
section
section
variable{G:Ctx}{N:Nat}
end
def inL:Code->Code
 | .seq x _=>x
 | c=>c
def inR:Code->Code
 | .seq _ y=>y
 | c=>c
def inB:Code->Code
 | .block _ c=>c
 | .loop c=>c
 | c=>c
theorem inL_seq(x y:Code):inL (.seq x y)=x:=rfl
theorem inR_seq(x y:Code):inR (.seq x y)=y:=rfl
theorem inB_block(k:Nat)(c:Code):inB (.block k c)=c:=rfl
theorem inB_loop(c:Code):inB (.loop c)=c:=rfl
attribute [go_sem] inL_seq inR_seq inB_block inB_loop
theorem path_go{G:Ctx}{fn:Func}{c:Code}(f:Code->Code)(hb:fn.body=some c){k j:Nat}{y:Code}{Q:Exit->St->Prop}{st:St}(h:awp G (putN k (tailN j (f c)) y) Q st):awp G (putN k (tailN j (f (jbl fn))) y) Q st:=by
 unfold jbl;rw[hb];exact h
end
end Go.Abs
namespace Go.Proofs.YtkcekimolppapaaGreat
section
open Go.Abs
attribute [local go_sem] Evid.iv Evid.c ints ic
theorem t_cloneF(es:List (List IV))(h4:∀c∈es,c.length=4)(hl:es.length<=100000):CtrV G.P 65 [.sl es] 35 4 es:=by
 refine ctrv_go good _ _ [.tmp 2] Tryz.func65 rfl rfl (by decide+kernel) rfl ?_;simp only[go_sem];refine jpd (fun h=> ?_) ?_
 ·subst h;simp only[go_sem]
 ·simp only[go_sem];exact⟨by simp,h4,by omega⟩
theorem t_chunk(es:List (List IV))(m:Int)(hm:decide (m<1)=false):Ctr G.P 64 [.sl es,.int m] (· = .clo 121 [.ip [.sl es] 0,.ip [.int m] 0]):=by
 refine ja5 [.tmp 4] Tryz.func64 ?_;simp only[hm,go_sem]
theorem hist_a{e:Evid}(hc:jbi e=0)(es:List (List IV))(hn:(es.length:Int)=e.moves.length*e.mats)(hle:es.length<=100000){P:Exit->St->Prop}
  (hP:∀s,St.Le s ⟨[(1,.im (.sl es)),(2,.im (.ip e.c 0))],[],[]⟩->P .normal s):
  awp G (putN 2 (tailN 0 (jbl Tryz.f21)) .skip) P (initSt [e.iv,.sl es]):=by
 have k:=c21 e;rw[hc]at k;have h1:=ja8 (n:=(e.moves.length:Int)*e.mats) (by omega);have hd:decide ((es.length:Int)=e.moves.length*e.mats)=true:=zh hn;refine jhr rfl ?_;unfold Evid.iv Evid.c at*;simp only[go_sem];refine ja1 k ?_;simp only[h1,hd,za,go_sem];exact hP _ ((St.le_lend _ 2).trans (jgr [1,2] rfl (SubR.of_eq rfl) rfl))
theorem hist_b{e:Evid}(hm:1<=e.mats)(es:List (List IV))(h4:∀c∈es,c.length=4)(hle:es.length<=100000)(B:Nat){P:Exit->St->Prop}
  (hP:∀s,St.Le s ⟨[(5,.im (.pr B 1 0 0)),(26,.im (.clo 121 [.ip [.sl es] 0,.ip [.int e.mats] 0]))],[],[]⟩->P .normal s):
  awp G (putN 1 (tailN 0 (inL (tailN 3 (jbl Tryz.f21)))) .skip) P ⟨[(1,.im (.sl es)),(2,.im (.ip e.c 0)),(5,.im (.pr B 1 0 0))],[],[]⟩:=by
 have k1:=CtrV.ctr (t_cloneF es h4 hle);have k2:=t_chunk es e.mats (zw (by omega));have e1:max 1 e.mats=e.mats:=by omega
 refine path_go (fun c=>inL (tailN 3 c)) rfl ?_;unfold Evid.c;simp only[e1,go_sem];refine jab 5 ?_;simp only[e1,go_sem];refine ja4 k1 (by decide) ?_;simp only[e1,go_sem];refine ja1 k2 ?_;simp only[go_sem];exact hP _ (jgr [5,26] rfl (SubR.of_eq rfl) rfl)
end
section
open Go.RowKit Go.Shelf
open Go.Abs (IV AV Rep RepL Ctr St Sim Base isSeq dstB awp putN tailN jbl inL inR je7 Mo pβ)
attribute [local go_sem] Oper.semAt_some
theorem jov{G:Go.Abs.Ctx}(hG:G.Good){N:Nat}{w0:Base}{M0:Nat->Nat->Prop}{Q:Exit->Act->World->Prop}{T:St->Prop}:∀(k:Nat) {c:Code} {st:St} {β:Nat->Option Nat} {a:Act} {w:World},isSeq k c=true->dstB N c=true->
  awp G (putN k c .skip) (fun e s=>match e with | .normal=>T s | _=>False) st->(∀β s a w,T s->Sim N w0 M0 β s a w->(tailN k c).wp G.P Q a w)->Sim N w0 M0 β st a w->c.wp G.P Q a w
 | 0,c,st,β,a,w,_,_,h1,h2,hs=>h2 β st a w h1 hs
 | k+1,.seq x y,st,β,a,w,hq,hd,h1,h2,hs=>by
  simp only[dstB,zC]at hd;refine wp_seq (wp_mono (je7 hG x _ st β a w hd.1 h1 hs) fun e a' w' hl=> ?_);obtain⟨β',st',h3,h4⟩:=hl;cases e with
  | normal=>exact jov hG k hq hd.2 h3 h2 h4
  | _=>exact h3.elim
theorem sim_on{N:Nat}{w0:Base}{M0:Nat->Nat->Prop}{β:Nat->Option Nat}{x1 x2:IV}{a a':Act}{w w':World}(h:Sim N w0 M0 β ⟨[(1,.im x1),(2,.im x2)],[],[]⟩ a w)(hB:Below w.heap.size w w')(hN:a'.tmps.size=N)(hD:a'.defers=[])
  (e1:a'.tmps.getD 1 undef=a.tmps.getD 1 undef) (e2:a'.tmps.getD 2 undef=a.tmps.getD 2 undef) (B:Nat) (e5:a'.tmps.getD 5 undef= .pointer (some ⟨B,0,none⟩)):
  Sim N (Base.of w') M0 pβ ⟨[(1,.im x1),(2,.im x2),(5,.im (.pr B 1 0 0))],[],[]⟩ a' w':=by
 have hM:∀b o,Mo M0 pβ ⟨[(1,.im x1),(2,.im x2),(5,.im (.pr B 1 0 0))],[],[]⟩ b o->Mo M0 β ⟨[(1,.im x1),(2,.im x2)],[],[]⟩ b o:=by
  rintro b o (hm | ⟨d,s,es,hd,_⟩ | ⟨d,s,n,hd,_⟩)
  ·exact .inl hm
  ·cases hd
  ·cases hd
 have k:∀{x:IV} {v:Value},Rep w (Mo M0 β ⟨[(1,.im x1),(2,.im x2)],[],[]⟩) x v->Rep w' (Mo M0 pβ ⟨[(1,.im x1),(2,.im x2),(5,.im (.pr B 1 0 0))],[],[]⟩) x v:=fun hr=>(hr.kept (Go.Abs.Below.kept hB)).less hM;refine⟨hN,hD,Base.Fr.refl _,fun b o hm=> ?_,fun t=> ?_,fun d s es hd=>(by cases hd),fun d s n hd=>(by cases hd),fun d d' b h1=>(by simp[Go.Abs.look]at h1),fun d hd=>(by simp[Go.Abs.look]at hd),fun k _ _ hk=>(by simp[Go.Abs.look]at hk),h.np,Go.Abs.pβ_hp⟩
 ·exact zX (w0.lt _ (h.m0 b o hm)) (qn h.below.size hB.size)
 ·by_cases t1:t=1
  ·subst t1;show Rep _ _ _ _;rw[e1];exact k (h.fr 1)
  by_cases t2:t=2
  ·subst t2;show Rep _ _ _ _;rw[e2];exact k (h.fr 2)
  by_cases t5:t=5
  ·subst t5;show Rep _ _ _ _;rw[e5];exact Rep.pr B 1 0 0
  ·have:(⟨[(1,.im x1),(2,.im x2),(5,.im (.pr B 1 0 0))],[],[]⟩:St).get t= .und:=by simp[Go.Abs.St.get,Go.Abs.look,t1,t2,t5]
   rw[this];trivial
theorem e_hist1{e:Evid}(hc:jbi e=0)(es:List (List IV))(h4:∀x∈es,x.length=4)(hn:(es.length:Int)=e.moves.length*e.mats)(hle:es.length<=100000){Q:Exit->Act->World->Prop}{w:World}{M:Nat->Nat->Prop}{a:Act}
  (hs:Sim 33 (Base.of w) M pβ (Go.Abs.initSt [e.iv,.sl es]) a w)
  (hQ:∀(a4:Act) (w4:World) (B:Nat),w.heap.size<=B->Below w.heap.size w w4->Boxed w4 B 61 (.slice none 0 0)->a4.tmps.size=33->a4.defers=[]->a4.tmps.getD 5 undef= .pointer (some ⟨B,0,none⟩)->
   Rep w4 M (.clo 121 [.ip [.sl es] 0,.ip [.int e.mats] 0]) (a4.tmps.getD 26 undef)->(inR (inL (tailN 3 (jbl Tryz.f21)))).wp Tryz.prog (Exit.then ((tailN 4 (jbl Tryz.f21)).wp Tryz.prog Q) Q) a4 w4):
  (jbl Tryz.f21).wp Tryz.prog Q a w:=by
 have hm:1<=e.mats:=(jb3 hc).2.1;refine jov good 2 (by rfl) (by decide+kernel) (hist_a hc es hn hle fun s hs=>hs) (fun β s a2 w2 hT hs2=> ?_) hs;obtain⟨β2,hs2⟩:=hT _ _ _ _ _ _ hs2;have hcode:tailN 2 (jbl Tryz.f21)=Code.seq (inL (tailN 2 (jbl Tryz.f21))) (tailN 3 (jbl Tryz.f21)):=rfl;rw[hcode];refine wp_seq ?_;generalize hK:Exit.then (Code.wp G.P (tailN 3 (jbl Tryz.f21)) Q) Q=K
 have hsz:=hs2.size;obtain⟨tm,df⟩:=a2;have hdf:df=[]:=hs2.defers;subst hdf;have key:K .normal {tmps:=tm.setIfInBounds 5 (.pointer (some ⟨w2.heap.size,0,none⟩)),defers:=[]} (w2.alloc (.cells #[.slice none 0 0] 61)):=by
  subst hK;show(tailN 3 (jbl Tryz.f21)).wp Tryz.prog Q _ _;have hB3:Below w2.heap.size w2 (w2.alloc (.cells #[.slice none 0 0] 61)):=(Below.refl _ _).alloc (zB _) _;have h5l:5<tm.size:=by rw[show tm.size=33 from hsz];decide
  have hs3:=sim_on (a':={tmps:=tm.setIfInBounds 5 (.pointer (some ⟨w2.heap.size,0,none⟩)),defers:=[]}) hs2 hB3 (by simpa using hsz) rfl (by simp[jL]) (by simp[jL]) w2.heap.size (by simp[jL,h5l]);have hcode2:tailN 3 (jbl Tryz.f21)=Code.seq (inL (tailN 3 (jbl Tryz.f21))) (tailN 4 (jbl Tryz.f21)):=rfl;rw[hcode2];refine wp_seq ?_;refine jov good 1 (by rfl) (by decide+kernel) (hist_b hm es h4 hle w2.heap.size fun s hs=>hs) (fun β s a4 w4 hT hs4=> ?_) hs3;obtain⟨β4,hs4⟩:=hT _ _ _ _ _ _ hs4;have hb4:=hs4.below.below;have hb2:=hs2.below.below;have hbx:=Boxed.new w2 61 (.slice none 0 0);have e5:a4.tmps.getD 5 undef= .pointer (some ⟨w2.heap.size,0,none⟩):=by
   have:=hs4.fr 5;have h5:Rep w4 (Mo M β4 ⟨[(5,.im (.pr w2.heap.size 1 0 0)),(26,.im (.clo 121 [.ip [.sl es] 0,.ip [.int e.mats] 0]))],[],[]⟩) (.pr w2.heap.size 1 0 0) (a4.tmps.getD 5 undef):=this;generalize a4.tmps.getD 5 undef=u at h5⊢;cases h5;simp
  have e26:Rep w4 M (.clo 121 [.ip [.sl es] 0,.ip [.int e.mats] 0]) (a4.tmps.getD 26 undef):=Rep.less (show Rep w4 _ _ _ from hs4.fr 26) fun b o hm=> .inl hm;exact hQ a4 w4 w2.heap.size hb2.size ((hb2.trans (hB3.mono hb2.size)).trans (hb4.mono (qn hb2.size hB3.size))) ((hb4.block _ hbx.lt).trans hbx) hs4.size hs4.defers e5 e26
 show Code.wp Tryz.prog (inL (tailN 2 (jbl Tryz.f21))) K _ _;refine(wpIn_wide (n:=10)).1 ?_;simp only[inL,tailN,jbl,Tryz.f21]
 gi_wp2
 exact key
end
section
open Go.RowKit Go.Shelf
open Go.Abs (IV AV Rep RepL Ctr St Sim Base isSeq dstB awp putN tailN jbl inL inR je7 Mo pβ)
attribute [local go_sem] Oper.semAt_some
theorem jlu{W:World}{n₀ n₁:Nat}{e:TypeId}{size:Nat}{v:Value}{k:Nat}{xs:List Value}(h:W.ownsRow n₁ e size v k xs)(hn:n₀<=n₁):W.ownsRow n₀ e size v k xs:=
 ⟨h.1,h.2.imp id fun⟨g,cap,cur,q1,q2,q3⟩=>⟨g,cap,cur,q1,qn hn q2,q3⟩⟩
theorem appended_x{W w1:World}{n₀ n₁ B:Nat}{t e:TypeId}{size:Nat}{v v':Value}{k m:Nat}{xs ys:List Value}{tmp:Obj}
  (hv:Boxed W B t v) (hte:t≠e) (hrow:W.ownsRow n₁ e size v k xs) (h01:n₀<=n₁) (hn:n₁<=W.heap.size) (hB:n₀<=B) (hown':w1.ownsRow n₁ e size v' m ys) (hgrow:(W.alloc tmp).grownBy w1 v.ownBlock):
  Boxed w1 B t v/\Boxed (w1.setCell ⟨B,0,none⟩ v') B t v'/\(w1.setCell ⟨B,0,none⟩ v').ownsRow n₁ e size v' m ys/\KeepsOthers W (w1.setCell ⟨B,0,none⟩ v')/\Below n₀ W (w1.setCell ⟨B,0,none⟩ v')/\BelowX B n₁ W (w1.setCell ⟨B,0,none⟩ v'):=by
 obtain⟨h1,h2,h3,h4,h5⟩:=hv.appended hte (jlu hrow h01) (qn h01 hn) hB (jlu hown' h01) hgrow;refine⟨h1,h2,hown'.kept (grownBy_setCell' w1 B v') (.inr (h1.not_row hte hown').symm),h4,h5,h5.size,fun j hj hne=> ?_⟩;have hjW:j<W.heap.size:=zX hj hn;have hjA:j<(W.alloc tmp).heap.size:=by rw[World.size_alloc];omega
 have hrw:some j≠v.ownBlock:=fun e'=>by
  rcases hrow.2 with ⟨rfl,_⟩ | ⟨g,cap,cur,rfl,hb,_⟩
  ·cases e'
  ·have:j=g:=by simpa [Value.ownBlock]using e'
   omega
 have hj1:j<w1.heap.size:=zX hjA hgrow.size;rw[(grownBy_setCell' w1 B v').block j hj1 (fun e'=>hne (by simpa using e')),hgrow.block j hjA hrw];exact(World.grownBy_alloc W tmp none).block j hjW (by simp)
theorem ownFrom_belowX{β:Type}{X:Nat}{w₀:World}:OwnFrom w₀.heap.size (fun(_:β) W=>BelowX X w₀.heap.size w₀ W):=
 fun _ _ _ _ hs hg hr=>⟨qn hs.size hg.size,fun k hk hx=>(hg.block k (zX hk hs.size) (fun e=>by have:=(hr k e.symm).1;omega)).trans (hs.block k hk hx)⟩
theorem infoE:(Tryz.prog.info? 36).map (fun i=>(i.zero,i.size,i.bytes))=some (some (.slice none 0 0),1,24):=by kernel_rfl
def jjb(es:List (List IV))(m i:Nat):List IV:=[.sl ((es.drop (i*m)).take m)]
theorem rep_off{w:World}{M:Nat->Nat->Prop}{B:Nat}(hone:∀k u,w.cell? ⟨B,k,none⟩=some u->u= .slice none 0 0){l:List Int}{v:Value}(h:Rep w M (ints l) v):Rep w (fun b o=>M b o\/b=B) (ints l) v:=by
 unfold ints at h⊢;rcases h.sl_inv with ⟨h0,a,c,rfl⟩ | ⟨s,b,o,c,u,hne,q1,q2,q3,q4,rfl⟩
 ·rw[h0];exact .nil a c
 ·have hint:∀i e j x,(l.map ic)[i]? =some e->e[j]? =some x->∃n,u i j= .int .i64 n:=fun i e j x h1 h2=>by
   rw[zq,qj]at h1;obtain⟨n,_,rfl⟩:=h1;have hr:=q4 i _ j x (by rw[zq];simp[*]) h2;rcases j with _ | j
   ·cases h2;exact⟨n,Go.Abs.Rep.sc_inv hr⟩
   ·simp[ic]at h2
  have hb:b≠B:=fun e=>by
   obtain⟨x,r,hx⟩:=vB hne;cases l with
   | nil=>cases hx
   | cons n r'=>
    obtain⟨_,h2,_⟩:=q3 0 (ic n) 0 (.int n) rfl rfl;obtain⟨k,hk⟩:=hint 0 (ic n) 0 (.int n) rfl rfl;rw[e]at h2;have:=hone _ _ h2;rw[hk]at this;cases this
  refine .sl _ s b o c u hne q1 q2 (fun i e j x h1 h2=> ?_) fun i e j x h1 h2=> ?_
  ·obtain⟨a1,a2,a3⟩:=q3 i e j x h1 h2;exact⟨a1,a2,fun h=>h.elim a3 hb⟩
  ·obtain⟨n,hn⟩:=hint i e j x h1 h2;have hr:=q4 i e j x h1 h2;rw[hn]at hr⊢;cases hr with
   | sc _ hp=>exact .sc _ hp
theorem hist_rep{es:List (List IV)}{w w4 W2:World}{M:Nat->Nat->Prop}{B b o m nm:Nat}{u:Nat->Nat->Value}{v v0:Value}(hfr:∀x∈es,∃(a:Int) (b:List Int) (c:Int) (d:List Int),x=[.int a,ints b,.int c,ints d])(hle:es.length<=100000)(hn:es.length=nm*m)(hm1:1<=m)
  (hM:∀(b o:Nat),M b o->b<w.heap.size) (hM4:w.heap.size<=w4.heap.size) (hbx:Boxed w4 B 61 v0) (hone:∀k u,w4.cell? ⟨B,k,none⟩=some u->u= .slice none 0 0) (q1:∀e∈es,e.length=4)
  (q3:∀(i:Nat) (e:List IV) (j:Nat) (x:IV),es[i]? =some e->e[j]? =some x->x.one=true/\w4.cell? ⟨b,o+i*4+j,none⟩=some (u i j)/\¬M b (o+i*4+j)) (q4:∀(i:Nat) (e:List IV) (j:Nat) (x:IV),es[i]? =some e->e[j]? =some x->Rep w4 M x (u i j))
  (hX2:BelowX B w4.heap.size w4 W2) (hbx2:Boxed W2 B 61 v) (hrow:W2.ownsRow w4.heap.size 36 1 v (List.range nm).length ((List.range nm).map fun j=>Value.slice (some ⟨b,o+4*m*j,none⟩) m m)):
  Rep W2 M (.sl ((List.range nm).map (jjb es m))) v:=by
 have hlt4:∀{k j:Nat} {x:Value},w4.cell? ⟨k,j,none⟩=some x->k<w4.heap.size:=fun{k j x} h=>by
  unfold World.cell? at h;rcases zW k w4.heap.size with h' | h'
  ·exact h'
  ·rw[jZ h']at h;cases h
 have hk:Go.Abs.Kept w4 (fun b o=>M b o\/b=B) W2 M:=⟨fun k j x h1 h2=>⟨(hX2.cell (p:=⟨k,j,none⟩) (hlt4 h1) (fun e=>h2 (.inr e))).trans h1,fun h=>h2 (.inl h)⟩,
  fun k es c h1 h2=>⟨(hX2.block k (zE.1 h1).1 (fun e=>h2 (.inr e))).trans h1,fun h=>h2 (.inl h)⟩,
  fun k cur T h1=>by
   by_cases e:k=B
   ·subst e;rw[show w4.heap[k]? =_ from hbx]at h1;cases h1;exact⟨_,hbx2,rfl⟩
   ·exact⟨cur,(hX2.block k (zE.1 h1).1 e).trans h1,rfl⟩⟩
 have hin:∀(i:Nat) (e:List IV) (j:Nat) (x:IV),es[i]? =some e->e[j]? =some x->Rep W2 M x (u i j):=fun i e j x h1 h2=>by
  have hr:=q4 i e j x h1 h2;obtain⟨p1,p2,p3,p4,rfl⟩:=hfr e (zr h1)
  match j,h2 with
  | 0,h2=>cases h2;rw[Go.Abs.Rep.sc_inv hr];exact .sc _ rfl
  | 1,h2=>cases h2;exact(rep_off hone hr).kept hk
  | 2,h2=>cases h2;rw[Go.Abs.Rep.sc_inv hr];exact .sc _ rfl
  | 3,h2=>cases h2;exact(rep_off hone hr).kept hk
  | j+4,h2=>simp at h2
 have hbB:∀i,i<es.length->b≠B:=fun i hi e=>by
  subst e;obtain⟨p1,p2,p3,p4,hx⟩:=hfr es[i] (ju hi);obtain⟨_,h2,_⟩:=q3 i _ 1 (ints p2) (ze hi) (by rw[hx];rfl);unfold World.cell? at h2;rw[show w4.heap[b]? =_ from hbx]at h2;simp at h2
 have hLn:((List.range nm).map (jjb es m)).length=(List.range nm).length:=by simp
 rcases hrow.2 with ⟨rfl,h0⟩ | ⟨g,cap,cur,rfl,hg,hcells,hk1,_,hcs,htake⟩
 ·have:nm=0:=by simpa using h0
  subst this;exact .nil none 0
 by_cases hnm:nm=0
 ·subst hnm;exact .nil _ _
 have hcur:∀i,i<nm->cur[i]? =some (Value.slice (some ⟨b,o+4*m*i,none⟩) m m):=fun i hi=>by
  have h1:(cur.toList.take ((List.range nm).length*1))[i]? =some (Value.slice (some ⟨b,o+4*m*i,none⟩) m m):=by
   rw[htake,zq,qZ hi];rfl
  rw[jf (by simpa using hi)]at h1
  simpa using h1
 have hgo:=Rep.sl (w:=W2) (M:=M) ((List.range nm).map (jjb es m)) 1 g 0 cap (fun i _=>Value.slice (some ⟨b,o+4*m*i,none⟩) m m) (by
  intro e;have:=qa List.length e;simp at this;exact hnm this) (fun x hx=>by
  obtain⟨i,_,rfl⟩:=qv.1 hx;rfl) (by rw[hLn];exact hk1) (fun i x j y h1 h2=> ?_) (fun i x j y h1 h2=> ?_)
 ·rw[hLn]at hgo;exact hgo
 ·rw[zq,qj]at h1;obtain⟨i',h1,rfl⟩:=h1;obtain⟨hi,rfl⟩:=zt.1 h1;rw[qI]at hi;rw[vv]at h2
  match j,h2 with
  | 0,h2=>
   cases h2;refine⟨rfl,?_,fun h=> ?_⟩
   ·unfold World.cell?;rw[hcells]
    simpa using hcur i hi
   ·have:=hM _ _ h;omega
  | j+1,h2=>simp[jjb]at h2
 ·rw[zq,qj]at h1;obtain⟨i',h1,rfl⟩:=h1;obtain⟨hi,rfl⟩:=zt.1 h1;rw[qI]at hi;rw[vv]at h2
  match j,h2 with
  | j+1,h2=>simp[jjb]at h2
  | 0,h2=>
   cases h2;have him:i*m+m<=es.length:=by
    rw[hn];have:=zZ m (show i+1<=nm from hi)
    rwa [yC]at this
   have hcl:((es.drop (i*m)).take m).length=m:=by rw[qh,yP];omega
   have hget:∀k,k<m->((es.drop (i*m)).take m)[k]? =es[i*m+k]? :=fun k hk=>by
    rw[jf hk,qN]
   have hoff:∀k j,o+4*m*i+k*4+j=o+(i*m+k)*4+j:=fun k j=>by
    have:4*m*i=i*m*4:=by rw[jq,yx m i,yx]
    rw[qu,this];omega
   have hlt:∀{k:Nat} {x:List IV},((es.drop (i*m)).take m)[k]? =some x->k<m:=fun h=>by
    have:=(zt.1 h).1;omega
   have hfin:=Rep.sl (w:=W2) (M:=M) ((es.drop (i*m)).take m) 4 b (o+4*m*i) m (fun k j=>u (i*m+k) j) (fun e=>by rw[e]at hcl;simp at hcl;omega)
    (fun x hx=>q1 x (yq (yz hx))) (by omega) (fun k x j y h1 h2=>by
     have hkm:=hlt h1;rw[hget k hkm]at h1;obtain⟨a1,a2,a3⟩:=q3 _ x j y h1 h2;rw[hoff];exact⟨a1,(hX2.cell (p:=⟨b,_,none⟩) (hlt4 a2) (hbB (i*m+k) (by omega))).trans a2,a3⟩) (fun k x j y h1 h2=>by
     have hkm:=hlt h1;rw[hget k hkm]at h1;exact hin _ x j y h1 h2)
   rw[hcl]at hfin;exact hfin
theorem e_History{e:Evid}(hc:jbi e=0)(es:List (List IV))(hfr:∀x∈es,∃(a:Int) (b:List Int) (c:Int) (d:List Int),x=[.int a,ints b,.int c,ints d])(hn:es.length=e.moves.length*e.mats.toNat)(hle:es.length<=100000):
  Ctr G.P 21 [e.iv,.sl es] (· = .sl ((List.range e.moves.length).map (jjb es e.mats.toNat))):=by
 have h4:∀x∈es,x.length=4:=fun x hx=>by obtain⟨a,b,c,d,rfl⟩:=hfr x hx;rfl
 have hm:1<=e.mats:=(jb3 hc).2.1;intro w M vs hM hr;obtain⟨v0,vs0,rfl,hr0,hr1⟩:=hr.uncons;obtain⟨v1,vs1,rfl,hr1,hr2⟩:=hr1.uncons;obtain rfl:=hr2.of_nil;refine(callsIn_wide (n:=10)).1 ?_;refine callsIn_of_wp_marks (c:=jbl Tryz.f21) Tryz.func21 rfl trivial ?_ rfl;refine wpIn_wide.2 ?_;refine e_hist1 hc es h4 (by rw[hn,Int.natCast_mul,yf (by omega)]) hle (Sim.init (by decide) hM hr (qK rfl)) fun a4 w4 B hBw hB4 hbx hsz hdf e5 e26=> ?_;obtain⟨⟨tl⟩,df⟩:=a4;obtain rfl:df=[]:=hdf;have hsz:tl.length=33:=hsz
 match tl,hsz with
 | z0::z1::z2::z3::z4::z5::z6::z7::z8::z9::z10::z11::z12::z13::z14::z15::z16::z17::z18::z19::z20::z21::z22::z23::z24::z25::z26::z27::z28::z29::z30::z31::z32::[],_=>
 obtain rfl:z5=_:=e5;have e26:Rep w4 M (.clo 121 [.ip [.sl es] 0,.ip [.int e.mats] 0]) z26:=e26;cases e26 with
 | clo _ _ vs hl h1=>
 obtain⟨vl⟩:=vs
 match vl,hl with
 | [c0,c1],_=>
 have r0:=h1 0 _ c0 rfl rfl;have r1:=h1 1 _ c1 rfl rfl;clear h1;cases r0 with
 | ip _ _ Bs os u0 g1 g2=>
 cases r1 with
 | ip _ _ Bn on u1 f1 f2=>
 obtain⟨_,hcs,hMs⟩:=g1 0 _ rfl;obtain⟨_,hcn,_⟩:=f1 0 _ rfl;have hrs:=g2 0 _ rfl;have hrn:=f2 0 _ rfl;clear g1 g2 f1 f2;obtain hun:=Go.Abs.Rep.sc_inv hrn;simp only[Nat.add_zero]at hcs hcn;have hM4:w.heap.size<=w4.heap.size:=hB4.size;obtain⟨m,hmm⟩:∃m,m=e.mats.toNat:=⟨_,rfl⟩;obtain⟨nm,hnm⟩:∃nm,nm=e.moves.length:=⟨_,rfl⟩;have hm1:1<=m:=by omega
 rw[hun]at hcn;have hcn':w4.cell? ⟨Bn,on,none⟩=some (.int .i64 m):=by rw[hmm,yf (by omega)];exact hcn
 rw[<-hmm,<-hnm]at hn⊢;have hone:∀k u,w4.cell? ⟨B,k,none⟩=some u->u= .slice none 0 0:=fun k u h=>by
  unfold World.cell? at h;rw[show w4.heap[B]? =_ from hbx]at h;rcases k with _ | k
  ·simpa using h.symm
  ·simp at h
 have hlt4:∀{k j:Nat} {x:Value},w4.cell? ⟨k,j,none⟩=some x->k<w4.heap.size:=fun{k j x} h=>by
  unfold World.cell? at h;rcases zW k w4.heap.size with h' | h'
  ·exact h'
  ·rw[jZ h']at h;cases h
 obtain⟨b,o,u,q1,q3,q4,hseq⟩:∃(b o:Nat) (u:Nat->Nat->Value),(∀e∈es,e.length=4)/\(∀(i:Nat) (e:List IV) (j:Nat) (x:IV),es[i]? =some e->e[j]? =some x->x.one=true/\w4.cell? ⟨b,o+i*4+j,none⟩=some (u i j)/\¬M b (o+i*4+j))/\
   (∀(i:Nat) (e:List IV) (j:Nat) (x:IV),es[i]? =some e->e[j]? =some x->Rep w4 M x (u i j))/\
   ∃Sp:List Nat->Prop,SeqStopsK Fence.wide 9 Tryz.prog 121 #[.pointer (some ⟨Bs,os,none⟩),.pointer (some ⟨Bn,on,none⟩)] (fun j:Nat=> #[Value.slice (some ⟨b,o+4*m*j,none⟩) m m]) (BelowX B w4.heap.size) (fun ys=>ys=List.range nm) Sp nm w4:=by
  rcases hrs.sl_inv with ⟨rfl,a,c,hus⟩ | ⟨s,b,o,c,u,hne,q1,q2,q3,q4,hus⟩
  ·have hnm0:nm=0:=by
    have h0:nm*m=0:=hn.symm;rcases j0.1 h0 with h | h
    ·exact h
    ·omega
   subst hnm0;rw[hus]at hcs;refine⟨0,0,fun _ _=>undef,fun e he=>(by cases he),fun i e j x h=>(by simp at h),fun i e j x h=>(by simp at h),fun _=>False,fun l J Jx W hW hJ hJx hY h0=> ?_⟩;refine(chunk1_nil_in Fence.wide 9 trivial rfl l Bs Bn os on a c J W ((hW.cell (p:=⟨Bs,os,none⟩) (hlt4 hcs)).trans hcs) h0).mono ?_;rintro x W' ⟨h1,h2⟩;exact⟨h1,.inl ⟨[],rfl,h2⟩⟩
  ·have hs4:s=4:=by
    obtain⟨x,l,rfl⟩:=vB hne;rw[<-q1 x zP];exact h4 x zP
   subst hs4;rw[hus]at hcs;have hsX:Bs≠B:=fun h=>by
    subst h;have:=hone _ _ hcs;cases this
   have hnX:Bn≠B:=fun h=>by
    subst h;have:=hone _ _ hcn;cases this
   exact⟨b,o,u,q1,q3,q4,_,chunk_stops Fence.wide 9 trivial rfl (by decide) B Bs Bn os on w4.heap.size b o c m nm es.length hm1 (by unfold IsMul;rw[hn,yx]) hle q2 w4 (hlt4 hcs) (hlt4 hcn) hsX hnX (zB _) hcs hcn'⟩
 obtain⟨Sp,hseq⟩:=hseq;simp only[Nat.add_zero];clear hr hr0 hr1 hr2 hrs hrn hsz;have hnm5:nm<=100000:=by
  have:=yJ nm (show 0<m by omega);omega
 have hmx:maxLen=9223372036854775807:=rfl;clear hmm hnm hcn hcs hcn' hm hun hc;obtain⟨i0,hi,hz0,hz1,hz2⟩:=info_parts infoE;refine(wpIn_wide (n:=10)).1 ?_;show Code.wpIn Fence.wide 10 Tryz.prog (inR (inL (tailN 3 (jbl Tryz.f21)))) _ _ _;generalize hQ:Exit.then (Code.wp Tryz.prog (tailN 4 (jbl Tryz.f21)) _) _=Q
 simp only[inL,inR,tailN,jbl,Tryz.f21];refine wpIn_block ?_;refine wpIn_rangeFunc_ownG (F:=Fence.wide) (n:=10) rfl (by decide) (gf:=121) (lb:= #[.pointer (some ⟨Bs,os,none⟩),.pointer (some ⟨Bn,on,none⟩)]) rfl trivial (enters_of Tryz.func121 (by kernel_rfl) rfl)
  hseq
  BelowX.trans (fun W l o o' h1 h2 h3 h4=>⟨by simp,fun k hk _=>World.putObj_heap_other (by omega)⟩) (Below.refl _ _) (fun _=>rfl)
  (fun(pre:List Nat) W=>(∃v,Boxed W B 61 v/\W.ownsRow w4.heap.size 36 1 v pre.length (pre.map fun j=>Value.slice (some ⟨b,o+4*m*j,none⟩) m m)/\True)/\(Below w.heap.size w W/\BelowX B w4.heap.size w4 W))
  (fun _ _ _=>False)
  (OwnFrom.and (Own.from (holdsRow_own w4.heap.size B 61 36 1 (fun pre:List Nat=>pre.length) (fun pre:List Nat=>pre.map fun j=>Value.slice (some ⟨b,o+4*m*j,none⟩) m m) (fun _ _=>True)) _) (OwnFrom.and (ownFrom_below (zB _) hM4) ownFrom_belowX))
  (fun _ _ _ _ _ hs _ _=>hs)
  ⟨⟨_,hbx,World.ownsRow_nil _ _ _ _,trivial⟩,hB4,BelowX.refl _ _ _⟩
  (fun x=>{tmps:= #[z0,z1,z2,z3,z4,.pointer (some ⟨B,0,none⟩),.slice (some ⟨b,o+4*m*x,none⟩) m m,z7,z8,z9,z10,z11,z12,z13,z14,z15,z16,z17,z18,z19,z20,z21,z22,z23,z24,z25,.func (.func 121) #[] #[.pointer (some ⟨Bs,os,none⟩),.pointer (some ⟨Bn,on,none⟩)],.slice (some ⟨b,o+4*m*x,none⟩) m m,z28,z29,z30,z31,z32],defers:=[]}) ?assign ?body ?done ?stop
 case assign=>
  intro l x W K hK
  gi_wp2
  exact hK
 case body=>
  rintro l pre x W ⟨⟨v,hv,hrow,_⟩,hB,hX⟩ hlt;have hc:=hv.cell;have hsz4:=hX.size
  gi_wp2_with (gi_at_builtin;refine wpListIn_append_own _ rfl _ _ 61 rfl w4.heap.size 36 i0 (.slice none 0 0) 1 24 Tryz.underlying61 hi hz0 hz1 hz2 rfl (by decide) _ _ _ rfl (hrow.alloc _) ⟨W.heap.size,0,none⟩ 1 1 [.slice (some ⟨b,o+4*m*x,none⟩) m m] rfl rfl (cell_one_new _ _ _) (by simp[Value.oneCell']) (by omega) (by omega) (by simp;omega) ?_;intro v' w1 hown' hgrow _;obtain⟨g',cap',rfl⟩:=ownsRow_succ hown';obtain⟨hv1,hv2,hr2,hk2,hb2,hx2⟩:=appended_x hv (by decide) hrow hM4 hsz4 hBw hown' hgrow;have hc1:=hv1.cell;have hf1:=hv1.frozen)
  exact⟨hk2.from _,hx2,⟨_,hv2,by simpa using hr2⟩,hB.trans hb2,hX.trans hx2⟩
 case done=>
  rintro D ys W hD rfl ⟨⟨v,hv,hrow,_⟩,hB,hX⟩ hK;have hc:=hv.cell;subst hQ;show Code.wp Tryz.prog (tailN 4 (jbl Tryz.f21)) _ _ W;refine(wpIn_wide (n:=10)).1 ?_;simp only[tailN,jbl,Tryz.f21]
  gi_wp2
  refine⟨by simp,.inl ⟨_,_,rfl,run_takeDeferred hK,?_⟩⟩;refine⟨_,results_tmp rfl _ _ _,v,rfl,?_,hB.trans (belowK_b (w:=w) (zB _) W D _ _ (by omega) hK rfl rfl)⟩;have hrow2:=ownsRow_putObj (o':=Obj.deferred none) hrow hK rfl;have hX2:BelowX B w4.heap.size w4 (W.putObj D (Obj.deferred none)):=hX.trans ⟨by simp,fun k hk _=>World.putObj_heap_other (by omega)⟩;have hbx2:Boxed (W.putObj D (Obj.deferred none)) B 61 v:=(World.putObj_heap_other (fun e=>by
   rw[<-e,show W.heap[B]? =_ from hv]at hK;cases hK)).trans hv
  clear hc hK hrow hX hv;generalize W.putObj D (Obj.deferred none)=W2 at*;exact hist_rep hfr hle hn hm1 hM hM4 hbx hone q1 q3 q4 hX2 hbx2 hrow2
 case stop=>
  rintro D c pre W _ _ h _;exact h.elim
end
section
open Go.Abs
open Go.LP (Rw RT Ov OvRw tsum Sol Bds S)
attribute [local go_sem] Evid.c Evid.iv ints ic big frac fc zc tmC pickC
def outP(e:Evid):List (Int×Int):=jb4 e false e.moves.length
def endP(e:Evid):List (Int×Int):=jb4 e true e.moves.length
def goalW(e:Evid):List (Nat×Rat):=plusF (goalS e.mats.toNat (outP e)) (mulT ((-1:Int):Rat) (goalS e.mats.toNat (endP e)))
section
variable{e:Evid}
theorem jkm(hc:jbi e=0)(x:Nat->Rat):tsum (goalW e) x=stayN e x e.moves.length:=by
 unfold goalW;rw[jg5,jg6,jjg,jjg,<-out_end hc];show _+((-1:Int):Rat)*wgt e (jb4 e true e.moves.length) x=_-_;rw[show((-1:Int):Rat)= -1 by decide];show wgt e (jb4 e false e.moves.length) x+_=_;grind
theorem joe{M:Nat}{ps:List (Int×Int)}:∀t∈goalS M ps,t.2=1:=fun t ht=>by
 obtain⟨k,_,rfl⟩:=qv.1 ht;rfl
theorem jqj(hc:jbi e=0):GoalOk (nV e) (goalW e) where
 rt:=jlb (jkl (jex hc)).rt (jpb (by decide) (jkl (jex hc)).rt)
 ov t ht:=by
  obtain⟨c,d,h,h1,h2⟩:=jgd (P:=fun r=>r=1\/r= -1) (fun t ht=> .inl (joe t ht)) (fun t ht=>by
   obtain⟨u,hu,rfl⟩:=qv.1 ht;refine .inr ?_;show u.2*((-1:Int):Rat)= -1;rw[joe u hu];decide+kernel) t ht
  have key:∃z:Int,t.2=(z:Rat)/\z.natAbs<=2^80:=by
   rcases h1 with rfl | rfl<;>rcases h2 with rfl | rfl<;>rcases h with h | h
   ·exact⟨1,h,by decide⟩
   ·exact⟨2,by rw[h];decide+kernel,by decide⟩
   ·exact⟨1,h,by decide⟩
   ·exact⟨0,by rw[h];decide+kernel,by decide⟩
   ·exact⟨-1,h,by decide⟩
   ·exact⟨0,by rw[h];decide+kernel,by decide⟩
   ·exact⟨-1,h,by decide⟩
   ·exact⟨-2,by rw[h];decide+kernel,by decide⟩
  obtain⟨z,hz,hz2⟩:=key;rw[hz];exact jr5 hz2
structure CF(e:Evid)(r:List IV)(lo:Rat)(hi:Option Rat):Prop where
 hc:jbi e=0
 hs:SmallE e
 n5:e.moves.length<=5
 m2:e.mats<=2
 p12:e.places.length<=12
 bds:Bds (nV e) (rowsE e) (tsum (goalW e)) lo hi
 fnd:RFound (nV e) (rowsE e) (tsum (goalW e)) r lo hi
 lo0:0<=lo
def SA(e:Evid)(r:List IV):St:=⟨[(1,.loc 1 8 0 0),(3,.im (.bool true)),(4,.im (.sl ((outP e).map pickC))),(5,.im (.sl ((endP e).map pickC))),(8,.im (.sl ((goalW e).map tmC))),(9,.loc 9 16 0 0)],[(9,16,[r]),(1,8,[e.c])],[]⟩
theorem jjq{b:Bool}:∀n,(jb4 e b n).length<=n*e.mats.toNat
 | 0=>zH _
 | n+1=>by
  have:=jjq (b:=b) n;rw[jb4,yC];split
  ·rw[zu];split
   ·rw[jey];omega
   ·simp only[List.length_nil];omega
  ·omega
theorem cs_A(e:Evid){P:Exit->St->Prop}(hR:∀s,s.get 2= .im (.bool true)->P .ret s)(hN:∀r lo hi s,CF e r lo hi->St.Le s (SA e r)->P .normal s):
  awp G (putN 10 (tailN 0 (jbl Tryz.f3)) .skip) P (jc1 ([e.iv].map .im) []):=by
 have k0:=w_small;have kF:=t_few17z e [] 5;simp only[List.length_nil]at kF;rcases hf:few17 e 0 5 with _ | _
 ·rw[hf]at kF;unfold zo at kF;refine jhr rfl ?_;unfold Evid.iv Evid.c at*;simp only[go_sem];refine ja1 k0 ?_;simp only[go_sem];refine ja1 kF ?_;simp only[go_sem];refine hR _ ?_;rfl
 rw[hf]at kF;obtain⟨hs,_,hn5,_⟩:=few_small hf (by omega);have hm2:e.mats<=2/\e.places.length<=12:=by
  simp only[few17,jlo,zC,yK,ql,zT]at hf;omega
 obtain⟨r5,f5,b5,s5,kR5⟩:=jfn (e:=e) (ps:=[]) hs (by simp);have kP:=jid s5 kR5;have y5:=s5.say;clear s5 kR5;rcases b5 with _ | ⟨lo5,hi5⟩
 ·clear y5;unfold zo at kF;refine jhr rfl ?_;unfold Evid.iv Evid.c at*;simp only[go_sem];refine ja1 k0 ?_;simp only[go_sem];refine ja1 kF ?_;simp only[go_sem];refine ja1 kP ?_;simp only[Option.isSome_none,go_sem];refine hR _ ?_;rfl
 obtain⟨g1,g2,_,_⟩:=y5.inv;have hc:=(okP_iff.1 g1).1;have hsol:=g2.sol;clear y5 g1 g2;have hwl:∀b,(jb4 e b e.moves.length).length<=10:=fun b=>by
  have h1:=jjq (e:=e) (b:=b) e.moves.length;have h2:e.moves.length*e.mats.toNat<=5*2:=q9 (by omega) (by omega);omega
 have kW1:=x_whole e hc false;have kW2:=x_whole e hc true;have kG1:=w_Goal (e:=e) (ps:=outP e) (by have:=hwl false;unfold outP;omega);rw[zm (show okP e (outP e)=true from jex hc)]at kG1;have kG2:=w_Goal (e:=e) (ps:=endP e) (by have:=hwl true;unfold endP;omega);rw[zm (show okP e (endP e)=true from jex hc)]at kG2;have kS:=jqs (e:=e) (fun _=>by omega);unfold sysIV at kS;rw[zm hc]at kS;have hso:=sys_ok hc hs;have hgo:=jqj hc;have hn18:=hso.n;have og:=jkl (show okP e (outP e)=true from jex hc);have eg:=jkl (show okP e (endP e)=true from jex hc);have kI:Ctr G.P 17 [.int (-1)] (· =frac ((-1:Int):Rat)):=jbz (-1) (by omega);have hI1:FL 100000000 ((-1:Int):Rat):=(jbv (n:= -1) (by omega)).mono (by omega);have kT:=x_times (goalS e.mats.toNat (endP e)) ((-1:Int):Rat) (jla eg.rt (by omega)) (by have:=eg.len;omega) eg.fl hI1 (by decide);have hmt:=(GoalOk.opp eg);have kPl:=x_plus (goalS e.mats.toNat (outP e)) (mulT ((-1:Int):Rat) (goalS e.mats.toNat (endP e))) (jla og.rt (by omega)) (jla hmt.rt (by omega)) (by have:=og.len;omega) (by have:=hmt.len;omega) og.fl hmt.fl;have kO:=x_Of hso hgo;rcases jlm hso hgo (fun x hx=>by rw[jkm hc];exact jh4 hx)with ⟨_,hno⟩ | ⟨r,lo,hi,e1,hb,f1,f2,kB,hr⟩
 ·obtain⟨x,hx⟩:=hsol;exact absurd hx (hno x)
 rw[e1]at kO;have hlo0:0<=lo:=by
  obtain⟨x,hx,hv⟩:=hb.low_at;rw[<-hv,jkm hc];exact jh4 hx
 have hcf:CF e r lo hi:=⟨hc,hs,by omega,hm2.1,hm2.2,hb,hr,hlo0⟩;have kSg:=jqp (f1.mono (by omega:4000000000<=19000000000));have dSg:decide (lo.num.sign<0)=false:=zw (by
  obtain⟨n,hn⟩:=Int.eq_ofNat_of_zero_le (Rat.num_nonneg.2 hlo0);rw[hn];cases n<;>simp[Int.sign])
 obtain⟨q1,q2,q3,q4,hsd⟩:=jih hi;unfold bdC at kB;rw[hsd]at kB;have hfin:∀s,St.Le s (SA e r)->P .normal s:=fun s=>hN r lo hi s hcf;obtain⟨k1,a1,c1,b1,d1,P1,Y1,Z1,k2,a2,c2,b2,d2,P2,Y2,Z2,rfl⟩:=hr.shape;clear hcf hr hb hN hR hso hgo og eg hmt hwl hsd e1;unfold SA goalW nV at*;change Ctr G.P _ _ (· = .sl ((outP e).map pickC))at kW1;change Ctr G.P _ _ (· = .sl ((endP e).map pickC))at kW2;generalize (outP e).map pickC=oc at*;generalize (endP e).map pickC=ec at*;generalize (goalS e.mats.toNat (outP e)).map tmC=g1 at*;generalize (goalS e.mats.toNat (endP e)).map tmC=g2 at*;generalize (mulT ((-1:Int):Rat) (goalS e.mats.toNat (endP e))).map tmC=g3 at*;generalize (plusF (goalS e.mats.toNat (outP e)) (mulT ((-1:Int):Rat) (goalS e.mats.toNat (endP e)))).map tmC=g4 at*;generalize (rowsE e).map rwC=rt at*;generalize ((-1:Int):Rat)=m1 at*;unfold zo at kF;unfold Evid.iv Evid.c at*;simp only[frac,ints]at kI kT kSg;refine jhr rfl ?_;simp only[go_sem];refine ja1 k0 ?_;simp only[go_sem];refine ja1 kF ?_;simp only[go_sem];refine ja1 kP ?_;simp only[Option.isSome_some,go_sem];refine ja1 kW1 ?_;simp only[go_sem];refine ja1 kW2 ?_;simp only[go_sem];refine ja1 kS ?_;simp only[go_sem];refine jab 9 ?_;simp only[go_sem];refine ja4 kG1 (by decide) ?_;simp only[go_sem];refine ja4 kG2 (by decide) ?_;simp only[go_sem];refine ja4 kI (by decide) ?_;simp only[go_sem]
 refine ja4 kT (by decide) ?_;simp only[go_sem];refine ja4 kPl (by decide) ?_;simp only[go_sem];refine ja1 kO ?_;simp only[go_sem];refine ja1 kB ?_;simp only[go_sem];refine ja1 kSg ?_;simp only[dSg,go_sem];refine hfin _ (jgr [1,3,4,5,8,9] rfl ?_ rfl);exact jew rfl (jaz _ (jew rfl (SubR.of_eq rfl)))
end
end
section
open Go.Abs
open Go.LP (Rw RT Ov OvRw tsum Sol Bds S jch)
attribute [local go_sem] Evid.c Evid.iv ints ic big frac fc zc tmC pickC
def matX(M n:Nat)(x:Nat->Rat):List (List Rat):=(List.range n).map fun i=>(List.range M).map fun m=>x (i*M+m)
section
variable{e:Evid}{M n N:Nat}{x:Nat->Rat}
theorem matX_row(i:Nat)(hi:i<n):(matX M n x)[i]? =some ((List.range M).map fun m=>x (i*M+m)):=by
 unfold matX;rw[zq,qZ hi];rfl
theorem matX_pt{k:Nat}(hM:0<M)(hk:k<n*M):ptH M (matX M n x) k=x k:=by
 have hi:k/M<n:=(Nat.div_lt_iff_lt_mul hM).2 hk;have hm:k % M<M:=jr _ hM;unfold ptH;rw[getD_some (matX_row _ hi),getD_some (by rw[zq,qZ hm];rfl)];show x (k/M*M+k % M)=x k;rw[yx,jz]
theorem matX_chunk(hN:N=n*M):((List.range n).map (jjb (tab N fun k=>qc (x k)) M))=(matX M n x).map stC:=by
 unfold matX;rw[yn];refine yM fun i hi=> ?_;have hi:=qg.1 hi;have h1:i*M+M<=N:=by
  rw[hN];have:=zZ M (show i+1<=n from hi)
  rwa [yC]at this
 unfold jjb;show _=[IV.sl (((List.range M).map fun m=>x (i*M+m)).map fc)];congr 2;refine vf fun k=> ?_;rw[yn];by_cases hk:k<M
 ·rw[jf hk,qN,zq,qZ hk];unfold tab;rw[zq,qZ (by omega)];rfl
 ·rw[q5 (by rw[qh];omega),q5 (by simp;omega)]
theorem qc_form(r:Rat):∃(a:Int) (b:List Int) (c:Int) (d:List Int),qc r=[.int a,Go.Proofs.YtkcekimolppapaaGreat.ints b,.int c,Go.Proofs.YtkcekimolppapaaGreat.ints d]:=⟨_,_,_,_,rfl⟩
theorem jkq{fr:Int}{mat:Nat}{ms:List Move}{x y:Nat->Rat}:∀i,(∀k,k<i->x (k*M+mat)=y (k*M+mat))->flowS M fr mat ms x i=flowS M fr mat ms y i
 | 0,_=>rfl
 | i+1,h=>by
  rw[flowS,flowS,jkq i (fun k hk=>h k (by omega)),h i (by omega)]
theorem matX_shaped(hs:SmallE e)(h5:e.moves.length<=5)(h2:e.mats<=2)(hx:∀k,FL 5200 (x k)):Shaped e (matX e.mats.toNat e.moves.length x) 5200 where
 len:=by unfold matX;simp
 row l hl:=by
  obtain⟨i,_,rfl⟩:=qv.1 hl;refine⟨by simp,fun r hr=> ?_⟩;obtain⟨m,_,rfl⟩:=qv.1 hr;exact hx _
 qb:=by decide
 mv:=by
  have:=jJ (5200+5200+2) h5;omega
 mt:=by
  have:=zZ (5200+1) (show e.mats.toNat<=2 by omega);omega
def keepV(e:Evid)(x:Nat->Rat)(p:Nat):Rat:=if keepP e p=true then S e.mats.toNat (fun m=>flowS e.mats.toNat (p:Int) m e.moves x e.moves.length)else 0
def SB(e:Evid)(x:Nat->Rat)(lo:Rat):St:=⟨[(1,.loc 1 8 0 0),(3,.im (.bool true)),(4,.im (.sl ((outP e).map pickC))),(5,.im (.sl ((endP e).map pickC))),(12,.im (.sl ((matX e.mats.toNat e.moves.length x).map stC))),(13,.loc 13 4 0 0),(14,.im (.bool true)),(15,.loc 15 4 0 0)],
 [(15,4,[fc ((0:Int):Rat)]),(13,4,[fc lo]),(1,8,[e.c])],[]⟩
theorem cs_B{r:List IV}{lo:Rat}{hi:Option Rat}(h:CF e r lo hi){P:Exit->St->Prop}(hN:∀x s,(∀k,FL 5200 (x k))->Sol (nV e) (rowsE e) x->tsum (goalW e) x=lo->St.Le s (SB e x lo)->P .normal s):
  awp G (putN 3 (tailN 10 (jbl Tryz.f3)) .skip) P (SA e r):=by
 obtain⟨x,x',Y,Z,k,Y',Z',rfl,hk,hsol,hv,_,_,hF,_⟩:=h.fnd;have hnM:nV e<=10:=q9 h.n5 (show e.mats.toNat<=2 by have:=h.m2;omega);have hF2:∀k,FL 5200 (x k):=fun k=>(hF k).mono (capN_10 hnM);have hfin:=fun s=>hN x s hF2 hsol hv;clear hN;have kH:=e_History (e:=e) h.hc (tab (nV e) fun k=>qc (x k)) (fun c hc=>by
  unfold tab at hc;obtain⟨j,_,rfl⟩:=qv.1 hc;exact qc_form _) (by rw[ja9];rfl) (by rw[ja9];omega)
 rw[matX_chunk (N:=nV e) (M:=e.mats.toNat) (n:=e.moves.length) (x:=x) rfl]at kH;have hgo:=jqj h.hc;have kV:=x_Value (goalW e) (nV e) x hgo.rt (by have:=hgo.len;omega) (by omega) hgo.fl (fun k _=>(hF2 k).mono (by omega));rw[hv]at kV;have kI:Ctr G.P 17 [.int 0] (· =frac ((0:Int):Rat)):=jbz 0 (by omega);obtain⟨q1,q2,q3,q4,hsd⟩:=jih (hi.map fun v=> -v);unfold xl SA SB at*;rw[hsd];generalize (matX e.mats.toNat e.moves.length x).map stC=hm at*;generalize (goalW e).map tmC=g4 at*;generalize (tab (nV e) fun k=>qc (x k))=px at*;generalize (tab (nV e) fun k=>qc (x' k))=px' at*;generalize ((0:Int):Rat)=z0 at*;simp only[frac,ints]at kV kI;unfold Evid.iv Evid.c at*;refine jhr rfl ?_;simp only[go_sem];refine ja1 kH ?_;simp only[go_sem];refine ja1 kV ?_;simp only[go_sem];refine ja1 kI ?_;simp only[go_sem];refine hfin _ (jgr [1,3,4,5,12,13,14,15] rfl ?_ rfl);exact jaz _ (jaz _ (jew rfl (SubR.of_eq rfl)))
def SC(e:Evid)(lo z:Rat):St:=⟨[(1,.loc 1 8 0 0),(3,.im (.bool true)),(4,.im (.sl ((outP e).map pickC))),(5,.im (.sl ((endP e).map pickC))),(13,.loc 13 4 0 0),(14,.im (.bool true)),(15,.loc 15 4 0 0)],[(15,4,[fc z]),(13,4,[fc lo]),(1,8,[e.c])],[]⟩
end
end
section
open Go.Abs
open Go.LP (Rw RT Ov OvRw tsum Sol Bds S jch)
attribute [local go_sem] Evid.c Evid.iv Place.c ints ic big frac fc zc tmC pickC
section
variable{e:Evid}{x:Nat->Rat}
theorem stock_row(hc:jbi e=0)(hs:Shaped e (matX e.mats.toNat e.moves.length x) 5200)(h5:e.moves.length<=5){p:Nat}(hp:p<e.places.length):
  ∃l:List Rat,(stN e.moves (matX e.mats.toNat e.moves.length x) e.mats.toNat (S0 e) e.moves.length).getD p []=l/\l.length=e.mats.toNat/\(∀r∈l,FL 60000 r)/\∀m,m<e.mats.toNat->l[m]? =some (flowS e.mats.toNat (p:Int) m e.moves x e.moves.length):=by
 have hmv:∀y∈e.moves,moveF e y=true:=jjn (jb3 hc).2.2.2.2.2.1;have hF0:∀r∈S0 e,∀x∈r,FL 4 x:=fun r hr x hx=>by
  unfold S0 at hr;rw[(ji.1 hr).2]at hx;rw[(ji.1 hx).2];exact jbv (by omega)
 obtain⟨h1,h2⟩:=stN_ok S0_stk hF0 (jdw hc) hs.row e.moves.length;obtain⟨l,hl⟩:=jhf (l:=stN e.moves (matX e.mats.toNat e.moves.length x) e.mats.toNat (S0 e) e.moves.length) (i:=p) (by rw[h1.1];exact hp);have hll:=h1.2 l (zr hl);refine⟨l,getD_some hl,hll,fun r hr=>(h2 l (zr hl) r hr).mono ?_,fun m hm=> ?_⟩
 ·have:=jJ (5200+5200+2) h5;omega
 ·obtain⟨_,h3⟩:=st_get hmv hs.len (fun l hl=>(hs.row l hl).1) hp hm e.moves.length (zB _);obtain⟨y,hy⟩:=jhf (l:=l) (i:=m) (by omega);rw[getD_some hl,getD_some hy]at h3;rw[hy,h3];refine qa _ (jkq _ fun k hk=> ?_);refine matX_pt (by omega) ?_;have:=zZ e.mats.toNat (show k+1<=e.moves.length from hk);rw[yC]at this;omega
theorem jor(n:Nat)(f:Nat->Rat):S (n+1) f=S n f+f n:=rfl
theorem cs_C{r:List IV}{lo:Rat}{hi:Option Rat}(h:CF e r lo hi)(hx:∀k,FL 5200 (x k)){P:Exit->St->Prop}(hN:∀s,FL 3000000 (stayN e x e.moves.length)->St.Le s (SC e lo (stayN e x e.moves.length))->P .normal s):
  awp G (putN 1 (tailN 13 (jbl Tryz.f3)) .skip) P (SB e x lo):=by
 have hc:=h.hc;have hsh:=matX_shaped h.hs h.n5 h.m2 hx;have h12:=h.p12;have h2:=h.m2;have hmt:=(jb3 hc).2.1;have hst:S e.places.length (keepV e x)=stayN e x e.moves.length:=rfl;rw[<-hst]at hN;unfold SB SC at*;refine jhr rfl ?_;simp only[go_sem];refine jau [1,3,4,5,12,13,14,15,16] [15,13,1] (fun p:Nat=>⟨[(1,.loc 1 8 0 0),(3,.im (.bool true)),(4,.im (.sl ((outP e).map pickC))),(5,.im (.sl ((endP e).map pickC))),(12,.im (.sl ((matX e.mats.toNat e.moves.length x).map stC))),(13,.loc 13 4 0 0),(14,.im (.bool true)),(15,.loc 15 4 0 0),(16,.im (.int p))],
   [(15,4,[fc (S p (keepV e x))]),(13,4,[fc lo]),(1,8,[e.c])],[]⟩)
  (fun p=>p<=e.places.length/\FL (10+p*200000) (S p (keepV e x))) (fun p=>e.places.length-p) 0 ?_ ⟨zH _,(jbv (n:=0) (by omega)).mono (by omega)⟩ ?_
 ·simp only[Int.natCast_zero,go_sem];rfl
 intro p ⟨hp,hFp⟩;by_cases hpl:p<e.places.length
 ·have hd:decide ((p:Int)<e.places.length)=true:=zh (by omega);have hp0:(0:Int)<=p:=by omega
  have hp1:(p:Int)<e.places.length:=by omega
  have hpn:((p:Nat):Int).toNat=p:=Int.toNat_natCast p;have hpw:=ja8 (n:=(p:Int)+1) (by omega);obtain⟨q,hq⟩:=jhf hpl;have hkq:jcz e p=q.kind:=jge (by rw[hpn];exact hq);have kS:=h_stock hsh hc p e.moves.length hpl (zB _);obtain⟨l,hl0,hll,hlF,hlm⟩:=stock_row hc hsh h.n5 hpl;rw[hl0]at kS;unfold fcs at kS;generalize (matX e.mats.toNat e.moves.length x).map stC=hm at*;unfold Evid.iv Evid.c at*;clear hl0;simp only[hd,go_sem];refine ja1 kS ?_;simp only[hp0,hp1,hpn,zq,hq,go_sem];obtain⟨fl,hfl⟩:∃fl:Nat->Rat,fl=fun m=>flowS e.mats.toNat (p:Int) m e.moves x e.moves.length:=⟨_,rfl⟩;have hkv:keepV e x p=if keepP e p=true then S e.mats.toNat fl else 0:=by rw[hfl];rfl
  have hlm':∀m,m<e.mats.toNat->l[m]? =some (fl m):=fun m hm=>by rw[hlm m hm,hfl]
  have hz0:S p (keepV e x)+S 0 fl=S p (keepV e x):=by show _+(0:Rat)=_;rw[yV]
  have hkd:keepP e p=(decide (q.kind≠0)&&(decide (q.kind≠5)&&decide (q.kind≠6))):=by unfold keepP;rw[hkq]
  refine jau [1,3,4,5,12,13,14,15,16,17,18,19] [15,13,1] (fun m:Nat=>⟨[(1,.loc 1 8 0 0),(3,.im (.bool true)),(4,.im (.sl ((outP e).map pickC))),(5,.im (.sl ((endP e).map pickC))),(12,.im (.sl hm)),(13,.loc 13 4 0 0),(14,.im (.bool true)),(15,.loc 15 4 0 0),(16,.im (.int p)),(17,.im (.sl (l.map fc))),(18,.im (.int q.kind)),(19,.im (.int m))],
    [(15,4,[fc (S p (keepV e x)+S m fl)]),(13,4,[fc lo]),(1,8,[e.c])],[]⟩)
   (fun m=>m<=e.mats.toNat/\(keepP e p=false->m=0)/\FL (10+p*200000+m*60001) (S p (keepV e x)+S m fl)) (fun m=>e.mats.toNat-m) 0 ?_ ⟨zH _,fun _=>rfl,by rw[hz0];exact hFp.mono (by omega)⟩ ?_
  ·simp only[hz0,Int.natCast_zero,go_sem]
  intro m ⟨hm1,hm0,hFm⟩;clear hfl hlm hz0 hFp;by_cases hml:m<e.mats.toNat
  ·have dm:decide ((m:Int)<l.length)=true:=zh (by omega);rcases d0:decide (q.kind=0)with _ | _
   ·rcases d5:decide (q.kind=5)with _ | _
    ·rcases d6:decide (q.kind=6)with _ | _
     ·have hlx:=hlm' m hml;have kA:=f_add (hFm.mono (by omega:10+p*200000+m*60001<=19000000000)) ((hlF _ (zr hlx)).mono (by omega:60000<=19000000000));have hFn:=jje hFm (hlF _ (zr hlx));have hsum:S p (keepV e x)+S m fl+fl m=S p (keepV e x)+S (m+1) fl:=by rw[jor,Rat.add_assoc]
      rw[hsum]at kA hFn;have hw:=ja8 (n:=(m:Int)+1) (by omega);have hm0':(0:Int)<=m:=by omega
      have hm1':(m:Int)<l.length:=by omega
      have hmn:((m:Nat):Int).toNat=m:=Int.toNat_natCast m;have hmk:keepP e p=false->m+1=0:=fun hk=>by
       rw[hkd]at hk;exfalso;revert hk;rw[zh (zN d0),zh (zN d5),zh (zN d6)];decide
      generalize fl m=y at*;generalize hs1:S p (keepV e x)+S (m+1) fl=s1 at*;generalize hs0:S p (keepV e x)+S m fl=s0 at*;simp only[frac,ints]at kA;simp only[dm,d0,d5,d6,za,go_sem];refine jap ?_;simp only[hm0',hm1',hmn,zq,hlx,za,go_sem];refine ja4 kA (by decide) ?_;simp only[go_sem];refine jac (m+1) ?_ (by omega) ⟨by omega,hmk,?_⟩
      ·simp only[hw,hs1,Int.natCast_add,go_sem]
      ·rw[hs1];exact hFn.mono (by omega)
     ·have hk:keepP e p=false:=by rw[hkd,zw (show ¬q.kind≠6 from fun h=>h (zK d6))];simp
      have hm00:=hm0 hk;have hnext:S p (keepV e x)+S m fl=S (p+1) (keepV e x):=by rw[jor,hkv,hk,hm00];rfl
      simp only[dm,d0,d5,d6,za,go_sem];refine jac (p+1) ?_ (by omega) ⟨by omega,?_⟩
      ·simp only[hpw,hnext,Int.natCast_add,go_sem]
      ·rw[<-hnext];exact hFm.mono (by omega)
    ·have hk:keepP e p=false:=by rw[hkd,zw (show ¬q.kind≠5 from fun h=>h (zK d5))];simp
     have hm00:=hm0 hk;have hnext:S p (keepV e x)+S m fl=S (p+1) (keepV e x):=by rw[jor,hkv,hk,hm00];rfl
     simp only[dm,d0,d5,za,go_sem];refine jac (p+1) ?_ (by omega) ⟨by omega,?_⟩
     ·simp only[hpw,hnext,Int.natCast_add,go_sem]
     ·rw[<-hnext];exact hFm.mono (by omega)
   ·have hk:keepP e p=false:=by rw[hkd,zw (show ¬q.kind≠0 from fun h=>h (zK d0))];simp
    have hm00:=hm0 hk;have hnext:S p (keepV e x)+S m fl=S (p+1) (keepV e x):=by rw[jor,hkv,hk,hm00];rfl
    simp only[dm,d0,za,go_sem];refine jac (p+1) ?_ (by omega) ⟨by omega,?_⟩
    ·simp only[hpw,hnext,Int.natCast_add,go_sem]
    ·rw[<-hnext];exact hFm.mono (by omega)
  ·have dm:decide ((m:Int)<l.length)=false:=zw (by omega);obtain rfl:m=e.mats.toNat:=by omega
   have hk:keepP e p=true:=by
    cases hk:keepP e p with
    | true=>rfl
    | false=>have:=hm0 hk;omega
   have hnext:S p (keepV e x)+S e.mats.toNat fl=S (p+1) (keepV e x):=by rw[jor,hkv,zm hk]
   simp only[dm,za,go_sem];refine jac (p+1) ?_ (by omega) ⟨by omega,?_⟩
   ·simp only[hpw,hnext,Int.natCast_add,go_sem]
   ·rw[<-hnext];exact hFm.mono (by omega)
 ·have hd:decide ((p:Int)<e.places.length)=false:=zw (by omega);obtain rfl:p=e.places.length:=by omega
  simp only[hd,go_sem];refine hN _ (hFp.mono (by omega)) (jgr [1,3,4,5,13,14,15] rfl (SubR.of_eq rfl) rfl)
end
end
section
open Go.Abs
open Go.LP (Rw RT Ov OvRw tsum Sol Bds S jch)
attribute [local go_sem] Evid.c Evid.iv Place.c ints ic big frac fc zc tmC pickC
section
variable{e:Evid}{x:Nat->Rat}
theorem cs_D{r:List IV}{lo:Rat}{hi:Option Rat}(h:CF e r lo hi)(hF:FL 3000000 lo){Q:Exit->St->Prop}(hQ:∀s,s.get 2= .im (.bool true)->Q .ret s):
  awp G (tailN 14 (jbl Tryz.f3)) Q (SC e lo lo):=by
 have hc:=h.hc;have hs:=h.hs;have hsol:=h.bds.sol;have hwl:∀b,(jb4 e b e.moves.length).length<=10:=fun b=>by
  have h1:=jjq (e:=e) (b:=b) e.moves.length;have h2:e.moves.length*e.mats.toNat<=5*2:=q9 h.n5 (by have:=h.m2;omega);omega
 obtain⟨r2,f2,b2,s2,kR2⟩:=jfn (e:=e) (ps:=endP e) hs (by have:=hwl true;unfold endP;omega);have kL:=w_least s2 kR2;obtain⟨lo2,hi2,rfl,q2,q3,_⟩:=s2.say.get (jex hc) hsol;change Ctr G.P _ _ (· = .tup [frac lo2,.int 0])at kL;obtain⟨r3,f3,b3,s3,kR3⟩:=jfn (e:=e) (ps:=outP e) hs (by have:=hwl false;unfold outP;omega);obtain⟨lo3,hi3,rfl,t2,_,t4⟩:=s3.say.get (jex hc) hsol;have hf3:f3=0:=zK s3.flag;subst hf3;have kB:=s3.bnd;change Ctr G.P _ _ (· = .agg (bdC lo3 hi3))at kB;have hle:∀w,hi3=some w->lo2<=w:=fun w hw=>by
  obtain⟨y,hy⟩:=hsol;have h1:=q2.low y hy;have h2:=t2.high w hw y hy;have h3:=out_end (x:=y) hc;have h4:=jh4 hy;unfold endP at h1;unfold outP at h2;grind
 have kSm:=jqq (hF.mono (by omega:3000000<=19000000000));obtain⟨k1,a1,c1,b1,d1,P1,Y1,Z1,k2,a2,c2,b2,d2,P2,Y2,Z2,rfl⟩:=s3.shape;clear s2 kR2 s3 hsol h hc hs hwl q2 t2;unfold bdC at kB;unfold SC;generalize (outP e).map pickC=oc at*;generalize (endP e).map pickC=ec at*;refine tail_go rfl ?_;cases hi3 with
 | none=>
  obtain⟨s1,s2,s3,s4,hsd⟩:=jih (none:Option Rat);rw[hsd]at kB;simp only[frac,ints]at kL kSm;unfold Evid.iv Evid.c at*;simp only[go_sem];refine ja1 kL ?_;simp only[go_sem];refine ja1 kR3 ?_;simp only[go_sem];refine ja1 kB ?_;simp only[go_sem];refine ja1 kSm ?_;simp only[Option.isSome_none,go_sem];exact hQ _ rfl
 | some w=>
  have kC:=f_cmp (q3.mono (by omega:4000000000<=19000000000)) ((t4 w rfl).mono (by omega:4000000000<=19000000000));have dC:decide (cmpR lo2 w<=0)=true:=zh (by
   have:=(not_congr (cmpR_pos (a:=lo2) (b:=w))).2 (by have:=hle w rfl;grind);have h3:cmpR lo2 w= -1\/cmpR lo2 w=0\/cmpR lo2 w=1:=by unfold cmpR cmpI;split<;>(try split)<;>simp
   omega)
  generalize cmpR lo2 w=cw at*;simp only[frac,ints]at kL kSm kC;unfold sideC at kB;unfold Evid.iv Evid.c at*;simp only[go_sem];refine ja1 kL ?_;simp only[go_sem];refine ja1 kR3 ?_;simp only[go_sem];refine ja1 kB ?_;simp only[go_sem];refine ja1 kSm ?_;simp only[Option.isSome_some,go_sem];refine ja1 kC ?_;simp only[dC,go_sem];exact hQ _ rfl
end
theorem w_conserves(e:Evid):Ctr G.P 3 [e.iv] (· = .bool true):=by
 refine ctrX_of (c:=tailN 0 (jbl Tryz.f3)) (t:=2) good Tryz.func3 rfl (by decide+kernel) (qK rfl) rfl ?_;refine SemC.cutsF good (fun i:List IV×Rat×Option Rat=>SA e i.1) (fun i=>CF e i.1 i.2.1 i.2.2) 10 rfl (by decide+kernel) (cs_A e (fun s h=>h) (fun r lo hi s h1 h2=>⟨(r,lo,hi),h1,h2⟩)) ?_;rintro⟨r,lo,hi⟩ h;dsimp only at h;rw[jeo];refine SemC.cutsF good (fun x:Nat->Rat=>SB e x lo) (fun x=>(∀k,FL 5200 (x k))/\tsum (goalW e) x=lo) 3 rfl (by decide+kernel) (cs_B h fun x s h1 _ h3 h4=>⟨x,⟨h1,h3⟩,h4⟩) ?_;rintro x ⟨h1,h3⟩;rw[jeo];refine SemC.cutsF good (fun _:Unit=>SC e lo (stayN e x e.moves.length)) (fun _=>FL 3000000 (stayN e x e.moves.length)) 1 rfl (by decide+kernel) (cs_C h h1 fun s hF hs=>⟨(),hF,hs⟩) ?_;intro _ hF;rw[jeo];rw[<-jkm h.hc,h3]at hF⊢;exact SemC.awp good (by decide+kernel) (cs_D h hF fun s hs=>hs)
