/- A part of the proof. No further condition. -/
import Derived.Test.YthahgoopboilkaaGreatKE42
import Derived.Test.YthahgoopboilkaaGreatKE41
import Derived.RangeFuncWrites
import Derived.Maps.AppendAt
import Derived.ChangeArms
import Derived.DataReads
import Derived.Deep.Slices
set_option linter.all false
set_option maxRecDepth 10000000
set_option maxHeartbeats 16000000
namespace Go.Proofs.YthahgoopboilkaaGreat
section
open Go.Abs
attribute [local go_sem] Evid.iv Evid.c Place.c Move.c Cert.c Recall.c Purity.c Sample.c Recipe.c ints ic
theorem CtrV.ctr{P:Program}{f:FuncId}{args:List IV}{e s:Nat}{es:List (List IV)}(h:CtrV P f args e s es):Ctr P f args (· = .sl es):=by
 intro w M vs hM hr;refine(h w M vs hM hr).mono fun en w' ⟨v,he,hb,hv⟩=> ?_;refine⟨_,v,rfl,he,?_,hb⟩;rcases hv with ⟨h1,_⟩ | ⟨b,cap,cur,_,_,h1,_⟩
 ·exact h1
 ·exact h1.less fun b o hm=> .inl hm
end
end Go.Proofs.YthahgoopboilkaaGreat
namespace Go.Abs
section
section
variable{G:Ctx}{N:Nat}
end
def inL:Code->Code
 | .seq x _=>x
 | c=>c
def inR:Code->Code
 | .seq _ y=>y
 | c=>c
def inB:Code->Code
 | .block _ c=>c
 | .loop c=>c
 | c=>c
theorem inL_seq(x y:Code):inL (.seq x y)=x:=rfl
theorem inR_seq(x y:Code):inR (.seq x y)=y:=rfl
theorem inB_block(k:Nat)(c:Code):inB (.block k c)=c:=rfl
theorem inB_loop(c:Code):inB (.loop c)=c:=rfl
attribute [go_sem] inL_seq inR_seq inB_block inB_loop
theorem path_go{G:Ctx}{fn:Func}{c:Code}(f:Code->Code)(hb:fn.body=some c){k j:Nat}{y:Code}{Q:Exit->St->Prop}{st:St}(h:awp G (putN k (tailN j (f c)) y) Q st):awp G (putN k (tailN j (f (jbm fn))) y) Q st:=by
 unfold jbm;rw[hb];exact h
end
end Go.Abs
namespace Go.Proofs.YthahgoopboilkaaGreat
section
open Go.Abs
attribute [local go_sem] Evid.iv Evid.c ints ic
theorem t_cloneF(es:List (List IV))(h4:∀c∈es,c.length=4)(hl:es.length<=100000):CtrV G.P 101 [.sl es] 35 4 es:=by
 refine ctrv_go good _ _ [.tmp 2] Tryz.func101 rfl rfl (by decide+kernel) rfl ?_;simp only[go_sem];refine jqt (fun h=> ?_) ?_
 ·subst h;simp only[go_sem]
 ·simp only[go_sem];exact⟨by simp,h4,by omega⟩
theorem t_chunk(es:List (List IV))(m:Int)(hm:decide (m<1)=false):Ctr G.P 100 [.sl es,.int m] (· = .clo 147 [.ip [.sl es] 0,.ip [.int m] 0]):=by
 refine ja5 [.tmp 4] Tryz.func100 ?_;simp only[hm,go_sem]
theorem hist_a{e:Evid}(hc:jbl e=0)(es:List (List IV))(hn:(es.length:Int)=e.moves.length*e.mats)(hle:es.length<=100000){P:Exit->St->Prop}
  (hP:∀s,St.Le s ⟨[(1,.im (.sl es)),(2,.im (.ip e.c 0))],[],[]⟩->P .normal s):
  awp G (putN 2 (tailN 0 (jbm Tryz.f56)) .skip) P (initSt [e.iv,.sl es]):=by
 have k:=c21 e;rw[hc]at k;have h1:=ja9 (n:=(e.moves.length:Int)*e.mats) (by omega);have hd:decide ((es.length:Int)=e.moves.length*e.mats)=true:=za hn;refine jp5 rfl ?_;unfold Evid.iv Evid.c at*;simp only[go_sem];refine ja1 k ?_;simp only[h1,hd,zw,go_sem];exact hP _ ((St.le_lend _ 2).trans (jk0 [1,2] rfl (SubR.of_eq rfl) rfl))
theorem hist_b{e:Evid}(hm:1<=e.mats)(es:List (List IV))(h4:∀c∈es,c.length=4)(hle:es.length<=100000)(B:Nat){P:Exit->St->Prop}
  (hP:∀s,St.Le s ⟨[(5,.im (.pr B 1 0 0)),(26,.im (.clo 147 [.ip [.sl es] 0,.ip [.int e.mats] 0]))],[],[]⟩->P .normal s):
  awp G (putN 1 (tailN 0 (inL (tailN 3 (jbm Tryz.f56)))) .skip) P ⟨[(1,.im (.sl es)),(2,.im (.ip e.c 0)),(5,.im (.pr B 1 0 0))],[],[]⟩:=by
 have k1:=CtrV.ctr (t_cloneF es h4 hle);have k2:=t_chunk es e.mats (zq (by omega));have e1:max 1 e.mats=e.mats:=by omega
 refine path_go (fun c=>inL (tailN 3 c)) rfl ?_;unfold Evid.c;simp only[e1,go_sem];refine jac 5 ?_;simp only[e1,go_sem];refine ja4 k1 (by decide) ?_;simp only[e1,go_sem];refine ja1 k2 ?_;simp only[go_sem];exact hP _ (jk0 [5,26] rfl (SubR.of_eq rfl) rfl)
end
section
open Go.RowKit Go.Shelf
open Go.Abs (IV AV Rep RepL Ctr St Sim Base isSeq dstB awp putN tailN jbm inL inR jem Mo pβ)
attribute [local go_sem] Oper.semAt_some
theorem jq9{G:Go.Abs.Ctx}(hG:G.Good){N:Nat}{w0:Base}{M0:Nat->Nat->Prop}{Q:Exit->Act->World->Prop}{T:St->Prop}:∀(k:Nat) {c:Code} {st:St} {β:Nat->Option Nat} {a:Act} {w:World},isSeq k c=true->dstB N c=true->
  awp G (putN k c .skip) (fun e s=>match e with | .normal=>T s | _=>False) st->(∀β s a w,T s->Sim N w0 M0 β s a w->(tailN k c).wp G.P Q a w)->Sim N w0 M0 β st a w->c.wp G.P Q a w
 | 0,c,st,β,a,w,_,_,h1,h2,hs=>h2 β st a w h1 hs
 | k+1,.seq x y,st,β,a,w,hq,hd,h1,h2,hs=>by
  simp only[dstB,zr]at hd;refine wp_seq (wp_mono (jem hG x _ st β a w hd.1 h1 hs) fun e a' w' hl=> ?_);obtain⟨β',st',h3,h4⟩:=hl;cases e with
  | normal=>exact jq9 hG k hq hd.2 h3 h2 h4
  | _=>exact h3.elim
theorem sim_on{N:Nat}{w0:Base}{M0:Nat->Nat->Prop}{β:Nat->Option Nat}{x1 x2:IV}{a a':Act}{w w':World}(h:Sim N w0 M0 β ⟨[(1,.im x1),(2,.im x2)],[],[]⟩ a w)(hB:Below w.heap.size w w')(hN:a'.tmps.size=N)(hD:a'.defers=[])
  (e1:a'.tmps.getD 1 undef=a.tmps.getD 1 undef) (e2:a'.tmps.getD 2 undef=a.tmps.getD 2 undef) (B:Nat) (e5:a'.tmps.getD 5 undef= .pointer (some ⟨B,0,none⟩)):
  Sim N (Base.of w') M0 pβ ⟨[(1,.im x1),(2,.im x2),(5,.im (.pr B 1 0 0))],[],[]⟩ a' w':=by
 have hM:∀b o,Mo M0 pβ ⟨[(1,.im x1),(2,.im x2),(5,.im (.pr B 1 0 0))],[],[]⟩ b o->Mo M0 β ⟨[(1,.im x1),(2,.im x2)],[],[]⟩ b o:=by
  rintro b o (hm | ⟨d,s,es,hd,_⟩ | ⟨d,s,n,hd,_⟩)
  ·exact .inl hm
  ·cases hd
  ·cases hd
 have k:∀{x:IV} {v:Value},Rep w (Mo M0 β ⟨[(1,.im x1),(2,.im x2)],[],[]⟩) x v->Rep w' (Mo M0 pβ ⟨[(1,.im x1),(2,.im x2),(5,.im (.pr B 1 0 0))],[],[]⟩) x v:=fun hr=>(hr.kept (Go.Abs.Below.kept hB)).less hM;refine⟨hN,hD,Base.Fr.refl _,fun b o hm=> ?_,fun t=> ?_,fun d s es hd=>(by cases hd),fun d s n hd=>(by cases hd),fun d d' b h1=>(by simp[Go.Abs.look]at h1),fun d hd=>(by simp[Go.Abs.look]at hd),fun k _ _ hk=>(by simp[Go.Abs.look]at hk),h.np,Go.Abs.pβ_hp⟩
 ·exact zY (w0.lt _ (h.m0 b o hm)) (qn h.below.size hB.size)
 ·by_cases t1:t=1
  ·subst t1;show Rep _ _ _ _;rw[e1];exact k (h.fr 1)
  by_cases t2:t=2
  ·subst t2;show Rep _ _ _ _;rw[e2];exact k (h.fr 2)
  by_cases t5:t=5
  ·subst t5;show Rep _ _ _ _;rw[e5];exact Rep.pr B 1 0 0
  ·have:(⟨[(1,.im x1),(2,.im x2),(5,.im (.pr B 1 0 0))],[],[]⟩:St).get t= .und:=by simp[Go.Abs.St.get,Go.Abs.look,t1,t2,t5]
   rw[this];trivial
theorem e_hist1{e:Evid}(hc:jbl e=0)(es:List (List IV))(h4:∀x∈es,x.length=4)(hn:(es.length:Int)=e.moves.length*e.mats)(hle:es.length<=100000){Q:Exit->Act->World->Prop}{w:World}{M:Nat->Nat->Prop}{a:Act}
  (hs:Sim 33 (Base.of w) M pβ (Go.Abs.initSt [e.iv,.sl es]) a w)
  (hQ:∀(a4:Act) (w4:World) (B:Nat),w.heap.size<=B->Below w.heap.size w w4->Boxed w4 B 30 (.slice none 0 0)->a4.tmps.size=33->a4.defers=[]->a4.tmps.getD 5 undef= .pointer (some ⟨B,0,none⟩)->
   Rep w4 M (.clo 147 [.ip [.sl es] 0,.ip [.int e.mats] 0]) (a4.tmps.getD 26 undef)->(inR (inL (tailN 3 (jbm Tryz.f56)))).wp Tryz.prog (Exit.then ((tailN 4 (jbm Tryz.f56)).wp Tryz.prog Q) Q) a4 w4):
  (jbm Tryz.f56).wp Tryz.prog Q a w:=by
 have hm:1<=e.mats:=(jbk hc).2.1;refine jq9 good 2 (by rfl) (by decide+kernel) (hist_a hc es hn hle fun s hs=>hs) (fun β s a2 w2 hT hs2=> ?_) hs;obtain⟨β2,hs2⟩:=hT _ _ _ _ _ _ hs2;have hcode:tailN 2 (jbm Tryz.f56)=Code.seq (inL (tailN 2 (jbm Tryz.f56))) (tailN 3 (jbm Tryz.f56)):=rfl;rw[hcode];refine wp_seq ?_;generalize hK:Exit.then (Code.wp G.P (tailN 3 (jbm Tryz.f56)) Q) Q=K
 have hsz:=hs2.size;obtain⟨tm,df⟩:=a2;have hdf:df=[]:=hs2.defers;subst hdf;have key:K .normal {tmps:=tm.setIfInBounds 5 (.pointer (some ⟨w2.heap.size,0,none⟩)),defers:=[]} (w2.alloc (.cells #[.slice none 0 0] 30)):=by
  subst hK;show(tailN 3 (jbm Tryz.f56)).wp Tryz.prog Q _ _;have hB3:Below w2.heap.size w2 (w2.alloc (.cells #[.slice none 0 0] 30)):=(Below.refl _ _).alloc (zB _) _;have h5l:5<tm.size:=by rw[show tm.size=33 from hsz];decide
  have hs3:=sim_on (a':={tmps:=tm.setIfInBounds 5 (.pointer (some ⟨w2.heap.size,0,none⟩)),defers:=[]}) hs2 hB3 (by simpa using hsz) rfl (by simp[jV]) (by simp[jV]) w2.heap.size (by simp[jV,h5l]);have hcode2:tailN 3 (jbm Tryz.f56)=Code.seq (inL (tailN 3 (jbm Tryz.f56))) (tailN 4 (jbm Tryz.f56)):=rfl;rw[hcode2];refine wp_seq ?_;refine jq9 good 1 (by rfl) (by decide+kernel) (hist_b hm es h4 hle w2.heap.size fun s hs=>hs) (fun β s a4 w4 hT hs4=> ?_) hs3;obtain⟨β4,hs4⟩:=hT _ _ _ _ _ _ hs4;have hb4:=hs4.below.below;have hb2:=hs2.below.below;have hbx:=Boxed.new w2 30 (.slice none 0 0);have e5:a4.tmps.getD 5 undef= .pointer (some ⟨w2.heap.size,0,none⟩):=by
   have:=hs4.fr 5;have h5:Rep w4 (Mo M β4 ⟨[(5,.im (.pr w2.heap.size 1 0 0)),(26,.im (.clo 147 [.ip [.sl es] 0,.ip [.int e.mats] 0]))],[],[]⟩) (.pr w2.heap.size 1 0 0) (a4.tmps.getD 5 undef):=this;generalize a4.tmps.getD 5 undef=u at h5⊢;cases h5;simp
  have e26:Rep w4 M (.clo 147 [.ip [.sl es] 0,.ip [.int e.mats] 0]) (a4.tmps.getD 26 undef):=Rep.less (show Rep w4 _ _ _ from hs4.fr 26) fun b o hm=> .inl hm;exact hQ a4 w4 w2.heap.size hb2.size ((hb2.trans (hB3.mono hb2.size)).trans (hb4.mono (qn hb2.size hB3.size))) ((hb4.block _ hbx.lt).trans hbx) hs4.size hs4.defers e5 e26
 show Code.wp Tryz.prog (inL (tailN 2 (jbm Tryz.f56))) K _ _;refine(wpIn_wide (n:=10)).1 ?_;simp only[inL,tailN,jbm,Tryz.f56]
 gi_wp2
 exact key
end
section
open Go.RowKit Go.Shelf
open Go.Abs (IV AV Rep RepL Ctr St Sim Base isSeq dstB awp putN tailN jbm inL inR jem Mo pβ)
attribute [local go_sem] Oper.semAt_some
theorem jmn{W:World}{n₀ n₁:Nat}{e:TypeId}{size:Nat}{v:Value}{k:Nat}{xs:List Value}(h:W.ownsRow n₁ e size v k xs)(hn:n₀<=n₁):W.ownsRow n₀ e size v k xs:=
 ⟨h.1,h.2.imp id fun⟨g,cap,cur,q1,q2,q3⟩=>⟨g,cap,cur,q1,qn hn q2,q3⟩⟩
theorem appended_x{W w1:World}{n₀ n₁ B:Nat}{t e:TypeId}{size:Nat}{v v':Value}{k m:Nat}{xs ys:List Value}{tmp:Obj}
  (hv:Boxed W B t v) (hte:t≠e) (hrow:W.ownsRow n₁ e size v k xs) (h01:n₀<=n₁) (hn:n₁<=W.heap.size) (hB:n₀<=B) (hown':w1.ownsRow n₁ e size v' m ys) (hgrow:(W.alloc tmp).grownBy w1 v.ownBlock):
  Boxed w1 B t v/\Boxed (w1.setCell ⟨B,0,none⟩ v') B t v'/\(w1.setCell ⟨B,0,none⟩ v').ownsRow n₁ e size v' m ys/\KeepsOthers W (w1.setCell ⟨B,0,none⟩ v')/\Below n₀ W (w1.setCell ⟨B,0,none⟩ v')/\BelowX B n₁ W (w1.setCell ⟨B,0,none⟩ v'):=by
 obtain⟨h1,h2,h3,h4,h5⟩:=hv.appended hte (jmn hrow h01) (qn h01 hn) hB (jmn hown' h01) hgrow;refine⟨h1,h2,hown'.kept (grownBy_setCell' w1 B v') (.inr (h1.not_row hte hown').symm),h4,h5,h5.size,fun j hj hne=> ?_⟩;have hjW:j<W.heap.size:=zY hj hn;have hjA:j<(W.alloc tmp).heap.size:=by rw[World.size_alloc];omega
 have hrw:some j≠v.ownBlock:=fun e'=>by
  rcases hrow.2 with ⟨rfl,_⟩ | ⟨g,cap,cur,rfl,hb,_⟩
  ·cases e'
  ·have:j=g:=by simpa [Value.ownBlock]using e'
   omega
 have hj1:j<w1.heap.size:=zY hjA hgrow.size;rw[(grownBy_setCell' w1 B v').block j hj1 (fun e'=>hne (by simpa using e')),hgrow.block j hjA hrw];exact(World.grownBy_alloc W tmp none).block j hjW (by simp)
theorem ownFrom_belowX{β:Type}{X:Nat}{w₀:World}:OwnFrom w₀.heap.size (fun(_:β) W=>BelowX X w₀.heap.size w₀ W):=
 fun _ _ _ _ hs hg hr=>⟨qn hs.size hg.size,fun k hk hx=>(hg.block k (zY hk hs.size) (fun e=>by have:=(hr k e.symm).1;omega)).trans (hs.block k hk hx)⟩
theorem infoE:(Tryz.prog.info? 36).map (fun i=>(i.zero,i.size,i.bytes))=some (some (.slice none 0 0),1,24):=by kernel_rfl
def jjx(es:List (List IV))(m i:Nat):List IV:=[.sl ((es.drop (i*m)).take m)]
theorem rep_off{w:World}{M:Nat->Nat->Prop}{B:Nat}(hone:∀k u,w.cell? ⟨B,k,none⟩=some u->u= .slice none 0 0){l:List Int}{v:Value}(h:Rep w M (ints l) v):Rep w (fun b o=>M b o\/b=B) (ints l) v:=by
 unfold ints at h⊢;rcases h.sl_inv with ⟨h0,a,c,rfl⟩ | ⟨s,b,o,c,u,hne,q1,q2,q3,q4,rfl⟩
 ·rw[h0];exact .nil a c
 ·have hint:∀i e j x,(l.map ic)[i]? =some e->e[j]? =some x->∃n,u i j= .int .i64 n:=fun i e j x h1 h2=>by
   rw[ze,zZ]at h1;obtain⟨n,_,rfl⟩:=h1;have hr:=q4 i _ j x (by rw[ze];simp[*]) h2;rcases j with _ | j
   ·cases h2;exact⟨n,Go.Abs.Rep.sc_inv hr⟩
   ·simp[ic]at h2
  have hb:b≠B:=fun e=>by
   obtain⟨x,r,hx⟩:=vZ hne;cases l with
   | nil=>cases hx
   | cons n r'=>
    obtain⟨_,h2,_⟩:=q3 0 (ic n) 0 (.int n) rfl rfl;obtain⟨k,hk⟩:=hint 0 (ic n) 0 (.int n) rfl rfl;rw[e]at h2;have:=hone _ _ h2;rw[hk]at this;cases this
  refine .sl _ s b o c u hne q1 q2 (fun i e j x h1 h2=> ?_) fun i e j x h1 h2=> ?_
  ·obtain⟨a1,a2,a3⟩:=q3 i e j x h1 h2;exact⟨a1,a2,fun h=>h.elim a3 hb⟩
  ·obtain⟨n,hn⟩:=hint i e j x h1 h2;have hr:=q4 i e j x h1 h2;rw[hn]at hr⊢;cases hr with
   | sc _ hp=>exact .sc _ hp
theorem hist_rep{es:List (List IV)}{w w4 W2:World}{M:Nat->Nat->Prop}{B b o m nm:Nat}{u:Nat->Nat->Value}{v v0:Value}(hfr:∀x∈es,∃(a:Int) (b:List Int) (c:Int) (d:List Int),x=[.int a,ints b,.int c,ints d])(hle:es.length<=100000)(hn:es.length=nm*m)(hm1:1<=m)
  (hM:∀(b o:Nat),M b o->b<w.heap.size) (hM4:w.heap.size<=w4.heap.size) (hbx:Boxed w4 B 30 v0) (hone:∀k u,w4.cell? ⟨B,k,none⟩=some u->u= .slice none 0 0) (q1:∀e∈es,e.length=4)
  (q3:∀(i:Nat) (e:List IV) (j:Nat) (x:IV),es[i]? =some e->e[j]? =some x->x.one=true/\w4.cell? ⟨b,o+i*4+j,none⟩=some (u i j)/\¬M b (o+i*4+j)) (q4:∀(i:Nat) (e:List IV) (j:Nat) (x:IV),es[i]? =some e->e[j]? =some x->Rep w4 M x (u i j))
  (hX2:BelowX B w4.heap.size w4 W2) (hbx2:Boxed W2 B 30 v) (hrow:W2.ownsRow w4.heap.size 36 1 v (List.range nm).length ((List.range nm).map fun j=>Value.slice (some ⟨b,o+4*m*j,none⟩) m m)):
  Rep W2 M (.sl ((List.range nm).map (jjx es m))) v:=by
 have hlt4:∀{k j:Nat} {x:Value},w4.cell? ⟨k,j,none⟩=some x->k<w4.heap.size:=fun{k j x} h=>by
  unfold World.cell? at h;rcases zT k w4.heap.size with h' | h'
  ·exact h'
  ·rw[vw h']at h;cases h
 have hk:Go.Abs.Kept w4 (fun b o=>M b o\/b=B) W2 M:=⟨fun k j x h1 h2=>⟨(hX2.cell (p:=⟨k,j,none⟩) (hlt4 h1) (fun e=>h2 (.inr e))).trans h1,fun h=>h2 (.inl h)⟩,
  fun k es c h1 h2=>⟨(hX2.block k (zG.1 h1).1 (fun e=>h2 (.inr e))).trans h1,fun h=>h2 (.inl h)⟩,
  fun k cur T h1=>by
   by_cases e:k=B
   ·subst e;rw[show w4.heap[k]? =_ from hbx]at h1;cases h1;exact⟨_,hbx2,rfl⟩
   ·exact⟨cur,(hX2.block k (zG.1 h1).1 e).trans h1,rfl⟩⟩
 have hin:∀(i:Nat) (e:List IV) (j:Nat) (x:IV),es[i]? =some e->e[j]? =some x->Rep W2 M x (u i j):=fun i e j x h1 h2=>by
  have hr:=q4 i e j x h1 h2;obtain⟨p1,p2,p3,p4,rfl⟩:=hfr e (zk h1)
  match j,h2 with
  | 0,h2=>cases h2;rw[Go.Abs.Rep.sc_inv hr];exact .sc _ rfl
  | 1,h2=>cases h2;exact(rep_off hone hr).kept hk
  | 2,h2=>cases h2;rw[Go.Abs.Rep.sc_inv hr];exact .sc _ rfl
  | 3,h2=>cases h2;exact(rep_off hone hr).kept hk
  | j+4,h2=>simp at h2
 have hbB:∀i,i<es.length->b≠B:=fun i hi e=>by
  subst e;obtain⟨p1,p2,p3,p4,hx⟩:=hfr es[i] (jn hi);obtain⟨_,h2,_⟩:=q3 i _ 1 (ints p2) (zh hi) (by rw[hx];rfl);unfold World.cell? at h2;rw[show w4.heap[b]? =_ from hbx]at h2;simp at h2
 have hLn:((List.range nm).map (jjx es m)).length=(List.range nm).length:=by simp
 rcases hrow.2 with ⟨rfl,h0⟩ | ⟨g,cap,cur,rfl,hg,hcells,hk1,_,hcs,htake⟩
 ·have:nm=0:=by simpa using h0
  subst this;exact .nil none 0
 by_cases hnm:nm=0
 ·subst hnm;exact .nil _ _
 have hcur:∀i,i<nm->cur[i]? =some (Value.slice (some ⟨b,o+4*m*i,none⟩) m m):=fun i hi=>by
  have h1:(cur.toList.take ((List.range nm).length*1))[i]? =some (Value.slice (some ⟨b,o+4*m*i,none⟩) m m):=by
   rw[htake,ze,yw hi];rfl
  rw[j4 (by simpa using hi)]at h1
  simpa using h1
 have hgo:=Rep.sl (w:=W2) (M:=M) ((List.range nm).map (jjx es m)) 1 g 0 cap (fun i _=>Value.slice (some ⟨b,o+4*m*i,none⟩) m m) (by
  intro e;have:=qd List.length e;simp at this;exact hnm this) (fun x hx=>by
  obtain⟨i,_,rfl⟩:=qq.1 hx;rfl) (by rw[hLn];exact hk1) (fun i x j y h1 h2=> ?_) (fun i x j y h1 h2=> ?_)
 ·rw[hLn]at hgo;exact hgo
 ·rw[ze,zZ]at h1;obtain⟨i',h1,rfl⟩:=h1;obtain⟨hi,rfl⟩:=zu.1 h1;rw[qK]at hi;rw[vp]at h2
  match j,h2 with
  | 0,h2=>
   cases h2;refine⟨rfl,?_,fun h=> ?_⟩
   ·unfold World.cell?;rw[hcells]
    simpa using hcur i hi
   ·have:=hM _ _ h;omega
  | j+1,h2=>simp[jjx]at h2
 ·rw[ze,zZ]at h1;obtain⟨i',h1,rfl⟩:=h1;obtain⟨hi,rfl⟩:=zu.1 h1;rw[qK]at hi;rw[vp]at h2
  match j,h2 with
  | j+1,h2=>simp[jjx]at h2
  | 0,h2=>
   cases h2;have him:i*m+m<=es.length:=by
    rw[hn];have:=qy m (show i+1<=nm from hi)
    rwa [yB]at this
   have hcl:((es.drop (i*m)).take m).length=m:=by rw[qi,y9];omega
   have hget:∀k,k<m->((es.drop (i*m)).take m)[k]? =es[i*m+k]? :=fun k hk=>by
    rw[j4 hk,qM]
   have hoff:∀k j,o+4*m*i+k*4+j=o+(i*m+k)*4+j:=fun k j=>by
    have:4*m*i=i*m*4:=by rw[jf,yl m i,yl]
    rw[qD,this];omega
   have hlt:∀{k:Nat} {x:List IV},((es.drop (i*m)).take m)[k]? =some x->k<m:=fun h=>by
    have:=(zu.1 h).1;omega
   have hfin:=Rep.sl (w:=W2) (M:=M) ((es.drop (i*m)).take m) 4 b (o+4*m*i) m (fun k j=>u (i*m+k) j) (fun e=>by rw[e]at hcl;simp at hcl;omega)
    (fun x hx=>q1 x (yf (q8 hx))) (by omega) (fun k x j y h1 h2=>by
     have hkm:=hlt h1;rw[hget k hkm]at h1;obtain⟨a1,a2,a3⟩:=q3 _ x j y h1 h2;rw[hoff];exact⟨a1,(hX2.cell (p:=⟨b,_,none⟩) (hlt4 a2) (hbB (i*m+k) (by omega))).trans a2,a3⟩) (fun k x j y h1 h2=>by
     have hkm:=hlt h1;rw[hget k hkm]at h1;exact hin _ x j y h1 h2)
   rw[hcl]at hfin;exact hfin
theorem e_History{e:Evid}(hc:jbl e=0)(es:List (List IV))(hfr:∀x∈es,∃(a:Int) (b:List Int) (c:Int) (d:List Int),x=[.int a,ints b,.int c,ints d])(hn:es.length=e.moves.length*e.mats.toNat)(hle:es.length<=100000):
  Ctr G.P 56 [e.iv,.sl es] (· = .sl ((List.range e.moves.length).map (jjx es e.mats.toNat))):=by
 have h4:∀x∈es,x.length=4:=fun x hx=>by obtain⟨a,b,c,d,rfl⟩:=hfr x hx;rfl
 have hm:1<=e.mats:=(jbk hc).2.1;intro w M vs hM hr;obtain⟨v0,vs0,rfl,hr0,hr1⟩:=hr.uncons;obtain⟨v1,vs1,rfl,hr1,hr2⟩:=hr1.uncons;obtain rfl:=hr2.of_nil;refine(callsIn_wide (n:=10)).1 ?_;refine callsIn_of_wp_marks (c:=jbm Tryz.f56) Tryz.func56 rfl trivial ?_ rfl;refine wpIn_wide.2 ?_;refine e_hist1 hc es h4 (by rw[hn,Int.natCast_mul,yp (by omega)]) hle (Sim.init (by decide) hM hr (qT rfl)) fun a4 w4 B hBw hB4 hbx hsz hdf e5 e26=> ?_;obtain⟨⟨tl⟩,df⟩:=a4;obtain rfl:df=[]:=hdf;have hsz:tl.length=33:=hsz
 match tl,hsz with
 | z0::z1::z2::z3::z4::z5::z6::z7::z8::z9::z10::z11::z12::z13::z14::z15::z16::z17::z18::z19::z20::z21::z22::z23::z24::z25::z26::z27::z28::z29::z30::z31::z32::[],_=>
 obtain rfl:z5=_:=e5;have e26:Rep w4 M (.clo 147 [.ip [.sl es] 0,.ip [.int e.mats] 0]) z26:=e26;cases e26 with
 | clo _ _ vs hl h1=>
 obtain⟨vl⟩:=vs
 match vl,hl with
 | [c0,c1],_=>
 have r0:=h1 0 _ c0 rfl rfl;have r1:=h1 1 _ c1 rfl rfl;clear h1;cases r0 with
 | ip _ _ Bs os u0 g1 g2=>
 cases r1 with
 | ip _ _ Bn on u1 f1 f2=>
 obtain⟨_,hcs,hMs⟩:=g1 0 _ rfl;obtain⟨_,hcn,_⟩:=f1 0 _ rfl;have hrs:=g2 0 _ rfl;have hrn:=f2 0 _ rfl;clear g1 g2 f1 f2;obtain hun:=Go.Abs.Rep.sc_inv hrn;simp only[Nat.add_zero]at hcs hcn;have hM4:w.heap.size<=w4.heap.size:=hB4.size;obtain⟨m,hmm⟩:∃m,m=e.mats.toNat:=⟨_,rfl⟩;obtain⟨nm,hnm⟩:∃nm,nm=e.moves.length:=⟨_,rfl⟩;have hm1:1<=m:=by omega
 rw[hun]at hcn;have hcn':w4.cell? ⟨Bn,on,none⟩=some (.int .i64 m):=by rw[hmm,yp (by omega)];exact hcn
 rw[<-hmm,<-hnm]at hn⊢;have hone:∀k u,w4.cell? ⟨B,k,none⟩=some u->u= .slice none 0 0:=fun k u h=>by
  unfold World.cell? at h;rw[show w4.heap[B]? =_ from hbx]at h;rcases k with _ | k
  ·simpa using h.symm
  ·simp at h
 have hlt4:∀{k j:Nat} {x:Value},w4.cell? ⟨k,j,none⟩=some x->k<w4.heap.size:=fun{k j x} h=>by
  unfold World.cell? at h;rcases zT k w4.heap.size with h' | h'
  ·exact h'
  ·rw[vw h']at h;cases h
 obtain⟨b,o,u,q1,q3,q4,hseq⟩:∃(b o:Nat) (u:Nat->Nat->Value),(∀e∈es,e.length=4)/\(∀(i:Nat) (e:List IV) (j:Nat) (x:IV),es[i]? =some e->e[j]? =some x->x.one=true/\w4.cell? ⟨b,o+i*4+j,none⟩=some (u i j)/\¬M b (o+i*4+j))/\
   (∀(i:Nat) (e:List IV) (j:Nat) (x:IV),es[i]? =some e->e[j]? =some x->Rep w4 M x (u i j))/\
   ∃Sp:List Nat->Prop,SeqStopsK Fence.wide 9 Tryz.prog 147 #[.pointer (some ⟨Bs,os,none⟩),.pointer (some ⟨Bn,on,none⟩)] (fun j:Nat=> #[Value.slice (some ⟨b,o+4*m*j,none⟩) m m]) (BelowX B w4.heap.size) (fun ys=>ys=List.range nm) Sp nm w4:=by
  rcases hrs.sl_inv with ⟨rfl,a,c,hus⟩ | ⟨s,b,o,c,u,hne,q1,q2,q3,q4,hus⟩
  ·have hnm0:nm=0:=by
    have h0:nm*m=0:=hn.symm;rcases vx.1 h0 with h | h
    ·exact h
    ·omega
   subst hnm0;rw[hus]at hcs;refine⟨0,0,fun _ _=>undef,fun e he=>(by cases he),fun i e j x h=>(by simp at h),fun i e j x h=>(by simp at h),fun _=>False,fun l J Jx W hW hJ hJx hY h0=> ?_⟩;refine(chunk1_nil_in Fence.wide 9 trivial rfl l Bs Bn os on a c J W ((hW.cell (p:=⟨Bs,os,none⟩) (hlt4 hcs)).trans hcs) h0).mono ?_;rintro x W' ⟨h1,h2⟩;exact⟨h1,.inl ⟨[],rfl,h2⟩⟩
  ·have hs4:s=4:=by
    obtain⟨x,l,rfl⟩:=vZ hne;rw[<-q1 x zN];exact h4 x zN
   subst hs4;rw[hus]at hcs;have hsX:Bs≠B:=fun h=>by
    subst h;have:=hone _ _ hcs;cases this
   have hnX:Bn≠B:=fun h=>by
    subst h;have:=hone _ _ hcn;cases this
   exact⟨b,o,u,q1,q3,q4,_,chunk_stops Fence.wide 9 trivial rfl (by decide) B Bs Bn os on w4.heap.size b o c m nm es.length hm1 (by unfold IsMul;rw[hn,yl]) hle q2 w4 (hlt4 hcs) (hlt4 hcn) hsX hnX (zB _) hcs hcn'⟩
 obtain⟨Sp,hseq⟩:=hseq;simp only[Nat.add_zero];clear hr hr0 hr1 hr2 hrs hrn hsz;have hnm5:nm<=100000:=by
  have:=yX nm (show 0<m by omega);omega
 have hmx:maxLen=9223372036854775807:=rfl;clear hmm hnm hcn hcs hcn' hm hun hc;obtain⟨i0,hi,hz0,hz1,hz2⟩:=info_parts infoE;refine(wpIn_wide (n:=10)).1 ?_;show Code.wpIn Fence.wide 10 Tryz.prog (inR (inL (tailN 3 (jbm Tryz.f56)))) _ _ _;generalize hQ:Exit.then (Code.wp Tryz.prog (tailN 4 (jbm Tryz.f56)) _) _=Q
 simp only[inL,inR,tailN,jbm,Tryz.f56];refine wpIn_block ?_;refine wpIn_rangeFunc_ownG (F:=Fence.wide) (n:=10) rfl (by decide) (gf:=147) (lb:= #[.pointer (some ⟨Bs,os,none⟩),.pointer (some ⟨Bn,on,none⟩)]) rfl trivial (enters_of Tryz.func147 (by kernel_rfl) rfl)
  hseq
  BelowX.trans (fun W l o o' h1 h2 h3 h4=>⟨by simp,fun k hk _=>World.putObj_heap_other (by omega)⟩) (Below.refl _ _) (fun _=>rfl)
  (fun(pre:List Nat) W=>(∃v,Boxed W B 30 v/\W.ownsRow w4.heap.size 36 1 v pre.length (pre.map fun j=>Value.slice (some ⟨b,o+4*m*j,none⟩) m m)/\True)/\(Below w.heap.size w W/\BelowX B w4.heap.size w4 W))
  (fun _ _ _=>False)
  (OwnFrom.and (Own.from (holdsRow_own w4.heap.size B 30 36 1 (fun pre:List Nat=>pre.length) (fun pre:List Nat=>pre.map fun j=>Value.slice (some ⟨b,o+4*m*j,none⟩) m m) (fun _ _=>True)) _) (OwnFrom.and (ownFrom_below (zB _) hM4) ownFrom_belowX))
  (fun _ _ _ _ _ hs _ _=>hs)
  ⟨⟨_,hbx,World.ownsRow_nil _ _ _ _,trivial⟩,hB4,BelowX.refl _ _ _⟩
  (fun x=>{tmps:= #[z0,z1,z2,z3,z4,.pointer (some ⟨B,0,none⟩),.slice (some ⟨b,o+4*m*x,none⟩) m m,z7,z8,z9,z10,z11,z12,z13,z14,z15,z16,z17,z18,z19,z20,z21,z22,z23,z24,z25,.func (.func 147) #[] #[.pointer (some ⟨Bs,os,none⟩),.pointer (some ⟨Bn,on,none⟩)],.slice (some ⟨b,o+4*m*x,none⟩) m m,z28,z29,z30,z31,z32],defers:=[]}) ?assign ?body ?done ?stop
 case assign=>
  intro l x W K hK
  gi_wp2
  exact hK
 case body=>
  rintro l pre x W ⟨⟨v,hv,hrow,_⟩,hB,hX⟩ hlt;have hc:=hv.cell;have hsz4:=hX.size
  gi_wp2_with (gi_at_builtin;refine wpListIn_append_own _ rfl _ _ 30 rfl w4.heap.size 36 i0 (.slice none 0 0) 1 24 Tryz.underlying30 hi hz0 hz1 hz2 rfl (by decide) _ _ _ rfl (hrow.alloc _) ⟨W.heap.size,0,none⟩ 1 1 [.slice (some ⟨b,o+4*m*x,none⟩) m m] rfl rfl (cell_one_new _ _ _) (by simp[Value.oneCell']) (by omega) (by omega) (by simp;omega) ?_;intro v' w1 hown' hgrow _;obtain⟨g',cap',rfl⟩:=ownsRow_succ hown';obtain⟨hv1,hv2,hr2,hk2,hb2,hx2⟩:=appended_x hv (by decide) hrow hM4 hsz4 hBw hown' hgrow;have hc1:=hv1.cell;have hf1:=hv1.frozen)
  exact⟨hk2.from _,hx2,⟨_,hv2,by simpa using hr2⟩,hB.trans hb2,hX.trans hx2⟩
 case done=>
  rintro D ys W hD rfl ⟨⟨v,hv,hrow,_⟩,hB,hX⟩ hK;have hc:=hv.cell;subst hQ;show Code.wp Tryz.prog (tailN 4 (jbm Tryz.f56)) _ _ W;refine(wpIn_wide (n:=10)).1 ?_;simp only[tailN,jbm,Tryz.f56]
  gi_wp2
  refine⟨by simp,.inl ⟨_,_,rfl,run_takeDeferred hK,?_⟩⟩;refine⟨_,results_tmp rfl _ _ _,v,rfl,?_,hB.trans (belowK_b (w:=w) (zB _) W D _ _ (by omega) hK rfl rfl)⟩;have hrow2:=ownsRow_putObj (o':=Obj.deferred none) hrow hK rfl;have hX2:BelowX B w4.heap.size w4 (W.putObj D (Obj.deferred none)):=hX.trans ⟨by simp,fun k hk _=>World.putObj_heap_other (by omega)⟩;have hbx2:Boxed (W.putObj D (Obj.deferred none)) B 30 v:=(World.putObj_heap_other (fun e=>by
   rw[<-e,show W.heap[B]? =_ from hv]at hK;cases hK)).trans hv
  clear hc hK hrow hX hv;generalize W.putObj D (Obj.deferred none)=W2 at*;exact hist_rep hfr hle hn hm1 hM hM4 hbx hone q1 q3 q4 hX2 hbx2 hrow2
 case stop=>
  rintro D c pre W _ _ h _;exact h.elim
end
section
open Go.Abs
open Go.LP (Rw RT Ov OvRw tsum Sol Bds S)
attribute [local go_sem] Evid.c Evid.iv ints ic big frac fc zc tmC pickC
def outP(e:Evid):List (Int×Int):=jr4 e false e.moves.length
def endP(e:Evid):List (Int×Int):=jr4 e true e.moves.length
def goalW(e:Evid):List (Nat×Rat):=plusF (goalS e.mats.toNat (outP e)) (mulT ((-1:Int):Rat) (goalS e.mats.toNat (endP e)))
section
variable{e:Evid}
structure CF(e:Evid)(r:List IV)(lo:Rat)(hi:Option Rat):Prop where
 hc:jbl e=0
 hs:SmallE e
 n5:e.moves.length<=5
 m2:e.mats<=2
 p12:e.places.length<=12
 bds:Bds (nV e) (rowsE e) (tsum (goalW e)) lo hi
 fnd:RFound (nV e) (rowsE e) (tsum (goalW e)) r lo hi
 lo0:0<=lo
end
end
section
open Go.Abs
open Go.LP (Rw RT Ov OvRw tsum Sol Bds S S_congr)
attribute [local go_sem] Evid.c Evid.iv ints ic big frac fc zc tmC pickC
def matX(M n:Nat)(x:Nat->Rat):List (List Rat):=(List.range n).map fun i=>(List.range M).map fun m=>x (i*M+m)
section
variable{e:Evid}{M n N:Nat}{x:Nat->Rat}
theorem matX_row(i:Nat)(hi:i<n):(matX M n x)[i]? =some ((List.range M).map fun m=>x (i*M+m)):=by
 unfold matX;rw[ze,yw hi];rfl
theorem matX_pt{k:Nat}(hM:0<M)(hk:k<n*M):ptH M (matX M n x) k=x k:=by
 have hi:k/M<n:=(Nat.div_lt_iff_lt_mul hM).2 hk;have hm:k % M<M:=ju _ hM;unfold ptH;rw[getD_some (matX_row _ hi),getD_some (by rw[ze,yw hm];rfl)];show x (k/M*M+k % M)=x k;rw[yl,jc]
theorem matX_chunk(hN:N=n*M):((List.range n).map (jjx (tab N fun k=>qc (x k)) M))=(matX M n x).map stC:=by
 unfold matX;rw[ya];refine yZ fun i hi=> ?_;have hi:=qh.1 hi;have h1:i*M+M<=N:=by
  rw[hN];have:=qy M (show i+1<=n from hi)
  rwa [yB]at this
 unfold jjx;show _=[IV.sl (((List.range M).map fun m=>x (i*M+m)).map fc)];congr 2;refine j2 fun k=> ?_;rw[ya];by_cases hk:k<M
 ·rw[j4 hk,qM,ze,yw hk];unfold tab;rw[ze,yw (by omega)];rfl
 ·rw[qA (by rw[qi];omega),qA (by simp;omega)]
theorem qc_form(r:Rat):∃(a:Int) (b:List Int) (c:Int) (d:List Int),qc r=[.int a,Go.Proofs.YthahgoopboilkaaGreat.ints b,.int c,Go.Proofs.YthahgoopboilkaaGreat.ints d]:=⟨_,_,_,_,rfl⟩
theorem matX_shaped(hs:SmallE e)(h5:e.moves.length<=5)(h2:e.mats<=2)(hx:∀k,FL 5200 (x k)):Shaped e (matX e.mats.toNat e.moves.length x) 5200 where
 len:=by unfold matX;simp
 row l hl:=by
  obtain⟨i,_,rfl⟩:=qq.1 hl;refine⟨by simp,fun r hr=> ?_⟩;obtain⟨m,_,rfl⟩:=qq.1 hr;exact hx _
 qb:=by decide
 mv:=by
  have:=vg (5200+5200+2) h5;omega
 mt:=by
  have:=qy (5200+1) (show e.mats.toNat<=2 by omega);omega
end
end
section
open Go.Abs
open Go.LP (Sol)
attribute [local go_sem] Evid.c Evid.iv ints ic frac fc
theorem jl5{x y:Nat->Rat}:∀{ks:List Nat},(∀k∈ks,x k=y k)->Go.LP.ksum ks x=Go.LP.ksum ks y
 | [],_=>rfl
 | k::ks,h=>by rw[Go.LP.ksum,Go.LP.ksum,h k zN,jl5 fun j hj=>h j (zQ _ hj)]
section
variable{e:Evid}{ps:List (Int×Int)}{x:Nat->Rat}
theorem histX_mass{H:List (List Rat)}{q:Nat}(hc:jbl e=0)(hsh:Shaped e H q)(hq4:4<=q)(hq:q<=100000)(hl:ps.length<=1000)(hp:∀p∈ps,jdh e p=true):
  Ctr G.P 13 [.sl (H.map stC),.sl (ps.map pickC)] (· = .tup [frac (wgt e ps (ptH e.mats.toNat H)),.bool true]):=by
 have hlx:=jik hc;have hok:=hsh.ok hc;obtain⟨m1,m2⟩:=jnr hok (jk3 H) hp;have k:=d_mass (histR H) ps hq4 hq (fun l hl x hx=>by
  obtain⟨l',hl',rfl⟩:=qq.1 hl;obtain⟨r,hr,rfl⟩:=qq.1 hx;have h1:=(hsh.row l' hl').2 r hr;exact⟨h1.1,by have:=h1.2;rw[<-Int.natAbs_natCast r.den]at this;exact this⟩) hl (by have:=hsh.len;unfold histR;rw[zw];omega) (hsh.rows hc)
 rw[m1,zm rfl,m2]at k;unfold hist at k;rw[jk3]at k;exact k
theorem enc_at(hc:jbl e=0)(hs:SmallE e)(h5:e.moves.length<=5)(h2:e.mats<=2)(hl:ps.length<=1000)(hp:∀p∈ps,jdh e p=true)(hx:Sol (nV e) (rowsE e) x)(hF:∀k,FL 5200 (x k)){a' c':Int}{b' d':List (List IV)}{is:Bool}
  (hv:is=true->[IV.int a',.sl b',.int c',.sl d']=fc (wgt e ps x)) (hw:is=true->FL 19000000000 (wgt e ps x)):
  Ctr G.P 16 [e.iv,.sl (ps.map pickC),.sl (tab (nV e) fun k=>qc (x k)),.agg [.int a',.sl b',.int c',.sl d'],.bool is] (· = .bool true):=by
 have hsh:=matX_shaped hs h5 h2 hF;have hmt:=(jbk hc).2.1;have kH:=e_History hc (tab (nV e) fun k=>qc (x k)) (fun y hy=>by
  obtain⟨k,_,rfl⟩:=qq.1 hy;exact qc_form (x k)) (by rw[ja6];rfl) (by rw[ja6];have:=hs.mt;unfold nV;omega)
 rw[matX_chunk (N:=nV e) (M:=e.mats.toNat) (n:=e.moves.length) (x:=x) rfl]at kH;have hpt:∀k,k<e.moves.length*e.mats.toNat->ptH e.mats.toNat (matX e.mats.toNat e.moves.length x) k=x k:=fun k hk=>matX_pt (by omega) hk;obtain⟨c,kC,hcs⟩:=hsh.check hc;have hsol:Sol (e.moves.length*e.mats.toNat) (rowsE e) (ptH e.mats.toNat (matX e.mats.toNat e.moves.length x)):=by
  refine⟨fun k hk=>by rw[hpt k hk];exact hx.pos k hk,fun w hw=> ?_⟩;have:=hx.row w hw;unfold Go.LP.Rw.sat at*;rw[Go.LP.tsum_congr (x:=ptH e.mats.toNat (matX e.mats.toNat e.moves.length x)) (y:=x) fun t ht=>hpt _ (((jme hc hs).ok w hw).ts.mem t ht).2.1];exact this
 have hc0:=hcs.2 hsol;subst hc0;have kM:=histX_mass hc hsh (by omega) (by omega) hl hp;have hwe:wgt e ps (ptH e.mats.toNat (matX e.mats.toNat e.moves.length x))=wgt e ps x:=by
  unfold wgt;exact jl5 fun k hk=>hpt k (by obtain⟨p,hpm,rfl⟩:=qq.1 hk;exact pick_lt (hp p hpm))
 rw[hwe]at kM;refine w_at kH kM kC fun his=> ?_;rw[hv his];have:=u_same (a:=wgt e ps x) (b:=wgt e ps x) (hw his);rw[za rfl]at this;exact this
end
end
section
open Go.Abs
open Go.LP (Rw RT Ov OvRw tsum Sol IsMin NoMin Bds)
attribute [local go_sem] Evid.c Evid.iv ints ic big frac fc zc
section
variable{e:Evid}{ps:List (Int×Int)}{h:List (List Raw)}{o:Rng}
theorem enc_ck(hm5:e.moves.length<=5)(hm2:e.mats<=2)(hf:fewM 5 h=true):∃ck:Int,Ctr G.P 9 [e.iv,hist h] (· = .int ck)/\
  (jbl e=0->ck=0->∃H,jdg e h=true/\h.map rowC=H.map stC/\Sol (nV e) (rowsE e) (ptH e.mats.toNat H)):=by
 by_cases h0:jbl e=0
 ·obtain⟨ck,k,hc⟩:=enc_hist h0 hm5 hm2 hf;exact⟨ck,k,fun _=>hc⟩
 ·exact⟨1,h_check1 e h h0,fun h=>absurd h h0⟩
theorem enc_mass(hf:fewM 5 h=true)(hl:ps.length<=20):Ctr G.P 13 [hist h,.sl (ps.map pickC)] (· =if jgs h ps=true then .tup [frac (massV h ps),.bool true]else .tup [.agg zc,.bool false]):=by
 obtain⟨g1,g2⟩:=jja (n:=5) hf;exact d_mass h ps (k:=4) (by omega) (by omega) (fun l hl x hx=>by have:=(g2 l hl).2 x hx;omega) (by omega) (by omega) (fun l hl=>by have:=(g2 l hl).1;omega)
theorem chk_sol{N:Nat}{ws:List Rw}{goal:List (Nat×Rat)}{k:Int}{v:Raw}(hc:ChkS N ws goal k v):∃x,Sol N ws x:=by
 rcases hc with ⟨_,val,hm,_⟩ | ⟨_,hno,_⟩
 ·obtain⟨y,hy,_⟩:=hm.at';exact⟨y,hy⟩
 ·exact hno.1
theorem pickV_FL{k:Nat}(h4:4<=k)(hk:∀l∈h,RawL k l)(p:Int×Int):FL k (pickV h p):=by
 unfold pickV;cases hp:pickR h p with
 | none=>exact(jb3 (n:=0) (by omega)).mono h4
 | some x=>
  unfold pickR at hp;split at hp
  ·split at hp
   ·rename_i l hl;split at hp
    ·rename_i y hy;split at hp
     ·rename_i hr;cases hp;obtain⟨c1,c2,c3⟩:=rawV_c hr;have hxm:=hk l (zk hl) x (zk hy);exact⟨by rw[<-c2];exact hxm.1,by rw[<-c3];exact hxm.2⟩
     ·cases hp
    ·cases hp
   ·cases hp
  ·cases hp
theorem jrs{k:Nat}(h4:4<=k)(hk:∀l∈h,RawL k l):∀ps:List (Int×Int),FL (4+ps.length*(k+1)) (massV h ps)
 | []=>(jb3 (n:=0) (by omega)).mono (by omega)
 | p::ps=>by
  have e:(ps.length+1)*(k+1)=ps.length*(k+1)+(k+1):=yB _ _;rw[massV,List.length_cons,e];exact(jfc (pickV_FL h4 hk p) (jrs h4 hk ps)).mono (by omega)
theorem fl_up{a:Rat}(h:FL 4000000000 a):FL 19000000000 a:=h.mono (by omega)
theorem enc_none(hs:SmallE e)(hm5:e.moves.length<=5)(hm2:e.mats<=2)(hl:ps.length<=20)(hfew:few17 e ps.length 5=true)(ho:fewR o=true)(hf:fewM 5 h=true){r:List IV}{f:Int}(S:RSay e ps r f none)(hR:rngIV e ps= .tup [.agg r,.int f]):
  Ctr G.P 3 [e.iv,.sl (ps.map pickC),hist h,.agg o.c] (· = .bool true):=by
 have kF:=jqb e (ps.map pickC) o 5;rw[zw,hfew,ho]at kF;have kM:=jhk h 5 (by omega);rw[hf]at kM;have kR:=jr5 (e:=e) (ps:=ps) hs (by omega);rw[hR]at kR;obtain⟨ck,kC,hck⟩:=enc_ck (e:=e) (h:=h) hm5 hm2 hf;obtain⟨w,kW,hw⟩:=jpg (e:=e) (ps:=ps) (o:=o) hs (by omega) ho;have hno:okP e ps=true->∀x,¬Sol (nV e) (rowsE e) x:=by
  have:=S.say;generalize hb:(none:Option (Rat×Option Rat))=b at this;cases this with
  | none h=>exact h
  | some lo hi=>cases hb
 have hwf:w=false:=by
  cases w with
  | false=>rfl
  | true=>
   obtain⟨h1,h2,_⟩:=hw rfl;obtain⟨x,hx⟩:=chk_sol h2;exact absurd hx (hno h1 x)
 subst hwf;have hff:f=1\/(f=15/\ck≠0):=by
  rcases(S.zero rfl).2 with h1 | h1
  ·exact .inl h1
  ·refine .inr ⟨h1,fun hc=> ?_⟩;have hok:okP e ps=true:=by
    cases hh:okP e ps with
    | true=>rfl
    | false=>have:=S.arg.2 hh;omega
   obtain⟨H,_,_,hH⟩:=hck (jdu hok).1 hc;exact hno hok _ hH
 obtain⟨k1,a1,c1,b1,d1,P1,Y1,Z1,k2,a2,c2,b2,d2,P2,Y2,Z2,eo⟩:=o.shape;obtain⟨k3,a3,c3,b3,d3,P3,Y3,Z3,k4,a4,c4,b4,d4,P4,Y4,Z4,er⟩:=S.shape;subst er;rw[eo]at kF kW⊢;exact w_enc2 kF kM kC kR hff kW
theorem enc_some(hs:SmallE e)(hm5:e.moves.length<=5)(hm2:e.mats<=2)(hl:ps.length<=20)(hfew:few17 e ps.length 5=true)(ho:fewR o=true)(hf:fewM 5 h=true){r:List IV}{f:Int}{lo:Rat}{hi:Option Rat}(S:RSay e ps r f (some (lo,hi)))(hR:rngIV e ps= .tup [.agg r,.int f])
  (hn:isNone (jd9 (nV e) (rowsE e) (goalS e.mats.toNat ps))=false) (hr:r=jd9 (nV e) (rowsE e) (goalS e.mats.toNat ps)++jd9 (nV e) (rowsE e) (mulT ((-1:Int):Rat) (goalS e.mats.toNat ps))):
  Ctr G.P 3 [e.iv,.sl (ps.map pickC),hist h,.agg o.c] (· = .bool true):=by
 have kF:=jqb e (ps.map pickC) o 5;rw[zw,hfew,ho]at kF;have kM:=jhk h 5 (by omega);rw[hf]at kM;have kR:=jr5 (e:=e) (ps:=ps) hs (by omega);have hf0:f=0:=zI S.flag;subst hf0;rw[hR]at kR;obtain⟨ck,kC,hck⟩:=enc_ck (e:=e) (h:=h) hm5 hm2 hf;obtain⟨w,kW2,hw⟩:=jpg (e:=e) (ps:=ps) (o:=o) hs (by omega) ho;have hsay:okP e ps=true/\Bds (nV e) (rowsE e) (wgt e ps) lo hi/\FL 4000000000 lo/\∀w,hi=some w->FL 4000000000 w:=by
  have:=S.say;generalize hb:some (lo,hi)=b at this;cases this with
  | none h=>cases hb
  | some lo' hi' h1 h2 h3 h4=>cases hb;exact⟨h1,h2,h3,h4⟩
 obtain⟨hok,hB,f1,f2⟩:=hsay;obtain⟨hc,hp,_⟩:=jdu hok;have hN:nV e<=10:=by
  unfold nV;exact qn (qL hm5 (show e.mats.toNat<=2 by omega)) (by decide)
 have kW:=found_chk (e:=e) (ps:=ps) hs (by omega) hN hok hB.sol hn;rw[<-hr]at kW;have kB:=S.bnd;have kO:=fun hw'=>other_bnd (o:=o) hB f1 f2 (hw hw').2.1 (hw hw').2.2;have kE:=w_selfB (some (lo,hi)) (fun lo' hi' hh=>by cases hh;exact⟨f1,f2⟩);have kY:=enc_mass (h:=h) (ps:=ps) hf hl;have kI:ck=0->jgs h ps=true/\Ctr G.P 14 [.agg (bdC lo hi),.agg (fc (massV h ps))] (· = .bool true):=fun h0=>by
  obtain⟨H,hsh,hh,hS⟩:=hck hc h0;obtain⟨m1,m2⟩:=jnr hsh hh hp;refine⟨m1,w_within (fl_up f1) ?_ (fun w hw=>fl_up (f2 w hw)) ?_ ?_⟩
  ·obtain⟨g1,g2⟩:=jja (n:=5) hf;refine(jrs (k:=4) (by omega) (fun l hl x hx=>by have:=(g2 l hl).2 x hx;omega) ps).mono ?_;omega
  ·rw[m2];exact hB.low _ hS
  ·intro w hw;rw[m2];exact hB.high w hw _ hS
 obtain⟨x,x',Y,Z,k,Y',Z',er,_,hx,hxl,hx',hxh,hF,hF'⟩:=S.found lo hi rfl;have kA1:=enc_at hc hs hm5 hm2 (by omega) hp hx (fun k=>(hF k).mono (jo6 hN)) (is:=true) (fun _=>rfl) (fun _=>by rw[hxl];exact fl_up f1);rw[hxl]at kA1;have kA2:Ctr G.P 16 [e.iv,.sl (ps.map pickC),xl (nV e) x',.agg (sideC hi),.bool hi.isSome] (· = .bool true):=by
  cases hi with
  | none=>exact enc_at hc hs hm5 hm2 (by omega) hp hx' (fun k=>(hF' k).mono (jo6 hN)) (is:=false) (fun h=>by cases h) (fun h=>by cases h)
  | some w=>
   have hv:=hxh w rfl;have:=enc_at hc hs hm5 hm2 (by omega) hp hx' (fun k=>(hF' k).mono (jo6 hN)) (is:=true) (fun _=>rfl) (fun _=>by rw[hv];exact fl_up (f2 w rfl));rw[hv]at this;exact this
 obtain⟨k1,a1,c1,b1,d1,P1,Y1,Z1,k2,a2,c2,b2,d2,P2,Y2,Z2,eo⟩:=o.shape;obtain⟨s,t,b,d,e4⟩:=jmi (hi.map fun v=> -v);rw[e4]at er;obtain⟨s',t',b',d',e5⟩:=jmi hi;change Ctr G.P _ _ (· = .agg (bdC lo hi))at kB;change Ctr G.P _ [.agg (bdC lo hi),.agg (bdC lo hi)] _ at kE;unfold bdC at kB kE kI kO;rw[e5]at kB kE kI kO kA2;subst er;clear hr;rw[eo]at kF kW2⊢;have kO':w=true->_:=kO;rw[eo]at kO';rcases hm:jgs h ps with _ | _
 ·rw[hm,zn (by decide)]at kY;exact w_enc3 kF kM kC kR kB kY (fun h0=>by have:=(kI h0).1;rw[hm]at this;cases this) kW kW2 kO' kE kA1 kA2
 ·rw[hm,zm rfl]at kY;exact w_enc3 kF kM kC kR kB kY (fun h0=>⟨rfl,(kI h0).2⟩) kW kW2 kO' kE kA1 kA2
end
theorem w_encloses(e:Evid)(ps:List (Int×Int))(h:List (List Raw))(o:Rng):Ctr G.P 3 [e.iv,.sl (ps.map pickC),hist h,.agg o.c] (· = .bool true):=by
 have kF:=jqb e (ps.map pickC) o 5;rw[zw]at kF;have kM:=jhk h 5 (by omega);obtain⟨k1,a1,c1,b1,d1,P1,Y1,Z1,k2,a2,c2,b2,d2,P2,Y2,Z2,eo⟩:=o.shape;rcases h1:few17 e ps.length 5&&fewR o with _ | _
 ·rw[h1,eo]at kF;rw[eo];exact w_enc0 kF
 rcases h2:fewM 5 h with _ | _
 ·rw[h1,eo]at kF;rw[h2]at kM;rw[eo];exact w_enc1 kF kM
 rw[zr]at h1;obtain⟨hs,hl,hm,_⟩:=few_small h1.1 (by omega);have hm2:e.mats<=2:=by
  have:=h1.1;simp only[few17,jmh,zr,yL,qg,zK]at this;omega
 obtain⟨r,f,b,S,hR,hb⟩:=w_rangeS (e:=e) (ps:=ps) hs;cases b with
 | none=>exact enc_none hs (by omega) hm2 hl h1.1 h1.2 h2 S hR
 | some p=>
  obtain⟨lo,hi⟩:=p;obtain⟨h3,h4⟩:=hb rfl;exact enc_some hs (by omega) hm2 hl h1.1 h1.2 h2 S hR h3 h4
end
end Go.Proofs.YthahgoopboilkaaGreat
namespace Go.Abs
section
open Go.RowKit (Below)
def tileB(G:Ctx):Nat->List (Nat×TypeId)->Nat->Bool
 | k,[],n=>k==n
 | k,(o,t)::r,n=>o==k&&tileB G (k+(G.ti t).size) r n
def opens(G:Ctx):Nat->TypeId->Bool
 | 0,_=>false
 | n+1,t=>(G.ti t).size !=0&&match(G.ti t).kind with
  | .it _ | .bl | .str=>(G.ti t).size==1
  | .sl e=>(G.ti t).size==1&&opens G n e
  | .st fs=>tileB G 0 fs (G.ti t).size&&fs.all fun p=>opens G n p.2
  | _=>false
def Fits(G:Ctx):Nat->TypeId->List IV->Prop
 | 0,_,_=>False
 | n+1,t,xs=>match(G.ti t).kind with
  | .it k=>∃i,xs=[.sc (.int k i)]/\(Lit.int k i).wf=true
  | .bl=>∃b,xs=[.sc (.bool b)]
  | .str=>∃s:ByteArray,xs=[.sc (.string s)]/\s.size<=maxLen
  | .sl e=>∃es,xs=[.sl es]/\es.length<=maxLen/\∀c∈es,Fits G n e c
  | .st fs=>xs.length=(G.ti t).size/\∀p∈fs,Fits G n p.2 ((xs.drop p.1).take (G.ti p.2).size)
  | _=>False
theorem jpd{α:Type}{R:Nat->α->Prop}:∀n,(∀i,i<n->∃x,R i x)->∃l:List α,l.length=n/\∀i x,l[i]? =some x->R i x
 | 0,_=>⟨[],rfl,fun i x h=>by simp at h⟩
 | n+1,h=>by
  obtain⟨l,hl,hR⟩:=jpd n fun i hi=>h i (by omega);obtain⟨x,hx⟩:=h n (by omega);refine⟨l++[x],by simp[hl],fun i y hy=> ?_⟩;rcases zT i l.length with hi | hi
  ·rw[zM hi]at hy;exact hR i y hy
  ·rw[zR hi]at hy;have hi':i=l.length:=by
    have:=(zu.1 hy).1;simp at this;omega
   subst hi';simp at hy;subst hy;rw[hl];exact hx
theorem RepL.append{w:World}{M:Nat->Nat->Prop}{xs ys:List IV}{us vs:List Value}(h:RepL w M xs us)(h':RepL w M ys vs):RepL w M (xs++ys) (us++vs):=by
 refine⟨by simp[h.1,h'.1],fun k x v hx hv=> ?_⟩;rcases zT k xs.length with hk | hk
 ·rw[zM hk]at hx;rw[zM (by rw[<-h.1];exact hk)]at hv;exact h.2 k x v hx hv
 ·rw[zR hk]at hx;rw[zR (by rw[<-h.1];exact hk),<-h.1]at hv;exact h'.2 _ x v hx hv
section
variable{G:Ctx}{H:Type}{enc:TypeId×Value->H}{w:World}{base:Nat}{spare:Nat->Bool}{held:Bool}
abbrev NoM:Nat->Nat->Prop:=fun _ _=>False
theorem jjb(hG:G.Ok){t:TypeId}(h:(G.ti t).size≠0):G.P.cellsOf t=(G.ti t).size:=by
 obtain⟨i,z,hi,hs,_⟩:=hG.info h;simp[Program.cellsOf,hi,hs]
theorem jnk(hG:G.Ok):∀(n m:Nat) (t:TypeId) (cs:List Value) (x:DataW H×List MemPlace),opens G n t=true->DataW.trod enc G.P w base spare held m t cs=some x->
  ∃xs,RepL w NoM xs cs/\(∀y∈xs,y.one=true)/\xs.length=(G.ti t).size/\Fits G n t xs
 | 0,_,_,_,_,ho,_=>by simp[opens]at ho
 | n+1,m,t,cs,x,ho,h=>by
  unfold opens at ho;simp only[zr,qk,ne_eq]at ho;obtain⟨h0,ho⟩:=ho;have one:∀{v:Value} {y:IV},Rep w NoM y v->y.one=true->Fits G (n+1) t [y]->(G.ti t).size=1->cs=[v]->
    ∃xs,RepL w NoM xs cs/\(∀y∈xs,y.one=true)/\xs.length=(G.ti t).size/\Fits G (n+1) t xs:=by
   intro v y h1 h2 h3 h4 h5;subst h5;exact⟨[y],RepL.cons h1 RepL.nil,by simpa using h2,h4.symm,h3⟩
  split at ho
  ·rename_i k hk;obtain⟨i,rfl,_,hwf⟩:=DataW.trod_int (hG.it h0 hk) h;exact one (.sc _ rfl) rfl (by unfold Fits;rw[hk];exact⟨i,rfl,hwf⟩) (by simpa using ho) rfl
  ·rename_i hk;obtain⟨b,rfl,rfl⟩:=DataW.trod_bool (hG.bl h0 hk) h;exact one (.sc _ rfl) rfl (by unfold Fits;rw[hk];exact⟨b,rfl⟩) (by simpa using ho) rfl
  ·rename_i hk;obtain⟨s,rfl,_,hwf⟩:=DataW.trod_string (hG.str h0 hk) h;exact one (.sc _ rfl) rfl (by unfold Fits;rw[hk];exact⟨s,rfl,hwf⟩) (by simpa using ho) rfl
  ·rename_i e hk;simp only[zr,jz]at ho;obtain⟨h1,ho⟩:=ho;rcases DataW.trod_slice (hG.sl h0 hk) h with ⟨rfl,_⟩ | ⟨a,len,cap,elems,rest,m',rfl,rfl,_,_,hlc,hcm,hel,hat,_⟩
   ·exact one (.nil _ _) rfl (by unfold Fits;rw[hk];exact⟨[],rfl,zE _,by simp⟩) h1 rfl
   ·have he0:(G.ti e).size≠0:=by
     cases n with
     | zero=>simp[opens]at ho
     | succ n=>
      unfold opens at ho;simp only[zr,qk,ne_eq]at ho;exact ho.1
    rw[jjb hG he0]at hat;have hex:∀i,i<len->∃p:List IV×List Value,w.cells? base (a.add (i*(G.ti e).size)) (G.ti e).size=some p.2/\RepL w NoM p.1 p.2/\(∀y∈p.1,y.one=true)/\p.1.length=(G.ti e).size/\Fits G n e p.1:=by
     intro i hi;have h3:=hat i hi;rw[zh (by omega)]at h3;obtain⟨cs',h4,h5⟩:=Option.bind_eq_some_iff.1 h3;obtain⟨xs,h6,h7,h8,h9⟩:=jnk hG n _ e cs' _ ho h5;exact⟨⟨xs,cs'⟩,h4,h6,h7,h8,h9⟩
    obtain⟨l,hl,hR⟩:=jpd len hex;have hmap:∀(i:Nat) c,(l.map (·.1))[i]? =some c->∃us,w.cells? base (a.add (i*(G.ti e).size)) (G.ti e).size=some us/\RepL w NoM c us/\(∀y∈c,y.one=true)/\c.length=(G.ti e).size/\Fits G n e c:=by
     intro i c hc;rw[ze]at hc;obtain⟨p,hp,rfl⟩:=zZ.1 hc;obtain⟨h3,h4,h5,h6,h7⟩:=hR i p hp;exact⟨p.2,h3,h4,h5,h6,h7⟩
    have hlen:(l.map (·.1)).length=len:=by simpa using hl
    have hfit:Fits G (n+1) t [.sl (l.map (·.1))]:=by
     unfold Fits;rw[hk];refine⟨_,rfl,by omega,fun c hc=> ?_⟩;obtain⟨i,hi⟩:=q9 hc;obtain⟨_,_,_,_,_,h7⟩:=hmap i c hi;exact h7
    refine one (y:= .sl (l.map (·.1))) ?_ rfl hfit h1 rfl;by_cases hz:len=0
    ·subst hz;have:l=[]:=zL hl;subst this;exact .nil _ _
    ·have hlist:∀i c j y,(l.map (·.1))[i]? =some c->c[j]? =some y->∃u,w.cell? (a.add (i*(G.ti e).size+j))=some u/\Rep w NoM y u/\y.one=true:=by
      intro i c j y hi hj;obtain⟨us,h3,h4,h5,h6,_⟩:=hmap i c hi;have hjl:=(zu.1 hj).1;obtain⟨_,h7,h8⟩:=World.cells?_some h3;have hu:us[j]? =some (us[j]'(by omega)):=zh (by omega);refine⟨_,?_,h4.2 j y _ hj hu,h5 y (zk hj)⟩;have:=h8 j (by omega);rw[Go.Deep.add_add]at this;rw[this,hu]
     have hsp:a=⟨a.block,a.off,none⟩:=by
      have hg:(l.map (·.1))[0]? =some ((l.map (·.1))[0]'(by omega)):=zh (by omega);obtain⟨us,_,_,_,h6,_⟩:=hmap 0 _ hg;have hg2:((l.map (·.1))[0]'(by omega))[0]? =some (((l.map (·.1))[0]'(by omega))[0]'(by omega)):=zh (by omega);obtain⟨u,h3,_⟩:=hlist 0 _ 0 _ hg hg2;simp[Addr.add]at h3;have:=World.cell?_spot h3;cases a;simp_all
     have hadd:∀k,a.add k=⟨a.block,a.off+k,none⟩:=fun k=>by
      obtain⟨b,o,sp⟩:=a;cases hsp;unfold Addr.add;split
      ·rename_i hk0;subst hk0;rfl
      ·rfl
     have hgo:∀(i:Nat) c (j:Nat) y,(l.map (·.1))[i]? =some c->c[j]? =some y->w.cell? ⟨a.block,a.off+i*(G.ti e).size+j,none⟩=some ((w.cell? ⟨a.block,a.off+i*(G.ti e).size+j,none⟩).getD undef)/\
       y.one=true/\Rep w NoM y ((w.cell? ⟨a.block,a.off+i*(G.ti e).size+j,none⟩).getD undef):=by
      intro i c j y hi hj;obtain⟨u,h3,h4,h5⟩:=hlist i c j y hi hj;rw[hadd,<-jr]at h3;rw[h3];exact⟨rfl,h5,h4⟩
     have:=Rep.sl (w:=w) (M:=NoM) (l.map (·.1)) (G.ti e).size a.block a.off cap (fun i j=>(w.cell? ⟨a.block,a.off+i*(G.ti e).size+j,none⟩).getD undef)
      (by intro hn;rw[hn]at hlen;simp at hlen;omega)
      (fun c hc=>by obtain⟨i,hi⟩:=q9 hc;obtain⟨_,_,_,_,h6,_⟩:=hmap i c hi;exact h6)
      (by omega)
      (fun i c j y hi hj=>⟨(hgo i c j y hi hj).2.1,(hgo i c j y hi hj).1,fun h=>h⟩)
      (fun i c j y hi hj=>(hgo i c j y hi hj).2.2)
     rw[hlen,<-hsp]at this;exact this
  ·rename_i fs hk;simp only[zr]at ho;obtain⟨ht,ho⟩:=ho;obtain⟨gs,hu,hgs⟩:=hG.st h0 hk;obtain⟨xs,m',rfl,_,hcl,hxl,hat⟩:=DataW.trod_struct hu h;rw[jjb hG h0]at hcl;have hfield:∀p∈fs,∃ys,RepL w NoM ys ((cs.drop p.1).take (G.ti p.2).size)/\(∀y∈ys,y.one=true)/\ys.length=(G.ti p.2).size/\Fits G n p.2 ys:=by
    intro p hp;obtain⟨i,hi⟩:=q9 hp;rw[<-hgs,ze]at hi;obtain⟨f,hf,rfl⟩:=zZ.1 hi;have hf':gs[i]? =some f:=by simpa using hf
    have h3:=hat i f hf';have hil:i<gs.size:=(zG.1 hf').1;rw[zh (by omega)]at h3;have hof:=List.all_eq_true.1 ho _ hp;have hs0:(G.ti f.type).size≠0:=by
     cases n with
     | zero=>simp[opens]at hof
     | succ n=>
      simp only[]at hof;unfold opens at hof;simp only[zr,qk,ne_eq]at hof;exact hof.1
    rw[jjb hG hs0]at h3;exact jnk hG n _ _ _ _ hof h3
   have build:∀(r:List (Nat×TypeId)) (k:Nat),(∀p∈r,p∈fs)->tileB G k r (G.ti t).size=true->k<=cs.length->∃zs,RepL w NoM zs (cs.drop k)/\(∀y∈zs,y.one=true)/\
     ∀p∈r,k<=p.1/\Fits G n p.2 ((zs.drop (p.1-k)).take (G.ti p.2).size):=by
    intro r
    induction r with
    | nil=>
     intro k _ htl _;simp only[tileB,jz]at htl;refine⟨[],?_,by simp,by simp⟩;rw[qw (by omega)];exact RepL.nil
    | cons p r ih=>
     obtain⟨o,u⟩:=p;intro k hm htl hkl;simp only[tileB,zr,jz]at htl;obtain⟨rfl,htl⟩:=htl;obtain⟨ys,h3,h4,h5,h6⟩:=hfield (o,u) (hm _ (zN ..));have hle:o+(G.ti u).size<=cs.length:=by
      have:=h3.1;simp at this h5;omega
     obtain⟨zs,h7,h8,h9⟩:=ih _ (fun p hp=>hm p (zQ _ hp)) htl hle;refine⟨ys++zs,?_,?_,?_⟩
     ·have:=h3.append h7;rw[<-vd,jg]at this;exact this
     ·intro y hy;rcases qu.1 hy with h | h
      ·exact h4 y h
      ·exact h8 y h
     ·intro p hp;rcases zS.1 hp with rfl | hp
      ·refine⟨zB _,?_⟩;simp only[vB,zX];rw[<-h5]
       simpa using h6
      ·obtain⟨h10,h11⟩:=h9 p hp;refine⟨by omega,?_⟩;rw[List.drop_append,qw (by simp at h5;omega),List.nil_append];have e:p.1-o-ys.length=p.1-(o+(G.ti u).size):=by simp at h5;omega
       rw[e];exact h11
   obtain⟨zs,h7,h8,h9⟩:=build fs 0 (fun _ h=>h) ht (zE _);rw[zX]at h7;refine⟨zs,h7,h8,by rw[h7.1,hcl],?_⟩;unfold Fits;rw[hk];exact⟨by rw[h7.1,hcl],fun p hp=>by simpa using (h9 p hp).2⟩
  ·cases ho
