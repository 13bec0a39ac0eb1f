/- A part of the proof. No further condition. -/
import Derived.Test.YtkcekimolppapaaGreatKS36
set_option linter.all false
set_option maxRecDepth 10000000
set_option maxHeartbeats 16000000
namespace Go.Proofs.YtkcekimolppapaaGreat
section
open Go.Abs
open Go.LP (Dic Rw RT Ov OvRw tsum Sol IsMin NoMin Bds)
theorem days_ge{e:Evid}:∀{ms:List Move} {d:Int},jcc e d ms=0->∀m∈ms,d<=m.day
 | [],_,_,m,hm=>by cases hm
 | x::r,d,h,m,hm=>by
  rw[jcc]at h;split at h
  ·cases h
  ·split at h
   ·cases h
   ·split at h
    ·cases h
    ·rename_i h1 _ _;have h1:¬x.day<d:=fun hh=>h1 (zh hh);rcases zP.1 hm with rfl | hm
     ·omega
     ·have:=days_ge h m hm;omega
theorem checkF_mk{e:Evid}(h1:(pairs e).all fitP=true)(h2:1<=e.mats)(h3:0<=e.houses)(h4:0<=e.scales)(h5:e.places.all (ji0 e)=true)(h6:jcc e 0 e.moves=0)(h7:saidF e=true):jax e=0:=by
 unfold jax;rw[zn (by rw[h1];simp),zn (by simp;omega),zn (by simp;omega),zn (by simp;omega),zn (by rw[h5];simp),zn (by simpa using h6),zm h7]
section
variable{e:Evid}{ps:List (Int×Int)}
theorem wgt_to{e':Evid}(h1:e'.mats=e.mats):wgt e' ps=wgt e ps:=by unfold wgt;rw[h1]
end
end
section
open Go.Abs
open Go.LP (Rw RT tsum Sol)
def offM(S:List Int)(x:Move):Move:=if x.scale≠ -1/\S.contains x.scale=true then{x with scale:= -1,reading:=0}else x
def offE(S:List Int)(e:Evid):Evid:={e with moves:=e.moves.map (offM S)}
section
variable{S T:List Int}{e:Evid}{x:Move}
theorem jo8:(offM S x).fr=x.fr:=by unfold offM;split<;>rfl
theorem offM_to:(offM S x).to=x.to:=by unfold offM;split<;>rfl
theorem jsh:(offM S x).all=x.all:=by unfold offM;split<;>rfl
theorem offM_day:(offM S x).day=x.day:=by unfold offM;split<;>rfl
theorem offM_nil:offM [] x=x:=by unfold offM;rw[zn (fun h=>by cases h.2)]
theorem jsi:offE [] e=e:=by
 have:e.moves.map (offM [])=e.moves:=by
  rw[show(offM []:Move->Move)=id from funext fun x=>offM_nil,List.map_id]
 unfold offE;rw[this]
theorem off_len:(offE S e).moves.length=e.moves.length:=zq _
theorem moveF_off(h:moveF e x=true):moveF (offE S e) (offM S x)=true:=by
 unfold moveF at h⊢;rw[jo8,offM_to,jsh];have hk:∀i,jjz (offE S e) i=jjz e i:=fun i=>rfl;rw[hk,hk];rw[zD]at h⊢;refine⟨h.1,?_⟩;have h2:=h.2;unfold offM;by_cases hc:x.scale≠ -1/\S.contains x.scale=true
 ·rw[zm hc];rfl
 ·rw[zn hc];exact h2
theorem jjx:∀{ms:List Move} {d:Int},jcc e d ms=0->jcc (offE S e) d (ms.map (offM S))=0
 | [],_,_=>rfl
 | m::r,d,h=>by
  rw[jcc]at h;rw[zB,jcc,offM_day];split at h
  ·cases h
  ·rename_i h1;split at h
   ·cases h
   ·rename_i h2;split at h
    ·cases h
    ·rename_i h3;rw[zn h1,zn h2,zn (by rw[moveF_off (by revert h3;cases moveF e m<;>simp)];decide)];exact jjx h
theorem je3(h:jax e=0):jax (offE S e)=0:=by
 obtain⟨h1,h2,h3,h4,h5,h6,h7⟩:=jbi h;refine checkF_mk ?_ h2 h3 h4 h5 (jjx h6) ?_
 ·have:pairs (offE S e)=pairs e:=by unfold pairs;rw[off_len];rfl
  rw[this];exact h1
 ·have hp:purF (offE S e)=purF e:=funext fun p=>by unfold purF;rw[off_len];rfl
  have hc:certF (offE S e)=certF e:=rfl;have hr:jh6 (offE S e)=jh6 e:=rfl;unfold saidF at h7⊢;rw[hp,hc,hr];exact h7
theorem sgn_off{fr:Int}:sgnF fr (offM S x)=sgnF fr x:=by unfold sgnF;rw[jo8,offM_to]
theorem jms{M:Nat}{fr:Int}{mat:Nat}{ms:List Move}:∀i,jaj M fr mat (ms.map (offM S)) i=jaj M fr mat ms i
 | 0=>rfl
 | i+1=>by
  rw[jaj,jaj,za,jms i];cases ms[i]? with
  | none=>rfl
  | some y=>simp only[Option.map_some,sgn_off]
theorem jmt{M mv:Nat}{ms:List Move}:∀k,jcd M (ms.map (offM S)) mv (offM S x) k=jcd M ms mv x k
 | 0=>rfl
 | k+1=>by rw[jcd,jcd,jmt k,jo8,jsh,jms]
theorem weight_off{M k:Nat}:jbp (offE S e) M k (offM S x)=if x.scale≠ -1/\S.contains x.scale=true then []else jbp e M k x:=by
 unfold offM;split
 ·unfold jbp;rw[zm rfl]
 ·rfl
theorem jq9{M k:Nat}:moveR (offE S e) M k (offM S x)=(if binF e x=true then []else jcd M e.moves k x M)++(if x.scale≠ -1/\S.contains x.scale=true then []else jbp e M k x)++purR M k e.purs:=by
 unfold moveR;rw[weight_off];have hb:binF (offE S e) (offM S x)=binF e x:=by unfold binF;rw[jo8];rfl
 rw[hb];show(if binF e x=true then []else jcd M (e.moves.map (offM S)) k (offM S x) M)++_++purR M k e.purs=_;rw[jmt]
theorem mem_off{w:Rw}:w∈rowsE (offE S e)↔∃(k:Nat) (x:Move),k<e.moves.length/\e.moves[k]? =some x/\w∈(if binF e x=true then []else jcd e.mats.toNat e.moves k x e.mats.toNat)++(if x.scale≠ -1/\S.contains x.scale=true then []else jbp e e.mats.toNat k x)++purR e.mats.toNat k e.purs:=by
 unfold rowsE;rw[mem_rowsU];constructor
 ·rintro⟨k,y,h1,h2,h3⟩;have h2':(e.moves.map (offM S))[k]? =some y:=h2;rw[za,zQ]at h2';obtain⟨x,hx,rfl⟩:=h2';exact⟨k,x,by rw[off_len]at h1;exact h1,hx,jq9 (M:=e.mats.toNat)▸h3⟩
 ·rintro⟨k,x,h1,h2,h3⟩;refine⟨k,offM S x,by rw[off_len];exact h1,?_,?_⟩
  ·show(e.moves.map (offM S))[k]? =_;rw[za,h2];rfl
  ·show w∈moveR (offE S e) e.mats.toNat k (offM S x);rw[jq9];exact h3
theorem jsa(h:∀x∈e.moves,x.scale≠ -1->S.contains x.scale=true->T.contains x.scale=true):∀w∈rowsE (offE T e),w∈rowsE (offE S e):=fun w hw=>by
 obtain⟨k,x,h1,h2,h3⟩:=mem_off.1 hw;refine mem_off.2 ⟨k,x,h1,h2,?_⟩;rw[qj,qj]at h3⊢;rcases h3 with (h3 | h3) | h3
 ·exact .inl (.inl h3)
 ·refine .inl (.inr ?_);by_cases hc:x.scale≠ -1/\T.contains x.scale=true
  ·rw[zm hc]at h3;cases h3
  ·rw[zn hc]at h3;rw[zn fun hh=>hc ⟨hh.1,h x (zk h2) hh.1 hh.2⟩];exact h3
 ·exact .inr h3
theorem rows_off_sub:∀w∈rowsE (offE T e),w∈rowsE e:=fun w hw=>by
 have:=jsa (S:=[]) (T:=T) (e:=e) (fun x _ _ h=>by cases h) w hw;rw[jsi]at this;exact this
def Pos(e:Evid)(S:List Int):Prop:=∃x,Sol (nV e) (rowsE (offE S e)) x
theorem Pos.mono(hp:Pos e S)(h:∀x∈e.moves,x.scale≠ -1->S.contains x.scale=true->T.contains x.scale=true):Pos e T:=
 let⟨x,hx⟩:=hp
 ⟨x,hx.sub (jsa h)⟩
theorem nV_off:nV (offE S e)=nV e:=by unfold nV;rw[off_len];rfl
theorem pos_all(h:∀x∈e.moves,x.scale≠ -1->S.contains x.scale=true):Pos e S:=by
 refine⟨fun _=>0,fun _ _=>ya,fun w hw=> ?_⟩;obtain⟨k,x,h1,h2,h3⟩:=mem_off.1 hw;have hz:∀ts:List (Nat×Rat),tsum ts (fun _=>0)=0:=fun ts=>by
  induction ts with
  | nil=>rfl
  | cons t ts ih=>show t.2*0+tsum ts (fun _=>0)=0;rw[ih,Rat.mul_zero,yQ]
 rw[qj,qj]at h3;rcases h3 with (h3 | h3) | h3
 ·split at h3
  ·cases h3
  ·obtain⟨mat,_,rfl⟩:=mem_stockR.1 h3;unfold LP.Rw.sat;rw[hz];exact⟨fun _=>ya,fun _=>ya⟩
 ·by_cases hc:x.scale≠ -1
  ·rw[zm ⟨hc,h x (zk h2) hc⟩]at h3;cases h3
  ·rw[zn fun hh=>hc hh.1]at h3;unfold jbp at h3;rw[zm (Decidable.of_not_not hc)]at h3;cases h3
 ·unfold purR at h3;obtain⟨p,_,h4⟩:=jd.1 h3;unfold pur1 at h4;split at h4
  ·rcases zP.1 h4 with rfl | h4
   ·unfold LP.Rw.sat;rw[hz];exact⟨fun _=>ya,fun _=>ya⟩
   ·rcases zP.1 h4 with rfl | h4
    ·unfold LP.Rw.sat;rw[hz];exact⟨fun _=>ya,fun _=>ya⟩
    ·cases h4
  ·cases h4
end
def srch(P:List Int->Bool):Nat->List Int->List Int->List (List Int)
 | 0,ch,_=>if P ch=true then [ch]else []
 | _+1,_,[]=>[]
 | k+1,ch,s::r=>srch P k (ch++[s]) r++srch P (k+1) ch r
 termination_by k _ l=>(k,l.length)
theorem mem_srch{P:List Int->Bool}{X:List Int}:∀{k:Nat} {ch l:List Int},X∈srch P k ch l↔∃Y,Y.Sublist l/\Y.length=k/\X=ch++Y/\P X=true
 | 0,ch,l=>by
  rw[srch];constructor
  ·intro h;split at h
   ·rename_i hp;obtain rfl:=zC.1 h;exact⟨[],List.nil_sublist _,rfl,(zX _).symm,hp⟩
   ·cases h
  ·rintro⟨Y,_,h2,rfl,h4⟩;obtain rfl:=qM.1 h2;rw[zX]at h4⊢;rw[zm h4];exact zC.2 rfl
 | k+1,ch,[]=>by
  rw[srch];constructor
  ·intro h;cases h
  ·rintro⟨Y,h1,h2,_⟩;rw[List.sublist_nil.1 h1]at h2;cases h2
 | k+1,ch,s::r=>by
  rw[srch,qj,mem_srch,mem_srch];constructor
  ·rintro(⟨Y,h1,h2,h3,h4⟩ | ⟨Y,h1,h2,h3,h4⟩)
   ·exact⟨s::Y,h1.cons₂ s,by rw[List.length_cons,h2],by rw[h3,zS];rfl,h4⟩
   ·exact⟨Y,h1.cons s,h2,h3,h4⟩
  ·rintro⟨Y,h1,h2,h3,h4⟩;cases h1 with
   | cons _ h1=>exact .inr ⟨Y,h1,h2,h3,h4⟩
   | cons_cons _ h1=>
    rename_i Z;exact .inl ⟨Z,h1,by rw[List.length_cons]at h2;omega,by rw[h3,zS];rfl,h4⟩
 termination_by k _ l=>(k,l.length)
def jfo(P:List Int->Bool)(U:List Int):Nat->Nat->List (List Int)
 | 0,_=>[]
 | n+1,k=>if srch P k [] U=[]then jfo P U n (k+1)else srch P k [] U
theorem jli{P:List Int->Bool}{U:List Int}:∀{n k:Nat},(∃j,k<=j/\j<k+n/\srch P j [] U≠[])->∃j,k<=j/\j<k+n/\srch P j [] U≠[]/\jfo P U n k=srch P j [] U/\∀i,k<=i->i<j->srch P i [] U=[]
 | 0,k,h=>by obtain⟨j,h1,h2,_⟩:=h;omega
 | n+1,k,h=>by
  rw[jfo];by_cases he:srch P k [] U=[]
  ·rw[zm he];obtain⟨j,h1,h2,h3⟩:=h;have hjk:j≠k:=fun e=>by subst e;exact h3 he
   obtain⟨i,g1,g2,g3,g4,g5⟩:=jli (P:=P) (U:=U) (n:=n) (k:=k+1) ⟨j,by omega,by omega,h3⟩;refine⟨i,by omega,by omega,g3,g4,fun q q1 q2=> ?_⟩;by_cases e:q=k
   ·subst e;exact he
   ·exact g5 q (by omega) q2
  ·rw[zn he];exact⟨k,zt _,by omega,he,rfl,fun i _ _=>by omega⟩
abbrev Asc(l:List Int):Prop:=l.Pairwise (· < ·)
theorem jib:∀{A B:List Int},Asc A->Asc B->(∀a∈A,a∈B)->A.Sublist B
 | [],B,_,_,_=>List.nil_sublist B
 | a::A,[],_,_,h=>by cases h a (zZ)
 | a::A,b::B,hA,hB,h=>by
  obtain⟨hA1,hA2⟩:=yj.1 hA;obtain⟨hB1,hB2⟩:=yj.1 hB;by_cases e:a=b
  ·subst e;refine(jib hA2 hB2 fun c hc=> ?_).cons₂ a;rcases zP.1 (h c (qq _ hc))with rfl | hh
   ·have:=hA1 c hc;omega
   ·exact hh
  ·refine(jib hA hB2 fun c hc=> ?_).cons b;rcases zP.1 (h c hc)with rfl | hh
   ·rcases zP.1 hc with rfl | hc'
    ·exact absurd rfl e
    ·rcases zP.1 (h a zZ)with rfl | h2
     ·exact absurd rfl e
     ·have h3:=hB1 a h2;have h4:=hA1 c hc';omega
   ·exact hh
theorem asc_filter{U:List Int}{X:List Int}(hU:Asc U)(hX:X.Sublist U):U.filter (fun s=>X.contains s)=X:=by
 have hXa:Asc X:=hU.sublist hX;have hFa:Asc (U.filter (fun s=>X.contains s)):=hU.sublist vE;have h1:(U.filter (fun s=>X.contains s)).Sublist X:=jib hFa hXa fun a ha=>by
  have:=(qH.1 ha).2;exact qX.1 this
 have h2:X.Sublist (U.filter (fun s=>X.contains s)):=jib hXa hFa fun a ha=>qH.2 ⟨hX.subset ha,qX.2 ha⟩;exact h1.eq_of_length (yO h1.length_le h2.length_le)
structure UsedOf(e:Evid)(U:List Int):Prop where
 asc:Asc U
 mem:∀s,s∈U↔∃x∈e.moves,x.scale≠ -1/\x.scale=s
section
variable{e:Evid}{U S:List Int}{P:List Int->Bool}
theorem UsedOf.some(h:UsedOf e U){x:Move}(hx:x∈e.moves)(hs:x.scale≠ -1):x.scale∈U:=(h.mem _).2 ⟨x,hx,hs,rfl⟩
theorem jse(h:UsedOf e U):Pos e (U.filter fun s=>S.contains s)↔Pos e S:=
 ⟨fun hp=>hp.mono fun x _ _ hc=>(qH.1 (qX.1 hc)).2,
  fun hp=>hp.mono fun x hx hs hc=>qX.2 (qH.2 ⟨h.some hx hs,hc⟩)⟩
theorem pos_U(h:UsedOf e U):Pos e U:=pos_all fun x hx hs=>qX.2 (h.some hx hs)
theorem jpm(h:P S=true)(hs:S.Sublist U):S∈srch P S.length [] U:=mem_srch.2 ⟨S,hs,rfl,rfl,h⟩
theorem least_ok(hu:UsedOf e U)(hP:∀S,P S=true↔Pos e S)(h0:¬Pos e []):
  ∃j,1<=j/\j<=U.length/\jfo P U U.length 1=srch P j [] U/\srch P j [] U≠[]/\(∀X∈srch P j [] U,X.Sublist U/\X.length=j/\Pos e X)/\(∀S,Pos e S->j<=(U.filter fun s=>S.contains s).length)/\
   (∀S,Pos e S->(U.filter fun s=>S.contains s).length=j->(U.filter fun s=>S.contains s)∈srch P j [] U):=by
 have hU:P U=true:=(hP _).2 (pos_U hu);have hne:1<=U.length:=by
  rcases U with _ | ⟨s,r⟩
  ·exact absurd (pos_U hu) h0
  ·rw[List.length_cons];omega
 obtain⟨j,h1,h2,h3,h4,h5⟩:=jli (P:=P) (U:=U) (n:=U.length) (k:=1) ⟨U.length,hne,by omega,List.ne_nil_of_mem (jpm hU (List.Sublist.refl _))⟩;have key:∀S,Pos e S->(U.filter fun s=>S.contains s)∈srch P (U.filter fun s=>S.contains s).length [] U:=fun S hS=>jpm ((hP _).2 ((jse hu).2 hS)) vE;refine⟨j,h1,by omega,h4,h3,fun X hX=> ?_,fun S hS=> ?_,fun S hS hj=> ?_⟩
 ·obtain⟨Y,g1,g2,g3,g4⟩:=mem_srch.1 hX;rw[List.nil_append]at g3;subst g3;exact⟨g1,g2,(hP _).1 g4⟩
 ·have hk:=key S hS;generalize hn:(U.filter fun s=>S.contains s).length=n at hk;rcases zU n j with hlt | hge
  ·rcases ye n with h0' | h0'
   ·have:(U.filter fun s=>S.contains s)=[]:=qM.1 (by omega);have hp:=(jse hu).2 hS;rw[this]at hp;exact absurd hp h0
   ·rw[h5 n h0' hlt]at hk;cases hk
  ·exact hge
 ·have hk:=key S hS;rw[hj]at hk;exact hk
theorem filter_full(hu:UsedOf e U)(hS:Asc S)(hl:(U.filter fun s=>S.contains s).length=S.length):(U.filter fun s=>S.contains s)=S:=by
 have hFa:Asc (U.filter (fun s=>S.contains s)):=hu.asc.sublist vE;have h1:(U.filter (fun s=>S.contains s)).Sublist S:=jib hFa hS fun a ha=>qX.1 (qH.1 ha).2;exact h1.eq_of_length hl
end
end
section
open Go.Abs
open Go.LP (Dic Rw RT Ov OvRw tsum Sol)
attribute [local go_sem] frac fc ints ic
theorem js6(r:Rat)(h:FL 100000000 r):Ctr G.P 228 [.agg (fc r)] (· = .agg (fc r)):=by
 obtain⟨h1,h2⟩:=h;have k1:=jh1 (dig r.num.natAbs) (by omega);have k2:=jh1 (dig r.den) (by omega);unfold fc;rw[show((r.den:Int)).natAbs=r.den from rfl];refine ja5 [.cell 2 35] Tryz.func228 ?_;simp only[go_sem];refine jam ?_;simp only[go_sem];refine ja4 k1 (by decide) ?_;simp only[go_sem];refine ja4 k2 (by decide) ?_;simp only[go_sem]
theorem su_cloneT0:Ctr G.P 227 [.sl []] (· = .sl []):=by
 refine ja5 [.tmp 2] Tryz.func227 ?_;simp only[go_sem];refine jey (fun h=> ?_) ?_
 ·simp only[go_sem]
 ·simp only[go_sem];exact⟨by simp,by simp⟩
theorem su_cloneT(es:List (List IV))(hne:es≠[])(hlen:∀c∈es,c.length=5)(hl:es.length<=100000):
  CtrH G.P 227 [.im (.sl es)] [] (fun r L'=>∃X,r= .im (.ref X 117 5 es.length)/\L'=[(hp X,5,es)]):=by
 refine jao [7] [] [.tmp 2] Tryz.func227 ?_;simp only[go_sem];refine jey (fun h=>absurd h hne) ?_;simp only[hne,go_sem];refine And.intro hlen (And.intro (by omega) (je5 (fun X hX=> ?_)));clear hX;simp only[go_sem];refine jb7 [(hp X,5,es)] (jad jaq) (SubR.of_eq rfl) ?_;simp only[go_sem];exact⟨X,rfl,rfl⟩
theorem behind0{R:Abs.Rows}:jev R [] [] R:=fun _ _ hk=> .inr ⟨rfl,hk⟩
theorem jnx{α:Type}{l:List α}{i:Nat}{x:α}(h:l[i]? =some x):l.set i x=l:=by
 apply jI;intro k;rw[jv];by_cases e:i=k
 ·subst e;rw[zm rfl,zm (zl.1 h).1,h]
 ·rw[zn e]
theorem su_copied(w:Rw)(hl:w.ts.length<=100000)(hv:FL 100000000 w.val)(ht:∀t∈w.ts,FL 100000000 t.2):Ctr G.P 213 [.agg (rwC w)] (· = .agg (rwC w)):=by
 have kv:=js6 w.val hv;unfold fc at kv;unfold rwC;by_cases hn:w.ts=[]
 ·rw[hn];have kc:=su_cloneT0;refine ja5 [.cell 2 211] Tryz.func213 ?_;simp only[go_sem];refine ja1 kc ?_;simp only[go_sem];refine jan [1,2,11,12] [1,2] (fun _:Unit=>⟨[(1,.loc 1 6 0 0),(2,.loc 2 6 0 0),(11,.im (.int 0)),(12,.im (.int 0))],[(2,6,[[.sl [],.int 0,.int 0,.sl [],.int 0,.sl []]]),(1,6,[.sl []:: .int w.kind::fc w.val])],[]⟩)
   (fun _=>True) (fun _=>0) () ?_ trivial ?_
  ·simp only[go_sem]
  intro _ _;simp only[go_sem];refine ja1 kv ?_;simp only[go_sem]
 have kc:=su_cloneT (w.ts.map tmC) (fun h=>hn (qO.1 h)) (fun c hc=>by obtain⟨t,_,rfl⟩:=z8.1 hc;rfl) (by rw[zq];exact hl);refine jf5 (φ:=fun r L'=>∃X,r= .im (.agg (.ref X 117 5 w.ts.length:: .int w.kind::fc w.val))/\L'=[(hp X,5,w.ts.map tmC)]) ?_ (fun r L' ⟨X,h1,h2⟩=>⟨_,[X],h1,?_⟩)
 case refine_2=>
  subst h2;have hl2:w.ts.length<=(w.ts.map tmC).length:=by rw[zq];exact zt _
  have htk:(w.ts.map tmC).take w.ts.length=w.ts.map tmC:=zu (by rw[zq];exact zt _);simp only[frzL,ja2,fc,frz3,frz2,frz1,zB,zF,hl2,htk,vd,qm,List.cons_append,List.nil_append]
 refine jao [] [] [.cell 2 211] Tryz.func213 ?_;simp only[go_sem];refine jcz kc (by decide) rfl jaq jac ?_;rintro _ _ ⟨X,rfl,rfl⟩ hfr;refine⟨_,jfa (ja2 _ _ _),?_⟩;clear hfr;have hne:=fun(d:Nat) (h:d<100000)=>hp_ne (n:=d) (b:=X) h;simp only[zq,go_sem];refine jap [1,2,10,11,12] (fun i:Nat=>⟨[(1,.loc 1 6 0 0),(2,.loc 2 6 0 0),(10,.im (.ref X 117 5 w.ts.length)),(11,.im (.int w.ts.length)),(12,.im (.int i))],
   [(hp X,5,w.ts.map tmC),(2,6,[[.emp,.int 0,.int 0,.emp,.int 0,.emp]]),(1,6,[.ref X 117 5 w.ts.length:: .int w.kind::fc w.val])],[]⟩)
  (fun i=>i<=w.ts.length) (fun i=>w.ts.length-i) 0 ?_ ?_ rfl (zH _) ?_
 ·simp only[Int.natCast_zero,go_sem]
 ·exact SubR.of_eq rfl
 intro i hi;by_cases hp':(i:Int)<w.ts.length
 ·have hd:decide ((i:Int)<w.ts.length)=true:=zh hp';obtain⟨t,htx⟩:=jbf hp';have h1:=ja7 (n:=(i:Int)+1) (by omega);have hi0:(0:Int)<=i:=by omega
  have hg:=tget htx;have kt:=js6 t.2 (ht t (zk htx));unfold fc at kt hg;have hs:=jnx hg;simp only[hd,hp',hi0,hg,zq,Int.toNat_natCast,go_sem];refine jae 8 ?_;simp only[hp',hi0,hg,zq,Int.toNat_natCast,go_sem];refine ja4 kt (by decide) ?_;simp only[hp',hi0,hg,zq,Int.toNat_natCast,hs,go_sem];refine ja6 (i+1) ?_ ?_ rfl (by omega) (by omega)
  ·simp only[h1,Int.natCast_add,go_sem]
  ·refine jag ?_ (jag ?_ (jag ?_ jac))
   all_goals simp only[hs,go_sem]
 ·have hd:decide ((i:Int)<w.ts.length)=false:=zw hp';have hl2:w.ts.length<=(w.ts.map tmC).length:=by rw[zq];exact zt _
  have htk:(w.ts.map tmC).take w.ts.length=w.ts.map tmC:=zu (by rw[zq];exact zt _);simp only[hd,go_sem];refine ja1 kv ?_;simp only[go_sem];refine jb7 [(hp X,5,w.ts.map tmC)] (jad jaq) (jag (ja2 _ _ _) jac) ?_;simp only[go_sem];exact⟨X,rfl,rfl⟩
end
end Go.Proofs.YtkcekimolppapaaGreat
namespace Go.Abs
section
def em1:IV->IV
 | .emp=> .sl []
 | x=>x
def em2:IV->IV
 | .agg cs=> .agg (cs.map em1)
 | x=>em1 x
def em3:IV->IV
 | .tup cs=> .tup (cs.map em2)
 | x=>em2 x
section
variable{w:World}{M:Nat->Nat->Prop}{v:Value}
theorem em1_one(x:IV):(em1 x).one=x.one:=by cases x<;>rfl
theorem em1_rep{x:IV}(h:Rep w M x v):Rep w M (em1 x) v:=by
 cases x with
 | emp=>
  cases h with
  | emp a=>exact .nil _ _
 | _=>exact h
theorem em2_rep{x:IV}(h:Rep w M x v):Rep w M (em2 x) v:=by
 cases x with
 | agg cs=>
  cases h with
  | agg _ vs h1 h2 h3=>
   refine .agg _ vs (by simpa using h1) (fun x hx=> ?_) (fun k x v hx hv=> ?_)
   ·obtain⟨y,hy,rfl⟩:=z8.1 hx;rw[em1_one];exact h2 y hy
   ·rw[za]at hx;obtain⟨y,hy,rfl⟩:=zQ.1 hx;exact em1_rep (h3 k y v hy hv)
 | _=>exact em1_rep h
theorem em3_rep{x:IV}(h:Rep w M x v):Rep w M (em3 x) v:=by
 cases x with
 | tup cs=>
  cases h with
  | tup _ vs h1 h3=>
   refine .tup _ vs (by simpa using h1) (fun k x v hx hv=> ?_);rw[za]at hx;obtain⟨y,hy,rfl⟩:=zQ.1 hx;exact em2_rep (h3 k y v hy hv)
 | _=>exact em2_rep h
end
theorem Ctr.emp{P:Program}{f:FuncId}{xs:List IV}{ψ:IV->Prop}(h:Ctr P f xs (fun z=>ψ (em3 z))):Ctr P f xs ψ:=fun w M vs hM hr=>
 (h w M vs hM hr).mono fun en w' ⟨y,v,a,b,c,d⟩=>⟨em3 y,v,a,b,em3_rep c,d⟩
end
end Go.Abs
namespace Go.Proofs.YtkcekimolppapaaGreat
section
open Go.Abs
open Go.LP (Dic Rw RT Ov OvRw tsum Sol)
attribute [local go_sem] frac fc ints ic rwC tmC
def nn(l:List Nat):List Int:=l.map fun k:Nat=>(k:Int)
theorem jfh(l:List Nat):(nn l).length=l.length:=zq _
def AscN(l:List Nat)(n:Nat):Prop:=∀i x,l[i]? =some x->x<n/\∀y,l[i-1]? =some y->i≠0->y<x
def lastN(l:List Nat):Nat->Int
 | 0=> -1
 | i+1=>((l[i]?.getD 0:Nat):Int)
theorem nget{l:List Nat}{i x:Nat}(h:l[i]? =some x):((nn l).map ic)[i]? =some [.int (x:Int)]:=by rw[za,nn,za,h];rfl
theorem AscN.at{l:List Nat}{n i x:Nat}(h:AscN l n)(hx:l[i]? =some x):(x:Int)<n/\lastN l i<x:=by
 obtain⟨h1,h2⟩:=h i x hx;refine⟨by omega,?_⟩;cases i with
 | zero=>show(-1:Int)<x;omega
 | succ i=>
  have hi:=(zl.1 hx).1;have hy:l[i]? =some l[i]:=ze (by omega);have:=h2 _ hy (qk i);show((l[i]?.getD 0:Nat):Int)<x;rw[hy];show((l[i]:Nat):Int)<x;omega
theorem su_right(l:List Nat)(n:Nat)(h:AscN l n)(hl:l.length<=100000):Ctr G.P 212 [ints (nn l),.int n] (· = .bool true):=by
 refine ja5 [.tmp 4] Tryz.func212 ?_;simp only[go_sem];refine jan [1,5,8,9,10] [] (fun i:Nat=>⟨[(1,.im (.int n)),(5,.im (.int (lastN l i))),(8,.im (.sl ((nn l).map ic))),(9,.im (.int l.length)),(10,.im (.int i))],[],[]⟩)
  (fun i=>i<=l.length) (fun i=>l.length-i) 0 ?_ (zH _) ?_
 ·simp only[Int.natCast_zero,jfh,zq,lastN,go_sem]
 intro i hi;by_cases hp':(i:Int)<l.length
 ·have hd:decide ((i:Int)<l.length)=true:=zh hp';obtain⟨x,hx⟩:=jbf hp';have h1:=ja7 (n:=(i:Int)+1) (by omega);obtain⟨h2,h3⟩:=h.at hx;have d2:decide ((x:Int)<=lastN l i)=false:=zw (by omega);have d3:decide ((n:Int)<=x)=false:=zw (by omega);have hg:=nget hx;have e1:lastN l (i+1)=(x:Int):=by show((l[i]?.getD 0:Nat):Int)=x;rw[hx];rfl
  have hi0:(0:Int)<=i:=by omega
  simp only[hd,hp',hg,Int.toNat_natCast,jfh,zq,d2,d3,hi0,go_sem];refine jab (i+1) ?_ (by omega) (by omega);simp only[h1,Int.natCast_add,e1,go_sem]
 ·have hd:decide ((i:Int)<l.length)=false:=zw hp';simp only[hd,go_sem]
def partW(ws:List Rw)(l:List Nat):List Rw:=l.map fun k=>ws[k]?.getD ⟨[],0,0⟩
theorem partW_succ{ws:List Rw}{l:List Nat}{i x:Nat}{w:Rw}(hx:l[i]? =some x)(hw:ws[x]? =some w):(partW ws l).take (i+1)=(partW ws l).take i++[w]:=by
 have:(partW ws l)[i]? =some w:=by unfold partW;rw[za,hx,Option.map_some,hw];rfl
 exact take_succ this
theorem jfg(ws:List Rw)(l:List Nat):(partW ws l).length=l.length:=zq _
theorem rget{ws:List Rw}{x:Nat}{w:Rw}(h:ws[x]? =some w):(ws.map rwC)[x]? =some ([.sl (w.ts.map tmC),.int w.kind]++fc w.val):=by rw[za,h];rfl
theorem jbw{R' R:Abs.Rows}{p:Nat×Nat×List (List IV)}(h:Abs.look R' p.1=none)(hs:SubR R' R):SubR R' (p::R):=by
 intro k x hk;by_cases e:k=p.1
 ·subst e;rw[h]at hk;cases hk
 ·obtain⟨q,r⟩:=p;rw[ja0 _ _ e];exact hs k x hk
theorem su_part(ws:List Rw)(N:Nat)(l:List Nat)(hs:SysOk N ws)(h:AscN l ws.length)(hl:l.length<=ws.length):CtrH G.P 176 [.im (.agg [.int N,.sl (ws.map rwC)]),.im (ints (nn l))] []
  (fun r L'=>∃X,r= .im (.agg [.int N,sl0 X 211 6 l.length])/\blks L'/\(l.length≠0->Abs.look L' (hp X)=some (6,(partW ws l).map rwC))):=by
 have hlen:=hs.len;have kr:=jqy ws N hs.ok (by omega) (by have:=hs.n;omega) fun w hw=>⟨by have:=(hs.row w hw).1;have:=hs.n;omega,(hs.row w hw).2⟩;have kq:=su_right l ws.length h (by omega);refine jao [38] [] [.cell 4 46] Tryz.func176 ?_;simp only[go_sem];refine ja1 kr ?_;simp only[zq,go_sem];refine ja1 kq ?_;simp only[jfh,go_sem];refine jap [2,4,5,23,24,25] (fun g:(Nat×Nat)×Abs.Rows=>⟨[(2,.loc 2 2 0 0),(4,.loc 4 2 0 0),(5,.loc 5 2 0 0),(23,.im (ints (nn l))),(24,.im (.int l.length)),(25,.im (.int g.1.1))],
   (5,2,[[.int N,sl0 g.1.2 211 6 g.1.1]])::(4,2,[[.int 0,.emp]])::(2,2,[[.int N,.sl (ws.map rwC)]])::g.2,[]⟩)
  (fun g=>g.1.1<=l.length/\blks g.2/\(g.1.1≠0->Abs.look g.2 (hp g.1.2)=some (6,((partW ws l).take g.1.1).map rwC))) (fun g=>l.length-g.1.1) ((0,0),[]) ?_ ?_ rfl ⟨zH _,jaq,fun h=>absurd rfl h⟩ ?_
 ·simp only[Int.natCast_zero,go_sem]
 ·exact SubR.of_eq rfl
 rintro⟨⟨i,X⟩,L⟩ ⟨hi,hb,hX⟩;dsimp only at hi hb hX⊢;have F1:=bF hb;have K1:=bK hb;have G1:=bN hb;by_cases hp':(i:Int)<l.length
 ·have hd:decide ((i:Int)<l.length)=true:=zh hp';obtain⟨x,hx⟩:=jbf hp';have h1:=ja7 (n:=(i:Int)+1) (by omega);obtain⟨h2,h3⟩:=h.at hx;obtain⟨w,hw⟩:=jbf (l:=ws) h2;have kc:=su_copied w (by have:=(hs.row w (zk hw)).1;have:=hs.n;omega) (hs.row w (zk hw)).2.1 (hs.row w (zk hw)).2.2;have hg:=nget hx;have hgw:=rget hw;have hi0:(0:Int)<=i:=by omega
  have hx0:(0:Int)<=x:=by omega
  have hsu:=partW_succ hx hw;by_cases hn:i=0
  ·rw[show sl0 X 211 6 i= .emp by rw[hn];rfl];simp only[hd,hp',hg,Int.toNat_natCast,zq,jfh,hi0,F1,G1,K1,go_sem];refine jae 9 ?_;simp only[hd,h2,hgw,Int.toNat_natCast,zq,hx0,go_sem];refine ja4 kc (by decide) ?_;simp only[F1,G1,K1,go_sem];refine And.intro (fun c hc=>by rw[zC.1 hc];rfl) (je5 (fun Y hY=> ?_));have lY:Abs.look L (hp Y)=none:=by
    simp only[ja0 _ _ (hp_ne (n:=2) (b:=Y) (by decide)).symm,ja0 _ _ (hp_ne (n:=4) (b:=Y) (by decide)).symm,ja0 _ _ (hp_ne (n:=5) (b:=Y) (by decide)).symm]at hY;exact hY
   clear hY;simp only[F1,G1,K1,go_sem];refine ja6 ((i+1,Y),(hp Y,6,[rwC w])::L) ?_ ?_ rfl (by dsimp only;omega) ⟨by dsimp only;omega,jad hb,fun _=> ?_⟩
   ·simp only[h1,Int.natCast_add,go_sem]
   ·dsimp only;rw[jak (qk i),hn];refine jag ?_ (jag ?_ (jag ?_ (jag (ja2 _ _ _) (jbw lY (jbw (G1 5 (by decide)) (jbw (G1 4 (by decide)) (jbw (G1 2 (by decide)) (SubR.refl _))))))))
    ·rw[ja0 _ _ (hp_ne (by decide)),ja2]
    ·rw[ja0 _ _ (hp_ne (by decide)),ja0 _ _ (by decide),ja2]
    ·rw[ja0 _ _ (hp_ne (by decide)),ja0 _ _ (by decide),ja0 _ _ (by decide),ja2]
   ·dsimp only;rw[ja2,hsu,hn];rfl
  ·rw[jak hn];have hX':=hX hn;have hti:((partW ws l).take i).length=i:=by rw[zY,jfg];omega
   simp only[hd,hp',hg,Int.toNat_natCast,zq,jfh,hi0,F1,G1,K1,go_sem];refine jae 9 ?_;simp only[hd,h2,hgw,Int.toNat_natCast,zq,hx0,go_sem];refine ja4 kc (by decide) ?_;simp only[F1,G1,K1,hX',hti,go_sem];refine And.intro (fun c hc=>by rw[zC.1 hc];rfl) (And.intro (zt _) (And.intro (by omega) (jj7 (fun Y hY=> ?_))));obtain⟨Q,hQe⟩:∃Q,Abs.del L (hp X)=Q:=⟨_,rfl⟩;have bQ:blks Q:=hQe▸jbo hb;have hQf:List.filter (fun p=>p.1 !=hp X) L=Q:=hQe;have lY:Abs.look Q (hp Y)=none:=by
    rw[jaf (hp_ne (by decide)),jaf (hp_ne (by decide)),jaf (hp_ne (by decide)),hQe,ja0 _ _ (hp_ne (by decide)).symm,ja0 _ _ (hp_ne (by decide)).symm,ja0 _ _ (hp_ne (by decide)).symm]at hY;exact hY
   clear hY;have bn:∀k:Nat,k<100000->(k !=hp X)=true:=fun k hk=>by simp only[z7,ne_eq];exact hp_ne hk
   have F2:=bF bQ;have K2:=bK bQ;have G2:=bN bQ;have htt:List.take i (((partW ws l).take i).map rwC)=((partW ws l).take i).map rwC:=zu (by rw[zq,hti];exact zt _);simp only[F2,G2,K2,bn,hQf,htt,go_sem];refine ja6 ((i+1,Y),(hp Y,6,((partW ws l).take i).map rwC++[rwC w])::Q) ?_ ?_ rfl (by dsimp only;omega) ⟨by dsimp only;omega,jad bQ,fun _=> ?_⟩
   ·simp only[h1,Int.natCast_add,go_sem]
   ·dsimp only;rw[jak (qk i)];refine jag ?_ (jag ?_ (jag ?_ (jag (ja2 _ _ _) (jbw lY (jbw (G2 5 (by decide)) (jbw (G2 4 (by decide)) (jbw (G2 2 (by decide)) (SubR.refl _))))))))
    ·rw[ja0 _ _ (hp_ne (by decide)),ja2]
    ·rw[ja0 _ _ (hp_ne (by decide)),ja0 _ _ (by decide),ja2]
    ·rw[ja0 _ _ (hp_ne (by decide)),ja0 _ _ (by decide),ja0 _ _ (by decide),ja2]
   ·dsimp only;rw[ja2,hsu,qf];rfl
 ·have hd:decide ((i:Int)<l.length)=false:=zw hp';have hil:i=l.length:=by omega
  subst hil;simp only[hd,F1,G1,K1,go_sem];refine And.intro (by
   by_cases e:l.length=0
   ·rw[e,jb8]
   ·rw[jak e]) ?_
  refine jb7 L hb (jbw (G1 5 (by decide)) (jbw (G1 4 (by decide)) (jbw (G1 2 (by decide)) (SubR.refl _)))) ?_;simp only[go_sem];exact⟨X,rfl,hb,fun h=>by rw[hX h,zu (by rw[jfg];exact zt _)]⟩
theorem su_part'(ws:List Rw)(N:Nat)(l:List Nat)(hs:SysOk N ws)(h:AscN l ws.length)(hl:l.length<=ws.length):
  Ctr G.P 176 [.agg [.int N,.sl (ws.map rwC)],ints (nn l)] (· = .agg [.int N,.sl ((partW ws l).map rwC)]):=by
 refine Ctr.emp (jf5 (su_part ws N l hs h hl) (fun r L' ⟨X,h1,hb,h2⟩=>⟨_,if l.length=0 then []else [X],h1,?_⟩));by_cases hn:l.length=0
 ·have hl0:l=[]:=zO hn;rw[zm hn,hn,jb8,hl0];rfl
 ·rw[zn hn,jak hn,jd9 (h2 hn)];have hl2:l.length<=((partW ws l).map rwC).length:=by rw[zq,jfg];exact zt _
  have htk:((partW ws l).map rwC).take l.length=(partW ws l).map rwC:=zu (by rw[zq,jfg];exact zt _);simp only[frzL,frz3,frz2,frz1,zB,zF,hl2,htk,vd,qm];rfl
end
section
open Go.Abs
open Go.LP (Dic Rw RT S tsum cf first jb4 Eqv SameV Own Free Sol Final Mk ext rowsD rowD jci dic0 src0 jc8 S_add S_mul jfv jen)
def SrcW(ws:List Rw)(p:Dic×(Nat->Int×Bool)):Prop:=
 ∀i,i<p.1.m->∃w,ws[(p.2 i).1.toNat]? =some w/\0<=(p.2 i).1/\(((p.2 i).2=true/\w.kind≠1/\p.1.v i= -w.val/\∀j,p.1.a i j= -cf w.ts j)\/((p.2 i).2=false/\w.kind≠0/\p.1.v i=w.val/\∀j,p.1.a i j=cf w.ts j))
theorem SrcW.put{ws:List Rw}{p:Dic×(Nat->Int×Bool)}(h:SrcW ws p)(w:Rw)(row:Nat)(t:Bool)(hr:ws[row]? =some w)(ht:if t=true then w.kind≠1 else w.kind≠0):SrcW ws (p.1.put w t,jci p.1 p.2 row t):=fun i hi=>by
 by_cases e:i=p.1.m
 ·subst e;refine⟨w,?_,?_,?_⟩
  ·show ws[(jci p.1 p.2 row t p.1.m).1.toNat]? =some w;unfold jci;rw[zm rfl];exact hr
  ·show 0<=(jci p.1 p.2 row t p.1.m).1;unfold jci;rw[zm rfl];exact Int.natCast_nonneg _
  ·show((jci p.1 p.2 row t p.1.m).2=true/\_)\/((jci p.1 p.2 row t p.1.m).2=false/\_);have e1:(p.1.put w t).v p.1.m=if t=true then-w.val else w.val:=zm rfl
   have e2:(p.1.put w t).a p.1.m=fun j=>if t=true then-cf w.ts j else cf w.ts j:=zm rfl
   dsimp only;rw[e1,e2];unfold jci;rw[zm rfl];cases t
   ·exact .inr ⟨rfl,ht,rfl,fun _=>rfl⟩
   ·exact .inl ⟨rfl,ht,rfl,fun _=>rfl⟩
 ·obtain⟨w',h1,h2,h3⟩:=h i (by have:i<p.1.m+1:=hi;omega);have e0:jci p.1 p.2 row t i=p.2 i:=zn e;have e1:(p.1.put w t).v i=p.1.v i:=zn e;have e2:(p.1.put w t).a i=p.1.a i:=zn e;dsimp only;rw[e0,e1,e2];exact⟨w',h1,h2,h3⟩
theorem SrcW.row{ws:List Rw}{p:Dic×(Nat->Int×Bool)}(h:SrcW ws p)(w:Rw)(row:Nat)(hr:ws[row]? =some w):SrcW ws (rowD p row w):=by
 unfold rowD;dsimp only;by_cases h0:w.kind≠0
 ·rw[zm h0];by_cases h1:w.kind≠1
  ·rw[zm h1];exact(h.put w row false hr h0).put w row true hr h1
  ·rw[zn h1];exact h.put w row false hr h0
 ·rw[zn h0];by_cases h1:w.kind≠1
  ·rw[zm h1];exact h.put w row true hr h1
  ·rw[zn h1];exact h
theorem SrcW.rows{N:Nat}{ws:List Rw}:∀i,SrcW ws (rowsD ws (dic0 N,src0) i)
 | 0=>fun i hi=>absurd hi (yN _)
 | i+1=>by
  rw[rowsD];split
  ·rename_i w hw;exact(SrcW.rows i).row w i hw
  ·exact SrcW.rows i
section
variable{N:Nat}{ws:List Rw}{goal:List (Nat×Rat)}{x:Nat->Rat}
def exc(ws:List Rw)(x:Nat->Rat)(r:Nat):Rat:=match ws[r]? with
 | some w=>tsum w.ts x-w.val
 | none=>0
def mixF(ws:List Rw)(x:Nat->Rat)(y:Nat->Rat):Rat:=S ws.length fun r=>y r*exc ws x r
theorem mixF_ch{t:Bool}{y:Nat->Rat}{r:Nat}{p:Rat}(hr:r<ws.length):mixF ws x (chU t y r p)=mixF ws x y+(if t then p else-p)*exc ws x r:=by
 have h:∀j,j<ws.length->chU t y r p j*exc ws x j=y j*exc ws x j+(if j=r then(if t then p else-p)*exc ws x r else 0):=fun j _=>by
  unfold chU;by_cases e:j=r
  ·subst e;rw[zm rfl,zm rfl];grind
  ·rw[zn e,zn e];grind
 unfold mixF;rw[jc8 h,S_add];rw[Go.LP.S_one hr (fun j _ e=>zn e),zm rfl]
theorem ext_slack(hw:∀w∈ws,w.Ok N){i:Nat}(hi:i<(jb4 N ws).1.m):∃r,((jb4 N ws).2 i).1.toNat=r/\r<ws.length/\ext (jb4 N ws).1 N x (N+i)=(if((jb4 N ws).2 i).2 then exc ws x r else-exc ws x r):=by
 obtain⟨w,h1,h2,h3⟩:=SrcW.rows (N:=N) (ws:=ws) ws.length i hi;refine⟨_,rfl,(zl.1 h1).1,?_⟩;have hx:exc ws x ((jb4 N ws).2 i).1.toNat=tsum w.ts x-w.val:=by
  unfold exc;rw[show ws[((jb4 N ws).2 i).1.toNat]? =some w from h1]
 have hwk:=hw w (zk h1);unfold ext;rw[zn (by omega),show N+i-N=i by omega,hx,Go.LP.tsum_eq x hwk.ts];rcases h3 with ⟨e0,_,e1,e2⟩ | ⟨e0,_,e1,e2⟩
 ·have e0':((jb4 N ws).2 i).2=true:=e0;have e1':(jb4 N ws).1.v i= -w.val:=e1;rw[e0',e1',jc8 (f:=fun j=>(jb4 N ws).1.a i j*x j) (g:=fun j=> -cf w.ts j*x j) fun j _=>by rw[show(jb4 N ws).1.a i j=_ from e2 j],Go.LP.S_negc];simp only[qm];grind
 ·have e0':((jb4 N ws).2 i).2=false:=e0;have e1':(jb4 N ws).1.v i=w.val:=e1;rw[e0',e1',jc8 (f:=fun j=>(jb4 N ws).1.a i j*x j) (g:=fun j=>cf w.ts j*x j) fun j _=>by rw[show(jb4 N ws).1.a i j=_ from e2 j]];simp only[qV,qr];grind
theorem jsq(hw:∀w∈ws,w.Ok N){k:Nat}(hk:N<=k)(hi:k-N<(jb4 N ws).1.m){y:Nat->Rat}{p:Rat}:
  mixF ws x (chU ((jb4 N ws).2 (k-N)).2 y ((jb4 N ws).2 (k-N)).1.toNat p)=mixF ws x y+p*ext (jb4 N ws).1 N x k:=by
 obtain⟨r,h1,h2,h3⟩:=ext_slack (x:=x) hw hi;rw[h1,mixF_ch h2];rw[show N+(k-N)=k by omega]at h3;rw[h3];split<;>grind
theorem mixF_pr(hw:∀w∈ws,w.Ok N){E:Dic}(hf:∀j,j<E.n->N<=E.free j->E.free j-N<(jb4 N ws).1.m)(y0 pr:Nat->Rat):∀j,j<=E.n->
  mixF ws x (prU E N (jb4 N ws).2 y0 pr j)=mixF ws x y0+S j (fun j=>if E.free j<N then 0 else pr j*ext (jb4 N ws).1 N x (E.free j))
 | 0,_=>by rw[prU,S];grind
 | j+1,hj=>by
  rw[prU,S];have ih:=mixF_pr hw hf y0 pr j (by omega);by_cases h:E.free j<N
  ·rw[zm h,zm h,ih];grind
  ·rw[zn h,zn h,jsq hw (by omega) (hf j (by omega) (by omega)),ih];grind
end
end
section
open Go.Abs
open Go.LP (Dic Rw RT S tsum cf first jb4 Eqv SameV Own Free Sol Final Mk ext rowsD rowD jci dic0 src0 jc8 S_add S_mul jfv jen)
def SgnW(ws:List Rw)(y:Nat->Rat):Prop:=∀(r:Nat) (w:Rw),ws[r]? =some w->(w.kind=0->0<=y r)/\(w.kind=1->y r<=0)
def mc(ws:List Rw)(y:Nat->Rat)(k:Nat):Rat:=S ws.length fun r=>match ws[r]? with
 | some w=>y r*cf w.ts k
 | none=>0
def mv(ws:List Rw)(y:Nat->Rat):Rat:=S ws.length fun r=>match ws[r]? with
 | some w=>y r*w.val
 | none=>0
section
variable{N:Nat}{ws:List Rw}{goal:List (Nat×Rat)}{x y:Nat->Rat}
theorem SgnW.zero:SgnW ws fun _=>0:=fun _ _ _=>⟨fun _=>ya,fun _=>ya⟩
theorem SgnW.ch(h:SgnW ws y){t:Bool}{r:Nat}{p:Rat}(hp:0<=p)(ht:∀w,ws[r]? =some w->if t=true then w.kind≠1 else w.kind≠0):SgnW ws (chU t y r p):=fun k w hw=>by
 obtain⟨h1,h2⟩:=h k w hw;unfold chU;by_cases e:k=r
 ·subst e;have:=ht w hw;rw[zm rfl];cases t
  ·refine⟨fun e=>absurd e this,fun e=> ?_⟩;have:=h2 e;simp only[qV,qr];grind
  ·refine⟨fun e=> ?_,fun e=>absurd e this⟩;have:=h1 e;simp only[qm];grind
 ·rw[zn e];exact⟨h1,h2⟩
theorem SgnW.src(h:SgnW ws y){i:Nat}(hi:i<(jb4 N ws).1.m){p:Rat}(hp:0<=p):SgnW ws (chU ((jb4 N ws).2 i).2 y ((jb4 N ws).2 i).1.toNat p):=by
 obtain⟨w,h1,h2,h3⟩:=SrcW.rows (N:=N) (ws:=ws) ws.length i hi;have h1':ws[((jb4 N ws).2 i).1.toNat]? =some w:=h1;refine h.ch hp fun w' hw'=> ?_;rw[h1']at hw';cases hw';rcases h3 with ⟨e0,e1,_⟩ | ⟨e0,e1,_⟩
 ·have e0':((jb4 N ws).2 i).2=true:=e0;rw[e0',zm rfl];exact e1
 ·have e0':((jb4 N ws).2 i).2=false:=e0;rw[e0',zn (by decide)];exact e1
theorem SgnW.pr{E:Dic}(hf:∀j,j<E.n->N<=E.free j->E.free j-N<(jb4 N ws).1.m){y0 pr:Nat->Rat}(h0:SgnW ws y0)(hp:∀j,j<E.n->0<=pr j):∀j,j<=E.n->SgnW ws (prU E N (jb4 N ws).2 y0 pr j)
 | 0,_=>h0
 | j+1,hj=>by
  rw[prU];have ih:=SgnW.pr hf h0 hp j (by omega);by_cases h:E.free j<N
  ·rw[zm h];exact ih
  ·rw[zn h];exact ih.src (hf j (by omega) (by omega)) (hp j (by omega))
theorem exc_get{w:Rw}{r:Nat}(h:ws[r]? =some w):exc ws x r=tsum w.ts x-w.val:=by unfold exc;rw[h]
theorem S_le{n:Nat}{f g:Nat->Rat}(h:∀j,j<n->f j<=g j):S n f<=S n g:=by
 have:=jen (n:=n) (f:=fun j=>g j+ -1*f j) fun j hj=>by have:=h j hj;grind
 rw[S_add,S_mul]at this;grind
theorem mix_nonneg(hs:SgnW ws y)(hx:∀r w,ws[r]? =some w->y r≠0->w.sat x):0<=mixF ws x y:=jen fun r hr=>by
 have hw:ws[r]? =some ws[r]:=ze hr;obtain⟨s1,s2⟩:=hs r _ hw;rw[exc_get hw];by_cases h0:y r=0
 ·rw[h0];grind
 obtain⟨q1,q2⟩:=hx r _ hw h0;by_cases k0:ws[r].kind=0
 ·have a1:=s1 k0;have a2:=q1 (by rw[k0];decide);exact yJ a1 (by grind)
 by_cases k1:ws[r].kind=1
 ·have a1:=s2 k1;have a2:=q2 (by rw[k1];decide);have:=yJ (show 0<= -y r by grind) (show 0<= -(tsum ws[r].ts x-ws[r].val)by grind);grind
 ·have a1:=q1 k1;have a2:=q2 k0;have:tsum ws[r].ts x-ws[r].val=0:=by grind
  rw[this];grind
theorem S_swap(y:Nat->Rat)(c:Nat->Nat->Rat)(x:Nat->Rat)(N:Nat):∀n,S n (fun r=>y r*S N (fun k=>c r k*x k))=S N (fun k=>S n (fun r=>y r*c r k)*x k)
 | 0=>by
  show(0:Rat)=_;rw[jfv fun k _=>by show S 0 _*x k=0;rw[show S 0 (fun r=>y r*c r k)=0 from rfl];grind]
 | n+1=>by
  show S n (fun r=>y r*S N (fun k=>c r k*x k))+y n*S N (fun k=>c n k*x k)=_;rw[S_swap y c x N n,<-S_mul,<-S_add];refine jc8 fun k _=> ?_;show _=(S n _+y n*c n k)*x k;grind
theorem mix_eq(hw:∀w∈ws,w.Ok N):mixF ws x y=S N (fun k=>mc ws y k*x k)-mv ws y:=by
 have h1:∀r,r<ws.length->y r*exc ws x r=y r*S N (fun k=>(match ws[r]? with | some w=>cf w.ts k | none=>0)*x k)+ -1*(match ws[r]? with | some w=>y r*w.val | none=>0):=fun r hr=>by
  have e:ws[r]? =some ws[r]:=ze hr;rw[exc_get e,e];dsimp only;rw[LP.tsum_eq x (hw _ (js hr)).ts];grind
 unfold mixF;rw[jc8 h1,S_add,S_mul,S_swap];have h2:∀k,k<N->S ws.length (fun r=>y r*(match ws[r]? with | some w=>cf w.ts k | none=>0))*x k=mc ws y k*x k:=fun k _=>by
  unfold mc;rw[jc8 (f:=fun r=>y r*(match ws[r]? with | some w=>cf w.ts k | none=>0)) (g:=fun r=>match ws[r]? with | some w=>y r*cf w.ts k | none=>0) fun r hr=>by
   have e:ws[r]? =some ws[r]:=ze hr;rw[e]]
 rw[jc8 h2];unfold mv;grind
theorem mix_zero(hw:∀w∈ws,w.Ok N):mixF ws (fun _=>0) y= -mv ws y:=by
 rw[mix_eq hw,jfv fun k _=>by grind];grind
theorem mix_unit(hw:∀w∈ws,w.Ok N){k:Nat}(hk:k<N):mixF ws (fun j=>if j=k then 1 else 0) y=mc ws y k-mv ws y:=by
 rw[mix_eq hw,LP.S_one hk fun j _ e=>by rw[zn e];grind,zm rfl];grind
structure Refu(N:Nat)(ws:List Rw)(y:Nat->Rat):Prop where
 sgn:SgnW ws y
 mix:∀k,k<N->mc ws y k<=0
 val:0<mv ws y
structure Lowr(N:Nat)(ws:List Rw)(goal:List (Nat×Rat))(y:Nat->Rat)(v:Rat):Prop where
 sgn:SgnW ws y
 mix:∀k,k<N->mc ws y k<=cf goal k
 val:mv ws y=v
theorem Refu.no(h:Refu N ws y)(hw:∀w∈ws,w.Ok N)(hx:∀k,k<N->0<=x k)(hr:∀r w,ws[r]? =some w->y r≠0->w.sat x):False:=by
 have h1:=mix_nonneg h.sgn hr;rw[mix_eq hw]at h1;have h2:S N (fun k=>mc ws y k*x k)<=S N (fun _=>(0:Rat)):=S_le fun k hk=>by
  have:=yJ (show 0<= -mc ws y k by have:=h.mix k hk;grind) (hx k hk);grind
 rw[jfv (f:=fun _=>(0:Rat)) fun _ _=>rfl]at h2;have:=h.val;grind
section
variable{E:Dic}
theorem prU_lows(f:Nat->Rat):S E.n f=S E.n (fun j=>if E.free j<N then 0 else f j)+S E.n (fun j=>if E.free j<N then f j else 0):=by
 rw[<-S_add];refine jc8 fun j _=> ?_;split<;>grind
theorem EndsAt.fr(hE:EndsAt N ws goal E)(hs:SysOk N ws):∀j,j<E.n->N<=E.free j->E.free j-N<(jb4 N ws).1.m:=fun j hj hN=>by
 have:=(hE.srcs hs).free j hj hN;rw[hE.m]at this;exact this
theorem EndsAt.ow(hE:EndsAt N ws goal E)(hs:SysOk N ws):∀i,i<E.m->N<=E.own i->E.own i-N<(jb4 N ws).1.m:=fun i hi hN=>by
 have:=(hE.srcs hs).own i hi hN;rw[hE.m]at this;exact this
theorem jpy(hE:EndsAt N ws goal E)(hs:SysOk N ws){r:Nat}(hr:r<E.m)(h1:E.v r<0)(h2:∀j,j<E.n->0<=E.a r j):Refu N ws (prU E N (jb4 N ws).2 (rf0 E N r (jb4 N ws).2) (fun j=>E.a r j) E.n):=by
 have h:=LP.mk_first (goal:=goal) hs.ok;have hf:=hE.fr hs;have h0:SgnW ws (rf0 E N r (jb4 N ws).2):=by
  unfold rf0;by_cases e:E.own r<N
  ·rw[zm e];exact SgnW.zero
  ·rw[zn e];exact SgnW.zero.src (hE.ow hs r hr (by omega)) (by decide)
 have key:∀x:Nat->Rat,mixF ws x (prU E N (jb4 N ws).2 (rf0 E N r (jb4 N ws).2) (fun j=>E.a r j) E.n)+((if E.own r<N then x (E.own r)else 0)+S E.n (fun j=>if E.free j<N then E.a r j*x (E.free j)else 0))=E.v r:=fun x=>by
  have hy:=(hE.eqv.sat _).1 (h.ext_sat x) r hr;unfold LP.Dic.row at hy;rw[prU_lows (N:=N) (fun j=>E.a r j*ext (first N ws goal) N x (E.free j))]at hy;rw[mixF_pr hs.ok hf _ _ E.n (zt _)];have e1:S E.n (fun j=>if E.free j<N then E.a r j*ext (first N ws goal) N x (E.free j)else 0)=S E.n (fun j=>if E.free j<N then E.a r j*x (E.free j)else 0):=jc8 fun j _=>by
   split
   ·rename_i hlt;rw[LP.ext_low hlt]
   ·rfl
  have e2:mixF ws x (rf0 E N r (jb4 N ws).2)=(if E.own r<N then 0 else ext (first N ws goal) N x (E.own r)):=by
   unfold rf0;by_cases e:E.own r<N
   ·rw[zm e,zm e];exact jfv fun j _=>by grind
   ·rw[zn e,zn e,jsq hs.ok (by omega) (hE.ow hs r hr (by omega))];rw[show mixF ws x (fun _=>0)=0 from jfv fun j _=>by grind];show(0:Rat)+1*ext (first N ws goal) N x (E.own r)=_;grind
  rw[e1]at hy;have e3:(if E.own r<N then(0:Rat)else ext (first N ws goal) N x (E.own r))+(if E.own r<N then x (E.own r)else 0)=ext (first N ws goal) N x (E.own r):=by
   by_cases e:E.own r<N
   ·rw[zm e,zm e,LP.ext_low e];grind
   ·rw[zn e,zn e];grind
  rw[e2];have e4:S E.n (fun j=>if E.free j<N then 0 else E.a r j*ext (jb4 N ws).1 N x (E.free j))=S E.n (fun j=>if E.free j<N then 0 else E.a r j*ext (first N ws goal) N x (E.free j)):=rfl;rw[e4];grind
 have k0:=key fun _=>0;have z1:(if E.own r<N then(0:Rat)else 0)=0:=by split<;>rfl
 rw[z1,jfv (f:=fun j=>if E.free j<N then E.a r j*(0:Rat)else 0) fun j _=>by split<;>grind,mix_zero hs.ok]at k0;refine⟨SgnW.pr hf h0 h2 E.n (zt _),fun k hk=> ?_,by grind⟩;have k1:=key fun j=>if j=k then 1 else 0
 rw[mix_unit hs.ok hk]at k1;have z2:(0:Rat)<=(if E.own r<N then(if E.own r=k then 1 else 0)else 0):=by split<;>(try split)<;>decide
 have z3:0<=S E.n (fun j=>if E.free j<N then E.a r j*(if E.free j=k then 1 else 0)else 0):=jen fun j hj=>by
  split
  ·split
   ·have:=h2 j hj;grind
   ·grind
  ·exact ya
 grind
end
end
end
section
open Go.Abs
open Go.LP (Dic Rw RT Ov OvRw Own Free Final first jb4 tsum Sol)
attribute [local go_sem] frac fc ints ic rwC tmC zc
section
variable{N:Nat}{ws:List Rw}
theorem goal0(N:Nat):GoalOk N []:=⟨trivial,fun t ht=>(by cases ht)⟩
theorem FL_refu{E:Dic}{goal:List (Nat×Rat)}{r:Nat}(hE:EndsAt N ws goal E)(hs:SysOk N ws)(hg:GoalOk N goal)(hr:r<E.m)(k:Nat):FL 19000000000 (prU E N (jb4 N ws).2 (rf0 E N r (jb4 N ws).2) (fun j=>E.a r j) E.n k):=by
 have hsm:=hs.smD hg E hE.ok hE.eqv hE.same;refine(jqw (c:=100000005) (fun k=>FL_rf0 k) (fun j hj=>hsm.a r j hr hj) E.n (zt _) k).mono ?_;have h1:=hE.n;have h2:=hs.n;have h3:E.n*100000001<=18*100000001:=qw _ (by omega);omega
inductive Sol0(N:Nat)(ws:List Rw):List IV->Prop
 | yes (x:Nat->Rat) (k a c:Int) (b d X Y Z:List (List IV)):k≠1->Sol N ws x->Sol0 N ws [.int k,.int a,.sl b,.int c,.sl d,.sl X,.sl Y,.sl Z]
 | no (y:Nat->Rat):Refu N ws y->(∀k,FL 19000000000 (y k))->Sol0 N ws [.int 1,.int 0,.sl [],.int 0,.sl [],.sl [],xl ws.length y,.sl []]
theorem least_sol0(hs:SysOk N ws):Sol0 N ws (jh9 N ws []):=by
 obtain⟨o,ho⟩:=LeastR.ex (goal:=[]) hs;rw[<-jlh ho];cases ho with
 | found E T hR hF=>
  have hE:=EndsAt.of hs hR;obtain⟨h1,h2⟩:=hF.inv_best rfl rfl;obtain⟨h3,h4⟩:=LP.final_best hs.ok (goal0 N).rt hE.ok hE.eqv hE.same h1 h2;exact .yes E.pt 0 _ _ _ _ _ _ _ (by decide) h3
 | none E T r hR hF=>
  have hE:=EndsAt.of hs hR;obtain⟨h1,h2,h3⟩:=hF.inv_none rfl;exact .no _ (jpy hE hs h1 h2 h3) (FL_refu hE hs (goal0 N) h1)
 | none2 E E' T T' s r hR hF hR' hF'=>
  have hE:=EndsAt.of hs hR';obtain⟨h1,h2,h3⟩:=hF'.inv_none rfl;exact .no _ (jpy hE hs h1 h2 h3) (FL_refu hE hs (goal0 N) h1)
 | free E E' T T' s hR hF hR' hF'=>
  have hE':=EndsAt.of hs hR';obtain⟨g1,g2⟩:=hF'.inv_best rfl rfl;obtain⟨h4,_⟩:=LP.final_best hs.ok (show RT [] 0 N from trivial) hE'.ok hE'.eqv hE'.same g1 g2;exact .yes E'.pt 2 _ _ _ _ _ _ _ (by decide) h4
theorem su_sol(hs:SysOk N ws):(∃x X,Sol N ws x/\Ctr G.P 175 [.agg [.int N,.sl (ws.map rwC)]] (· = .tup [.sl X,.sl [],.bool true]))\/
  (∃y,Refu N ws y/\(∀k,FL 19000000000 (y k))/\Ctr G.P 175 [.agg [.int N,.sl (ws.map rwC)]] (· = .tup [.sl [],xl ws.length y,.bool false])):=by
 have kl:=jno hs (goal0 N);have h:=least_sol0 hs;generalize jh9 N ws []=C at h kl;cases h with
 | yes x k a c b d X Y Z hk hx=>
  refine .inl ⟨x,X,hx,?_⟩;have hd:decide (k=1)=false:=zw hk;refine ja5 [.tmp 2,.tmp 3,.tmp 4] Tryz.func175 ?_;simp only[go_sem];refine ja1 kl ?_;simp only[hd,go_sem]
 | no y hy hf=>
  refine .inr ⟨y,hy,hf,?_⟩;unfold xl at kl⊢;refine ja5 [.tmp 2,.tmp 3,.tmp 4] Tryz.func175 ?_;simp only[go_sem];refine ja1 kl ?_;simp only[go_sem];refine jae 3 ?_;simp only[go_sem]
end
end
section
open Go.Abs
open Go.LP (Dic Rw RT Ov OvRw Own Free Final first jb4 tsum Sol)
attribute [local go_sem] frac fc ints ic rwC tmC xl
section
variable{N:Nat}{ws:List Rw}{l:List Nat}
theorem AscN.get{n k x:Nat}(h:AscN l n)(hx:l[k]? =some x):x<n:=(h k x hx).1
theorem jq5(h:AscN l ws.length){r:Nat}{w:Rw}(hr:(partW ws l)[r]? =some w):∃k,l[r]? =some k/\ws[k]? =some w:=by
 unfold partW at hr;rw[za]at hr;obtain⟨k,hk,e⟩:=zQ.1 hr;obtain⟨w',hw⟩:∃w',ws[k]? =some w':=⟨_,ze (h.get hk)⟩;rw[hw]at e;exact⟨k,hk,by rw[hw];exact qx some e⟩
theorem jq4(h:AscN l ws.length){w:Rw}(hw:w∈partW ws l):w∈ws:=by
 obtain⟨r,hr⟩:=qo hw;obtain⟨k,_,hk⟩:=jq5 h hr;exact zk hk
theorem part_ok(hs:SysOk N ws)(h:AscN l ws.length)(hl:l.length<=ws.length):SysOk N (partW ws l) where
 ok:=fun w hw=>hs.ok w (jq4 h hw)
 n:=hs.n
 len:=by rw[jfg];have:=hs.len;omega
 mn:=fun hn=>hs.mn (by rw[jfg]at hn;omega)
 ov:=fun w hw=>hs.ov w (jq4 h hw)
def usedL(l:List Nat)(y:Nat->Rat):Nat->List Nat
 | 0=>[]
 | i+1=>usedL l y i++if(y i).num.sign=0 then []else [l[i]?.getD 0]
theorem jif(y:Nat->Rat):∀i,(usedL l y i).length<=i
 | 0=>zt _
 | i+1=>by
  have:=jif y i;rw[usedL,zG];split<;>simp<;>omega
theorem jmq(hs:SysOk N ws)(h:AscN l ws.length)(hl:l.length<=ws.length):
  (∃x,Sol N (partW ws l) x/\Ctr G.P 142 [.agg [.int N,.sl (ws.map rwC)],ints (nn l)] (· = .tup [.sl [],.bool false]))\/
  (∃y,Refu N (partW ws l) y/\Ctr G.P 142 [.agg [.int N,.sl (ws.map rwC)],ints (nn l)] (· = .tup [ints (nn (usedL l y l.length)),.bool true])):=by
 have kp:=su_part' ws N l hs h hl;have hlen:=hs.len;rcases su_sol (part_ok hs h hl)with ⟨x,X,hx,ks⟩ | ⟨y,hy,hf,ks⟩
 ·refine .inl ⟨x,hx,?_⟩;refine ja5 [.tmp 4,.tmp 5] Tryz.func142 ?_;simp only[go_sem];refine ja1 kp ?_;simp only[go_sem];refine ja1 ks ?_;simp only[go_sem]
 ·refine .inr ⟨y,hy,?_⟩;rw[jfg]at ks;refine ja5 [.tmp 4,.tmp 5] Tryz.func142 ?_;simp only[go_sem];refine ja1 kp ?_;simp only[go_sem];refine ja1 ks ?_;simp only[jaa,go_sem];refine jge [1,9,21,22,23] [37] [(9,37,3,1)] (fun i:Nat=>⟨[(1,.im (.sl ((nn l).map ic))),(9,.vec 37 3 1 ((nn (usedL l y i)).map ic)),(21,.im (.sl (tab l.length fun k=>qc (y k)))),(22,.im (.int l.length)),(23,.im (.int i))],[],[(37,1,(usedL l y i).length)]⟩)
   (fun i=>i<=l.length) (fun i=>l.length-i) 0 ?_ ?_ (zH _) ?_
  ·simp only[zq,go_sem];exact fun c hc=>by cases hc
  ·simp only[Int.natCast_zero,usedL,nn,zF,List.length_nil,go_sem]
  intro i hi;by_cases hp':(i:Int)<l.length
  ·have hd:decide ((i:Int)<l.length)=true:=zh hp';obtain⟨x,hx⟩:=jbf hp';have h1:=ja7 (n:=(i:Int)+1) (by omega);have hg:=nget hx;have hi0:(0:Int)<=i:=by omega
   have ks:=jta (hf i);have ul:=jif (l:=l) y i;have hgt:(tab l.length fun k=>qc (y k))[i]? =some [.int (y i).num.sign,.sl ((dig (y i).num.natAbs).map ic),.int ((y i).den:Int).sign,.sl ((dig ((y i).den:Int).natAbs).map ic)]:=jcw (f:=fun k=>qc (y k)) (show i<l.length by omega);simp only[hd,hp',hi0,hg,Int.toNat_natCast,jaa,jfh,zq,hgt,go_sem];refine ja1 ks ?_;simp only[go_sem];refine jc1 (fun he=> ?_) (fun he=> ?_)
   ·have e1:usedL l y (i+1)=usedL l y i:=by rw[usedL,zm (zJ he),zX]
    simp only[he,go_sem];refine jab (i+1) ?_ (by omega) (by omega);simp only[h1,Int.natCast_add,e1,go_sem]
   ·have e1:usedL l y (i+1)=usedL l y i++[x]:=by rw[usedL,zn (zN he),hx];rfl
    have e2:(nn (usedL l y i++[x])).map ic=(nn (usedL l y i)).map ic++[[.int (x:Int)]]:=by simp[nn,ic]
    simp only[he,hp',hi0,hg,Int.toNat_natCast,jfh,zq,go_sem];refine⟨fun c hc=>(by obtain⟨z,_,rfl⟩:=z8.1 hc;rfl),fun c hc=>(by rw[zC.1 hc];rfl),by omega,?_⟩;refine jab (i+1) ?_ (by omega) (by omega);simp only[h1,Int.natCast_add,e1,e2,zG,List.length_cons,List.length_nil,go_sem]
  ·have hd:decide ((i:Int)<l.length)=false:=zw hp';have e:i=l.length:=by omega
   subst e;simp only[hd,go_sem]
end
end
section
open Go.Abs
structure Bat where
 mat:Int
 mv:List Int
deriving Inhabited
structure Pap where
 bat:Int
 grams:Int
 own:Int
 ret:Bool
 gone:Bool
deriving Inhabited,DecidableEq
structure Led where
 bs:List Bat
 ps:List Pap
deriving Inhabited
def Bat.c(b:Bat):List IV:=[.int b.mat,ints b.mv]
def Pap.c(x:Pap):List IV:=[.int x.bat,.int x.grams,.int x.own,.bool x.ret,.bool x.gone]
def Led.c(p:Led):List IV:=[.sl (p.bs.map Bat.c),.sl (p.ps.map Pap.c)]
def riseGo(n:Int):Int->List Int->Bool
 | _,[]=>true
 | last,i::r=>decide (last<i)&&(decide (i<n)&&riseGo n i r)
def riseF(l:List Int)(n:Int):Bool:=riseGo n (-1) l&&decide (0<l.length)
def overF(a b:Bat):Bool:=decide (a.mat=b.mat)&&a.mv.any fun i=>b.mv.contains i
def batOk(pre:List Bat)(b:Bat):Bool:=btw b.mat 0 5&&(riseF b.mv 200&& !pre.any fun a=>overF a b)
def batsGo:List Bat->List Bat->Bool
 | _,[]=>true
 | pre,b::r=>batOk pre b&&batsGo (pre++[b]) r
def papOk(n:Int)(x:Pap):Bool:=btw x.bat 0 (n-1)&&(btw x.grams 1 1099511627776&&(btw x.own 0 999&& !(x.ret&&x.gone)))
def prightF(p:Led):Bool:=decide (p.bs.length<=40)&&(decide (p.ps.length<=300)&&(batsGo [] p.bs&&p.ps.all (papOk p.bs.length)))
def sumG(f:Pap->Bool):List Pap->Int
 | []=>0
 | x::r=>(if f x=true then x.grams else 0)+sumG f r
def totF(p:Led)(k:Int):Int:=if prightF p=true then sumG (fun x=>decide (x.bat=k)&& !x.gone) p.ps else 0
structure KeptL(p q:Led)(i j:Int):Prop where
 right:prightF q=true
 bs:q.bs=p.bs
 len:p.ps.length<=q.ps.length
 tot:∀k,totF q k=totF p k
 pap:∀(k:Nat) (x:Pap),p.ps[k]? =some x->∃y:Pap,q.ps[k]? =some y/\y.bat=x.bat/\y.grams=x.grams/\((k:Int)≠i->(k:Int)≠j->y=x)
end
section
open Go.Abs
def tk(k:Int)(x:Pap):Bool:=decide (x.bat=k)&& !x.gone
section
variable{p q:Led}{b i j n:Int}
end
end
section
open Go.Abs
def rk(k:Int)(x:Pap):Bool:=x.ret&&decide (x.bat=k)
section
variable{p:Led}{cert:List Int}
end
end
section
open Go.Abs
attribute [local go_sem] ints ic Bat.c Pap.c Led.c
theorem pb_index(l:List Int)(v:Int)(hl:l.length<=100000):Ctr G.P 140 [ints l,.int v] (fun r=>∃k:Int,r= .int k/\decide (0<=k)=l.contains v):=by
 refine ja5 [.tmp 4] Tryz.func140 ?_;unfold ints;simp only[go_sem];refine jan [0,1,7,8] [] (fun i:Nat=>⟨[(0,.im (.sl (l.map ic))),(1,.im (.int v)),(7,.im (.int l.length)),(8,.im (.int i))],[],[]⟩)
  (fun i=>i<=l.length/\(l.take i).any (fun x=>decide (v=x))=false) (fun i=>l.length-i) 0 ?_ ⟨zH _,rfl⟩ ?_
 ·simp only[zq,Int.natCast_zero,go_sem]
 have hc:l.contains v=l.any (fun x=>decide (v=x)):=by
  rw[List.contains_eq_any_beq];congr 1
 rw[hc];intro i ⟨hi,ha⟩;by_cases hp:(i:Int)<l.length
 ·have hd:decide ((i:Int)<l.length)=true:=zh hp;obtain⟨x,hx⟩:=jbf hp;have h1:=ja7 (n:=(i:Int)+1) (by omega);rcases he:decide (v=x)with _ | _
  ·simp only[hd,za,hx,ic,he,go_sem];refine jab (i+1) ?_ (by omega) ⟨by omega,by rw[jcu hx,ha,he];rfl⟩;simp only[h1,Int.natCast_add,go_sem]
  ·simp only[hd,za,hx,ic,he,go_sem];exact⟨i,rfl,by rw[jtm hx he];simp⟩
 ·have hd:decide ((i:Int)<l.length)=false:=zw hp;rw[zu (by omega)]at ha;simp only[hd,go_sem];exact⟨-1,rfl,by rw[ha];rfl⟩
theorem jl5(l:List Int)(v:Int)(hl:l.length<=100000):Ctr G.P 96 [ints l,.int v] (· = .bool (l.contains v)):=by
 have h:=pb_index l v hl;refine ja5 [.tmp 4] Tryz.func96 ?_;simp only[go_sem];refine jck h ?_;rintro r ⟨k,rfl,hk⟩;rw[<-hk];simp only[go_sem]
