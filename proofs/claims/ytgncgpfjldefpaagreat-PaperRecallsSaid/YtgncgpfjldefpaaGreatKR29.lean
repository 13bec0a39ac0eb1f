/- A part of the proof. No further condition. -/
import Derived.Test.YtgncgpfjldefpaaGreatKR28
set_option linter.all false
set_option maxRecDepth 10000000
set_option maxHeartbeats 16000000
namespace Go.Proofs.YtgncgpfjldefpaaGreat
section
open Go.Abs
open Go.LP (Rw RT Ov OvRw tsum)
def sgnF(fr:Int)(y:Move):Int:=if y.fr=fr then-1 else if y.to=fr then 1 else 0
def jak(M:Nat)(fr:Int)(mat:Nat)(ms:List Move):Nat->List (Nat×Rat)
 | 0=>[]
 | i+1=>match ms[i]? with
  | some y=>if sgnF fr y=0 then jak M fr mat ms i else jak M fr mat ms i++[(i*M+mat,((sgnF fr y:Int):Rat))]
  | none=>jak M fr mat ms i
def coF(b own more:Int)(k:Nat):Int:=if(k:Int)=own then b+more else b
def sumT(M mv:Nat)(b own more:Int):Nat->List (Nat×Rat)
 | 0=>[]
 | k+1=>if coF b own more k=0 then sumT M mv b own more k else sumT M mv b own more k++[(mv*M+k,((coF b own more k:Int):Rat))]
def je5(M:Nat)(ms:List Move)(mv:Nat)(x:Move):Nat->List Rw
 | 0=>[]
 | mat+1=>je5 M ms mv x mat++[⟨jak M x.fr mat ms (mv+1),if x.all=true then 2 else 0,0⟩]
def jd6(e:Evid)(M mv:Nat)(x:Move):List Rw:=
 if x.scale= -1 then []else match ivlF e.certs e.recalls x.scale x.reading x.day with
  | some (lo,hi)=>[⟨sumT M mv 1 (-1) 0 M,0,lo⟩,⟨sumT M mv 1 (-1) 0 M,1,hi⟩]
  | none=>[]
def pur1(M mv:Nat)(p:Purity):List Rw:=if p.move=(mv:Int)then [⟨sumT M mv (-p.least) p.mat 1000 M,0,0⟩,⟨sumT M mv p.most p.mat (-1000) M,0,0⟩]else []
def purR(M mv:Nat)(ps:List Purity):List Rw:=ps.flatMap (pur1 M mv)
def binF(e:Evid)(x:Move):Bool:=(e.places[x.fr.toNat]?).elim false fun p=>decide (p.kind=0)
def moveR(e:Evid)(M mv:Nat)(x:Move):List Rw:=(if binF e x=true then []else je5 M e.moves mv x M)++jd6 e M mv x++purR M mv e.purs
def rowsU(e:Evid)(M:Nat):Nat->List Rw
 | 0=>[]
 | i+1=>match e.moves[i]? with
  | some x=>rowsU e M i++moveR e M i x
  | none=>rowsU e M i
def rowsE(e:Evid):List Rw:=rowsU e e.mats.toNat e.moves.length
theorem mem_rowsU{e:Evid}{M:Nat}{w:Rw}:∀{i:Nat},w∈rowsU e M i↔∃k x,k<i/\e.moves[k]? =some x/\w∈moveR e M k x
 | 0=>by simp[rowsU]
 | i+1=>by
  rw[rowsU];cases hg:e.moves[i]? with
  | none=>
   rw[mem_rowsU];constructor
   ·rintro⟨k,x,h1,h2⟩;exact⟨k,x,by omega,h2⟩
   ·rintro⟨k,x,h1,h2,h3⟩;refine⟨k,x,?_,h2,h3⟩;have:k≠i:=fun e=>by subst e;rw[hg]at h2;cases h2
    omega
  | some y=>
   simp only[qu,mem_rowsU];constructor
   ·rintro(⟨k,x,h1,h2⟩ | h)
    ·exact⟨k,x,by omega,h2⟩
    ·exact⟨i,y,by omega,hg,h⟩
   ·rintro⟨k,x,h1,h2,h3⟩;by_cases e1:k=i
    ·subst e1;rw[hg]at h2;cases h2;exact .inr h3
    ·exact .inl ⟨k,x,by omega,h2,h3⟩
theorem mem_stockR{M:Nat}{ms:List Move}{mv:Nat}{x:Move}{w:Rw}:∀{k:Nat},w∈je5 M ms mv x k↔∃mat,mat<k/\w=⟨jak M x.fr mat ms (mv+1),if x.all=true then 2 else 0,0⟩
 | 0=>by simp[je5]
 | k+1=>by
  rw[je5];simp only[qu,mem_stockR,zC];constructor
  ·rintro(⟨mat,h1,h2⟩ | h)
   ·exact⟨mat,by omega,h2⟩
   ·exact⟨k,by omega,h⟩
  ·rintro⟨mat,h1,h2⟩;by_cases e1:mat=k
   ·subst e1;exact .inr h2
   ·exact .inl ⟨mat,by omega,h2⟩
theorem RT_up:∀{ts:List (Nat×Rat)} {lo N N':Nat},RT ts lo N->N<=N'->RT ts lo N'
 | [],_,_,_,_,_=>trivial
 | t::ts,lo,N,N',h,hN=>⟨h.1,by have:=h.2.1;omega,h.2.2.1,RT_up h.2.2.2 hN⟩
theorem jq8{t:Nat×Rat}{N:Nat}:∀{ts:List (Nat×Rat)} {lo k:Nat},RT ts lo k->lo<=t.1->k<=t.1->t.1<N->t.2≠0->RT (ts++[t]) lo N
 | [],_,_,_,h1,_,h3,h4=>⟨h1,h3,h4,trivial⟩
 | u::ts,lo,k,h,h1,h2,h3,h4=>⟨h.1,by have:=h.2.1;omega,h.2.2.1,jq8 h.2.2.2 (by have:=h.2.1;omega) h2 h3 h4⟩
theorem cast_ne{z:Int}(h:z≠0):(z:Rat)≠0:=fun e=>h (Rat.intCast_eq_zero_iff.1 e)
theorem js5{M:Nat}{fr:Int}{mat:Nat}{ms:List Move}(hm:mat<M):∀i,RT (jak M fr mat ms i) 0 (i*M)
 | 0=>trivial
 | i+1=>by
  have ih:=js5 (fr:=fr) (ms:=ms) hm i;have e1:(i+1)*M=i*M+M:=jE i M;rw[jak];split
  ·split
   ·exact RT_up ih (by omega)
   ·rename_i h;refine jq8 ih (zG _) ?_ ?_ (cast_ne h)
    ·show i*M<=i*M+mat;omega
    ·show i*M+mat<(i+1)*M;omega
  ·exact RT_up ih (by omega)
theorem RT_sum{M mv:Nat}{b own more:Int}:∀k,RT (sumT M mv b own more k) (mv*M) (mv*M+k)
 | 0=>trivial
 | k+1=>by
  have ih:=RT_sum (M:=M) (mv:=mv) (b:=b) (own:=own) (more:=more) k;rw[sumT];split
  ·exact RT_up ih (by omega)
  ·rename_i h;refine jq8 ih ?_ ?_ ?_ (cast_ne h)
   ·show mv*M<=mv*M+k;omega
   ·show mv*M+k<=mv*M+k;omega
   ·show mv*M+k<mv*M+(k+1);omega
theorem jo0{M mv n:Nat}{b own more:Int}(h:mv<n):RT (sumT M mv b own more M) 0 (n*M):=by
 have h1:=RT.mono (RT_sum (M:=M) (mv:=mv) (b:=b) (own:=own) (more:=more) M) (zG _);refine RT_up h1 ?_;have:(mv+1)*M<=n*M:=qv M h;rw[jE]at this;exact this
theorem rows_ok{e:Evid}(w:Rw)(hw:w∈rowsE e):w.Ok (e.moves.length*e.mats.toNat):=by
 obtain⟨k,x,hk,hx,hw⟩:=mem_rowsU.1 hw;unfold moveR at hw;simp only[qu]at hw;have hN:(k+1)*e.mats.toNat<=e.moves.length*e.mats.toNat:=qv _ hk;rcases hw with (hw | hw) | hw
 ·split at hw
  ·cases hw
  ·obtain⟨mat,h1,rfl⟩:=mem_stockR.1 hw;refine⟨RT_up (js5 h1 (k+1)) hN,?_⟩;dsimp only;split<;>omega
 ·unfold jd6 at hw;split at hw
  ·cases hw
  ·split at hw
   ·rcases zT.1 hw with rfl | hw
    ·exact⟨jo0 hk,by dsimp only;omega⟩
    ·rcases zT.1 hw with rfl | hw
     ·exact⟨jo0 hk,by dsimp only;omega⟩
     ·cases hw
   ·cases hw
 ·unfold purR at hw;obtain⟨p,_,hw⟩:=ji.1 hw;unfold pur1 at hw;split at hw
  ·rcases zT.1 hw with rfl | hw
   ·exact⟨jo0 hk,by dsimp only;omega⟩
   ·rcases zT.1 hw with rfl | hw
    ·exact⟨jo0 hk,by dsimp only;omega⟩
    ·cases hw
  ·cases hw
end
section
open Go.Abs
def fc(r:Rat):List IV:=[.int r.num.sign,.sl ((dig r.num.natAbs).map ic),.int (r.den:Int).sign,.sl ((dig (r.den:Int).natAbs).map ic)]
def fcs(l:List Rat):IV:= .sl (l.map fc)
def qc(r:Rat):List IV:=fc r
theorem qget{n s:Nat}{f:Nat->Rat}(h:s<n):(tab n fun j=>qc (f j))[s]? =some (fc (f s)):=jga h
theorem qset{n s:Nat}{f:Nat->Rat}{x:Rat}:(tab n fun j=>qc (f j)).set s (fc x)=tab n fun k=>qc (if k=s then x else f k):=by
 rw[show fc x=qc x from rfl,jn3];exact jaw fun k _=>by split<;>rfl
theorem sign_zero{r:Rat}:r.num.sign=0↔r=0:=by
 rw[yB];exact Rat.num_eq_zero
theorem sign_neg{r:Rat}:r.num.sign<0↔r<0:=by
 rw[Int.sign_neg_iff,vJ];simp
theorem sign_pos{r:Rat}:0<r.num.sign↔0<r:=by
 rw[Int.sign_pos_iff,vJ];simp
end
section
open Go.Abs
open Go.LP (Rw RT tsum)
attribute [local go_sem] ints ic big frac fc
def tmC(t:Nat×Rat):List IV:= .int (t.1:Int)::fc t.2
attribute [local go_sem] tmC
def rwC(w:Rw):List IV:=[.sl (w.ts.map tmC),.int w.kind]++fc w.val
attribute [local go_sem] rwC
theorem tget{ts:List (Nat×Rat)}{i:Nat}{t:Nat×Rat}(h:ts[i]? =some t):(ts.map tmC)[i]? =some (.int (t.1:Int)::fc t.2):=by rw[zq,h];rfl
def lastF(ts:List (Nat×Rat)):Nat->Int
 | 0=> -1
 | i+1=>match ts[i]? with
  | some t=>(t.1:Int)
  | none=> -1
theorem jmc{ts:List (Nat×Rat)}{i:Nat}{t:Nat×Rat}(h:ts[i]? =some t):lastF ts (i+1)=(t.1:Int):=by rw[lastF,h]
theorem RT_at{ts:List (Nat×Rat)}{N:Nat}(h:RT ts 0 N):∀{i:Nat},i<=ts.length->∃lo:Nat,RT (ts.drop i) lo N/\lastF ts i<lo
 | 0,_=>⟨0,h,by show(-1:Int)<0;omega⟩
 | i+1,hi=>by
  obtain⟨lo,h1,h2⟩:=RT_at h (i:=i) (by omega);have hg:ts[i]? =some ts[i]:=ze (by omega);rw[qS (by omega)]at h1;refine⟨ts[i].1+1,h1.2.2.2,?_⟩;rw[jmc hg];omega
theorem jmv{ts:List (Nat×Rat)}{N:Nat}(h:RT ts 0 N){i:Nat}{t:Nat×Rat}(ht:ts[i]? =some t):lastF ts i<t.1/\t.1<N/\t.2≠0:=by
 obtain⟨hi,rfl⟩:=zt.1 ht;obtain⟨lo,h1,h2⟩:=RT_at h (Nat.le_of_lt hi);rw[qS hi]at h1;have:=h1.1;exact⟨by omega,h1.2.1,h1.2.2.1⟩
def tsumU(ts:List (Nat×Rat))(x:Nat->Rat):Nat->Rat
 | 0=>((0:Int):Rat)
 | i+1=>match ts[i]? with
  | some t=>tsumU ts x i+t.2*x t.1
  | none=>tsumU ts x i
theorem jlz{ts:List (Nat×Rat)}{x:Nat->Rat}{i:Nat}{t:Nat×Rat}(h:ts[i]? =some t):tsumU ts x (i+1)=tsumU ts x i+t.2*x t.1:=by rw[tsumU,h]
theorem jly(x:Nat->Rat)(ts:List (Nat×Rat)):∀i,i<=ts.length->tsumU ts x i=tsum (ts.take i) x
 | 0,_=>by rw[List.take_zero];rfl
 | i+1,hi=>by
  have hg:ts[i]? =some ts[i]:=ze (by omega);rw[jlz hg,jly x ts i (by omega),yV,hg];rw[show(some ts[i]).toList=[ts[i]]from rfl,LP.tsum_app,tsum,tsum];grind
theorem job(x:Nat->Rat)(ts:List (Nat×Rat)):tsumU ts x ts.length=tsum ts x:=by rw[jly x ts _ (zu _),qC]
theorem jo4{ts:List (Nat×Rat)}{x:Nat->Rat}{a b:Nat}(ht:∀t∈ts,FL a t.2)(hx:∀t∈ts,FL b (x t.1)):∀i,FL (4+i*(a+b+1)) (tsumU ts x i)
 | 0=>(jcc (n:=0) (by omega)).mono (by omega)
 | i+1=>by
  have ih:=jo4 ht hx i;rw[tsumU];split
  ·rename_i t hg;have hm:=zl hg;refine(jjy ih (jlr (ht t hm) (hx t hm))).mono ?_;rw[jE];omega
  ·exact ih.mono (by rw[jE];omega)
theorem x_rt(ts:List (Nat×Rat))(N:Nat)(h:RT ts 0 N)(hl:ts.length<=100000)(hN:N<=100000)(hf:∀t∈ts,FL 100000000 t.2):
  Ctr G.P 155 [.sl (ts.map tmC),.int N] (· = .bool true):=by
 have hN0:decide ((N:Int)<0)=false:=za (by omega);refine ja4 [.tmp 4] Tryz.func155 ?_;simp only[hN0,go_sem];refine jao [1,5,10,11,12] [] (fun i:Nat=>⟨[(1,.im (.int N)),(5,.im (.int (lastF ts i))),(10,.im (.sl (ts.map tmC))),(11,.im (.int ts.length)),(12,.im (.int i))],[],[]⟩)
  (fun i=>i<=ts.length) (fun i=>ts.length-i) 0 ?_ (zG _) ?_
 ·simp only[lastF,Int.natCast_zero,go_sem]
 ·intro i hi;by_cases hp:(i:Int)<ts.length
  ·have hd:decide ((i:Int)<ts.length)=true:=zk hp;obtain⟨t,ht⟩:=jbq hp;have h1:=ja9 (n:=(i:Int)+1) (by omega);obtain⟨g1,g2,g3⟩:=jmv h ht;have d1:decide ((t.1:Int)<=lastF ts i)=false:=za (by omega);have d2:decide ((N:Int)<=t.1)=false:=za (by omega);have hs:=f_sign ((hf t (zl ht)).mono (by omega:100000000<=19000000000));have hq:decide (t.2.num.sign=0)=false:=za (fun e=>g3 (sign_zero.1 e));have hg:=tget ht;simp only[frac,ints,fc]at hs hg;simp only[hd,hg,d1,d2,go_sem];refine ja1 hs ?_;simp only[hd,hg,d1,d2,hq,go_sem];refine jad (i+1) ?_ (by omega) (by omega);rw[jmc ht];simp only[h1,Int.natCast_add,go_sem]
  ·have hd:decide ((i:Int)<ts.length)=false:=za hp;simp only[hd,go_sem]
theorem x_right(ws:List Rw)(N:Nat)(h:∀w∈ws,w.Ok N)(hl:ws.length<=6000)(hN:N<=1500)(ht:∀w∈ws,w.ts.length<=100000/\FL 100000000 w.val/\∀t∈w.ts,FL 100000000 t.2):
  Ctr G.P 154 [.agg [.int N,.sl (ws.map rwC)]] (· = .bool true):=by
 have hN0:decide ((N:Int)<0)=false:=za (by omega);have hN1:decide ((1500:Int)<N)=false:=za (by omega);have hl1:decide ((6000:Int)<ws.length)=false:=za (by omega);refine ja4 [.tmp 2] Tryz.func154 ?_;simp only[hN0,hN1,hl1,zh,go_sem];refine jao [1,20,21,22] [1] (fun i:Nat=>⟨[(1,.loc 1 2 0 0),(20,.im (.sl (ws.map rwC))),(21,.im (.int ws.length)),(22,.im (.int i))],[(1,2,[[.int N,.sl (ws.map rwC)]])],[]⟩)
  (fun i=>i<=ws.length) (fun i=>ws.length-i) 0 ?_ (zG _) ?_
 ·simp only[Int.natCast_zero,go_sem]
 ·intro i hi;by_cases hp:(i:Int)<ws.length
  ·have hd:decide ((i:Int)<ws.length)=true:=zk hp;obtain⟨w,hw⟩:=jbq hp;have hm:=zl hw;have h1:=ja9 (n:=(i:Int)+1) (by omega);obtain⟨k1,k2,k3⟩:=h w hm;obtain⟨l1,l2,l3⟩:=ht w hm;have c1:=x_rt w.ts N k1 l1 (by omega) l3;have c2:=f_right (l2.mono (by omega:100000000<=19000000000));have d1:decide (w.kind<0)=false:=za (by omega);have d2:decide (3<=w.kind)=false:=za (by omega);have hg:(ws.map rwC)[i]? =some (rwC w):=by rw[zq,hw];rfl
   simp only[rwC,fc,List.cons_append,List.nil_append]at hg;simp only[frac,ints]at c2;simp only[hd,hg,go_sem];refine ja1 c1 ?_;simp only[hd,hg,d1,d2,go_sem];refine ja1 c2 ?_;simp only[hd,hg,d1,d2,go_sem];refine jad (i+1) ?_ (by omega) (by omega);simp only[h1,Int.natCast_add,go_sem]
  ·have hd:decide ((i:Int)<ws.length)=false:=za hp;simp only[hd,go_sem]
end
section
open Go.Abs
attribute [local go_sem] ints ic big frac fc
theorem jo9(r:Rat):Ctr G.P 197 [frac r] (· = .bool (decide (r=0))):=by
 have e:decide (r=0)=decide (r.num.sign=0):=yy.2 sign_zero.symm;rw[e];refine ja4 [.tmp 2] Tryz.func197 ?_;simp only[go_sem]
theorem x_over{a b:Rat}(h:b≠0)(ha:FL 19000000000 a)(hb:FL 19000000000 b):Ctr G.P 196 [frac a,frac b] (· =frac (a/b)):=by
 have k1:=f_div h ha hb;generalize a/b=c at*;simp only[frac,ints]at k1⊢;refine ja4 [.cell 4 69] Tryz.func196 ?_;simp only[go_sem];refine ja1 k1 ?_;simp only[go_sem]
theorem x_less{a b c:Rat}(ha:FL 6000000000 a)(hb:FL 6000000000 b)(hc:FL 6000000000 c):Ctr G.P 198 [frac a,frac b,frac c] (· =frac (a-b*c)):=by
 have z1:=jo9 b;have z2:=jo9 c;have m1:=f_mul (hb.mono (by omega)) (hc.mono (by omega));have s1:=f_sub (ha.mono (by omega)) ((jlr hb hc).mono (by omega));have e1:b=0->a-b*c=a:=fun h=>by rw[h];grind
 have e2:c=0->a-b*c=a:=fun h=>by rw[h];grind
 generalize a-b*c=x at*;generalize b*c=y at*;generalize hd1:decide (b=0)=d1 at*;generalize hd2:decide (c=0)=d2 at*;simp only[frac,ints]at z1 z2 m1 s1⊢;refine ja4 [.cell 6 69] Tryz.func198 ?_;simp only[go_sem];refine ja1 z1 ?_;simp only[go_sem];refine jcm (fun h1=> ?_) (fun h1=> ?_)
 ·subst h1;have e1:=e1 (zJ hd1);subst e1;simp only[go_sem]
 ·subst h1;simp only[go_sem];refine ja1 z2 ?_;simp only[go_sem];refine jcm (fun h2=> ?_) (fun h2=> ?_)
  ·subst h2;have e2:=e2 (zJ hd2);subst e2;simp only[go_sem]
  ·subst h2;simp only[go_sem];refine ja1 m1 ?_;simp only[go_sem];refine ja1 s1 ?_;simp only[go_sem]
end
section
open Go.Abs
attribute [local go_sem] ints ic big frac fc
def tkF(a row:Nat->Rat)(s j:Nat):Rat:=if j=s then 0-a s*row s else a j-a s*row j
theorem x_take(L:Abs.Rows)(A B n s:Nat)(a row:Nat->Rat)(hL:blks L)(hA:Abs.look L (hp A)=some (4,tab n fun j=>qc (a j)))(hB:Abs.look L (hp B)=some (4,tab n fun j=>qc (row j)))(hAB:A≠B)(hs:s<n)(hn:n<=100000)
  (ka:∀j,j<n->FL 1000000000 (a j)) (kr:∀j,j<n->FL 1000000000 (row j)):
  CtrH G.P 199 [.im (.ref A 69 4 n),.im (.ref B 69 4 n),.im (.int s)] L
   (fun r L'=>r= .im (.tup [])/\blks L'/\Abs.look L' (hp A)=some (4,tab n fun j=>qc (tkF a row s j))/\∀k,k≠hp A->Abs.look L' k=Abs.look L k):=by
 have hs':(s:Int)<n:=by omega
 have h0:(0:Int)<=s:=by omega
 have hgs:=qget (f:=a) hs;have F1:=bF hL;have K1:=bK hL;refine jan [] [] [] Tryz.func199 ?_;simp only[hA,hs',h0,hgs,Int.toNat_natCast,jac,F1,K1,go_sem];refine jaz [0,1,2,6,13,14] (fun g:Nat×Abs.Rows=>⟨[(0,.im (.ref A 69 4 n)),(1,.im (.ref B 69 4 n)),(2,.im (.int s)),(6,.loc 6 4 0 0),(13,.im (.int n)),(14,.im (.int g.1))],(6,4,[fc (a s)])::g.2,[]⟩)
  (fun g=>g.1<=n/\blks g.2/\Abs.look g.2 (hp A)=some (4,tab n fun j=>qc (if j<g.1/\j≠s then a j-a s*row j else a j))/\∀k,k≠hp A->Abs.look g.2 k=Abs.look L k) (fun g=>n-g.1) (0,L) ?_ ?_ rfl ⟨zG _,hL,by simpa using hA,fun _ _=>rfl⟩ ?_
 ·simp only[Int.natCast_zero,go_sem]
 ·exact SubR.of_eq rfl
 ·intro⟨j,M⟩ ⟨hj,hM,hMA,hMo⟩;dsimp only at hj hM hMA hMo;have F2:=bF hM;have K2:=bK hM;have G2:=bN hM;have hMB:Abs.look M (hp B)=some (4,tab n fun j=>qc (row j)):=(hMo _ (fun e=>hAB (hp_inj.1 e).symm)).trans hB;by_cases hlt:j<n
  ·have hd:decide ((j:Int)<n)=true:=zk (by omega);have hjn:(j:Int)<n:=by omega
   have h1:=ja9 (n:=(j:Int)+1) (by omega);have hga:(tab n fun k=>qc (if k<j/\k≠s then a k-a s*row k else a k))[j]? =some (fc (a j)):=by
    rw[qget hlt,zp (by omega)]
   have hgb:=qget (f:=row) hlt;by_cases hjs:j=s
   ·have hd2:decide ((j:Int)=s)=true:=zk (by omega);simp only[hd,hd2,Int.toNat_natCast,F2,K2,go_sem];refine jae (j+1,M) ?_ ?_ rfl (by show n-(j+1)<n-j;omega) ⟨hlt,hM,hMA.trans ?_,hMo⟩
    ·simp only[h1,Int.natCast_add,go_sem]
    ·exact SubR.of_eq rfl
    ·congr 2;refine jaw fun k _=> ?_;have e:(k<j/\k≠s)↔(k<(j+1,M).1/\k≠s):=by dsimp only;omega
     simp only[e]
   ·have hd2:decide ((j:Int)=s)=false:=za (by omega);have kl:=x_less (ka j hlt |>.mono (by omega)) (ka s hs |>.mono (by omega)) (kr j hlt |>.mono (by omega));generalize hx:a j-a s*row j=x at*;simp only[frac,ints]at kl;simp only[hd,hd2,Int.toNat_natCast,F2,K2,go_sem];refine jam ?_;simp only[hMA,hMB,hga,hgb,hjn,jac,Int.toNat_natCast,F2,K2,G2,go_sem];refine ja6 kl (by decide) ?_;simp only[hMA,hMB,hga,hgb,hjn,jac,Int.toNat_natCast,F2,K2,G2,go_sem];refine jae (j+1,M.map (fun p=>if p.1=hp A then(p.1,4,(tab n fun k=>qc (if k<j/\k≠s then a k-a s*row k else a k)).set j (fc x))else p)) ?_ ?_ rfl (by show n-(j+1)<n-j;omega)
     ⟨hlt,jb5 hM,(jab hMA).trans ?_,fun k hk=>(jag hk).trans (hMo k hk)⟩
    ·simp only[h1,Int.natCast_add,go_sem]
    ·exact SubR.of_eq rfl
    ·rw[qset];congr 2;refine jaw fun k _=>qb qc ?_;by_cases e:k=j
     ·subst e;rw[zn rfl,zn ⟨by show k<k+1;omega,hjs⟩,hx]
     ·have e':(k<j/\k≠s)↔(k<j+1/\k≠s):=by omega
      rw[zp e];simp only[e']
  ·have hd:decide ((j:Int)<n)=false:=za (by omega);have hjn:j=n:=by omega
   subst hjn;have o1:=jcg 0 (by omega);have hga:(tab j fun k=>qc (if k<j/\k≠s then a k-a s*row k else a k))[s]? =some (fc (a s)):=by
    rw[qget hs,zp (by omega)]
   have hgb:=qget (f:=row) hs;have kl:=x_less (a:=((0:Int):Rat)) ((jcc (by omega)).mono (by omega)) (ka s hs |>.mono (by omega)) (kr s hs |>.mono (by omega));generalize hz:((0:Int):Rat)=z at*;generalize hx:z-a s*row s=x at*;simp only[frac,ints]at kl o1;simp only[hd,go_sem];refine jam ?_;simp only[F2,K2,G2,go_sem];refine ja6 o1 (by decide) ?_;simp only[hMA,hMB,hga,hgb,hs',h0,jac,Int.toNat_natCast,F2,K2,G2,go_sem];refine ja6 kl (by decide) ?_;simp only[hMA,hMB,hga,hgb,hs',h0,jac,Int.toNat_natCast,F2,K2,G2,go_sem];obtain⟨M',hM',hb,hl,ho⟩:∃M',M'=M.map (fun p=>if p.1=hp A then(p.1,4,(tab j fun k=>qc (if k<j/\k≠s then a k-a s*row k else a k)).set s (fc x))else p)/\blks M'/\
     Abs.look M' (hp A)=some (4,tab j fun j=>qc (tkF a row s j))/\∀k,k≠hp A->Abs.look M' k=Abs.look L k:=by
    refine⟨_,rfl,jb5 hM,(jab hMA).trans ?_,fun k hk=>(jag hk).trans (hMo k hk)⟩;rw[qset];congr 2;refine jaw fun k hk=>qb qc ?_;unfold tkF;by_cases e:k=s
    ·rw[zn e,zn e,<-hx,<-hz];rfl
    ·rw[zp e,zp e,zn ⟨hk,e⟩]
   refine jb8 M' hb (ja3 (by decide) hb (SubR.of_eq hM')) ?_;simp only[go_sem];exact⟨hb,hl,ho⟩
end
section
open Go.Abs
attribute [local go_sem] ints ic big frac fc
def x4:List IV:=[.int 0,.emp,.int 0,.emp]
theorem jht(n:Nat)(hn:n<=100000):
  CtrH G.P 180 [.im (.int n)] []
   (fun r L'=>∃b,r= .im (.ref b 69 4 n)/\blks L'/\Abs.look L' (hp b)=some (4,tab n fun _=>qc 0)/\∀k,k≠hp b->Abs.look L' k=none):=by
 have o1:=jcg 0 (by omega);rw[show((0:Int):Rat)=0 from rfl]at o1;simp only[frac,ints]at o1;refine jan [6] [] [.tmp 2] Tryz.func180 ?_;simp only[go_sem];refine⟨by omega,jfa (fun b hb=> ?_)⟩;clear hb;simp only[zN,go_sem];refine jaz [3,8,9] (fun g:Nat×Abs.Rows=>⟨[(3,.im (.ref b 69 4 n)),(8,.im (.int n)),(9,.im (.int g.1))],g.2,[]⟩)
  (fun g=>g.1<=n/\blks g.2/\Abs.look g.2 (hp b)=some (4,tab n fun k=>if k<g.1 then qc 0 else x4)/\∀k,k≠hp b->Abs.look g.2 k=none) (fun g=>n-g.1) (0,[(hp b,4,tab n fun _=>x4)]) ?_ ?_ rfl
  ⟨zG _,jaq jb0,by rw[ja2];simp,fun k hk=>by rw[ja0 _ _ hk];rfl⟩ ?_
 ·simp only[Int.natCast_zero,go_sem]
 ·exact SubR.of_eq (by rw[<-tab_replicate];rfl)
 ·intro⟨j,M⟩ ⟨hj,hM,hMA,hMo⟩;dsimp only at hj hM hMA hMo;have F2:=bF hM;have K2:=bK hM;have G2:=bN hM;by_cases hlt:j<n
  ·have hd:decide ((j:Int)<n)=true:=zk (by omega);have hjn:(j:Int)<n:=by omega
   have h1:=ja9 (n:=(j:Int)+1) (by omega);have hga:(tab n fun k=>if k<j then qc 0 else x4)[j]? =some [.int 0,.emp,.int 0,.emp]:=by rw[jga hlt,zp (by omega)];rfl
   simp only[hd,F2,K2,go_sem];refine ja1 o1 ?_;simp only[hMA,hga,hjn,jac,Int.toNat_natCast,F2,K2,G2,go_sem];refine jae (j+1,M.map (fun p=>if p.1=hp b then(p.1,4,(tab n fun k=>if k<j then qc 0 else x4).set j (fc 0))else p)) ?_ ?_ rfl (by show n-(j+1)<n-j;omega)
    ⟨hlt,jb5 hM,(jab hMA).trans ?_,fun k hk=>(jag hk).trans (hMo k hk)⟩
   ·simp only[h1,Int.natCast_add,go_sem]
   ·exact SubR.of_eq rfl
   ·rw[jn3];congr 2;refine jaw fun k _=> ?_;by_cases e:k=j
    ·subst e;rw[zn rfl,zn (by show k<k+1;omega)];rfl
    ·have e':(k<j)↔(k<j+1):=by omega
     rw[zp e];simp only[e']
  ·have hd:decide ((j:Int)<n)=false:=za (by omega);have hjn:j=n:=by omega
   subst hjn;have hl:Abs.look M (hp b)=some (4,tab j fun _=>qc 0):=hMA.trans (by congr 2;exact jaw fun k hk=>zn hk);simp only[hd,go_sem];refine jb8 M hM (SubR.of_eq rfl) ?_;simp only[go_sem];exact⟨b,rfl,hM,hl,hMo⟩
end
section
open Go.Abs
open Go.LP (Dic)
structure DN where
 (d r g o f s:Nat)
 a:Nat->Nat
def sl0(b e s k:Nat):IV:=if k=0 then .emp else .ref b e s k
def oc(k:Nat):List IV:=[.int (k:Int)]
def lineC(v:Rat)(b n:Nat):List IV:=fc v++[.ref b 69 4 n]
def srcC(s:Int×Bool):List IV:=[.int s.1,.bool s.2]
theorem jap{b e s k:Nat}(h:k≠0):sl0 b e s k= .ref b e s k:=zp h
theorem jb9{b e s:Nat}:sl0 b e s 0= .emp:=rfl
structure HasD(L:Abs.Rows)(nm:DN)(N:Nat)(D:Dic)(src:Nat->Int×Bool):Prop where
 blk:blks L
 nd:(nm.d::nm.r::nm.g::nm.o::nm.f::nm.s::tab D.m nm.a).Nodup
 hd:Abs.look L (hp nm.d)=some (6,[[.int N,sl0 nm.r 235 5 D.m,.ref nm.g 69 4 D.n,sl0 nm.o 3 1 D.m,sl0 nm.f 3 1 D.n,sl0 nm.s 246 2 D.m]])
 hg:Abs.look L (hp nm.g)=some (4,tab D.n fun j=>qc (D.g j))
 hr:D.m≠0->Abs.look L (hp nm.r)=some (5,tab D.m fun i=>lineC (D.v i) (nm.a i) D.n)
 ho:D.m≠0->Abs.look L (hp nm.o)=some (1,tab D.m fun i=>oc (D.own i))
 hf:D.n≠0->Abs.look L (hp nm.f)=some (1,tab D.n fun j=>oc (D.free j))
 hs:D.m≠0->Abs.look L (hp nm.s)=some (2,tab D.m fun i=>srcC (src i))
 ha:∀i,i<D.m->Abs.look L (hp (nm.a i))=some (4,tab D.n fun j=>qc (D.a i j))
section
variable{L L':Abs.Rows}{nm:DN}{N:Nat}{D:Dic}{src:Nat->Int×Bool}
structure DN.Ap(nm:DN)(m:Nat):Prop where
 dr:nm.d≠nm.r
 dg:nm.d≠nm.g
 d_o:nm.d≠nm.o
 df:nm.d≠nm.f
 ds:nm.d≠nm.s
 rg:nm.r≠nm.g
 ro:nm.r≠nm.o
 rf:nm.r≠nm.f
 rs:nm.r≠nm.s
 go:nm.g≠nm.o
 gf:nm.g≠nm.f
 gs:nm.g≠nm.s
 of':nm.o≠nm.f
 os:nm.o≠nm.s
 fs:nm.f≠nm.s
 da:∀i,i<m->nm.d≠nm.a i
 ra:∀i,i<m->nm.r≠nm.a i
 ga:∀i,i<m->nm.g≠nm.a i
 oa:∀i,i<m->nm.o≠nm.a i
 fa:∀i,i<m->nm.f≠nm.a i
 sa:∀i,i<m->nm.s≠nm.a i
 aa:∀i j,i<m->j<m->nm.a i=nm.a j->i=j
theorem ap_of{m:Nat}(h:(nm.d::nm.r::nm.g::nm.o::nm.f::nm.s::tab m nm.a).Nodup):nm.Ap m:=by
 simp only[qF,zT,not_or]at h;obtain⟨⟨h1,h2,h3,h4,h5,h6⟩,⟨g1,g2,g3,g4,g5⟩,⟨k1,k2,k3,k4⟩,⟨l1,l2,l3⟩,⟨m1,m2⟩,n1,o1⟩:=h;have no:∀{x:Nat},x∉tab m nm.a->∀i,i<m->x≠nm.a i:=fun hx i hi e=>hx (e▸mem_tab hi);exact⟨h1,h2,h3,h4,h5,g1,g2,g3,g4,k1,k2,k3,l1,l2,m1,no h6,no g5,no k4,no l3,no m2,no n1,fun i j hi hj e=>tab_nodup o1 hi hj e⟩
theorem HasD.ap(h:HasD L nm N D src):nm.Ap D.m:=ap_of h.nd
theorem hpne{a b:Nat}(h:a≠b):hp a≠hp b:=fun e=>h (hp_inj.1 e)
theorem HasD.withA(h:HasD L nm N D src)(hb:blks L'){i:Nat}(hi:i<D.m){f:Nat->Rat}(hl:Abs.look L' (hp (nm.a i))=some (4,tab D.n fun j=>qc (f j)))(ho:∀k,k≠hp (nm.a i)->Abs.look L' k=Abs.look L k):
  HasD L' nm N {D with a:=fun i'=>if i'=i then f else D.a i'} src:=by
 have ap:=h.ap;refine⟨hb,h.nd,?_,?_,fun hm=> ?_,fun hm=> ?_,fun hm=> ?_,fun hm=> ?_,fun i' hi'=> ?_⟩
 ·rw[ho _ (hpne (ap.da i hi))];exact h.hd
 ·rw[ho _ (hpne (ap.ga i hi))];exact h.hg
 ·rw[ho _ (hpne (ap.ra i hi))];exact h.hr hm
 ·rw[ho _ (hpne (ap.oa i hi))];exact h.ho hm
 ·rw[ho _ (hpne (ap.fa i hi))];exact h.hf hm
 ·rw[ho _ (hpne (ap.sa i hi))];exact h.hs hm
 ·by_cases e:i'=i
  ·subst e;dsimp only;rw[zn rfl];exact hl
  ·dsimp only;rw[zp e,ho _ (hpne fun e'=>e (ap.aa i' i hi' hi e'))];exact h.ha i' hi'
theorem HasD.withV(h:HasD L nm N D src)(hb:blks L'){v:Nat->Rat}(hl:Abs.look L' (hp nm.r)=some (5,tab D.m fun i=>lineC (v i) (nm.a i) D.n))(ho:∀k,k≠hp nm.r->Abs.look L' k=Abs.look L k):
  HasD L' nm N {D with v:=v} src:=by
 have ap:=h.ap;refine⟨hb,h.nd,?_,?_,fun hm=> ?_,fun hm=> ?_,fun hm=> ?_,fun hm=> ?_,fun i' hi'=> ?_⟩
 ·rw[ho _ (hpne ap.dr)];exact h.hd
 ·rw[ho _ (hpne ap.rg.symm)];exact h.hg
 ·exact hl
 ·rw[ho _ (hpne ap.ro.symm)];exact h.ho hm
 ·rw[ho _ (hpne ap.rf.symm)];exact h.hf hm
 ·rw[ho _ (hpne ap.rs.symm)];exact h.hs hm
 ·rw[ho _ (hpne (ap.ra i' hi').symm)];exact h.ha i' hi'
theorem HasD.withG(h:HasD L nm N D src)(hb:blks L'){g:Nat->Rat}(hl:Abs.look L' (hp nm.g)=some (4,tab D.n fun j=>qc (g j)))(ho:∀k,k≠hp nm.g->Abs.look L' k=Abs.look L k):
  HasD L' nm N {D with g:=g} src:=by
 have ap:=h.ap;refine⟨hb,h.nd,?_,?_,fun hm=> ?_,fun hm=> ?_,fun hm=> ?_,fun hm=> ?_,fun i' hi'=> ?_⟩
 ·rw[ho _ (hpne ap.dg)];exact h.hd
 ·exact hl
 ·rw[ho _ (hpne ap.rg)];exact h.hr hm
 ·rw[ho _ (hpne ap.go.symm)];exact h.ho hm
 ·rw[ho _ (hpne ap.gf.symm)];exact h.hf hm
 ·rw[ho _ (hpne ap.gs.symm)];exact h.hs hm
 ·rw[ho _ (hpne (ap.ga i' hi').symm)];exact h.ha i' hi'
theorem HasD.withO(h:HasD L nm N D src)(hb:blks L'){o:Nat->Nat}(hl:Abs.look L' (hp nm.o)=some (1,tab D.m fun i=>oc (o i)))(ho:∀k,k≠hp nm.o->Abs.look L' k=Abs.look L k):
  HasD L' nm N {D with own:=o} src:=by
 have ap:=h.ap;refine⟨hb,h.nd,?_,?_,fun hm=> ?_,fun hm=> ?_,fun hm=> ?_,fun hm=> ?_,fun i' hi'=> ?_⟩
 ·rw[ho _ (hpne ap.d_o)];exact h.hd
 ·rw[ho _ (hpne ap.go)];exact h.hg
 ·rw[ho _ (hpne ap.ro)];exact h.hr hm
 ·exact hl
 ·rw[ho _ (hpne ap.of'.symm)];exact h.hf hm
 ·rw[ho _ (hpne ap.os.symm)];exact h.hs hm
 ·rw[ho _ (hpne (ap.oa i' hi').symm)];exact h.ha i' hi'
theorem HasD.withF(h:HasD L nm N D src)(hb:blks L'){f:Nat->Nat}(hl:Abs.look L' (hp nm.f)=some (1,tab D.n fun i=>oc (f i)))(ho:∀k,k≠hp nm.f->Abs.look L' k=Abs.look L k):
  HasD L' nm N {D with free:=f} src:=by
 have ap:=h.ap;refine⟨hb,h.nd,?_,?_,fun hm=> ?_,fun hm=> ?_,fun hm=> ?_,fun hm=> ?_,fun i' hi'=> ?_⟩
 ·rw[ho _ (hpne ap.df)];exact h.hd
 ·rw[ho _ (hpne ap.gf)];exact h.hg
 ·rw[ho _ (hpne ap.rf)];exact h.hr hm
 ·rw[ho _ (hpne ap.of')];exact h.ho hm
 ·exact hl
 ·rw[ho _ (hpne ap.fs.symm)];exact h.hs hm
 ·rw[ho _ (hpne (ap.fa i' hi').symm)];exact h.ha i' hi'
theorem HasD.sub(h:HasD L nm N D src)(hb:blks L')(hs:SubR L L'):HasD L' nm N D src:=
 ⟨hb,h.nd,hs _ _ h.hd,hs _ _ h.hg,fun hm=>hs _ _ (h.hr hm),fun hm=>hs _ _ (h.ho hm),fun hm=>hs _ _ (h.hf hm),fun hm=>hs _ _ (h.hs hm),fun i hi=>hs _ _ (h.ha i hi)⟩
theorem lget{i m:Nat}{v:Nat->Rat}{A:Nat->Nat}{n:Nat}(h:i<m):(tab m fun i=>lineC (v i) (A i) n)[i]? =some [.int (v i).num.sign,.sl ((dig (v i).num.natAbs).map ic),.int ((v i).den:Int).sign,.sl ((dig ((v i).den:Int).natAbs).map ic),.ref (A i) 69 4 n]:=jga h
theorem oget{i m:Nat}{o:Nat->Nat}(h:i<m):(tab m fun i=>oc (o i))[i]? =some [.int (o i:Int)]:=jga h
theorem sget{i m:Nat}{o:Nat->Int×Bool}(h:i<m):(tab m fun i=>srcC (o i))[i]? =some [.int (o i).1,.bool (o i).2]:=jga h
end
end
section
open Go.Abs
open Go.LP (Dic)
attribute [local go_sem] ints ic big frac fc
def jc2(vars:Nat->Nat)(ch:Nat->Bool):Nat->Int
 | 0=> -1
 | k+1=>if(ch k&&(decide (jc2 vars ch k<0) || decide (vars k<vars (jc2 vars ch k).toNat)))=true then(k:Int)else jc2 vars ch k
theorem jdo(vars:Nat->Nat)(ch:Nat->Bool):∀k,-1<=jc2 vars ch k/\jc2 vars ch k<k
 | 0=>by simp[jc2]
 | k+1=>by
  have:=jdo vars ch k;rw[jc2];split<;>omega
theorem jd5{vars:Nat->Nat}{ch:Nat->Bool}:∀{k},jc2 vars ch k<0->∀i,i<k->ch i=false
 | k+1,h,i,hi=>by
  rw[jc2]at h;split at h
  ·omega
  ·rename_i hc;rcases vf (vk hi)with h1 | h1
   ·exact jd5 h i h1
   ·subst h1;rw[zk h,zM,Bool.and_true]at hc
    simpa using hc
theorem jdi{vars:Nat->Nat}{ch:Nat->Bool}:∀{k},0<=jc2 vars ch k->ch (jc2 vars ch k).toNat=true/\∀i,i<k->ch i=true->vars (jc2 vars ch k).toNat<=vars i
 | 0,h=>by simp[jc2]at h
 | k+1,h=>by
  have hl:=jdo vars ch k;rw[jc2]at h⊢;split at h
  ·rename_i hc;rw[zn hc,Int.toNat_natCast];rw[zB,qG,zU,zU]at hc;refine⟨hc.1,fun i hi hch=> ?_⟩;rcases vf (vk hi)with h1 | h1
   ·rcases hc.2 with h2 | h2
    ·rw[jd5 h2 i h1]at hch;cases hch
    ·by_cases h0:0<=jc2 vars ch k
     ·have:=(jdi h0).2 i h1 hch;omega
     ·rw[jd5 (vars:=vars) (ch:=ch) (k:=k) (by omega) i h1]at hch;cases hch
   ·subst h1;exact zu _
  ·rename_i hc;rw[zp hc];obtain⟨h1,h2⟩:=jdi h;refine⟨h1,fun i hi hch=> ?_⟩;rcases vf (vk hi)with h3 | h3
   ·exact h2 i h3 hch
   ·subst h3;rw[hch,qx,qG,zU,zU]at hc;omega
theorem caps_toH(caps:List IV):(caps.map AV.im).map AV.toH=caps.map AV.im:=by simp[AV.toH,Function.comp_def]
theorem jg8(L:Abs.Rows)(O m:Nat)(vars:Nat->Nat)(ch:Nat->Bool)(g:Nat)(caps:List IV)(hg:3<=g/\g<G.fns)(hL:blks L)(hO:m≠0->Abs.look L (hp O)=some (1,tab m fun i=>oc (vars i)))(hm:m<=100000)(hv:∀i,i<m->vars i<=1000000)
  (hc:∀i,i<m->CtrH G.P g (.im (.int (i:Int))::caps.map .im) L (fun r L'=>r= .im (.bool (ch i))/\L'=L)):
  CtrH G.P 182 [.im (sl0 O 3 1 m),.im (.clo g caps)] L (fun r L'=>r= .im (.int (jc2 vars ch m))/\L'=L):=by
 have F1:=bF hL;have K1:=bK hL;have G1:=bN hL;rcases yE m with h0 | h0
 ·subst h0;rw[jb9];refine jan [] [] [.tmp 4] Tryz.func182 ?_;simp only[F1,K1,go_sem];refine jaz [5,10,9] (fun g:Unit=>⟨[(5,.im (.int (-1))),(10,.im (.int 0)),(9,.im (.int 0))],L,[]⟩) (fun _=>True) (fun _=>0) () ?_ ?_ rfl trivial ?_
  ·simp only[go_sem]
  ·exact SubR.of_eq rfl
  ·intro _ _;simp only[go_sem];refine jb8 L hL (SubR.of_eq rfl) ?_;simp only[jc2,go_sem]
 ·rw[jap (by omega)];have hO:=hO (by omega);refine jan [] [] [.tmp 4] Tryz.func182 ?_;simp only[F1,K1,go_sem];refine jaz [0,1,5,8,9,10] (fun k:Nat=>⟨[(0,.im (.ref O 3 1 m)),(1,.im (.clo g caps)),(5,.im (.int (jc2 vars ch k))),(8,.im (.ref O 3 1 m)),(9,.im (.int m)),(10,.im (.int k))],L,[]⟩)
   (fun k=>k<=m) (fun k=>m-k) 0 ?_ ?_ rfl (zG _) ?_
  ·simp only[Int.natCast_zero,jc2,go_sem]
  ·exact SubR.of_eq rfl
  ·intro k hk;by_cases hlt:k<m
   ·have hd:decide ((k:Int)<m)=true:=zk (by omega);have hkm:(k:Int)<m:=by omega
    have h1:=ja9 (n:=(k:Int)+1) (by omega);have hlf:=jdo vars ch k;have hgk:=oget (o:=vars) hlt;have hck:=hc k hlt;have hls:jc2 vars ch (k+1)=if(ch k&&(decide (jc2 vars ch k<0) || decide (vars k<vars (jc2 vars ch k).toNat)))=true then(k:Int)else jc2 vars ch k:=rfl
    generalize hr0:jc2 vars ch k=r0 at*;have hgr:0<=r0->(tab m fun i=>oc (vars i))[r0.toNat]? =some [.int (vars r0.toNat:Int)]:=fun h=>oget (by omega);have hv1:=hv k hlt;generalize ch k=c at*;have hw: -9223372036854775808<=(k:Int)+1:=by omega
    simp only[hd,hO,hgk,hkm,jac,Int.toNat_natCast,F1,K1,G1,go_sem];refine jcx hck hg (by rw[qp,caps_toH];rfl) hL (SubR.of_eq rfl) ?_;rintro r L' ⟨rfl,rfl⟩ hfr;refine⟨L',jbu,?_⟩;cases c
    ·rw[qa,zp qV]at hls;simp only[hd,hO,hgk,hkm,jac,Int.toNat_natCast,F1,K1,G1,go_sem];refine jae (k+1) ?_ (SubR.of_eq rfl) rfl (by omega) hlt;simp only[h1,hls,Int.natCast_add,go_sem]
    ·rw[qx]at hls;by_cases hneg:r0<0
     ·have hd1:decide (r0<0)=true:=zk hneg;rw[hd1,zM,zn rfl]at hls;simp only[hd,hd1,hO,hgk,hkm,jac,Int.toNat_natCast,F1,K1,G1,go_sem];refine jae (k+1) ?_ (SubR.of_eq rfl) rfl (by omega) hlt;simp only[h1,hls,Int.natCast_add,go_sem]
     ·have hd1:decide (r0<0)=false:=za hneg;have hgr:=hgr (by omega);have hr1:0<=r0:=by omega
      have hr2:r0<m:=by omega
      rw[hd1,yq]at hls;by_cases hlt2:vars k<vars r0.toNat
      ·have hd2:decide ((vars k:Int)<vars r0.toNat)=true:=zk (by omega);rw[zk hlt2,zn rfl]at hls;simp only[hd,hd1,hd2,hO,hgk,hgr,hr1,hr2,hkm,jac,Int.toNat_natCast,F1,K1,G1,go_sem];refine jae (k+1) ?_ (SubR.of_eq rfl) rfl (by omega) hlt;simp only[h1,hls,Int.natCast_add,go_sem]
      ·have hd2:decide ((vars k:Int)<vars r0.toNat)=false:=za (by omega);rw[za hlt2,zp qV]at hls;simp only[hd,hd1,hd2,hO,hgk,hgr,hr1,hr2,hkm,jac,Int.toNat_natCast,F1,K1,G1,go_sem];refine jae (k+1) ?_ (SubR.of_eq rfl) rfl (by omega) hlt;simp only[h1,hls,Int.natCast_add,go_sem]
   ·have hd:decide ((k:Int)<m)=false:=za (by omega);have hkm:k=m:=by omega
    subst hkm;simp only[hd,go_sem];refine jb8 L hL (SubR.of_eq rfl) ?_;simp only[go_sem]
end
section
open Go.Abs
open Go.LP (Dic)
attribute [local go_sem] ints ic big frac fc
section
variable{L:Abs.Rows}{nm:DN}{N:Nat}{D:Dic}{src:Nat->Int×Bool}
theorem x_c1(h:HasD L nm N D src){i:Nat}(hi:i<D.m):
  CtrH G.P 183 [.im (.int i),.im (.ip [.pr nm.d 6 0 0] 0)] L (fun r L'=>r= .im (.bool (decide (D.v i<0)))/\L'=L):=by
 have hb:=h.blk;have F1:=bF hb;have G1:=bN hb;have h1:=h.hd;have h2:=h.hr (by omega);have hm0:D.m≠0:=by omega
 have hi':(i:Int)<D.m:=by omega
 have hg:=lget (v:=D.v) (A:=nm.a) (n:=D.n) hi;have e:decide (D.v i<0)=decide ((D.v i).num.sign<0):=yy.2 sign_neg.symm;rw[e];refine jan [] [] [.tmp 3] Tryz.func183 ?_;simp only[h1,h2,hg,hi',jap hm0,jac,Int.toNat_natCast,F1,G1,go_sem];refine jb8 L hb (SubR.of_eq rfl) ?_;simp only[go_sem]
theorem x_c2(h:HasD L nm N D src){j:Nat}(hj:j<D.n):
  CtrH G.P 184 [.im (.int j),.im (.ip [.pr nm.d 6 0 0] 0)] L (fun r L'=>r= .im (.bool (decide (0<D.g j)))/\L'=L):=by
 have hb:=h.blk;have F1:=bF hb;have G1:=bN hb;have h1:=h.hd;have h2:=h.hg;have hj':(j:Int)<D.n:=by omega
 have hg:=qget (f:=D.g) hj;have e:decide (0<D.g j)=decide (0<(D.g j).num.sign):=yy.2 sign_pos.symm;rw[e];refine jan [] [] [.tmp 3] Tryz.func184 ?_;simp only[h1,h2,hg,hj',jac,Int.toNat_natCast,F1,G1,go_sem];refine jb8 L hb (SubR.of_eq rfl) ?_;simp only[go_sem]
theorem x_c3(h:HasD L nm N D src){r:Nat}(hr:r<D.m){j:Nat}(hj:j<D.n):
  CtrH G.P 185 [.im (.int j),.im (.ip [.pr nm.d 6 0 0] 0),.im (.ip [.int (r:Int)] 0)] L (fun x L'=>x= .im (.bool (decide (D.a r j<0)))/\L'=L):=by
 have hb:=h.blk;have F1:=bF hb;have G1:=bN hb;have h1:=h.hd;have h2:=h.hr (by omega);have h3:=h.ha r hr;have hm0:D.m≠0:=by omega
 have hr':(r:Int)<D.m:=by omega
 have hj':(j:Int)<D.n:=by omega
 have hg:=lget (v:=D.v) (A:=nm.a) (n:=D.n) hr;have hg2:=qget (f:=D.a r) hj;have e:decide (D.a r j<0)=decide ((D.a r j).num.sign<0):=yy.2 sign_neg.symm;rw[e];refine jan [] [] [.tmp 4] Tryz.func185 ?_;simp only[F1,go_sem];refine jai 15 ?_;simp only[h1,h2,h3,hg,hg2,hr',hj',jap hm0,jac,Int.toNat_natCast,F1,G1,go_sem];refine jb8 L hb (SubR.of_eq rfl) ?_;simp only[go_sem]
theorem x_c4(h:HasD L nm N D src){s:Nat}(hs:s<D.n){i:Nat}(hi:i<D.m):
  CtrH G.P 186 [.im (.int i),.im (.ip [.pr nm.d 6 0 0] 0),.im (.ip [.int (s:Int)] 0)] L (fun x L'=>x= .im (.bool (decide (0<D.a i s)))/\L'=L):=by
 have hb:=h.blk;have F1:=bF hb;have G1:=bN hb;have h1:=h.hd;have h2:=h.hr (by omega);have h3:=h.ha i hi;have hm0:D.m≠0:=by omega
 have hi':(i:Int)<D.m:=by omega
 have hs':(s:Int)<D.n:=by omega
 have hg:=lget (v:=D.v) (A:=nm.a) (n:=D.n) hi;have hg2:=qget (f:=D.a i) hs;have e:decide (0<D.a i s)=decide (0<(D.a i s).num.sign):=yy.2 sign_pos.symm;rw[e];refine jan [] [] [.tmp 4] Tryz.func186 ?_;simp only[F1,go_sem];refine jai 15 ?_;simp only[h1,h2,h3,hg,hg2,hi',hs',jap hm0,jac,Int.toNat_natCast,F1,G1,go_sem];refine jb8 L hb (SubR.of_eq rfl) ?_;simp only[go_sem]
