/- A part of the proof. No further condition. -/
import Derived.Test.YthahgoopboilkaaGreatKE29
set_option linter.all false
set_option maxRecDepth 10000000
set_option maxHeartbeats 16000000
namespace Go.Proofs.YthahgoopboilkaaGreat
section
open Go.Abs
attribute [local go_sem] Evid.iv Evid.c Move.c Place.c ints ic big frac fc
structure Raw where
 s:Int
 l:List Int
 t:Int
 m:List Int
def Raw.c(x:Raw):List IV:=[.int x.s,.sl (x.l.map ic),.int x.t,.sl (x.m.map ic)]
attribute [local go_sem] Raw.c
def rowC(l:List Raw):List IV:=[.sl (l.map Raw.c)]
def hist(h:List (List Raw)):IV:= .sl (h.map rowC)
def Raw.ok(x:Raw):Bool:=fracF x.s x.l x.t x.m
def rowOk(e:Evid)(l:List Raw):Bool:=decide ((l.length:Int)=e.mats)&&l.all Raw.ok
def jdg(e:Evid)(h:List (List Raw)):Bool:=decide ((h.length:Int)=e.moves.length)&&h.all (rowOk e)
theorem js3(e:Evid)(h:List (List Raw))(hl:h.length<=100000)(hr:∀l∈h,l.length<=100000)(hx:∀l∈h,∀x∈l,x.l.length<=50000000000/\x.m.length<=50000000000):
  Ctr G.P 39 [e.iv,hist h] (· = .bool (jdg e h)):=by
 unfold hist;rcases d0:decide ((h.length:Int)=e.moves.length)with _ | _
 ·have hs:jdg e h=false:=by simp only[jdg,d0,qp]
  rw[hs];refine ja5 [.tmp 4] Tryz.func39 ?_;unfold Evid.iv Evid.c;simp only[d0,go_sem]
 ·have hs:jdg e h=h.all (rowOk e):=by simp only[jdg,d0,qe]
  rw[hs];refine ja5 [.tmp 4] Tryz.func39 ?_;unfold Evid.iv Evid.c;simp only[d0,go_sem];refine jal [2,15,16,17] [2] (fun i:Nat=>⟨[(2,.loc 2 8 0 0),(15,.im (.sl (h.map rowC))),(16,.im (.int h.length)),(17,.im (.int i))],[(2,8,[e.c])],[]⟩)
   (fun i=>i<=h.length/\(h.take i).all (rowOk e)=true) (fun i=>h.length-i) 0 ?_ ⟨zE _,rfl⟩ ?_
  ·simp only[Int.natCast_zero,go_sem]
  ·intro i ⟨hi,ha⟩;by_cases hp:(i:Int)<h.length
   ·have hd:decide ((i:Int)<h.length)=true:=za hp;obtain⟨l,hxl⟩:=jby hp;have h1:=ja9 (n:=(i:Int)+1) (by omega);have hat:=jc4 (f:=rowOk e) hxl;have hll:=hr l (zk hxl);have hxx:=hx l (zk hxl);rcases d1:decide ((l.length:Int)=e.mats)with _ | _
    ·have hno:rowOk e l=false:=by simp only[rowOk,d1,qp]
     rw[jes hxl hno];simp only[hd,ze,hxl,rowC,d1,go_sem]
    ·simp only[hd,ze,hxl,rowC,d1,go_sem];refine jal [2,15,16,17,26,27,28] [2] (fun j:Nat=>⟨[(2,.loc 2 8 0 0),(15,.im (.sl (h.map rowC))),(16,.im (.int h.length)),(17,.im (.int i)),(26,.im (.sl (l.map Raw.c))),(27,.im (.int l.length)),(28,.im (.int j))],[(2,8,[e.c])],[]⟩)
      (fun j=>j<=l.length/\(l.take j).all Raw.ok=true) (fun j=>l.length-j) 0 ?_ ⟨zE _,rfl⟩ ?_
     ·simp only[Int.natCast_zero,go_sem]
     ·intro j ⟨hj,hb⟩;by_cases hq:(j:Int)<l.length
      ·have hd2:decide ((j:Int)<l.length)=true:=za hq;obtain⟨y,hy⟩:=jby hq;have h2:=ja9 (n:=(j:Int)+1) (by omega);have hbt:=jc4 (f:=Raw.ok) hy;obtain⟨y1,y2⟩:=hxx y (zk hy);have ht:=jf5 y.s y.t y.l y.m y1 y2;simp only[ints]at ht;rcases ok:y.ok with _ | _
       ·have hno:rowOk e l=false:=by simp only[rowOk,jes hy ok,yq]
        rw[show fracF y.s y.l y.t y.m=false from ok]at ht;rw[jes hxl hno];simp only[hd2,ze,hy,go_sem];refine ja1 ht ?_;simp only[go_sem]
       ·rw[show fracF y.s y.l y.t y.m=true from ok]at ht;simp only[hd2,ze,hy,go_sem];refine ja1 ht ?_;simp only[go_sem];refine jab (j+1) ?_ (by omega) ⟨by omega,by rw[hbt,hb,ok];rfl⟩;simp only[h2,Int.natCast_add,go_sem]
      ·have hd2:decide ((j:Int)<l.length)=false:=zq hq;rw[zt (by omega)]at hb;have hyes:rowOk e l=true:=by simp only[rowOk,d1,hb,Bool.and_self]
       simp only[hd2,go_sem];refine jab (i+1) ?_ (by omega) ⟨by omega,by rw[hat,ha,hyes];rfl⟩;simp only[h1,Int.natCast_add,go_sem]
   ·have hd:decide ((i:Int)<h.length)=false:=zq hp;rw[zt (by omega)]at ha;rw[ha];simp only[hd,go_sem]
def stC(r:List Rat):List IV:=[.sl (r.map fc)]
def gtP(p:Rat×Rat):Bool:=decide (cmpR p.1 p.2=1)
def ltP(p:Rat×Rat):Bool:=decide (cmpR p.1 p.2= -1)
def jfr(kind:Int)(a:List Rat)(x:Move)(l:List Rat):Int:=if kind=0 then 0 else if(l.zip a).any gtP=true then 4 else if((l.zip a).any ltP&&x.all)=true then 7 else 0
end
section
open Go.Abs
open Go.LP (Dic Rw RT Ov OvRw tsum Sol)
attribute [local go_sem] frac fc ints ic
end
section
open Go.Abs
open Go.LP (Rw RT Ov OvRw tsum)
def sgnF(fr:Int)(y:Move):Int:=if y.fr=fr then-1 else if y.to=fr then 1 else 0
def jah(M:Nat)(fr:Int)(mat:Nat)(ms:List Move):Nat->List (Nat×Rat)
 | 0=>[]
 | i+1=>match ms[i]? with
  | some y=>if sgnF fr y=0 then jah M fr mat ms i else jah M fr mat ms i++[(i*M+mat,((sgnF fr y:Int):Rat))]
  | none=>jah M fr mat ms i
def coF(b own more:Int)(k:Nat):Int:=if(k:Int)=own then b+more else b
def sumT(M mv:Nat)(b own more:Int):Nat->List (Nat×Rat)
 | 0=>[]
 | k+1=>if coF b own more k=0 then sumT M mv b own more k else sumT M mv b own more k++[(mv*M+k,((coF b own more k:Int):Rat))]
def jdr(M:Nat)(ms:List Move)(mv:Nat)(x:Move):Nat->List Rw
 | 0=>[]
 | mat+1=>jdr M ms mv x mat++[⟨jah M x.fr mat ms (mv+1),if x.all=true then 2 else 0,0⟩]
def je3(e:Evid)(M mv:Nat)(x:Move):List Rw:=
 if x.scale= -1 then []else match ivlF e.certs e.recalls x.scale x.reading x.day with
  | some (lo,hi)=>[⟨sumT M mv 1 (-1) 0 M,0,lo⟩,⟨sumT M mv 1 (-1) 0 M,1,hi⟩]
  | none=>[]
def pur1(M mv:Nat)(p:Purity):List Rw:=if p.move=(mv:Int)then [⟨sumT M mv (-p.least) p.mat 1000 M,0,0⟩,⟨sumT M mv p.most p.mat (-1000) M,0,0⟩]else []
def purR(M mv:Nat)(ps:List Purity):List Rw:=ps.flatMap (pur1 M mv)
def binF(e:Evid)(x:Move):Bool:=(e.places[x.fr.toNat]?).elim false fun p=>decide (p.kind=0)
def moveR(e:Evid)(M mv:Nat)(x:Move):List Rw:=(if binF e x=true then []else jdr M e.moves mv x M)++je3 e M mv x++purR M mv e.purs
def rowsU(e:Evid)(M:Nat):Nat->List Rw
 | 0=>[]
 | i+1=>match e.moves[i]? with
  | some x=>rowsU e M i++moveR e M i x
  | none=>rowsU e M i
def rowsE(e:Evid):List Rw:=rowsU e e.mats.toNat e.moves.length
theorem mem_rowsU{e:Evid}{M:Nat}{w:Rw}:∀{i:Nat},w∈rowsU e M i↔∃k x,k<i/\e.moves[k]? =some x/\w∈moveR e M k x
 | 0=>by simp[rowsU]
 | i+1=>by
  rw[rowsU];cases hg:e.moves[i]? with
  | none=>
   rw[mem_rowsU];constructor
   ·rintro⟨k,x,h1,h2⟩;exact⟨k,x,by omega,h2⟩
   ·rintro⟨k,x,h1,h2,h3⟩;refine⟨k,x,?_,h2,h3⟩;have:k≠i:=fun e=>by subst e;rw[hg]at h2;cases h2
    omega
  | some y=>
   simp only[qu,mem_rowsU];constructor
   ·rintro(⟨k,x,h1,h2⟩ | h)
    ·exact⟨k,x,by omega,h2⟩
    ·exact⟨i,y,by omega,hg,h⟩
   ·rintro⟨k,x,h1,h2,h3⟩;by_cases e1:k=i
    ·subst e1;rw[hg]at h2;cases h2;exact .inr h3
    ·exact .inl ⟨k,x,by omega,h2,h3⟩
theorem mem_stockR{M:Nat}{ms:List Move}{mv:Nat}{x:Move}{w:Rw}:∀{k:Nat},w∈jdr M ms mv x k↔∃mat,mat<k/\w=⟨jah M x.fr mat ms (mv+1),if x.all=true then 2 else 0,0⟩
 | 0=>by simp[jdr]
 | k+1=>by
  rw[jdr];simp only[qu,mem_stockR,zF];constructor
  ·rintro(⟨mat,h1,h2⟩ | h)
   ·exact⟨mat,by omega,h2⟩
   ·exact⟨k,by omega,h⟩
  ·rintro⟨mat,h1,h2⟩;by_cases e1:mat=k
   ·subst e1;exact .inr h2
   ·exact .inl ⟨mat,by omega,h2⟩
theorem RT_up:∀{ts:List (Nat×Rat)} {lo N N':Nat},RT ts lo N->N<=N'->RT ts lo N'
 | [],_,_,_,_,_=>trivial
 | t::ts,lo,N,N',h,hN=>⟨h.1,by have:=h.2.1;omega,h.2.2.1,RT_up h.2.2.2 hN⟩
theorem jod{t:Nat×Rat}{N:Nat}:∀{ts:List (Nat×Rat)} {lo k:Nat},RT ts lo k->lo<=t.1->k<=t.1->t.1<N->t.2≠0->RT (ts++[t]) lo N
 | [],_,_,_,h1,_,h3,h4=>⟨h1,h3,h4,trivial⟩
 | u::ts,lo,k,h,h1,h2,h3,h4=>⟨h.1,by have:=h.2.1;omega,h.2.2.1,jod h.2.2.2 (by have:=h.2.1;omega) h2 h3 h4⟩
theorem cast_ne{z:Int}(h:z≠0):(z:Rat)≠0:=fun e=>h (Rat.intCast_eq_zero_iff.1 e)
theorem jst{M:Nat}{fr:Int}{mat:Nat}{ms:List Move}(hm:mat<M):∀i,RT (jah M fr mat ms i) 0 (i*M)
 | 0=>trivial
 | i+1=>by
  have ih:=jst (fr:=fr) (ms:=ms) hm i;have e1:(i+1)*M=i*M+M:=yB i M;rw[jah];split
  ·split
   ·exact RT_up ih (by omega)
   ·rename_i h;refine jod ih (zE _) ?_ ?_ (cast_ne h)
    ·show i*M<=i*M+mat;omega
    ·show i*M+mat<(i+1)*M;omega
  ·exact RT_up ih (by omega)
theorem RT_sum{M mv:Nat}{b own more:Int}:∀k,RT (sumT M mv b own more k) (mv*M) (mv*M+k)
 | 0=>trivial
 | k+1=>by
  have ih:=RT_sum (M:=M) (mv:=mv) (b:=b) (own:=own) (more:=more) k;rw[sumT];split
  ·exact RT_up ih (by omega)
  ·rename_i h;refine jod ih ?_ ?_ ?_ (cast_ne h)
   ·show mv*M<=mv*M+k;omega
   ·show mv*M+k<=mv*M+k;omega
   ·show mv*M+k<mv*M+(k+1);omega
theorem joc{M mv n:Nat}{b own more:Int}(h:mv<n):RT (sumT M mv b own more M) 0 (n*M):=by
 have h1:=RT.mono (RT_sum (M:=M) (mv:=mv) (b:=b) (own:=own) (more:=more) M) (zE _);refine RT_up h1 ?_;have:(mv+1)*M<=n*M:=qy M h;rw[yB]at this;exact this
theorem rows_ok{e:Evid}(w:Rw)(hw:w∈rowsE e):w.Ok (e.moves.length*e.mats.toNat):=by
 obtain⟨k,x,hk,hx,hw⟩:=mem_rowsU.1 hw;unfold moveR at hw;simp only[qu]at hw;have hN:(k+1)*e.mats.toNat<=e.moves.length*e.mats.toNat:=qy _ hk;rcases hw with (hw | hw) | hw
 ·split at hw
  ·cases hw
  ·obtain⟨mat,h1,rfl⟩:=mem_stockR.1 hw;refine⟨RT_up (jst h1 (k+1)) hN,?_⟩;dsimp only;split<;>omega
 ·unfold je3 at hw;split at hw
  ·cases hw
  ·split at hw
   ·rcases zS.1 hw with rfl | hw
    ·exact⟨joc hk,by dsimp only;omega⟩
    ·rcases zS.1 hw with rfl | hw
     ·exact⟨joc hk,by dsimp only;omega⟩
     ·cases hw
   ·cases hw
 ·unfold purR at hw;obtain⟨p,_,hw⟩:=jJ.1 hw;unfold pur1 at hw;split at hw
  ·rcases zS.1 hw with rfl | hw
   ·exact⟨joc hk,by dsimp only;omega⟩
   ·rcases zS.1 hw with rfl | hw
    ·exact⟨joc hk,by dsimp only;omega⟩
    ·cases hw
  ·cases hw
end
section
open Go.Abs
open Go.LP (Rw RT tsum)
attribute [local go_sem] ints ic big frac fc rwC tmC Evid.c Place.c Move.c Cert.c Recall.c Purity.c
structure MN where
 (d r o:Nat)
def OgOk(e:Evid)(w:Rw)(c:List IV):Prop:=∃(k mt ix:Int) (n:Nat) (x:Move),c=[.int k,.int (n:Int),.int mt,.int ix]/\e.moves[n]? =some x/\
 ((k=0/\binF e x=false/\w∈jdr e.mats.toNat e.moves n x e.mats.toNat)\/
  (k=1/\x.scale≠ -1/\∃lo hi,ivlF e.certs e.recalls x.scale x.reading x.day=some (lo,hi)/\w=⟨sumT e.mats.toNat n 1 (-1) 0 e.mats.toNat,0,lo⟩)\/
  (k=2/\x.scale≠ -1/\∃lo hi,ivlF e.certs e.recalls x.scale x.reading x.day=some (lo,hi)/\w=⟨sumT e.mats.toNat n 1 (-1) 0 e.mats.toNat,1,hi⟩)\/
  ((k=3\/k=4)/\w∈purR e.mats.toNat n e.purs))
section
variable{e:Evid}{M mv i:Nat}{x:Move}{lo hi:Rat}
theorem OgOk.low(hM:e.mats=(M:Int))(hx:e.moves[mv]? =some x)(hs:x.scale≠ -1)(hr:ivlF e.certs e.recalls x.scale x.reading x.day=some (lo,hi)):
  OgOk e ⟨sumT M mv 1 (-1) 0 M,0,lo⟩ [.int 1,.int (mv:Int),.int (-1),.int (-1)]:=by
 obtain rfl:e.mats.toNat=M:=by omega
 exact⟨1,-1,-1,mv,x,rfl,hx,.inr (.inl ⟨rfl,hs,lo,hi,hr,rfl⟩)⟩
theorem OgOk.high(hM:e.mats=(M:Int))(hx:e.moves[mv]? =some x)(hs:x.scale≠ -1)(hr:ivlF e.certs e.recalls x.scale x.reading x.day=some (lo,hi)):
  OgOk e ⟨sumT M mv 1 (-1) 0 M,1,hi⟩ [.int 2,.int (mv:Int),.int (-1),.int (-1)]:=by
 obtain rfl:e.mats.toNat=M:=by omega
 exact⟨2,-1,-1,mv,x,rfl,hx,.inr (.inr (.inl ⟨rfl,hs,lo,hi,hr,rfl⟩))⟩
theorem OgOk.pur{p:Purity}{w:Rw}{k:Int}(hM:e.mats=(M:Int))(hx:e.moves[mv]? =some x)(hp:e.purs[i]? =some p)(hm:p.move=(mv:Int))(hk:k=3\/k=4)
  (hw:w=⟨sumT M mv (-p.least) p.mat 1000 M,0,0⟩\/w=⟨sumT M mv p.most p.mat (-1000) M,0,0⟩):OgOk e w [.int k,.int (mv:Int),.int (-1),.int (i:Int)]:=by
 obtain rfl:e.mats.toNat=M:=by omega
 refine⟨k,-1,i,mv,x,rfl,hx,.inr (.inr (.inr ⟨hk,jJ.2 ⟨p,zk hp,?_⟩⟩))⟩;unfold pur1;rw[zm hm];rcases hw with rfl | rfl<;>simp
theorem OgOk.stock{kd:Int}(hM:e.mats=(M:Int))(hx:e.moves[mv]? =some x)(hb:binF e x=false)(hi:i<M)(hk:kd=if x.all=true then 2 else 0):
  OgOk e ⟨jah M x.fr i e.moves (mv+1),kd,0⟩ [.int 0,.int (mv:Int),.int (i:Int),.int (-1)]:=by
 obtain rfl:e.mats.toNat=M:=by omega
 subst hk;exact⟨0,i,-1,mv,x,rfl,hx,.inl ⟨rfl,hb,mem_stockR.2 ⟨i,hi,rfl⟩⟩⟩
end
structure HasM(L:Abs.Rows)(nm:MN)(e:Evid)(ws:List Rw)(os:List (List IV)):Prop where
 blk:blks L
 dr:ws.length≠0->nm.d≠nm.r
 d_o:ws.length≠0->nm.d≠nm.o
 ro:ws.length≠0->nm.r≠nm.o
 len:os.length=ws.length
 o4:∀c∈os,c.length=4
 og:∀(i:Nat) (w:Rw) (c:List IV),ws[i]? =some w->os[i]? =some c->OgOk e w c
 hd:Abs.look L (hp nm.d)=some (10,[e.c++[sl0 nm.r 242 6 ws.length,sl0 nm.o 239 4 ws.length]])
 hr:ws.length≠0->Abs.look L (hp nm.r)=some (6,ws.map rwC)
 ho:ws.length≠0->Abs.look L (hp nm.o)=some (4,os)
theorem HasM.sub{L L':Abs.Rows}{nm:MN}{e:Evid}{ws:List Rw}{os:List (List IV)}(h:HasM L nm e ws os)(hb:blks L')(hs:SubR L L'):HasM L' nm e ws os:=
 ⟨hb,h.dr,h.d_o,h.ro,h.len,h.o4,h.og,hs _ _ h.hd,fun hw=>hs _ _ (h.hr hw),fun hw=>hs _ _ (h.ho hw)⟩
theorem jg1{L R:Abs.Rows}{b X:Nat}{v:Nat×List (List IV)}(hs:SubR L R)(hb:Abs.look L (hp b)=none)(hX:Abs.look (Abs.del R (hp b)) (hp X)=none):
  SubR L ((hp X,v)::Abs.del R (hp b))/\Abs.look L (hp X)=none:=by
 have hl:∀k x,Abs.look L k=some x->Abs.look (Abs.del R (hp b)) k=some x:=fun k x hk=>by
  rw[ja7 _ (fun e=>by subst e;rw[hb]at hk;cases hk)];exact hs k x hk
 have hx:Abs.look L (hp X)=none:=by
  cases hx:Abs.look L (hp X)with
  | none=>rfl
  | some y=>rw[hl _ y hx]at hX;cases hX
 exact⟨jas hx hl,hx⟩
section
variable{L:Abs.Rows}{nm:MN}{e:Evid}{ws:List Rw}{os:List (List IV)}{M:Nat}
theorem e_var(h:HasM L nm e ws os)(hM:e.mats=(M:Int))(mv k:Nat)(hm:mv<=1000)(hk:k<=1000)(hM6:M<=6):
  CtrH G.P 175 [.loc (hp nm.d) 10 0 0,.im (.int mv),.im (.int k)] L (fun x L'=>x= .im (.int ((mv*M+k:Nat):Int))/\L'=L):=by
 have hb:=h.blk;have F1:=bF hb;have K1:=bK hb;have G1:=bN hb;have c0:=h.hd;have hb1:mv*M<=1000*6:=qL hm hM6;have w1:=ja9 (n:=(mv:Int)*e.mats) (by rw[hM,<-Int.natCast_mul];omega);have w2:=ja9 (n:=(mv:Int)*e.mats+k) (by rw[hM,<-Int.natCast_mul];omega);have w3:(mv:Int)*e.mats+k=((mv*M+k:Nat):Int):=by rw[hM,Int.natCast_add,Int.natCast_mul]
 rw[<-w3];refine jav [] [] [.tmp 6] Tryz.func175 ?_;simp only[c0,F1,K1,G1,go_sem];refine jbh L hb (SubR.of_eq rfl) ?_;simp only[w1,w2,go_sem]
theorem jou{mv:Nat}{b own more:Int}{k:Nat}(h:coF b own more k=0):sumT M mv b own more (k+1)=sumT M mv b own more k:=by rw[sumT,zm h]
theorem jnc{mv:Nat}{b own more:Int}:∀k,(sumT M mv b own more k).length<=k
 | 0=>zB _
 | k+1=>by
  have:=jnc (mv:=mv) (b:=b) (own:=own) (more:=more) k;rw[sumT];split
  ·omega
  ·rw[zH,List.length_singleton];omega
theorem jnf{mv:Nat}{b own more:Int}{k:Nat}(h:coF b own more k≠0):sumT M mv b own more (k+1)=sumT M mv b own more k++[(mv*M+k,((coF b own more k:Int):Rat))]:=by rw[sumT,zn h]
def NEWT(L R:Abs.Rows)(b:Nat)(ts:List (Nat×Rat)):Prop:=ts.length≠0->Abs.look R (hp b)=some (5,ts.map tmC)/\Abs.look L (hp b)=none
def sA(A n:Nat):AV:=if n=0 then .sx []else .im (.ref A 155 5 n)
def rA(A n:Nat):AV:=if n=0 then .im (.sl [])else .im (.ref A 155 5 n)
theorem jd1{A n:Nat}(h:n=0):sA A n= .sx []:=zm h
theorem jcn{A n:Nat}(h:n≠0):sA A n= .im (.ref A 155 5 n):=zn h
theorem NEWT.app{L R:Abs.Rows}{X:Nat}{ts:List (Nat×Rat)}{t:Nat×Rat}(h:Abs.look R (hp X)=some (5,ts.map tmC++[tmC t]))(h':Abs.look L (hp X)=none):NEWT L R X (ts++[t]):=fun _=>⟨by rw[h,qW];rfl,h'⟩
theorem e_sum(h:HasM L nm e ws os)(hM:e.mats=(M:Int))(mv:Nat)(b own more:Int)(hm:mv<=1000)(hM6:M<=6)(hb1: -1000<=b/\b<=1000)(hmo: -1000<=more/\more<=1000):
  CtrH G.P 177 [.loc (hp nm.d) 10 0 0,.im (.int mv),.im (.int b),.im (.int own),.im (.int more)] L
   (fun x L'=>∃A,x=rA A (sumT M mv b own more M).length/\blks L'/\SubR L L'/\NEWT L L' A (sumT M mv b own more M)):=by
 have hb:=h.blk;have F1:=bF hb;have K1:=bK hb;have G1:=bN hb;have c0:=h.hd;simp only[Evid.c,hM]at c0;refine jav [40] [] [.tmp 10] Tryz.func177 ?_;simp only[c0,hM,F1,K1,G1,go_sem];refine jaz [0,1,2,3,4,11,18,19] (fun g:(Nat×Nat)×Abs.Rows=>⟨[(0,.loc (hp nm.d) 10 0 0),(1,.im (.int mv)),(2,.im (.int b)),(3,.im (.int own)),(4,.im (.int more)),(11,sA g.1.2 (sumT M mv b own more g.1.1).length),(18,.im (.int M)),(19,.im (.int g.1.1))],g.2,[]⟩)
  (fun g=>g.1.1<=M/\blks g.2/\SubR L g.2/\NEWT L g.2 g.1.2 (sumT M mv b own more g.1.1)) (fun g=>M-g.1.1) ((0,0),L) ?_ (SubR.of_eq rfl) rfl ⟨zE _,hb,SubR.of_eq rfl,fun h=>absurd rfl h⟩ ?_
 ·have hz:=jd1 (A:=0) (show(sumT M mv b own more 0).length=0 from rfl);simp only[Int.natCast_zero,hz,go_sem]
 rintro⟨⟨k,A⟩,R⟩ hP;obtain⟨hj,hR,hsR,hbn⟩:=hP;dsimp only at hj hR hsR hbn;have F2:=bF hR;have K2:=bK hR;have G2:=bN hR;have d0:=hsR _ _ c0;rcases zT k M with hlt | hlt
 ·have hd:decide ((k:Int)<M)=true:=za (by omega);have h1:=ja9 (n:=(k:Int)+1) (by omega);have h2:=ja9 (n:=b+more) (by omega);have kv:=e_var (h.sub hR hsR) hM mv k hm (by omega) hM6;have vl:mv*M+k<100000:=by
   have:mv*M<=1000*6:=qL hm hM6;omega
  obtain⟨c,hc⟩:∃c,c=coF b own more k:=⟨_,rfl⟩;have kI:Ctr G.P 32 [.int c] (· =frac (c:Rat)):=jbt c (by rw[hc];unfold coF;split<;>omega);simp only[frac,ints]at kI;have key:∀(p:Bool),decide ((k:Int)=own)=p->(if p=true then b+more else b)=c:=fun p hp=>by
   rw[hc];unfold coF;cases p
   ·rw[zn (by decide),zn (zJ hp)]
   ·rw[zm rfl,zm (zI hp)]
  rcases hown:decide ((k:Int)=own)with _ | _
  ·have hcb:=key _ hown;simp only[qS,qt]at hcb;subst hcb;rcases hc0:decide (b=0)with _ | _
   ·have hadd:=jnf (M:=M) (mv:=mv) (hc▸zJ hc0:coF b own more k≠0);rw[<-hc]at hadd;by_cases hn:(sumT M mv b own more k).length=0
    ·have hs0:=jd1 (A:=A) hn;have hnil:sumT M mv b own more k=[]:=zL hn;simp only[hd,hown,h2,hc0,hs0,go_sem];refine jaj kv (by decide) (by simp only[zl,zC,jaw];rfl) hR (SubR.of_eq rfl) ?_;rintro _ L1 ⟨rfl,hL1⟩ _;subst hL1;refine⟨_,jbn,?_⟩;simp only[F2,K2,G2,go_sem];refine ja1 kI ?_;simp only[F2,K2,G2,go_sem];refine And.intro (fun c' hc'=>by rw[zF.1 hc'];rfl) ?_;refine jhw (fun X hX=> ?_);have lX1:Abs.look L1 (hp X)=none:=hX;clear hX;have lX:Abs.look L (hp X)=none:=by
      cases hx:Abs.look L (hp X)with
      | none=>rfl
      | some y=>rw[hsR _ _ hx]at lX1;cases lX1
     have hs1:=jcn (A:=X) (n:=(sumT M mv b own more (k+1)).length) (by rw[hadd,zH];exact yy _);have hl1:(sumT M mv b own more (k+1)).length=1:=by rw[hadd,hnil];rfl
     rw[hl1]at hs1;simp only[F2,K2,G2,go_sem];refine jaa ((k+1,X),(hp X,5,[tmC (mv*M+k,((b:Int):Rat))])::L1) ?_ (SubR.of_eq rfl) rfl (by show M-(k+1)<M-k;omega) ⟨hlt,jat hR,jas lX hsR,?_⟩
     ·simp only[h1,hl1,hs1,Int.natCast_add,go_sem]
     ·dsimp only;rw[hadd];refine NEWT.app ?_ lX;rw[ja2,hnil];rfl
    ·have hs0:=jcn (A:=A) hn;obtain⟨hrA,hLA⟩:=hbn hn;have htk:List.take (sumT M mv b own more k).length ((sumT M mv b own more k).map tmC)=(sumT M mv b own more k).map tmC:=zt (by rw[zw];exact zB _);have hlk:=jnc (M:=M) (mv:=mv) (b:=b) (own:=own) (more:=more) k;simp only[hd,hown,h2,hc0,hs0,go_sem];refine jaj kv (by decide) (by simp only[zl,zC,jaw];rfl) hR (SubR.of_eq rfl) ?_;rintro _ L1 ⟨rfl,hL1⟩ _;subst hL1;refine⟨_,jbn,?_⟩;simp only[F2,K2,G2,go_sem];refine ja1 kI ?_;simp only[hrA,htk,zw,F2,K2,G2,go_sem];refine And.intro (fun c' hc'=>by rw[zF.1 hc'];rfl) (And.intro (zB _) (And.intro (by omega) ?_));refine jsv (fun X hX=> ?_);obtain⟨lS,lX⟩:=jg1 (v:=(5,(sumT M mv b own more k).map tmC++[tmC (mv*M+k,((b:Int):Rat))])) hsR hLA (X:=X) hX;clear hX;have hl1:(sumT M mv b own more (k+1)).length=(sumT M mv b own more k).length+1:=by rw[hadd,zH];rfl
     have hs1:=jcn (A:=X) (n:=(sumT M mv b own more k).length+1) (yy _);simp only[F2,K2,G2,go_sem];refine jaa ((k+1,X),(hp X,5,(sumT M mv b own more k).map tmC++[tmC (mv*M+k,((b:Int):Rat))])::Abs.del L1 (hp A)) ?_ (SubR.of_eq rfl) rfl (by show M-(k+1)<M-k;omega) ⟨hlt,jat (jbx hR),lS,?_⟩
     ·simp only[h1,hl1,hs1,Int.natCast_add,go_sem]
     ·dsimp only;rw[hadd];exact NEWT.app (ja2 _ _ _) lX
   ·have hskip:=jou (M:=M) (mv:=mv) (hc▸zI hc0:coF b own more k=0);simp only[hd,hown,hc0,go_sem];refine jaa ((k+1,A),R) ?_ (SubR.of_eq rfl) rfl (by show M-(k+1)<M-k;omega) ⟨hlt,hR,hsR,by dsimp only;rw[hskip];exact hbn⟩;simp only[h1,hskip,Int.natCast_add,go_sem]
  ·have hcb:=key _ hown;simp only[qC]at hcb;replace h2:=h2.trans hcb;rcases hc0:decide (c=0)with _ | _
   ·have hadd:=jnf (M:=M) (mv:=mv) (hc▸zJ hc0:coF b own more k≠0);rw[<-hc]at hadd;by_cases hn:(sumT M mv b own more k).length=0
    ·have hs0:=jd1 (A:=A) hn;have hnil:sumT M mv b own more k=[]:=zL hn;simp only[hd,hown,h2,hc0,hs0,go_sem];refine jaj kv (by decide) (by simp only[zl,zC,jaw];rfl) hR (SubR.of_eq rfl) ?_;rintro _ L1 ⟨rfl,hL1⟩ _;subst hL1;refine⟨_,jbn,?_⟩;simp only[F2,K2,G2,go_sem];refine ja1 kI ?_;simp only[F2,K2,G2,go_sem];refine And.intro (fun c' hc'=>by rw[zF.1 hc'];rfl) ?_;refine jhw (fun X hX=> ?_);have lX1:Abs.look L1 (hp X)=none:=hX;clear hX;have lX:Abs.look L (hp X)=none:=by
      cases hx:Abs.look L (hp X)with
      | none=>rfl
      | some y=>rw[hsR _ _ hx]at lX1;cases lX1
     have hs1:=jcn (A:=X) (n:=(sumT M mv b own more (k+1)).length) (by rw[hadd,zH];exact yy _);have hl1:(sumT M mv b own more (k+1)).length=1:=by rw[hadd,hnil];rfl
     rw[hl1]at hs1;simp only[F2,K2,G2,go_sem];refine jaa ((k+1,X),(hp X,5,[tmC (mv*M+k,((c:Int):Rat))])::L1) ?_ (SubR.of_eq rfl) rfl (by show M-(k+1)<M-k;omega) ⟨hlt,jat hR,jas lX hsR,?_⟩
     ·simp only[h1,hl1,hs1,Int.natCast_add,go_sem]
     ·dsimp only;rw[hadd];refine NEWT.app ?_ lX;rw[ja2,hnil];rfl
    ·have hs0:=jcn (A:=A) hn;obtain⟨hrA,hLA⟩:=hbn hn;have htk:List.take (sumT M mv b own more k).length ((sumT M mv b own more k).map tmC)=(sumT M mv b own more k).map tmC:=zt (by rw[zw];exact zB _);have hlk:=jnc (M:=M) (mv:=mv) (b:=b) (own:=own) (more:=more) k;simp only[hd,hown,h2,hc0,hs0,go_sem];refine jaj kv (by decide) (by simp only[zl,zC,jaw];rfl) hR (SubR.of_eq rfl) ?_;rintro _ L1 ⟨rfl,hL1⟩ _;subst hL1;refine⟨_,jbn,?_⟩;simp only[F2,K2,G2,go_sem];refine ja1 kI ?_;simp only[hrA,htk,zw,F2,K2,G2,go_sem];refine And.intro (fun c' hc'=>by rw[zF.1 hc'];rfl) (And.intro (zB _) (And.intro (by omega) ?_));refine jsv (fun X hX=> ?_);obtain⟨lS,lX⟩:=jg1 (v:=(5,(sumT M mv b own more k).map tmC++[tmC (mv*M+k,((c:Int):Rat))])) hsR hLA (X:=X) hX;clear hX;have hl1:(sumT M mv b own more (k+1)).length=(sumT M mv b own more k).length+1:=by rw[hadd,zH];rfl
     have hs1:=jcn (A:=X) (n:=(sumT M mv b own more k).length+1) (yy _);simp only[F2,K2,G2,go_sem];refine jaa ((k+1,X),(hp X,5,(sumT M mv b own more k).map tmC++[tmC (mv*M+k,((c:Int):Rat))])::Abs.del L1 (hp A)) ?_ (SubR.of_eq rfl) rfl (by show M-(k+1)<M-k;omega) ⟨hlt,jat (jbx hR),lS,?_⟩
     ·simp only[h1,hl1,hs1,Int.natCast_add,go_sem]
     ·dsimp only;rw[hadd];exact NEWT.app (ja2 _ _ _) lX
   ·have hskip:=jou (M:=M) (mv:=mv) (hc▸zI hc0:coF b own more k=0);simp only[hd,hown,h2,hc0,go_sem];refine jaa ((k+1,A),R) ?_ (SubR.of_eq rfl) rfl (by show M-(k+1)<M-k;omega) ⟨hlt,hR,hsR,by dsimp only;rw[hskip];exact hbn⟩;simp only[h1,hskip,Int.natCast_add,go_sem]
 ·have hd:decide ((k:Int)<M)=false:=zq (by omega);have hkM:k=M:=by omega
  subst hkM;simp only[hd,go_sem];refine jbh R hR (SubR.of_eq rfl) ?_;simp only[go_sem];refine⟨A,?_,hR,hsR,hbn⟩;by_cases hn:(sumT k mv b own more k).length=0
  ·rw[jd1 hn];unfold rA;rw[zm hn]
  ·rw[jcn hn];unfold rA;rw[zn hn]
end
end
section
open Go.Abs
open Go.LP (Rw RT tsum)
attribute [local go_sem] ints ic big frac fc rwC tmC Evid.c Place.c Move.c Cert.c Recall.c Purity.c
section
variable{L:Abs.Rows}{nm:MN}{e:Evid}{ws:List Rw}{os:List (List IV)}
theorem HasM.grow{L':Abs.Rows}(h:HasM L nm e ws os){w:Rw}{og:List IV}{X1 X2:Nat}(ho:og.length=4)(hog:OgOk e w og)(b:blks L')(d1:nm.d≠X1)(d2:nm.d≠X2)(x12:X1≠X2)
  (hd:Abs.look L' (hp nm.d)=some (10,[e.c++[.ref X1 242 6 (ws.length+1),.ref X2 239 4 (ws.length+1)]]))
  (h1:Abs.look L' (hp X1)=some (6,ws.map rwC++[rwC w])) (h2:Abs.look L' (hp X2)=some (4,os++[og])):∃nm':MN,nm'.d=nm.d/\HasM L' nm' e (ws++[w]) (os++[og]):=by
 have hl:(ws++[w]).length=ws.length+1:=by rw[zH];rfl
 refine⟨⟨nm.d,X1,X2⟩,rfl,b,fun _=>d1,fun _=>d2,fun _=>x12,?_,?_,?_,?_,fun _=> ?_,fun _=>h2⟩
 ·rw[zH,zH,h.len];rfl
 ·intro c hc;rcases qu.1 hc with hc | hc
  ·exact h.o4 c hc
  ·rw[zF.1 hc];exact ho
 ·intro i w' c' g1 g2;rcases zT i ws.length with hlt | hge
  ·rw[zM hlt]at g1;rw[zM (by rw[h.len];exact hlt)]at g2;exact h.og i w' c' g1 g2
  ·rw[zR hge]at g1;rw[zR (by rw[h.len];exact hge),h.len]at g2;cases hi:i-ws.length with
   | zero=>rw[hi]at g1 g2;cases g1;cases g2;exact hog
   | succ n=>rw[hi]at g1;simp at g1
 ·rw[hl,jao (yy _),jao (yy _)];exact hd
 ·rw[h1,qW];rfl
theorem e_add(h:HasM L nm e ws os)(w:Rw)(a b c d:Int)(hl:ws.length<=10000)(hog:OgOk e w [.int a,.int b,.int c,.int d]):
  CtrH G.P 176 [.loc (hp nm.d) 10 0 0,.im (.sl (w.ts.map tmC)),.im (.int w.kind),.im (frac w.val),.im (.agg [.int a,.int b,.int c,.int d])] L
   (fun x L'=>x= .im (.tup [])/\∃nm':MN,nm'.d=nm.d/\HasM L' nm' e (ws++[w]) (os++[[.int a,.int b,.int c,.int d]])):=by
 have hb:=h.blk;have F1:=bF hb;have K1:=bK hb;have G1:=bN hb;have c0:=h.hd;have b8:∀k,(8 !=hp k)=true:=fun k=>by simp only[qk,ne_eq];exact hp_ne (by decide)
 have b9:∀k,(9 !=hp k)=true:=fun k=>by simp only[qk,ne_eq];exact hp_ne (by decide)
 by_cases hn:ws.length=0
 ·have hos:os=[]:=zL (by rw[h.len];exact hn);have hws:ws=[]:=zL hn;subst hos hws;have hz:([]:List Rw).length=0:=rfl;rw[hz,jbc,jbc]at c0;refine jav [20,30] [] [] Tryz.func176 ?_;simp only[F1,K1,G1,go_sem];refine jcf [false,false,false,false,false,false,false,false,false,false,true,false,false] [(9,4,[[.int a,.int b,.int c,.int d]]),(8,4,[fc w.val]),(hp nm.d,10,[e.c++[.emp,.emp]])] (by decide+kernel) (jb4 _ (jb4 _ (jax c0))) ?_;simp only[c0,F1,K1,G1,go_sem];refine And.intro (fun c hc=>by rw[zF.1 hc];rfl) ?_;refine jji (fun X1 hX1=> ?_);have lX1:Abs.look L (hp X1)=none:=by
   rw[ja0 _ _ (hp_ne (by decide)).symm,ja0 _ _ (hp_ne (by decide)).symm]at hX1;exact hX1
  clear hX1;have xd:¬X1=nm.d:=fun e=>by rw[e,c0]at lX1;cases lX1
  refine And.intro ?_ ?_
  ·refine jas ?_ (jb4 _ (jb4 _ (jax c0)));dsimp only;rw[ja0 _ _ (hp_ne (by decide)).symm,ja0 _ _ (hp_ne (by decide)).symm,ja0 _ _ (hpne xd)];rfl
  simp only[c0,xd,zD xd,F1,K1,G1,go_sem];refine jnn (List.map (fun p=>if p.1=hp nm.d then(p.1,10,[e.c++[.ref X1 242 6 1,.emp]])else p) L) (fun Q2 hQ2e=> ?_);have e1:=hQ2e;simp only[Evid.c,List.cons_append,List.nil_append]at e1;simp only[e1,go_sem];have lQ2:∀k,k≠hp nm.d->Abs.look Q2 k=Abs.look L k:=fun k hk=>by rw[<-hQ2e];exact jan hk
  have dQ2:Abs.look Q2 (hp nm.d)=some (10,[e.c++[.ref X1 242 6 1,.emp]]):=by rw[<-hQ2e];exact jae c0
  have bQ2:blks Q2:=hQ2e▸jb8 hb;have F3:=bF bQ2;have K3:=bK bQ2;have G3:=bN bQ2;refine jcf [false,false,false,false,false,false,false,true,false,false] [(9,4,[[.int a,.int b,.int c,.int d]]),(hp nm.d,10,[e.c++[.ref X1 242 6 1,.emp]])] (by decide+kernel) ?_ ?_
  ·refine jb5 ?_ (jax ?_)
   ·dsimp only;rw[ja0 _ _ (hp_ne (by decide)),ja2]
   ·dsimp only;rw[ja0 _ _ (hpne (zD xd)),ja0 _ _ (hp_ne (by decide)).symm,ja0 _ _ (hp_ne (by decide)).symm];exact dQ2
  simp only[dQ2,xd,zD xd,F3,K3,G3,go_sem];refine And.intro (fun c hc=>by rw[zF.1 hc];rfl) ?_;refine jji (fun X2 hX2=> ?_);have lX2:¬X2=X1/\Abs.look Q2 (hp X2)=none:=by
   have e1:¬X2=X1:=fun e=>by rw[e,ja2]at hX2;cases hX2
   rw[ja0 _ _ (hpne e1),ja0 _ _ (hp_ne (by decide)).symm,ja0 _ _ (hp_ne (by decide)).symm]at hX2;exact⟨e1,hX2⟩
  clear hX2;obtain⟨x21,lX2⟩:=lX2;have yd:¬X2=nm.d:=fun e=>by rw[e,dQ2]at lX2;cases lX2
  refine And.intro ?_ ?_
  ·refine jb5 ?_ (jax ?_)
   ·rw[ja0 _ _ (hp_ne (by decide)),ja0 _ _ (hp_ne (by decide)),ja2]
   ·rw[ja0 _ _ (hpne (zD yd)),ja0 _ _ (hpne (zD xd)),ja0 _ _ (hp_ne (by decide)).symm,ja0 _ _ (hp_ne (by decide)).symm];exact dQ2
  simp only[dQ2,x21,zD x21,xd,zD xd,yd,zD yd,F3,K3,G3,go_sem];refine jbg ?_;simp only[go_sem];refine h.grow (X1:=X1) (X2:=X2) rfl hog jee (zD xd) (zD yd) (zD x21) ?_ ?_ ?_
  ·rw[jau,ja0 _ _ (hpne (zD yd)),ja0 _ _ (hpne (zD xd)),ja0 _ _ (hp_ne (by decide)).symm,ja0 _ _ (hp_ne (by decide)).symm];exact jae dQ2
  ·rw[jau,ja0 _ _ (hpne (zD x21)),ja2];rfl
  ·rw[jau,ja2];rfl
 ·rw[jao hn,jao hn]at c0;have dr:=h.dr hn;have d_o:=h.d_o hn;have ro:=h.ro hn;have cr:=h.hr hn;have co:=h.ho hn;have hol:os.length=ws.length:=h.len;have htk:List.take ws.length (ws.map rwC)=ws.map rwC:=zt (by rw[zw];exact zB _);have hto:List.take ws.length os=os:=zt (by omega);obtain⟨Q,hQe⟩:∃Q,Abs.del L (hp nm.r)=Q:=⟨_,rfl⟩;have lQ:∀k,k≠hp nm.r->Abs.look Q k=Abs.look L k:=fun k hk=>by rw[<-hQe];exact ja7 _ hk
  have bQ:blks Q:=hQe▸jbx hb;have hQf:List.filter (fun p=>p.1 !=hp nm.r) L=Q:=hQe;have cdQ:=(lQ _ (hpne dr)).trans c0;have coQ:=(lQ _ (hpne (zD ro))).trans co;have F2:=bF bQ;have K2:=bK bQ;have G2:=bN bQ;refine jav [20,30] [] [] Tryz.func176 ?_;simp only[F1,K1,G1,go_sem];refine jcf [false,false,false,false,false,false,false,false,false,false,true,false,false] [(9,4,[[.int a,.int b,.int c,.int d]]),(8,4,[fc w.val]),(hp nm.d,10,[e.c++[.ref nm.r 242 6 ws.length,.ref nm.o 239 4 ws.length]])] (by decide+kernel) (jb4 _ (jb4 _ (jax c0))) ?_;simp only[c0,cr,htk,zw,F1,K1,G1,go_sem];refine And.intro (fun c hc=>by rw[zF.1 hc];rfl) (And.intro (zB _) (And.intro (by omega) ?_));refine jhh (fun X1 hX1=> ?_);have lX1:Abs.look Q (hp X1)=none:=by
   rw[jam (hp_ne (by decide)),jam (hp_ne (by decide)),ja0 _ _ (hp_ne (by decide)).symm,ja0 _ _ (hp_ne (by decide)).symm,hQe]at hX1;exact hX1
  clear hX1;have xd:¬X1=nm.d:=fun e=>by rw[e,cdQ]at lX1;cases lX1
  have xo:¬X1=nm.o:=fun e=>by rw[e,coQ]at lX1;cases lX1
  refine And.intro ?_ ?_
  ·rw[jam (hp_ne (by decide)),jam (hp_ne (by decide)),hQe];refine jas ?_ (jb4 _ (jb4 _ (jax cdQ)));dsimp only;rw[ja0 _ _ (hp_ne (by decide)).symm,ja0 _ _ (hp_ne (by decide)).symm,ja0 _ _ (hpne xd)];rfl
  simp only[cdQ,b8,b9,hQf,xd,zD xd,dr,zD dr,F2,K2,G2,go_sem];refine jnn (List.map (fun p=>if p.1=hp nm.d then(p.1,10,[e.c++[.ref X1 242 6 (ws.length+1),.ref nm.o 239 4 ws.length]])else p) Q) (fun Q2 hQ2e=> ?_);have e1:=hQ2e;simp only[Evid.c,List.cons_append,List.nil_append]at e1;simp only[e1,go_sem];have lQ2:∀k,k≠hp nm.d->Abs.look Q2 k=Abs.look Q k:=fun k hk=>by rw[<-hQ2e];exact jan hk
  have dQ2:Abs.look Q2 (hp nm.d)=some (10,[e.c++[.ref X1 242 6 (ws.length+1),.ref nm.o 239 4 ws.length]]):=by rw[<-hQ2e];exact jae cdQ
  have bQ2:blks Q2:=hQ2e▸jb8 bQ;have oQ2:=(lQ2 _ (hpne (zD d_o))).trans coQ;have xQ2:Abs.look Q2 (hp X1)=none:=by rw[lQ2 _ (hpne xd)];exact lX1
  have F3:=bF bQ2;have K3:=bK bQ2;have G3:=bN bQ2;obtain⟨Q3,hQ3e⟩:∃Q3,Abs.del Q2 (hp nm.o)=Q3:=⟨_,rfl⟩;have lQ3:∀k,k≠hp nm.o->Abs.look Q3 k=Abs.look Q2 k:=fun k hk=>by rw[<-hQ3e];exact ja7 _ hk
  have bQ3:blks Q3:=hQ3e▸jbx bQ2;have hQ3f:List.filter (fun p=>p.1 !=hp nm.o) Q2=Q3:=hQ3e;have d3:=(lQ3 _ (hpne d_o)).trans dQ2;have F4:=bF bQ3;have K4:=bK bQ3;have G4:=bN bQ3;refine jcf [false,false,false,false,false,false,false,true,false,false] [(9,4,[[.int a,.int b,.int c,.int d]]),(hp nm.d,10,[e.c++[.ref X1 242 6 (ws.length+1),.ref nm.o 239 4 ws.length]])] (by decide+kernel) ?_ ?_
  ·refine jb5 ?_ (jax ?_)
   ·dsimp only;rw[ja0 _ _ (hp_ne (by decide)),ja2]
   ·dsimp only;rw[ja0 _ _ (hpne (zD xd)),ja0 _ _ (hp_ne (by decide)).symm,ja0 _ _ (hp_ne (by decide)).symm];exact dQ2
  simp only[dQ2,oQ2,hol,hto,xd,zD xd,xo,zD xo,F3,K3,G3,go_sem];refine And.intro (fun c hc=>by rw[zF.1 hc];rfl) (And.intro (by omega) (And.intro (by omega) ?_));refine jhh (fun X2 hX2=> ?_);have lX2:¬X2=X1/\Abs.look Q3 (hp X2)=none:=by
   rw[jam (hpne xo),jam (hp_ne (by decide)),jam (hp_ne (by decide)),hQ3e]at hX2;have e1:¬X2=X1:=fun e=>by rw[e,ja2]at hX2;cases hX2
   rw[ja0 _ _ (hpne e1),ja0 _ _ (hp_ne (by decide)).symm,ja0 _ _ (hp_ne (by decide)).symm]at hX2;exact⟨e1,hX2⟩
  clear hX2;obtain⟨x21,lX2⟩:=lX2;have yd:¬X2=nm.d:=fun e=>by rw[e,d3]at lX2;cases lX2
  refine And.intro ?_ ?_
  ·rw[jam (hpne xo),jam (hp_ne (by decide)),jam (hp_ne (by decide)),hQ3e];refine jb5 ?_ (jax ?_)
   ·rw[ja0 _ _ (hp_ne (by decide)),ja0 _ _ (hp_ne (by decide)),ja2]
   ·rw[ja0 _ _ (hpne (zD yd)),ja0 _ _ (hpne (zD xd)),ja0 _ _ (hp_ne (by decide)).symm,ja0 _ _ (hp_ne (by decide)).symm];exact d3
  have bn1:(hp X1 !=hp nm.o)=true:=by simp only[qk,ne_eq];exact hpne xo
  simp only[d3,x21,zD x21,xd,zD xd,yd,zD yd,xo,bn1,b8,b9,hQ3f,F4,K4,G4,go_sem];refine jbg ?_;simp only[go_sem];refine h.grow (X1:=X1) (X2:=X2) rfl hog jee (zD xd) (zD yd) (zD x21) ?_ ?_ ?_
  ·rw[jau,ja0 _ _ (hpne (zD yd)),ja0 _ _ (hpne (zD xd)),ja0 _ _ (hp_ne (by decide)).symm,ja0 _ _ (hp_ne (by decide)).symm];exact jae d3
  ·rw[jau,ja0 _ _ (hpne (zD x21)),ja2];rfl
  ·rw[jau,ja2]
end
end
section
open Go.Abs
open Go.LP (Dic Rw RT Ov OvRw tsum Sol)
attribute [local go_sem] frac fc ints ic rwC tmC
theorem rget{ws:List Rw}{x:Nat}{w:Rw}(h:ws[x]? =some w):(ws.map rwC)[x]? =some ([.sl (w.ts.map tmC),.int w.kind]++fc w.val):=by rw[ze,h];rfl
end
section
open Go.Abs
open Go.LP (Rw RT tsum Sol)
attribute [local go_sem] ints ic big frac fc rwC tmC Raw.c
def rwR(x:Raw):Bool:=fracF x.s x.l x.t x.m
def RawL(k:Nat)(Y:List Raw):Prop:=∀x∈Y,x.l.length<=k/\x.m.length<=k
theorem rw_of{x:Raw}(h:rwR x=true):∃r:Rat,x.c=fc r/\x.l.length=(dig r.num.natAbs).length/\x.m.length=(dig r.den).length:=by
 obtain⟨r,h1,h2,h3,h4⟩:=frac_of h;refine⟨r,?_,by rw[h2],by rw[h4,Int.natAbs_natCast]⟩;unfold Raw.c fc;rw[h1,h2,h3,h4]
theorem jkt{k:Nat}(hk1:4<=k):∀{Y:List Raw},Y.all rwR=true->RawL k Y->∃y:Nat->Rat,Y.map Raw.c=tab Y.length (fun j=>fc (y j))/\∀j,FL k (y j)
 | [],_,_=>⟨fun _=>((0:Int):Rat),rfl,fun _=>(jb3 (by omega)).mono hk1⟩
 | x::Y,h,hk=>by
  rw[List.all_cons,zr]at h;obtain⟨r,h1,h2,h3⟩:=rw_of h.1;obtain⟨y,h4,h5⟩:=jkt hk1 h.2 fun z hz=>hk z (zQ _ hz);have hx:=hk x zN;refine⟨fun j=>match j with | 0=>r | j+1=>y j,?_,fun j=> ?_⟩
  ·rw[zl,h1,h4,List.length_cons];unfold tab;rw[List.range_succ_eq_map,zl,ya];rfl
  ·cases j with
   | zero=>exact⟨by rw[<-h2];exact hx.1,by rw[<-h3];exact hx.2⟩
   | succ j=>exact h5 j
theorem jrd{Y:List Raw}{i:Nat}{x:Raw}(h:Y[i]? =some x):(Y.map Raw.c)[i]? =some [.int x.s,.sl (x.l.map ic),.int x.t,.sl (x.m.map ic)]:=by rw[ze,h];rfl
section
variable{N:Nat}{ws:List Rw}{Y:List Raw}
theorem SysOk.right(hs:SysOk N ws):Ctr G.P 126 [.agg [.int N,.sl (ws.map rwC)]] (· = .bool true):=
 x_right ws N hs.ok (by have:=hs.len;omega) (by have:=hs.n;omega) fun w hw=>⟨by have:=(hs.row w hw).1;have:=hs.n;omega,(hs.row w hw).2⟩
theorem d_mult(hs:SysOk N ws)(hY:Y.length<=100000)(hk:RawL 50000000000 Y):Ctr G.P 214 [.agg [.int N,.sl (ws.map rwC)],.sl (Y.map Raw.c)] (· = .bool (decide (Y.length=ws.length)&&Y.all rwR)):=by
 have kr:=hs.right;have hlen:=hs.len;generalize hR:ws.map rwC=R at*;have hRl:R.length=ws.length:=by rw[<-hR,zw]
 by_cases hl:Y.length=ws.length
 case neg=>
  have hd:decide ((Y.length:Int)=ws.length)=false:=zq (by omega);rw[zq hl,qp];refine ja5 [.tmp 4] Tryz.func214 ?_;simp only[go_sem];refine ja1 kr ?_;simp only[hRl,hd,zw,go_sem]
 have hd:decide ((Y.length:Int)=ws.length)=true:=za (by omega);rw[za hl,qe];refine ja5 [.tmp 4] Tryz.func214 ?_;simp only[go_sem];refine ja1 kr ?_;simp only[hRl,hd,zw,go_sem];refine jal [18,19,20] [] (fun i:Nat=>⟨[(18,.im (.sl (Y.map Raw.c))),(19,.im (.int Y.length)),(20,.im (.int i))],[],[]⟩)
  (fun i=>i<=Y.length/\(Y.take i).all rwR=true) (fun i=>Y.length-i) 0 ?_ ⟨zE _,rfl⟩ ?_
 ·simp only[Int.natCast_zero,zw,go_sem]
 intro i ⟨hi,ha⟩;by_cases hp':(i:Int)<Y.length
 ·have hdl:decide ((i:Int)<Y.length)=true:=za hp';obtain⟨x,hx⟩:=jby hp';have h1:=ja9 (n:=(i:Int)+1) (by omega);have hi0:(0:Int)<=i:=by omega
  have hg:=jrd hx;have hxm:=hk x (zk hx);have kf:=jf5 x.s x.t x.l x.m hxm.1 hxm.2;rw[show fracF x.s x.l x.t x.m=rwR x from rfl]at kf;simp only[ints]at kf;rcases hr:rwR x with _ | _
  ·have hall:Y.all rwR=false:=qQ.2 fun h=>by
    rw[List.all_eq_true]at h;rw[h x (zk hx)]at hr;cases hr
   rw[hr]at kf;rw[hall];simp only[hdl,hp',hi0,hg,Int.toNat_natCast,zw,go_sem];refine ja1 kf ?_;simp only[go_sem]
  ·rw[hr]at kf;simp only[hdl,hp',hi0,hg,Int.toNat_natCast,zw,go_sem];refine ja1 kf ?_;simp only[go_sem];refine jab (i+1) ?_ (by omega) ⟨by omega,by rw[take_succ hx,js,ha];simp[hr]⟩;simp only[h1,Int.natCast_add,go_sem]
 ·have hdl:decide ((i:Int)<Y.length)=false:=zq hp';rw[zt (by omega)]at ha;rw[ha];simp only[hdl,go_sem]
theorem sgn_iff{r:Rat}:(r.num.sign<0↔r<0)/\(0<r.num.sign↔0<r):=⟨sign_neg,sign_pos⟩
variable{y:Nat->Rat}
theorem jpw(hs:SysOk N ws)(hk:RawL 50000000000 Y)(hl:Y.length=ws.length)(hR:Y.all rwR=true)(hy:Y.map Raw.c=tab ws.length fun j=>qc (y j))(hf:∀j,FL 19000000000 (y j)){b:Bool}(hb:b=true↔SgnW ws y):
  Ctr G.P 189 [.agg [.int N,.sl (ws.map rwC)],.sl (Y.map Raw.c)] (· = .bool b):=by
 have hlen:=hs.len;have km:=d_mult (Y:=Y) hs (by omega) hk;rw[za hl,hR,Bool.and_self]at km;rw[hy]at km⊢;refine ja5 [.tmp 4] Tryz.func189 ?_;simp only[go_sem];refine ja1 km ?_;simp only[ja6,go_sem];refine jal [2,12,13,14] [2] (fun i:Nat=>⟨[(2,.loc 2 2 0 0),(12,.im (.sl (tab ws.length fun j=>qc (y j)))),(13,.im (.int ws.length)),(14,.im (.int i))],[(2,2,[[.int N,.sl (ws.map rwC)]])],[]⟩)
  (fun i=>i<=ws.length/\∀(r:Nat) (w:Rw),r<i->ws[r]? =some w->(w.kind=0->0<=y r)/\(w.kind=1->y r<=0)) (fun i=>ws.length-i) 0 ?_ ⟨zE _,fun r w h=>by omega⟩ ?_
 ·simp only[Int.natCast_zero,go_sem]
 intro i ⟨hi,ha⟩;by_cases hp':(i:Int)<ws.length
 ·have hdl:decide ((i:Int)<ws.length)=true:=za hp';obtain⟨w,hw⟩:=jby hp';have h1:=ja9 (n:=(i:Int)+1) (by omega);have hi0:(0:Int)<=i:=by omega
  have hil:i<ws.length:=by omega
  have hg:=qget (f:=y) hil;have hgw:=rget hw;have ks:=jgl (hf i);obtain⟨s1,s2⟩:=sgn_iff (r:=y i);have next:(w.kind=0->0<=y i)->(w.kind=1->y i<=0)->∀(r:Nat) (w:Rw),r<i+1->ws[r]? =some w->(w.kind=0->0<=y r)/\(w.kind=1->y r<=0):=fun q1 q2 r v hr hv=>by
   by_cases e:r=i
   ·subst e;rw[hw]at hv;cases hv;exact⟨q1,q2⟩
   ·exact ha r v (by omega) hv
  simp only[frac,ints]at ks;simp only[fc]at hg;generalize (y i).num.sign=sg at*;by_cases k0:w.kind=0
  ·have dk:decide (w.kind=0)=true:=za k0;rcases ds:decide (sg<0)with _ | _
   ·have q1:0<=y i:=yH.1 fun h=>zJ ds (s1.2 h);simp only[hdl,hp',hi0,hg,hgw,dk,ds,Int.toNat_natCast,ja6,zw,go_sem];refine ja1 ks ?_;simp only[hdl,hp',hi0,hg,hgw,dk,ds,Int.toNat_natCast,ja6,zw,go_sem];refine jab (i+1) ?_ (by omega) ⟨by omega,next (fun _=>q1) fun e=>by rw[k0]at e;cases e⟩;simp only[h1,Int.natCast_add,go_sem]
   ·have hbf:b=false:=qQ.2 fun h=>by
     have:=((hb.1 h) i w hw).1 k0;have:=s1.1 (zI ds);grind
    rw[hbf];simp only[hdl,hp',hi0,hg,hgw,dk,ds,Int.toNat_natCast,ja6,zw,go_sem];refine ja1 ks ?_;simp only[hdl,hp',hi0,hg,hgw,dk,ds,Int.toNat_natCast,ja6,zw,go_sem]
  have dk:decide (w.kind=0)=false:=zq k0;by_cases k1:w.kind=1
  ·have dk1:decide (w.kind=1)=true:=za k1;rcases ds:decide (0<sg)with _ | _
   ·have q2:y i<=0:=yH.1 fun h=>zJ ds (s2.2 h);simp only[hdl,hp',hi0,hg,hgw,dk,dk1,ds,Int.toNat_natCast,ja6,zw,go_sem];refine ja1 ks ?_;simp only[hdl,hp',hi0,hg,hgw,dk,dk1,ds,Int.toNat_natCast,ja6,zw,go_sem];refine jab (i+1) ?_ (by omega) ⟨by omega,next (fun e=>absurd e k0) fun _=>q2⟩;simp only[h1,Int.natCast_add,go_sem]
   ·have hbf:b=false:=qQ.2 fun h=>by
     have:=((hb.1 h) i w hw).2 k1;have:=s2.1 (zI ds);grind
    rw[hbf];simp only[hdl,hp',hi0,hg,hgw,dk,dk1,ds,Int.toNat_natCast,ja6,zw,go_sem];refine ja1 ks ?_;simp only[hdl,hp',hi0,hg,hgw,dk,dk1,ds,Int.toNat_natCast,ja6,zw,go_sem]
  ·have dk1:decide (w.kind=1)=false:=zq k1;simp only[hdl,hp',hi0,hg,hgw,dk,dk1,Int.toNat_natCast,ja6,zw,go_sem];refine ja1 ks ?_;simp only[hdl,hp',hi0,hg,hgw,dk,dk1,Int.toNat_natCast,ja6,zw,go_sem];refine jab (i+1) ?_ (by omega) ⟨by omega,next (fun e=>absurd e k0) fun e=>absurd e k1⟩;simp only[h1,Int.natCast_add,go_sem]
 ·have hdl:decide ((i:Int)<ws.length)=false:=zq hp';have hbt:b=true:=hb.2 fun r w hr=>ha r w (by have:=(zu.1 hr).1;omega) hr;rw[hbt];simp only[hdl,go_sem]
theorem d_signed0(hs:SysOk N ws)(hY:Y.length<=100000)(hk:RawL 50000000000 Y)(h:¬(Y.length=ws.length/\Y.all rwR=true)):Ctr G.P 189 [.agg [.int N,.sl (ws.map rwC)],.sl (Y.map Raw.c)] (· = .bool false):=by
 have km:=d_mult (Y:=Y) hs hY hk;have e1:(decide (Y.length=ws.length)&&Y.all rwR)=false:=qQ.2 fun hh=>h (by rw[zr,zK]at hh;exact hh);rw[e1]at km;generalize ws.map rwC=R at*;generalize Y.map Raw.c=YC at*;refine ja5 [.tmp 4] Tryz.func189 ?_;simp only[go_sem];refine ja1 km ?_;simp only[go_sem]
theorem d_add{a b c:Rat}{p q s:Nat}(ha:FL p a)(hb:FL q b)(hc:FL s c)(h:p+q+s<=19000000000):Ctr G.P 215 [frac a,frac b,frac c] (· =frac (a+b*c)):=by
 have k1:=f_mul (hb.mono (by omega:q<=19000000000)) (hc.mono (by omega));have k2:=f_add (ha.mono (by omega:p<=19000000000)) ((jh4 hb hc).mono (by omega));simp only[frac,ints]at k1 k2;refine ja5 [.cell 6 35] Tryz.func215 ?_;simp only[go_sem];refine ja1 k1 ?_;simp only[go_sem];refine ja1 k2 ?_;simp only[go_sem]
