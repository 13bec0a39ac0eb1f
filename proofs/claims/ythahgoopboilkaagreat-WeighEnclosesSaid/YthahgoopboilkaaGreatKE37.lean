/- A part of the proof. No further condition. -/
import Derived.Test.YthahgoopboilkaaGreatKE36
set_option linter.all false
set_option maxRecDepth 10000000
set_option maxHeartbeats 16000000
namespace Go.Proofs.YthahgoopboilkaaGreat
section
open Go.Abs
open Go.LP (Rw RT Ov OvRw tsum)
theorem Ov_int{z:Int}(h:z.natAbs<=2^80):Ov (2^100) 1000 (z:Rat):=
 ⟨z*1000,by rw[jO];rfl,by rw[jk];exact qn (qy _ h) (by decide)⟩
theorem Ov_err{c:Cert}{rd day:Int}(h:jdz c day=true)(hr:0<=rd/\rd<=1099511627776):∃z:Int,errF c rd day*((1000:Nat):Rat)=(z:Rat)/\z.natAbs<=2^80:=by
 obtain⟨_,_,_,h1,h2,h3,h4⟩:=jsz h hr;refine⟨c.perMille*rd+(c.grams+c.drift*(day-c.fr))*1000,?_,?_⟩
 ·unfold errF;generalize c.grams+c.drift*(day-c.fr)=w0;generalize c.perMille*rd=u0;rw[Rat.divInt_eq_div,vP,jO w0 1000];generalize (u0:Rat)=u;generalize (w0:Rat)=w;have:((1000:Int):Rat)≠0:=by decide
  have e2:((1000:Nat):Rat)=((1000:Int):Rat):=rfl;rw[e2];have:=Rat.div_mul_cancel (a:=u) this;grind
 ·generalize c.perMille*rd=a at*;generalize c.drift*(day-c.fr)=b at*;have:(2:Nat)^80=1208925819614629174706176:=by decide
  omega
theorem Ov_ivl{cs:List Cert}{rs:List Recall}{sc rd day:Int}{a b:Rat}(h:ivlF cs rs sc rd day=some (a,b)):Ov (2^100) 1000 a/\Ov (2^100) 1000 b:=by
 unfold ivlF at h;split at h
 ·cases h
 split at h
 ·cases h
 split at h
 ·cases h
 rename_i c _;split at h
 ·rename_i hv;rw[zr]at hv;have hb:=btw_iff.1 hv.2;obtain⟨z,h1,h2⟩:=Ov_err hv.1 hb;injection h with h;injection h with h3 h4;subst h3 h4;have e2:(2:Nat)^80=1208925819614629174706176:=by decide
  have e3:(2:Nat)^100=1267650600228229401496703205376:=by decide
  have e4:((rd:Int):Rat)*((1000:Nat):Rat)=((rd*1000:Int):Rat):=by rw[jO];rfl
  refine⟨?_,rd*1000+z,?_,?_⟩
  ·split
   ·exact Go.LP.Ov_zero
   ·refine⟨rd*1000-z,?_,by omega⟩;rw[Go.LP.cast_sub,<-h1,<-e4];grind
  ·rw[vP,<-h1,<-e4];grind
  ·omega
 ·cases h
theorem jiq{M:Nat}{fr:Int}{mat:Nat}{ms:List Move}:∀i,∀t∈jah M fr mat ms i,Ov (2^100) 1000 t.2
 | 0=>fun t ht=>by cases ht
 | i+1=>by
  rw[jah];split
  ·split
   ·exact jiq i
   ·intro t ht;rcases qu.1 ht with ht | ht
    ·exact jiq i t ht
    ·rw[zF.1 ht];refine Ov_int ?_;unfold sgnF;split
     ·decide
     ·split<;>decide
  ·exact jiq i
theorem jjh{M mv:Nat}{b own more:Int}(hb: -1000<=b/\b<=1000)(hm: -1000<=more/\more<=1000):∀k,∀t∈sumT M mv b own more k,Ov (2^100) 1000 t.2
 | 0=>fun t ht=>by cases ht
 | k+1=>by
  rw[sumT];split
  ·exact jjh hb hm k
  ·intro t ht;rcases qu.1 ht with ht | ht
   ·exact jjh hb hm k t ht
   ·rw[zF.1 ht];refine Ov_int ?_;have e2:(2:Nat)^80=1208925819614629174706176:=by decide
    unfold coF;split<;>omega
theorem jof:Ov (2^100) 1000 0:=Go.LP.Ov_zero
theorem rows_ov{e:Evid}(hp:∀p∈e.purs,0<=p.least/\p.least<=1000/\0<=p.most/\p.most<=1000)(w:Rw)(hw:w∈rowsE e):OvRw (2^100) 1000 w:=by
 obtain⟨k,x,hk,hx,hw⟩:=mem_rowsU.1 hw;unfold moveR at hw;simp only[qu]at hw;rcases hw with (hw | hw) | hw
 ·split at hw
  ·cases hw
  ·obtain⟨mat,h1,rfl⟩:=mem_stockR.1 hw;exact⟨jof,jiq _⟩
 ·unfold je3 at hw;split at hw
  ·cases hw
  ·split at hw
   ·rename_i lo hi hv;obtain⟨o1,o2⟩:=Ov_ivl hv;rcases zS.1 hw with rfl | hw
    ·exact⟨o1,jjh (by omega) (by omega) _⟩
    ·rcases zS.1 hw with rfl | hw
     ·exact⟨o2,jjh (by omega) (by omega) _⟩
     ·cases hw
   ·cases hw
 ·unfold purR at hw;obtain⟨p,hpm,hw⟩:=jJ.1 hw;have:=hp p hpm;unfold pur1 at hw;split at hw
  ·rcases zS.1 hw with rfl | hw
   ·exact⟨jof,jjh (by omega) (by omega) _⟩
   ·rcases zS.1 hw with rfl | hw
    ·exact⟨jof,jjh (by omega) (by omega) _⟩
    ·cases hw
  ·cases hw
end
section
open Go.Abs
open Go.LP (Dic Rw RT Ov OvRw tsum Sol IsMin NoMin Bds ksum ones jhn jkf)
open Go.LW (isort noDup)
attribute [local go_sem] ints ic big frac fc zc
structure SmallE(e:Evid):Prop where
 mv:e.moves.length<=9
 mt:e.moves.length*e.mats.toNat<=18
 pu:e.purs.length<=40
theorem small2{e:Evid}(h1:e.moves.length<=9)(h2:e.mats<=2)(h3:e.purs.length<=40):SmallE e:=⟨h1,qn (qL h1 (show e.mats.toNat<=2 by omega)) (by decide),h3⟩
def nV(e:Evid):Nat:=e.moves.length*e.mats.toNat
section
variable{e:Evid}{ps:List (Int×Int)}
theorem jme(hc:jbl e=0)(hs:SmallE e):SysOk (nV e) (rowsE e) where
 ok:=rows_ok
 n:=hs.mt
 len:=by
  have h1:=hs.mv;have h2:=hs.mt;have h3:=hs.pu;have h4:=jkq (e:=e) (M:=e.mats.toNat) e.moves.length;have h5:e.moves.length*(e.mats.toNat+2+2*e.purs.length)=e.moves.length*e.mats.toNat+e.moves.length*2+e.moves.length*(2*e.purs.length):=by rw[Nat.mul_add,Nat.mul_add]
  have h6:e.moves.length*(2*e.purs.length)<=9*80:=qL h1 (by omega);refine qn h4 ?_;rw[h5];omega
 mn:=fun h=>by
  obtain⟨_,hm1,_⟩:=jbk hc;have h0:e.moves.length≠0:=fun h0=>h (by unfold rowsE;rw[h0];rfl);have:1*1<=e.moves.length*e.mats.toNat:=qL (by omega) (by omega);unfold nV;omega
 ov:=rows_ov fun p hp=>by
  have:=purF_iff.1 (jhe hc p hp);omega
theorem jdu(h:okP e ps=true):jbl e=0/\(∀p∈ps,jdh e p=true)/\noDup (isort (ps.map (pickK e.mats.toNat)))=true:=by
 simp only[okP,zr,zK,List.all_eq_true]at h;exact h
theorem pick_lt{p:Int×Int}(h:jdh e p=true):pickK e.mats.toNat p<nV e:=by
 simp only[jdh,zr,zK]at h;obtain⟨h1,h2,h3,h4⟩:=h;have:(p.1.toNat+1)*e.mats.toNat<=e.moves.length*e.mats.toNat:=qy _ (by omega);rw[yB]at this;unfold pickK nV;omega
theorem keys_lt(h:∀p∈ps,jdh e p=true):∀k∈isort (ps.map (pickK e.mats.toNat)),k<nV e:=fun k hk=>by
 obtain⟨p,hp,rfl⟩:=qq.1 ((Go.LW.isort_perm _).mem_iff.1 hk);exact pick_lt (h p hp)
theorem jl8(h:okP e ps=true):GoalOk (nV e) (goalS e.mats.toNat ps) where
 rt:=by
  obtain⟨_,h1,h2⟩:=jdu h;exact Go.LP.RT_ones (Go.LW.noDup_lt (Go.LW.isort_sorted _) h2) fun k hk=>⟨zE _,keys_lt h1 k hk⟩
 ov t ht:=by
  obtain⟨k,_,rfl⟩:=qq.1 ht;exact Ov_int (z:=1) (by decide)
def wgt(e:Evid)(ps:List (Int×Int))(x:Nat->Rat):Rat:=ksum (ps.map (pickK e.mats.toNat)) x
theorem jif(x:Nat->Rat):tsum (goalS e.mats.toNat ps) x=wgt e ps x:=by
 rw[goalS,jkf];exact Go.LP.ksum_perm (Go.LW.isort_perm _) x
end
def jm2(r:List IV):Prop:=∃(k1 a1 c1:Int) (b1 d1 P1 Y1 Z1:List (List IV)) (k2 a2 c2:Int) (b2 d2 P2 Y2 Z2:List (List IV)),
 r=[.int k1,.int a1,.sl b1,.int c1,.sl d1,.sl P1,.sl Y1,.sl Z1,.int k2,.int a2,.sl b2,.int c2,.sl d2,.sl P2,.sl Y2,.sl Z2]
def RFound(N:Nat)(ws:List Rw)(f:(Nat->Rat)->Rat)(r:List IV)(lo:Rat)(hi:Option Rat):Prop:=∃(x x':Nat->Rat) (Y Z:List (List IV)) (k:Int) (Y' Z':List (List IV)),
 r=([.int 0]++fc lo++[xl N x,.sl Y,.sl Z])++([.int k]++sideC (hi.map fun v=> -v)++[xl N x',.sl Y',.sl Z'])/\decide (k=0)=hi.isSome/\Sol N ws x/\f x=lo/\Sol N ws x'/\(∀w,hi=some w->f x'=w)/\(∀k,FL (capN N) (x k))/\∀k,FL (capN N) (x' k)
theorem RFound.shape{N:Nat}{ws:List Rw}{f:(Nat->Rat)->Rat}{r:List IV}{lo:Rat}{hi:Option Rat}(h:RFound N ws f r lo hi):jm2 r:=by
 obtain⟨x,x',Y,Z,k,Y',Z',rfl,_⟩:=h;cases hi with
 | none=>exact⟨_,_,_,_,_,_,_,_,_,_,_,_,_,_,_,_,rfl⟩
 | some w=>exact⟨_,_,_,_,_,_,_,_,_,_,_,_,_,_,_,_,rfl⟩
def bdC(lo:Rat)(hi:Option Rat):List IV:=fc lo++sideC hi++[.bool true,.bool hi.isSome]
section
variable{N:Nat}{ws:List Rw}{goal:List (Nat×Rat)}
theorem span_says0(hs:SysOk N ws)(hg:GoalOk N goal)(hp:∀x,Sol N ws x->0<=tsum goal x):
  (spanR N ws goal= .tup [.agg (zo++zo),.int 15]/\∀x,¬Sol N ws x)\/
  (∃(r:List IV) (lo:Rat) (hi:Option Rat),spanR N ws goal= .tup [.agg r,.int 0]/\Bds N ws (tsum goal) lo hi/\FL 4000000000 lo/\(∀w,hi=some w->FL 4000000000 w)/\
   Ctr G.P 12 [.agg r] (· = .agg (bdC lo hi))/\RFound N ws (tsum goal) r lo hi):=by
 have h1:=jcw hs hg;have h2:=jcw hs hg.opp;have e1:((-1:Int):Rat)= -1:=by decide
 unfold spanR;generalize jd9 N ws goal=o at*;generalize jd9 N ws (mulT ((-1:Int):Rat) goal)=o' at*;cases h1 with
 | none Y hno=>exact .inl ⟨zm rfl,hno⟩
 | free x Z hno hx hxF=>
  exfalso;obtain⟨y,hy,hl⟩:=hno.2 0;have:=hp y hy;grind
 | found v x Y hf hmin hx hv hxF=>
  right;have hnn:isNone ([.int 0]++fc v++[xl N x,.sl Y,.sl []])=false:=rfl;rw[hnn,zn (by decide)];cases h2 with
  | none Y' hno=>exact absurd hx (hno x)
  | found u x' Y' hf' hmin' hx' hv' hxF'=>
   have hx'v:tsum goal x'= -u:=by rw[jgm,e1]at hv';grind
   have huu: - -u=u:=by grind
   refine⟨_,v,some (-u),rfl,⟨hmin.at',hmin.le,?_,?_,fun h=>by cases h⟩,hf,?_,?_,⟨x,x',Y,[],0,Y',[],?_,rfl,hx,hv,hx',(fun w hw=>by cases hw;exact hx'v),hxF,hxF'⟩⟩
   ·intro w hw;cases hw;exact⟨x',hx',hx'v⟩
   ·intro w hw y hy;cases hw;have:=hmin'.le y hy;rw[jgm,e1]at this;grind
   ·intro w hw;cases hw;exact jhj hf'
   ·exact x_bnd (some v) (some u) 0 0 _ _ _ _ _ _ rfl rfl (fun w h=>by cases h;exact hf) (fun w h=>by cases h;exact hf')
   ·rw[Option.map_some,huu];rfl
  | free x' Z' hno hx' hxF'=>
   refine⟨_,v,none,rfl,⟨hmin.at',hmin.le,(fun w hw=>by cases hw),(fun w hw=>by cases hw),fun _ c=> ?_⟩,hf,(fun w hw=>by cases hw),?_,⟨x,x',Y,[],2,[],Z',rfl,rfl,hx,hv,hx',(fun w hw=>by cases hw),hxF,hxF'⟩⟩
   ·obtain⟨y,hy,hl⟩:=hno.2 (-c);refine⟨y,hy,?_⟩;rw[jgm,e1]at hl;grind
   ·exact x_bnd (some v) none 0 2 _ _ _ _ _ _ rfl rfl (fun w h=>by cases h;exact hf) (fun w h=>by cases h)
theorem jp1(hs:SysOk N ws)(hg:GoalOk N goal)(hp:∀t∈goal,0<=t.2):
  (spanR N ws goal= .tup [.agg (zo++zo),.int 15]/\∀x,¬Sol N ws x)\/
  (∃(r:List IV) (lo:Rat) (hi:Option Rat),spanR N ws goal= .tup [.agg r,.int 0]/\Bds N ws (tsum goal) lo hi/\FL 4000000000 lo/\(∀w,hi=some w->FL 4000000000 w)/\
   Ctr G.P 12 [.agg r] (· = .agg (bdC lo hi))/\RFound N ws (tsum goal) r lo hi):=span_says0 hs hg fun _ hx=>Go.LP.tsum_nonneg hg.rt hp hx.pos
end
end
section
open Go.Abs
open Go.LP (Dic Rw RT Ov OvRw tsum Sol IsMin NoMin Bds)
attribute [local go_sem] Evid.c Evid.iv ints ic big frac fc zc
inductive BSay(e:Evid)(ps:List (Int×Int)):Option (Rat×Option Rat)->Prop
 | none:(okP e ps=true->∀x,¬Sol (nV e) (rowsE e) x)->BSay e ps none
 | some (lo:Rat) (hi:Option Rat):okP e ps=true->Bds (nV e) (rowsE e) (wgt e ps) lo hi->FL 4000000000 lo->(∀w,hi=some w->FL 4000000000 w)->BSay e ps (some (lo,hi))
def bB:Option (Rat×Option Rat)->List IV
 | none=>zc++zc++[.bool true,.bool true]
 | some (lo,hi)=>bdC lo hi
structure RSay(e:Evid)(ps:List (Int×Int))(r:List IV)(f:Int)(b:Option (Rat×Option Rat)):Prop where
 shape:jm2 r
 bnd:Ctr G.P 12 [.agg r] (· = .agg (bB b))
 flag:decide (f=0)=b.isSome
 say:BSay e ps b
 arg:f=1↔okP e ps=false
 zero:b=none->r=zo++zo/\(f=1\/f=15)
 found:∀lo hi,b=some (lo,hi)->RFound (nV e) (rowsE e) (wgt e ps) r lo hi
theorem jhy:Ctr G.P 12 [.agg (zo++zo)] (· = .agg (bB none)):=by
 have hz:Ctr G.P 52 [.agg [.int 0,ints [],.int 0,ints []]] (· = .agg [.int 0,ints [],.int 0,ints []]):=x_negz;have hz1:Ctr G.P 51 [.agg [.int 0,ints [],.int 0,ints []]] (· = .agg [.int 0,ints [],.int 0,ints []]):=jq8 0 0 [] [] (by simp) (by simp);exact jhz 0 0 0 0 0 0 0 0 [] [] [] [] [] [] [] [] [] [] [] [] hz1 hz
theorem jhx:jm2 (zo++zo):=⟨_,_,_,_,_,_,_,_,_,_,_,_,_,_,_,_,rfl⟩
section
variable{e:Evid}{ps:List (Int×Int)}
theorem jiy(hs:SmallE e)(hl:ps.length<=10000):∃r f b,RSay e ps r f b/\Ctr G.P 10 [e.iv,.sl (ps.map pickC)] (· = .tup [.agg r,.int f]):=by
 have kg:=jom (e:=e) hl;unfold jel at kg;rcases h0:okP e ps with _ | _
 ·rw[h0,zn (by decide)]at kg;refine⟨zo++zo,1,none,⟨jhx,jhy,rfl,.none (fun h=>by rw[h0]at h;cases h),⟨fun _=>h0,fun _=>rfl⟩,fun _=>⟨rfl,.inl rfl⟩,fun lo hi h=>by cases h⟩,?_⟩;unfold zo;refine ja5 [.cell 4 40,.tmp 5] Tryz.func10 ?_;unfold Evid.iv Evid.c at*;simp only[go_sem];refine ja1 kg ?_;simp only[go_sem]
 ·obtain⟨hc,_,_⟩:=jdu h0;rw[h0,zm rfl]at kg;have kS:=jk5 (e:=e) (fun _=>by have:=hs.mv;omega);unfold sysIV at kS;rw[zm hc]at kS;have hso:=jme hc hs;have hgo:=jl8 h0;have kO:=x_Of hso hgo;have harg:∀f:Int,f≠1->(f=1↔okP e ps=false):=fun f hf=>⟨fun h=>absurd h hf,fun h=>by rw[h0]at h;cases h⟩;rcases jp1 hso hgo (fun t ht=>by
   obtain⟨k,_,rfl⟩:=qq.1 ht;show(0:Rat)<=1;decide)with ⟨e1,hno⟩ | ⟨r,lo,hi,e1,hb,f1,f2,kB,hr⟩
  ·rw[e1]at kO;refine⟨zo++zo,15,none,⟨jhx,jhy,rfl,.none fun _=>hno,harg _ (by decide),fun _=>⟨rfl,.inr rfl⟩,fun lo hi h=>by cases h⟩,?_⟩;unfold zo nV at*;generalize (goalS e.mats.toNat ps).map tmC=gt at*;generalize (rowsE e).map rwC=rt at*;refine ja5 [.cell 4 40,.tmp 5] Tryz.func10 ?_;unfold Evid.iv Evid.c at*;simp only[go_sem];refine ja1 kg ?_;simp only[go_sem];refine ja1 kS ?_;simp only[go_sem];refine ja1 kO ?_;simp only[go_sem]
  ·rw[e1]at kO;have hfd:∀l' h',some (lo,hi)=some (l',h')->RFound (nV e) (rowsE e) (wgt e ps) r l' h':=fun l' h' hh=>by
    cases hh;have e1:tsum (goalS e.mats.toNat ps)=wgt e ps:=funext fun x=>jif x;rw[e1]at hr;exact hr
   refine⟨r,0,some (lo,hi),⟨hr.shape,kB,rfl,.some lo hi h0 (hb.congr fun x=>jif x) f1 f2,harg _ (by decide),(fun h=>by cases h),hfd⟩,?_⟩;clear hfd;obtain⟨k1,a1,c1,b1,d1,P1,Y1,Z1,k2,a2,c2,b2,d2,P2,Y2,Z2,rfl⟩:=hr.shape;unfold nV at*;generalize (goalS e.mats.toNat ps).map tmC=gt at*;generalize (rowsE e).map rwC=rt at*;refine ja5 [.cell 4 40,.tmp 5] Tryz.func10 ?_;unfold Evid.iv Evid.c at*;simp only[go_sem];refine ja1 kg ?_;simp only[go_sem];refine ja1 kS ?_;simp only[go_sem];refine ja1 kO ?_;simp only[go_sem]
variable{r:List IV}{f:Int}{b:Option (Rat×Option Rat)}{ys:List (List IV)}
def jqk(f:Int):Option (Rat×Option Rat)->IV
 | none=> .tup [.agg zc,.int f]
 | some (lo,_)=> .tup [frac lo,.int 0]
theorem w_least(h:RSay e ps r f b)(kR:Ctr G.P 10 [e.iv,.sl ys] (· = .tup [.agg r,.int f])):Ctr G.P 29 [e.iv,.sl ys] (· =jqk f b):=by
 have kB:=h.bnd;have hf:=h.flag;obtain⟨k1,a1,c1,b1,d1,P1,Y1,Z1,k2,a2,c2,b2,d2,P2,Y2,Z2,rfl⟩:=h.shape;cases b with
 | none=>
  clear h kB;have hf':decide (f=0)=false:=hf;unfold jqk;refine ja5 [.cell 4 35,.tmp 5] Tryz.func29 ?_;unfold Evid.iv Evid.c at*;simp only[go_sem];refine ja1 kR ?_;simp only[hf',go_sem]
 | some p=>
  obtain⟨lo,hi⟩:=p;have e1:∃(a2 c2:Int) (b2 d2:List (List IV)) (h:Bool),bB (some (lo,hi))=fc lo++[.int a2,.sl b2,.int c2,.sl d2,.bool true,.bool h]:=by
   cases hi with
   | none=>exact⟨_,_,_,_,_,rfl⟩
   | some w=>exact⟨_,_,_,_,_,rfl⟩
  obtain⟨u5,u6,u7,u8,u10,e1⟩:=e1;rw[e1]at kB;have hf':f=0:=zI hf;subst hf';clear h e1 hf;unfold jqk;refine ja5 [.cell 4 35,.tmp 5] Tryz.func29 ?_;unfold Evid.iv Evid.c at*;simp only[go_sem];refine ja1 kR ?_;simp only[go_sem];refine ja1 kB ?_;simp only[go_sem]
theorem w_Goal(hl:ps.length<=10000):Ctr G.P 30 [e.iv,.sl (ps.map pickC)] (· = .sl (if okP e ps=true then(goalS e.mats.toNat ps).map tmC else [])):=by
 have kg:=jom (e:=e) hl;unfold jel at kg;rcases h0:okP e ps with _ | _
 ·rw[h0,zn (by decide)]at kg;rw[zn (by decide)];refine ja5 [.tmp 4] Tryz.func30 ?_;unfold Evid.iv Evid.c at*;simp only[go_sem];refine ja1 kg ?_;simp only[go_sem]
 ·rw[h0,zm rfl]at kg;rw[zm rfl];generalize (goalS e.mats.toNat ps).map tmC=gt at*;refine ja5 [.tmp 4] Tryz.func30 ?_;unfold Evid.iv Evid.c at*;simp only[go_sem];refine ja1 kg ?_;simp only[go_sem]
theorem jm8(h:RSay e [] r f b)(kR:Ctr G.P 10 [e.iv,.sl []] (· = .tup [.agg r,.int f])):Ctr G.P 34 [e.iv] (· = .bool b.isSome):=by
 rw[<-h.flag];obtain⟨k1,a1,c1,b1,d1,P1,Y1,Z1,k2,a2,c2,b2,d2,P2,Y2,Z2,rfl⟩:=h.shape;clear h;refine ja5 [.tmp 2] Tryz.func34 ?_;unfold Evid.iv Evid.c at*;simp only[go_sem];refine ja1 kR ?_;simp only[go_sem]
end
end
section
open Go.Abs
attribute [local go_sem] ints ic big frac fc zc
theorem u_equal(l m:List Int)(hl:l.length<=1000000000000000):Ctr G.P 113 [ints l,ints m] (· = .bool (decide (l=m))):=by
 by_cases h2:(l.length:Int)=m.length
 ·have d2:decide ((l.length:Int)=m.length)=true:=za h2;refine ja5 [.tmp 4] Tryz.func113 ?_;simp only[d2,zw,go_sem];refine jal [0,1,12,13] [] (fun i:Nat=>⟨[(0,.im (ints l)),(1,.im (ints m)),(12,.im (.int l.length)),(13,.im (.int i))],[],[]⟩) (fun i=>i<=l.length/\l.take i=m.take i) (fun i=>l.length-i) 0 ?_ ⟨zE _,rfl⟩ ?_
  ·simp only[Int.natCast_zero,go_sem]
  ·intro i ⟨hi,ha⟩;by_cases hp:(i:Int)<l.length
   ·have hp':(i:Int)<m.length:=by omega
    have hd:decide ((i:Int)<l.length)=true:=za hp;have hx:=jb2 hp;have hy:=jb2 hp';have hw:=ja9 (n:=(i:Int)+1) (by omega);simp only[hd,go_sem];refine jac 9 ?_;simp only[hd,ze,hx,hy,go_sem];refine jcy (fun he he'=> ?_) (fun he he'=> ?_)
    ·simp only[go_sem];refine jab (i+1) ?_ (by omega) ⟨by omega,jor ha hp hp' he'⟩;simp only[hw,Int.natCast_add,go_sem]
    ·have hf:decide (l=m)=false:=zq (jpi he');rw[hf];simp only[go_sem]
   ·have hd:decide ((i:Int)<l.length)=false:=zq hp;have hf:decide (l=m)=true:=za (by
     rw[zt (by omega),zt (by omega)]at ha;exact ha)
    rw[hf];simp only[hd,go_sem]
 ·have d2:decide ((l.length:Int)=m.length)=false:=zq h2;have d3:decide (l=m)=false:=zq fun e=>h2 (by rw[e]);rw[d3];refine ja5 [.tmp 4] Tryz.func113 ?_;simp only[d2,zw,go_sem]
theorem u_big(s t:Int)(l m:List Int)(hl:l.length<=1000000000000000):Ctr G.P 76 [.agg [.int s,ints l],.agg [.int t,ints m]] (· = .bool (decide (s=t)&&decide (l=m))):=by
 have k:=u_equal l m hl;unfold ints at*;rcases d:decide (s=t)with _ | _
 ·rw[qp];generalize l.map ic=l' at*;generalize m.map ic=m' at*;refine ja5 [.tmp 4] Tryz.func76 ?_;simp only[d,go_sem]
 ·rw[qe];generalize decide (l=m)=q at*;generalize l.map ic=l' at*;generalize m.map ic=m' at*;refine ja5 [.tmp 4] Tryz.func76 ?_;simp only[d,go_sem];refine ja1 k ?_;simp only[go_sem]
theorem u_frac(s t:Int)(l m:List Int)(s' t':Int)(l' m':List Int)(hl:l.length<=1000000000000000)(hm:m.length<=1000000000000000):
  Ctr G.P 31 [.agg [.int s,ints l,.int t,ints m],.agg [.int s',ints l',.int t',ints m']] (· = .bool ((decide (s=s')&&decide (l=l'))&&(decide (t=t')&&decide (m=m')))):=by
 have k1:=u_big s s' l l' hl;have k2:=u_big t t' m m' hm;unfold ints at*;generalize (decide (s=s')&&decide (l=l'))=p at*;generalize (decide (t=t')&&decide (m=m'))=q at*;generalize l.map ic=l1 at*;generalize m.map ic=m1 at*;generalize l'.map ic=l2 at*;generalize m'.map ic=m2 at*;refine ja5 [.tmp 4] Tryz.func31 ?_;simp only[go_sem];refine ja1 k1 ?_;cases p
 ·simp only[go_sem]
 ·simp only[go_sem];refine ja1 k2 ?_;simp only[go_sem]
end
section
open Go.Abs
open Go.LP (Rw RT tsum Sol S cf cfU)
attribute [local go_sem] ints ic big frac fc zc rwC tmC Raw.c
def rawZ(x:Raw):Bool:=(decide (x.s=0)&&decide (x.t=0))&&(decide (x.l=[])&&decide (x.m=[]))
theorem d_empty(x:Raw):Ctr G.P 139 [.agg x.c] (· = .bool (rawZ x)):=by
 have e1:decide ((x.l.length:Int)=0)=decide (x.l=[]):=by
  rw[je,qx,qx,<-ye];omega
 have e2:decide ((x.m.length:Int)=0)=decide (x.m=[]):=by
  rw[je,qx,qx,<-ye];omega
 unfold rawZ;rcases a1:decide (x.s=0)with _ | _<;>rcases a2:decide (x.t=0)with _ | _<;>rcases a3:decide (x.l=[])with _ | _<;>rcases a4:decide (x.m=[])with _ | _
 all_goals
  rw[a3]at e1;rw[a4]at e2;refine ja5 [.tmp 2] Tryz.func139 ?_;simp only[zw,a1,a2,e1,e2,go_sem]
theorem len_nil{Z:List Raw}:decide ((((Z.map Raw.c).length:Nat):Int)=0)=decide (Z=[]):=by
 rw[je,qx,qx,<-ye,zw];omega
def optC(k:Int)(v:Raw)(X Y Z:List Raw):List IV:=[.int k]++v.c++[.sl (X.map Raw.c),.sl (Y.map Raw.c),.sl (Z.map Raw.c)]
section
variable{R G0:List (List IV)}{n:Nat}{k:Int}{v:Raw}{X Y Z:List Raw}
theorem d_checkF0(kR:Ctr G.P 126 [.agg [.int n,.sl R]] (· = .bool true))(kG:Ctr G.P 127 [.sl G0,.int n] (· = .bool true)){p q:Int}{b d:List (List IV)}{ok h:Bool}
  (kL:Ctr G.P 136 [.agg [.int n,.sl R],.sl G0,.sl (Y.map Raw.c)] (· = .tup [.agg [.int p,.sl b,.int q,.sl d],.bool ok]))
  (kV:Ctr G.P 133 [.sl G0,.sl (X.map Raw.c)] (fun r=>∃(a c:Int) (b d:List (List IV)) (o:Bool),r= .tup [.agg [.int a,.sl b,.int c,.sl d],.bool o]))
  (kH:Ctr G.P 137 [.agg [.int n,.sl R],.sl (X.map Raw.c)] (· = .bool h)) (ho:(ok&&h)=false):
  Ctr G.P 92 [.agg [.int n,.sl R],.sl G0,.agg (optC 0 v X Y Z)] (· = .bool false):=by
 unfold optC at*;generalize hX:X.map Raw.c=XC at*;generalize hY:Y.map Raw.c=YC at*;generalize hZ:Z.map Raw.c=ZC at*;clear hX hY hZ;simp only[Raw.c]at*;refine ja5 [.tmp 6] Tryz.func92 ?_;simp only[List.cons_append,List.nil_append,go_sem];refine ja1 kR ?_;simp only[go_sem];refine ja1 kG ?_;simp only[go_sem];refine ja1 kL ?_;simp only[go_sem];refine jm3 kV ?_;rintro _ ⟨a,c,b',d',o,rfl⟩;rcases ok
 ·simp only[go_sem]
 ·rcases h
  ·simp only[go_sem];refine ja1 kH ?_;simp only[go_sem]
  ·cases ho
theorem jpx(kR:Ctr G.P 126 [.agg [.int n,.sl R]] (· = .bool true))(kG:Ctr G.P 127 [.sl G0,.int n] (· = .bool true)){p q p' q':Int}{b d b' d':List (List IV)}{s1 s2 o:Bool}
  (kL:Ctr G.P 136 [.agg [.int n,.sl R],.sl G0,.sl (Y.map Raw.c)] (· = .tup [.agg [.int p,.sl b,.int q,.sl d],.bool true]))
  (kV:Ctr G.P 133 [.sl G0,.sl (X.map Raw.c)] (· = .tup [.agg [.int p',.sl b',.int q',.sl d'],.bool o]))
  (kH:Ctr G.P 137 [.agg [.int n,.sl R],.sl (X.map Raw.c)] (· = .bool true))
  (k1:Ctr G.P 31 [.agg [.int p',.sl b',.int q',.sl d'],.agg v.c] (· = .bool s1)) (k2:Ctr G.P 31 [.agg [.int p,.sl b,.int q,.sl d],.agg v.c] (· = .bool s2)):
  Ctr G.P 92 [.agg [.int n,.sl R],.sl G0,.agg (optC 0 v X Y Z)] (· = .bool (s1&&s2&&decide (Z=[]))):=by
 have hz:decide ((((Z.map Raw.c).length:Nat):Int)=0)=decide (Z=[]):=len_nil;rcases hzz:decide (Z=[])with _ | _
 all_goals
  rw[hzz]at hz;clear hzz;unfold optC at*;generalize hX:X.map Raw.c=XC at*;generalize hY:Y.map Raw.c=YC at*;generalize hZ:Z.map Raw.c=ZC at*;clear hX hY hZ;simp only[Raw.c]at*;refine ja5 [.tmp 6] Tryz.func92 ?_;simp only[List.cons_append,List.nil_append,go_sem];refine ja1 kR ?_;simp only[go_sem];refine ja1 kG ?_;simp only[go_sem];refine ja1 kL ?_;simp only[go_sem];refine ja1 kV ?_;simp only[go_sem];refine ja1 kH ?_;simp only[go_sem];refine ja1 k1 ?_;rcases s1
  ·simp only[go_sem]
  ·simp only[go_sem];refine ja1 k2 ?_;rcases s2
   ·simp only[go_sem]
   ·simp only[hz,go_sem]
theorem jsh(kR:Ctr G.P 126 [.agg [.int n,.sl R]] (· = .bool true))(kG:Ctr G.P 127 [.sl G0,.int n] (· = .bool true)){h r:Bool}
  (kH:Ctr G.P 137 [.agg [.int n,.sl R],.sl (X.map Raw.c)] (· = .bool h)) (kY:Ctr G.P 140 [.agg [.int n,.sl R],.sl G0,.sl (Z.map Raw.c)] (· = .bool r)):
  Ctr G.P 92 [.agg [.int n,.sl R],.sl G0,.agg (optC 2 v X Y Z)] (· = .bool (h&&r&&decide (Y=[])&&rawZ v)):=by
 have hy:decide ((((Y.map Raw.c).length:Nat):Int)=0)=decide (Y=[]):=len_nil;have k1:=d_empty v;generalize rawZ v=z at*;rcases hyy:decide (Y=[])with _ | _
 all_goals
  rw[hyy]at hy;clear hyy;unfold optC at*;generalize hX:X.map Raw.c=XC at*;generalize hY:Y.map Raw.c=YC at*;generalize hZ:Z.map Raw.c=ZC at*;clear hX hY hZ;simp only[Raw.c]at*;refine ja5 [.tmp 6] Tryz.func92 ?_;simp only[List.cons_append,List.nil_append,go_sem];refine ja1 kR ?_;simp only[go_sem];refine ja1 kG ?_;simp only[go_sem];refine ja1 kH ?_;rcases h
  ·simp only[go_sem]
  ·simp only[go_sem];refine ja1 kY ?_;rcases r
   ·simp only[go_sem]
   ·simp only[hy,go_sem]
    try refine ja1 k1 ?_
    try simp only[go_sem]
theorem d_checkX(kR:Ctr G.P 126 [.agg [.int n,.sl R]] (· = .bool true))(kG:Ctr G.P 127 [.sl G0,.int n] (· = .bool true))(h0:k≠0)(h1:k≠1)(h2:k≠2):
  Ctr G.P 92 [.agg [.int n,.sl R],.sl G0,.agg (optC k v X Y Z)] (· = .bool false):=by
 have d0:decide (k=0)=false:=zq h0;have d1:decide (k=1)=false:=zq h1;have d2:decide (k=2)=false:=zq h2;unfold optC at*;generalize hX:X.map Raw.c=XC at*;generalize hY:Y.map Raw.c=YC at*;generalize hZ:Z.map Raw.c=ZC at*;clear hX hY hZ;simp only[Raw.c]at*;refine ja5 [.tmp 6] Tryz.func92 ?_;simp only[List.cons_append,List.nil_append,go_sem];refine ja1 kR ?_;simp only[go_sem];refine ja1 kG ?_;simp only[go_sem];simp only[d0,d1,d2,go_sem]
end
end
section
open Go.Abs
attribute [local go_sem] ints ic big frac fc zc
theorem t_same5(s t:Int)(l m:List Int)(hl:l.length<=1000000000000000):Ctr G.P 99 [.agg [.int s,ints l],.agg [.int t,ints m]] (· = .bool (decide (s=t)&&decide (l=m))):=by
 by_cases h1:s=t
 ·by_cases h2:(l.length:Int)=m.length
  ·have d1:decide (s=t)=true:=za h1;have d2:decide ((l.length:Int)=m.length)=true:=za h2;rw[d1,qe];refine ja5 [.tmp 4] Tryz.func99 ?_;simp only[d1,d2,go_sem];refine jal [2,3,5] [2,3] (fun i:Nat=>⟨[(2,.loc 2 2 0 0),(3,.loc 3 2 0 0),(5,.im (.int i))],[(3,2,[[.int t,ints m]]),(2,2,[[.int s,ints l]])],[]⟩) (fun i=>i<=l.length/\l.take i=m.take i) (fun i=>l.length-i) 0 ?_ ⟨zE _,rfl⟩ ?_
   ·simp only[Int.natCast_zero,go_sem]
   ·intro i ⟨hi,ha⟩;by_cases hp:(i:Int)<l.length
    ·have hp':(i:Int)<m.length:=by omega
     have hd:decide ((i:Int)<l.length)=true:=za hp;have hx:=jb2 hp;have hy:=jb2 hp';have hw:=ja9 (n:=(i:Int)+1) (by omega);simp only[hd,go_sem];refine jac 11 ?_;simp only[hd,ze,hx,hy,go_sem];refine jcy (fun he he'=> ?_) (fun he he'=> ?_)
     ·simp only[go_sem];refine jab (i+1) ?_ (by omega) ⟨by omega,jor ha hp hp' he'⟩;simp only[hw,Int.natCast_add,go_sem]
     ·have hf:decide (l=m)=false:=zq (jpi he');rw[hf];simp only[go_sem]
    ·have hd:decide ((i:Int)<l.length)=false:=zq hp;have hf:decide (l=m)=true:=za (by
      rw[zt (by omega),zt (by omega)]at ha;exact ha)
     rw[hf];simp only[hd,go_sem]
  ·have d1:decide (s=t)=true:=za h1;have d2:decide ((l.length:Int)=m.length)=false:=zq h2;have d3:decide (l=m)=false:=zq fun e=>h2 (by rw[e]);rw[d3,yq];refine ja5 [.tmp 4] Tryz.func99 ?_;simp only[d1,d2,go_sem]
 ·have d1:decide (s=t)=false:=zq h1;rw[d1,qp];refine ja5 [.tmp 4] Tryz.func99 ?_;simp only[d1,go_sem]
theorem t_self5(s:Int)(l:List Int)(hl:l.length<=1000000000000000):Ctr G.P 99 [.agg [.int s,ints l],.agg [.int s,ints l]] (· = .bool true):=by
 have h:=t_same5 s s l l hl;rw[za rfl,za rfl]at h;exact h
theorem t_equal(l:List Int)(hl:l.length<=1000000000000000):Ctr G.P 113 [ints l,ints l] (· = .bool true):=by
 have d2:decide ((l.length:Int)=l.length)=true:=za rfl;refine ja5 [.tmp 4] Tryz.func113 ?_;simp only[d2,zw,go_sem];refine jal [0,1,12,13] [] (fun i:Nat=>⟨[(0,.im (ints l)),(1,.im (ints l)),(12,.im (.int l.length)),(13,.im (.int i))],[],[]⟩) (fun i=>i<=l.length) (fun i=>l.length-i) 0 ?_ (zE _) ?_
 ·simp only[Int.natCast_zero,go_sem]
 ·intro i hi;by_cases hp:(i:Int)<l.length
  ·have hd:decide ((i:Int)<l.length)=true:=za hp;have hx:=jb2 hp;have hw:=ja9 (n:=(i:Int)+1) (by omega);have hz:decide (dgt l i=dgt l i)=true:=za rfl;simp only[hd,go_sem];refine jac 9 ?_;simp only[hd,ze,hx,hz,go_sem];refine jab (i+1) ?_ (by omega) (by omega);simp only[hw,Int.natCast_add,go_sem]
  ·have hd:decide ((i:Int)<l.length)=false:=zq hp;simp only[hd,go_sem]
theorem t_selfb(s:Int)(l:List Int)(hl:l.length<=1000000000000000):Ctr G.P 76 [.agg [.int s,ints l],.agg [.int s,ints l]] (· = .bool true):=by
 have k:=t_equal l hl;have d:decide (s=s)=true:=za rfl;unfold ints at*;generalize l.map ic=l' at*;refine ja5 [.tmp 4] Tryz.func76 ?_;simp only[d,go_sem];refine ja1 k ?_;simp only[d,go_sem]
theorem t_selff(s t:Int)(l m:List Int)(hl:l.length<=1000000000000000)(hm:m.length<=1000000000000000):Ctr G.P 31 [.agg [.int s,ints l,.int t,ints m],.agg [.int s,ints l,.int t,ints m]] (· = .bool true):=by
 have k1:=t_selfb s l hl;have k2:=t_selfb t m hm;unfold ints at*;generalize l.map ic=l' at*;generalize m.map ic=m' at*;refine ja5 [.tmp 4] Tryz.func31 ?_;simp only[go_sem];refine ja1 k1 ?_;simp only[go_sem];refine ja1 k2 ?_;simp only[go_sem]
theorem t_selfg(s t:Int)(l m:List Int)(hl:l.length<=1000000000000000)(hm:m.length<=1000000000000000):Ctr G.P 55 [.agg [.int s,ints l,.int t,ints m],.agg [.int s,ints l,.int t,ints m]] (· = .bool true):=by
 have k1:=t_self5 s l hl;have k2:=t_self5 t m hm;unfold ints at*;generalize l.map ic=l' at*;generalize m.map ic=m' at*;refine ja5 [.tmp 4] Tryz.func55 ?_;simp only[go_sem];refine ja1 k1 ?_;simp only[go_sem];refine ja1 k2 ?_;simp only[go_sem]
theorem f_self{a:Rat}(ha:FL 19000000000 a):Ctr G.P 31 [frac a,frac a] (· = .bool true):=t_selff _ _ _ _ (by have:=ha.1;omega) (by have:=ha.2;rw[Int.natAbs_natCast];omega)
theorem g_self{a:Rat}(ha:FL 19000000000 a):Ctr G.P 55 [frac a,frac a] (· = .bool true):=t_selfg _ _ _ _ (by have:=ha.1;omega) (by have:=ha.2;rw[Int.natAbs_natCast];omega)
theorem jqa(a1 c1 a2 c2:Int)(b1 d1 b2 d2:List (List IV))(lo hi:Bool)(k1:Ctr G.P 55 [.agg [.int a1,.sl b1,.int c1,.sl d1],.agg [.int a1,.sl b1,.int c1,.sl d1]] (· = .bool true))
  (k2:Ctr G.P 55 [.agg [.int a2,.sl b2,.int c2,.sl d2],.agg [.int a2,.sl b2,.int c2,.sl d2]] (· = .bool true)):
  Ctr G.P 15 [.agg [.int a1,.sl b1,.int c1,.sl d1,.int a2,.sl b2,.int c2,.sl d2,.bool lo,.bool hi],.agg [.int a1,.sl b1,.int c1,.sl d1,.int a2,.sl b2,.int c2,.sl d2,.bool lo,.bool hi]] (· = .bool true):=by
 have e1:(lo==lo)=true:=by simp
 have e2:(hi==hi)=true:=by simp
 have e3:decide (lo=lo)=true:=by simp
 have e4:decide (hi=hi)=true:=by simp
 refine ja5 [.tmp 4] Tryz.func15 ?_;simp only[e1,e2,e3,e4,go_sem];refine ja1 k1 ?_;simp only[e1,e2,e3,e4,go_sem];refine ja1 k2 ?_;simp only[e1,e2,e3,e4,go_sem]
theorem jq7:Ctr G.P 55 [.agg zc,.agg zc] (· = .bool true):=t_selfg 0 0 [] [] (by simp) (by simp)
theorem w_selfB(b:Option (Rat×Option Rat))(f1:∀lo hi,b=some (lo,hi)->FL 4000000000 lo/\∀w,hi=some w->FL 4000000000 w):Ctr G.P 15 [.agg (bB b),.agg (bB b)] (· = .bool true):=by
 cases b with
 | none=>exact jqa _ _ _ _ _ _ _ _ _ _ jq7 jq7
 | some p=>
  obtain⟨lo,hi⟩:=p;obtain⟨g1,g2⟩:=f1 lo hi rfl;have hk:=g_self (g1.mono (by omega:4000000000<=19000000000));cases hi with
  | none=>exact jqa _ _ _ _ _ _ _ _ _ _ hk jq7
  | some w=>exact jqa _ _ _ _ _ _ _ _ _ _ hk (g_self ((g2 w rfl).mono (by omega:4000000000<=19000000000)))
end
section
open Go.Abs
open Go.LP (Dic Rw RT Ov OvRw tsum Sol IsMin NoMin Bds)
attribute [local go_sem] ints ic big frac fc zc
def exE(rd:Int)(rc:List Recall):Evid:=⟨1,1,1,[⟨0,0,0⟩,⟨1,-1,-1⟩,⟨5,-1,-1⟩],[⟨3,0,1,0,20,false⟩,⟨5,1,2,0,rd,true⟩],[⟨0,0,9,2,0,0⟩],rc,[]⟩
def exPl:List (List IV):=[[.int 0,.int 0,.int 0],[.int 1,.int (-1),.int (-1)],[.int 5,.int (-1),.int (-1)]]
def exMv(rd:Int):List (List IV):=[[.int 3,.int 0,.int 1,.int 0,.int 20,.bool false],[.int 5,.int 1,.int 2,.int 0,.int rd,.bool true]]
def exCt:List (List IV):=[[.int 0,.int 0,.int 9,.int 2,.int 0,.int 0]]
def exC(rd:Int)(R:List (List IV)):List IV:=[.int 1,.int 1,.int 1,.sl exPl,.sl (exMv rd),.sl exCt,.sl R,.sl []]
instance decRw:DecidableEq Rw:=fun a b=>decidable_of_iff (a.ts=b.ts/\a.kind=b.kind/\a.val=b.val) ⟨fun⟨h1,h2,h3⟩=>by cases a;cases b;cases h1;cases h2;cases h3;rfl,fun h=>by subst h;exact⟨rfl,rfl,rfl⟩⟩
theorem jpr:rowsE (exE 23 [])=[⟨[(0,1)],0,18⟩,⟨[(0,1)],1,22⟩,⟨[(0,1),(1,-1)],2,0⟩,⟨[(1,1)],0,21⟩,⟨[(1,1)],1,25⟩]:=by decide+kernel
theorem ex_rows25:rowsE (exE 25 [])=[⟨[(0,1)],0,18⟩,⟨[(0,1)],1,22⟩,⟨[(0,1),(1,-1)],2,0⟩,⟨[(1,1)],0,23⟩,⟨[(1,1)],1,27⟩]:=by decide+kernel
theorem ex_rowsR:rowsE (exE 23 [⟨0,0⟩])=[⟨[(0,1),(1,-1)],2,0⟩]:=by decide+kernel
theorem ex_sol{x:Nat->Rat}(h:Sol 2 (rowsE (exE 23 [])) x):x 0=x 1/\21<=x 0/\x 0<=22:=by
 rw[jpr]at h;have h1:=(h.row ⟨[(0,1)],1,22⟩ (by simp)).2 (by decide);have h2:=h.row ⟨[(0,1),(1,-1)],2,0⟩ (by simp);have h3:=(h.row ⟨[(1,1)],0,21⟩ (by simp)).1 (by decide);have h4:=h2.1 (by decide);have h5:=h2.2 (by decide);simp only[tsum]at h1 h3 h4 h5;grind
theorem jps{c:Rat}(h1:21<=c)(h2:c<=22):Sol 2 (rowsE (exE 23 [])) (fun _=>c) where
 pos k hk:=by grind
 row w hw:=by
  rw[jpr]at hw;simp only[zS,vz,vU]at hw;rcases hw with rfl | rfl | rfl | rfl | rfl<;>simp only[Rw.sat,tsum]<;>constructor<;>intro _<;>grind
theorem ex_no{x:Nat->Rat}(h:Sol 2 (rowsE (exE 25 [])) x):False:=by
 rw[ex_rows25]at h;have h1:=(h.row ⟨[(0,1)],1,22⟩ (by simp)).2 (by decide);have h2:=h.row ⟨[(0,1),(1,-1)],2,0⟩ (by simp);have h3:=(h.row ⟨[(1,1)],0,23⟩ (by simp)).1 (by decide);have h4:=h2.1 (by decide);have h5:=h2.2 (by decide);simp only[tsum]at h1 h3 h4 h5;grind
theorem ex_hasR:Sol 2 (rowsE (exE 23 [⟨0,0⟩])) (fun _=>0) where
 pos k hk:=by grind
 row w hw:=by
  rw[ex_rowsR]at hw;simp only[zS,vz,vU]at hw;subst hw;simp only[Rw.sat,tsum];constructor<;>intro _<;>grind
section
variable{e:Evid}{ps:List (Int×Int)}{b:Option (Rat×Option Rat)}{lo hi:Rat}{x y:Nat->Rat}
theorem BSay.low(h:BSay e ps b)(hok:okP e ps=true)(hx:Sol (nV e) (rowsE e) x)(ex:wgt e ps x=lo)(hall:∀z,Sol (nV e) (rowsE e) z->lo<=wgt e ps z):∃hi,b=Option.some (lo,hi):=by
 cases h with
 | none hno=>exact absurd hx (hno hok x)
 | some l u h1 h2 h3 h4=>
  obtain⟨z,hz,rfl⟩:=h2.low_at;have a:=h2.low x hx;have c:=hall z hz;have:lo=wgt e ps z:=by grind
  exact⟨u,by rw[this]⟩
theorem BSay.exact(h:BSay e ps b)(hok:okP e ps=true)(hx:Sol (nV e) (rowsE e) x)(ex:wgt e ps x=lo)(hy:Sol (nV e) (rowsE e) y)(ey:wgt e ps y=hi)(hall:∀z,Sol (nV e) (rowsE e) z->lo<=wgt e ps z/\wgt e ps z<=hi):b=Option.some (lo,Option.some hi):=by
 cases h with
 | none hno=>exact absurd hx (hno hok x)
 | some l u h1 h2 h3 h4=>
  have e1:l=lo:=by
   obtain⟨z,hz,rfl⟩:=h2.low_at;have a:=h2.low x hx;have c:=(hall z hz).1;grind
  have e2:u=Option.some hi:=by
   cases hu:u with
   | none=>
    obtain⟨z,hz,hl⟩:=h2.wide hu hi;have:=(hall z hz).2;grind
   | some w=>
    obtain⟨z,hz,rfl⟩:=h2.high_at w hu;have a:=h2.high _ hu y hy;have c:=(hall z hz).2;have:wgt e ps z=hi:=by grind
    rw[this]
  rw[e1,e2]
theorem BSay.no(h:BSay e ps b)(hno:∀x,¬Sol (nV e) (rowsE e) x):b=Option.none:=by
 cases h with
 | none _=>rfl
 | some l u h1 h2 h3 h4=>obtain⟨z,hz,_⟩:=h2.low_at;exact absurd hz (hno z)
end
theorem jhd(rd:Int)(rc:List Recall):SmallE (exE rd rc):=small2 (by show 2<=9;omega) (by show(1:Int)<=2;omega) (by show 0<=40;omega)
theorem ex_one{b:Option (Rat×Option Rat)}(h:BSay (exE 23 []) [(0,0)] b):b=some (((21:Int):Rat),some ((22:Int):Rat)):=by
 refine h.exact (by decide+kernel) (jps (c:=21) (by decide) (by decide)) ?_ (jps (c:=22) (by decide) (by decide)) ?_ ?_
 ·show(21:Rat)+0=21;decide+kernel
 ·show(22:Rat)+0=22;decide+kernel
 ·intro z hz;obtain⟨h1,h2,h3⟩:=ex_sol hz;have e1:wgt (exE 23 []) [(0,0)] z=z 0+0:=rfl;have e2:((21:Int):Rat)=21:=rfl;have e3:((22:Int):Rat)=22:=rfl;rw[e1,e2,e3];grind
theorem ex_two{b:Option (Rat×Option Rat)}(h:BSay (exE 23 []) [(1,0),(0,0)] b):b=some (((42:Int):Rat),some ((44:Int):Rat)):=by
 refine h.exact (by decide+kernel) (jps (c:=21) (by decide) (by decide)) ?_ (jps (c:=22) (by decide) (by decide)) ?_ ?_
 ·show(21:Rat)+(21+0)=42;decide+kernel
 ·show(22:Rat)+(22+0)=44;decide+kernel
 ·intro z hz;obtain⟨h1,h2,h3⟩:=ex_sol hz;have e1:wgt (exE 23 []) [(1,0),(0,0)] z=z 1+(z 0+0):=rfl;have e2:((42:Int):Rat)=42:=rfl;have e3:((44:Int):Rat)=44:=rfl;rw[e1,e2,e3];grind
theorem jon(rd:Int):Ctr G.P 28 [.int rd] (· = .agg (exC rd [])):=by
 unfold exC exPl exMv exCt;refine ja5 [.cell 2 28] Tryz.func28 ?_;simp only[go_sem]
theorem joo{e:Evid}{C:List (List IV)}{ps:List (Int×Int)}{r:List IV}{f:Int}{lo hi:Int}(h:RSay e ps r f (some ((lo:Rat),some (hi:Rat))))(kR:Ctr G.P 10 [.agg (exC 23 []),.sl C] (· = .tup [.agg r,.int f]))
  (hlo:0<=lo/\lo<=100) (hhi:0<=hi/\hi<=100):Ctr G.P 33 [.agg (exC 23 []),.sl C,.int lo,.int hi] (· = .bool true):=by
 have kB:=h.bnd;have hf:f=0:=zI h.flag;subst hf;obtain⟨k1,a1,c1,b1,d1,P1,Y1,Z1,k2,a2,c2,b2,d2,P2,Y2,Z2,rfl⟩:=h.shape;clear h;simp only[bB,bdC,sideC,List.cons_append,List.nil_append,qv]at kB;have i1:=jbt lo (by omega);have i2:=jbt hi (by omega);have s1:=f_self (FL.mono (jb3 (n:=lo) (by omega)) (by omega:4<=19000000000));have s2:=f_self (FL.mono (jb3 (n:=hi) (by omega)) (by omega:4<=19000000000));simp only[frac,fc,ints,Option.isSome,List.cons_append,List.nil_append]at*;generalize (dig ((lo:Rat).num.natAbs)).map ic=x1 at*;generalize (dig ((lo:Rat).den:Int).natAbs).map ic=x2 at*;generalize (dig ((hi:Rat).num.natAbs)).map ic=x3 at*;generalize (dig ((hi:Rat).den:Int).natAbs).map ic=x4 at*;unfold exC at*;refine ja5 [.tmp 8] Tryz.func33 ?_;simp only[go_sem];refine ja1 kR ?_;simp only[go_sem];refine ja1 kB ?_;simp only[go_sem];refine jac 25 ?_;simp only[go_sem];refine ja4 i1 (by decide) ?_;simp only[go_sem];refine ja4 s1 (by decide) ?_;simp only[go_sem];refine ja4 i2 (by decide) ?_;simp only[go_sem];refine ja4 s2 (by decide) ?_;simp only[go_sem]
end
section
open Go.Abs
open Go.LP (Dic Rw RT Ov OvRw tsum Sol IsMin NoMin Bds)
attribute [local go_sem] ints ic big frac fc zc
theorem jke:Ctr G.P 6 [] (· = .bool true):=by
 have kE23:=jon 23;have kE25:=jon 25;have kI0:Ctr G.P 32 [.int 0] (· =frac ((0:Int):Rat)):=jbt 0 (by omega);have kS0:=f_self (FL.mono (jb3 (n:=0) (by omega)) (by omega:4<=19000000000));obtain⟨r1,f1,b1,s1,kR1⟩:=jiy (e:=exE 23 []) (ps:=[(0,0)]) (jhd _ _) (by simp);have hb1:=ex_one s1.say;subst hb1;have kb1:=joo (e:=exE 23 []) (C:=[[.int 0,.int 0]]) s1 kR1 (by omega) (by omega);obtain⟨r2,f2,b2,s2,kR2⟩:=jiy (e:=exE 23 []) (ps:=[(1,0),(0,0)]) (jhd _ _) (by simp);have hb2:=ex_two s2.say;subst hb2;have kb2:=joo (e:=exE 23 []) (C:=[[.int 1,.int 0],[.int 0,.int 0]]) s2 kR2 (by omega) (by omega);have kG:=w_Goal (e:=exE 23 []) (ps:=[(1,0),(0,0)]) (by simp);have hg:okP (exE 23 []) [(1,0),(0,0)]=true:=by decide+kernel
 rw[hg,zm rfl]at kG;have kG':Ctr G.P 30 [.agg (exC 23 []),.sl [[.int 1,.int 0],[.int 0,.int 0]]] (· = .sl [tmC (0,1),tmC (1,1)]):=kG;obtain⟨r3,f3,b3,s3,kR3⟩:=jiy (e:=exE 23 []) (ps:=[]) (jhd _ _) (by simp);have kP3:=jm8 s3 kR3;have hb3:b3.isSome=true:=by
  obtain⟨hi,h⟩:=s3.say.low (lo:=0) (by decide+kernel) (jps (c:=21) (by decide) (by decide)) rfl (fun z _=>by show(0:Rat)<=0;decide);rw[h];rfl
 rw[hb3]at kP3;obtain⟨r4,f4,b4,s4,kR4⟩:=jiy (e:=exE 25 []) (ps:=[]) (jhd _ _) (by simp);have kP4:=jm8 s4 kR4;have hb4:=s4.say.no fun x hx=>ex_no hx;subst hb4;obtain⟨r5,f5,b5,s5,kR5⟩:=jiy (e:=exE 25 []) (ps:=[(0,0)]) (jhd _ _) (by simp);have hb5:=s5.say.no fun x hx=>ex_no hx;obtain⟨e5,e6⟩:=s5.zero hb5;have hf5:f5=15:=by
  rcases e6 with h | h
  ·have h2:=s5.arg.1 h;rw[show okP (exE 25 []) [(0,0)]=true by decide+kernel]at h2;cases h2
  ·exact h
 subst e5 hf5;obtain⟨r6,f6,b6,s6,kR6⟩:=jiy (e:=exE 23 [⟨0,0⟩]) (ps:=[(0,0)]) (jhd _ _) (by simp);have hb6:∃hi,b6=some (((0:Int):Rat),hi):=by
  refine s6.say.low (by decide+kernel) ex_hasR ?_ ?_
  ·show(0:Rat)+0=0;decide+kernel
  ·intro z hz;have:=hz.pos 0 (by decide);have e1:wgt (exE 23 [⟨0,0⟩]) [(0,0)] z=z 0+0:=rfl;have e2:((0:Int):Rat)=0:=rfl;rw[e1,e2];grind
 obtain⟨hi6,hb6⟩:=hb6;subst hb6;have kL:=w_least s6 kR6;have kL':Ctr G.P 29 [.agg (exC 23 [[.int 0,.int 0]]),.sl [[.int 0,.int 0]]] (· = .tup [frac ((0:Int):Rat),.int 0]):=kL;have kR5':Ctr G.P 10 [.agg (exC 25 []),.sl [[.int 0,.int 0]]] (· = .tup [.agg (zo++zo),.int 15]):=kR5;have kP3':Ctr G.P 34 [.agg (exC 23 [])] (· = .bool true):=kP3;have kP4':Ctr G.P 34 [.agg (exC 25 [])] (· = .bool false):=kP4;clear kR1 kR2 kR3 kR4 kR5 kR6 s1 s2 s3 s4 s5 s6 kL kP3 kP4 hb3 hb5 e6 kG hg;simp only[frac,ints,exC,zo,zc,List.cons_append,List.nil_append,tmC,fc]at*;generalize (dig (((0:Int):Rat).num.natAbs)).map ic=x1 at*;generalize (dig ((((0:Int):Rat).den:Int).natAbs)).map ic=x2 at*;generalize exMv 23=m23 at*;generalize exMv 25=m25 at*;generalize exPl=pl at*;generalize exCt=ct at*;refine ja5 [.tmp 0] Tryz.func6 ?_;simp only[go_sem];refine ja1 kE23 ?_;simp only[go_sem];refine ja1 kE25 ?_;simp only[go_sem];refine ja1 kR5' ?_;simp only[go_sem];refine ja1 kL' ?_;simp only[go_sem];refine jac 19 ?_;simp only[go_sem];refine ja4 kE23 (by decide) ?_;simp only[go_sem];refine ja4 kG' (by decide) ?_;simp only[go_sem];refine ja4 kI0 (by decide) ?_;simp only[go_sem];refine ja4 kS0 (by decide) ?_;simp only[go_sem];refine ja1 kE23 ?_;simp only[go_sem];refine ja1 kb1 ?_;simp only[go_sem];refine ja1 kE23 ?_;simp only[go_sem];refine ja1 kb2 ?_;simp only[go_sem];refine ja1 kE23 ?_
 simp only[go_sem];refine ja1 kP3' ?_;simp only[go_sem];refine ja1 kE25 ?_;simp only[go_sem];refine ja1 kP4' ?_;simp only[go_sem]
def jmh(e:Evid)(k m:Int):Bool:=
 !decide (m<e.mats)&&(!decide (6<e.houses)&&(!decide (6<e.scales)&&(!decide (12<(e.places.length:Int))&&(decide ((e.moves.length:Int)<=k)&&(decide ((e.certs.length:Int)<=10)&&(decide ((e.recalls.length:Int)<=4)&&decide ((e.purs.length:Int)<=6)))))))
theorem t_small14(e:Evid)(k m:Int):Ctr G.P 35 [e.iv,.int k,.int m] (· = .bool (jmh e k m)):=by
 refine ja5 [.tmp 6] Tryz.func35 ?_;unfold jmh Evid.iv Evid.c;simp only[zw,go_sem]
 repeat' (first | (refine jcq (fun hd=> ?_) (fun hd=> ?_)<;>simp only[*,go_sem]))
 all_goals simp[*]
def few17(e:Evid)(n:Nat)(k:Int):Bool:=jmh e k 2&&(decide ((e.purs.length:Int)<=3)&&decide ((n:Int)<=20))
theorem few_small{e:Evid}{n:Nat}{k:Int}(h:few17 e n k=true)(hk:k<=9):SmallE e/\n<=20/\(e.moves.length:Int)<=k/\e.certs.length<=10/\e.recalls.length<=4/\e.scales<=6:=by
 simp only[few17,jmh,zr,yL,qg,zK]at h;exact⟨small2 (by omega) (by omega) (by omega),by omega,by omega,by omega,by omega,by omega⟩
