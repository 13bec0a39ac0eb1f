/- A part of the proof. No further condition. -/
import Derived.Test.YtjcjcpebocbonaaGreatKY35
set_option linter.all false
set_option maxRecDepth 10000000
set_option maxHeartbeats 16000000
namespace Go.Proofs.YtjcjcpebocbonaaGreat
section
set_option maxRecDepth 1000000
open Go.Abs
open Go.LP (Rw RT Ov OvRw tsum)
theorem Ov_int{z:Int}(h:z.natAbs<=2^80):Ov (2^100) 1000 (z:Rat):=
 ⟨z*1000,by rw[jJ];rfl,by rw[jB];exact qI (qj _ h) (by decide)⟩
theorem Ov_err{c:Cert}{rd day:Int}(h:jec c day=true)(hr:0<=rd/\rd<=1099511627776):∃z:Int,errF c rd day*((1000:Nat):Rat)=(z:Rat)/\z.natAbs<=2^80:=by
 obtain⟨_,_,_,h1,h2,h3,h4⟩:=jtu h hr;refine⟨c.perMille*rd+(c.grams+c.drift*(day-c.fr))*1000,?_,?_⟩
 ·unfold errF;generalize c.grams+c.drift*(day-c.fr)=w0;generalize c.perMille*rd=u0;rw[Rat.divInt_eq_div,vB,jJ w0 1000];generalize (u0:Rat)=u;generalize (w0:Rat)=w;have:((1000:Int):Rat)≠0:=by decide
  have e2:((1000:Nat):Rat)=((1000:Int):Rat):=rfl;rw[e2];have:=Rat.div_mul_cancel (a:=u) this;grind
 ·generalize c.perMille*rd=a at*;generalize c.drift*(day-c.fr)=b at*;have:(2:Nat)^80=1208925819614629174706176:=by decide
  omega
theorem Ov_ivl{cs:List Cert}{rs:List Recall}{sc rd day:Int}{a b:Rat}(h:ivlF cs rs sc rd day=some (a,b)):Ov (2^100) 1000 a/\Ov (2^100) 1000 b:=by
 unfold ivlF at h;split at h
 ·cases h
 split at h
 ·cases h
 split at h
 ·cases h
 rename_i c _;split at h
 ·rename_i hv;rw[zn]at hv;have hb:=btw_iff.1 hv.2;obtain⟨z,h1,h2⟩:=Ov_err hv.1 hb;injection h with h;injection h with h3 h4;subst h3 h4;have e2:(2:Nat)^80=1208925819614629174706176:=by decide
  have e3:(2:Nat)^100=1267650600228229401496703205376:=by decide
  have e4:((rd:Int):Rat)*((1000:Nat):Rat)=((rd*1000:Int):Rat):=by rw[jJ];rfl
  refine⟨?_,rd*1000+z,?_,?_⟩
  ·split
   ·exact Go.LP.Ov_zero
   ·refine⟨rd*1000-z,?_,by omega⟩;rw[Go.LP.cast_sub,<-h1,<-e4];grind
  ·rw[vB,<-h1,<-e4];grind
  ·omega
 ·cases h
theorem jj8{M:Nat}{fr:Int}{mat:Nat}{ms:List Move}:∀i,∀t∈jbj M fr mat ms i,Ov (2^100) 1000 t.2
 | 0=>fun t ht=>by cases ht
 | i+1=>by
  rw[jbj];split
  ·split
   ·exact jj8 i
   ·intro t ht;rcases ql.1 ht with ht | ht
    ·exact jj8 i t ht
    ·rw[zF.1 ht];refine Ov_int ?_;unfold sgnF;split
     ·decide
     ·split<;>decide
  ·exact jj8 i
theorem jjv{M mv:Nat}{b own more:Int}(hb: -1000<=b/\b<=1000)(hm: -1000<=more/\more<=1000):∀k,∀t∈sumT M mv b own more k,Ov (2^100) 1000 t.2
 | 0=>fun t ht=>by cases ht
 | k+1=>by
  rw[sumT];split
  ·exact jjv hb hm k
  ·intro t ht;rcases ql.1 ht with ht | ht
   ·exact jjv hb hm k t ht
   ·rw[zF.1 ht];refine Ov_int ?_;have e2:(2:Nat)^80=1208925819614629174706176:=by decide
    unfold coF;split<;>omega
theorem jp3:Ov (2^100) 1000 0:=Go.LP.Ov_zero
theorem rows_ov{e:Evid}(hp:∀p∈e.purs,0<=p.least/\p.least<=1000/\0<=p.most/\p.most<=1000)(w:Rw)(hw:w∈rowsE e):OvRw (2^100) 1000 w:=by
 obtain⟨k,x,hk,hx,hw⟩:=mem_rowsU.1 hw;unfold moveR at hw;simp only[ql]at hw;rcases hw with (hw | hw) | hw
 ·split at hw
  ·cases hw
  ·obtain⟨mat,h1,rfl⟩:=mem_stockR.1 hw;exact⟨jp3,jj8 _⟩
 ·unfold jea at hw;split at hw
  ·cases hw
  ·split at hw
   ·rename_i lo hi hv;obtain⟨o1,o2⟩:=Ov_ivl hv;rcases zL.1 hw with rfl | hw
    ·exact⟨o1,jjv (by omega) (by omega) _⟩
    ·rcases zL.1 hw with rfl | hw
     ·exact⟨o2,jjv (by omega) (by omega) _⟩
     ·cases hw
   ·cases hw
 ·unfold purR at hw;obtain⟨p,a1,hw⟩:=j2.1 hw;have:=hp p a1;unfold pur1 at hw;split at hw
  ·rcases zL.1 hw with rfl | hw
   ·exact⟨jp3,jjv (by omega) (by omega) _⟩
   ·rcases zL.1 hw with rfl | hw
    ·exact⟨jp3,jjv (by omega) (by omega) _⟩
    ·cases hw
  ·cases hw
end
section
set_option maxRecDepth 1000000
open Go.Abs
open Go.LP (Dic Rw RT Ov OvRw tsum Sol IsMin NoMin Bds ksum ones ksum_nonneg jkv)
open Go.LW (isort noDup)
attribute [local go_sem] ints ic big frac fc zc
structure SmallE(e:Evid):Prop where
 mv:e.moves.length<=9
 mt:e.moves.length*e.mats.toNat<=18
 pu:e.purs.length<=40
theorem small3{e:Evid}(h1:e.moves.length<=6)(h2:e.mats<=3)(h3:e.purs.length<=40):SmallE e:=⟨by omega,qI (yk h1 (show e.mats.toNat<=3 by omega)) (by decide),h3⟩
def nV(e:Evid):Nat:=e.moves.length*e.mats.toNat
section
variable{e:Evid}{ps:List (Int×Int)}
theorem sys_ok(hc:jbh e=0)(hs:SmallE e):SysOk (nV e) (rowsE e) where
 ok:=rows_ok
 n:=hs.mt
 len:=by
  have h1:=hs.mv;have h2:=hs.mt;have h3:=hs.pu;have h4:=jl6 (e:=e) (M:=e.mats.toNat) e.moves.length;have h5:e.moves.length*(e.mats.toNat+2+2*e.purs.length)=e.moves.length*e.mats.toNat+e.moves.length*2+e.moves.length*(2*e.purs.length):=by rw[Nat.mul_add,Nat.mul_add]
  have h6:e.moves.length*(2*e.purs.length)<=9*80:=yk h1 (by omega);refine qI h4 ?_;rw[h5];omega
 mn:=fun h=>by
  obtain⟨_,a1,_⟩:=jay hc;have h0:e.moves.length≠0:=fun h0=>h (by unfold rowsE;rw[h0];rfl);have:1*1<=e.moves.length*e.mats.toNat:=yk (by omega) (by omega);unfold nV;omega
 ov:=rows_ov fun p hp=>by
  have:=purF_iff.1 (jhv hc p hp);omega
theorem jiq(h:okP e ps=true):jbh e=0/\(∀p∈ps,je8 e p=true)/\noDup (isort (ps.map (pickK e.mats.toNat)))=true:=by
 simp only[okP,zn,zN,List.all_eq_true]at h;exact h
theorem pick_lt{p:Int×Int}(h:je8 e p=true):pickK e.mats.toNat p<nV e:=by
 simp only[je8,zn,zN]at h;obtain⟨h1,h2,h3,h4⟩:=h;have:(p.1.toNat+1)*e.mats.toNat<=e.moves.length*e.mats.toNat:=qj _ (by omega);rw[jo]at this;unfold pickK nV;omega
theorem keys_lt(h:∀p∈ps,je8 e p=true):∀k∈isort (ps.map (pickK e.mats.toNat)),k<nV e:=fun k hk=>by
 obtain⟨p,hp,rfl⟩:=z8.1 ((Go.LW.isort_perm _).mem_iff.1 hk);exact pick_lt (h p hp)
theorem goal_ok(h:okP e ps=true):GoalOk (nV e) (goalS e.mats.toNat ps) where
 rt:=by
  obtain⟨_,h1,h2⟩:=jiq h;exact Go.LP.RT_ones (Go.LW.noDup_lt (Go.LW.isort_sorted _) h2) fun k hk=>⟨zG _,keys_lt h1 k hk⟩
 ov t ht:=by
  obtain⟨k,_,rfl⟩:=z8.1 ht;exact Ov_int (z:=1) (by decide)
def wgt(e:Evid)(ps:List (Int×Int))(x:Nat->Rat):Rat:=ksum (ps.map (pickK e.mats.toNat)) x
theorem jt2(x:Nat->Rat):tsum (goalS e.mats.toNat ps) x=wgt e ps x:=by
 rw[goalS,jkv];exact Go.LP.ksum_perm (Go.LW.isort_perm _) x
end
def RShape(r:List IV):Prop:=∃(k1 a1 c1:Int) (b1 d1 P1 Y1 Z1:List (List IV)) (k2 a2 c2:Int) (b2 d2 P2 Y2 Z2:List (List IV)),
 r=[.int k1,.int a1,.sl b1,.int c1,.sl d1,.sl P1,.sl Y1,.sl Z1,.int k2,.int a2,.sl b2,.int c2,.sl d2,.sl P2,.sl Y2,.sl Z2]
def RFound(N:Nat)(ws:List Rw)(f:(Nat->Rat)->Rat)(r:List IV)(lo:Rat)(hi:Option Rat):Prop:=∃(x x':Nat->Rat) (Y Z:List (List IV)) (k:Int) (Y' Z':List (List IV)),
 r=([.int 0]++fc lo++[xl N x,.sl Y,.sl Z])++([.int k]++sideC (hi.map fun v=> -v)++[xl N x',.sl Y',.sl Z'])/\decide (k=0)=hi.isSome/\Sol N ws x/\f x=lo/\Sol N ws x'/\(∀w,hi=some w->f x'=w)/\(∀k,FL (capN N) (x k))/\∀k,FL (capN N) (x' k)
theorem RFound.shape{N:Nat}{ws:List Rw}{f:(Nat->Rat)->Rat}{r:List IV}{lo:Rat}{hi:Option Rat}(h:RFound N ws f r lo hi):RShape r:=by
 obtain⟨x,x',Y,Z,k,Y',Z',rfl,_⟩:=h;cases hi with
 | none=>exact⟨_,_,_,_,_,_,_,_,_,_,_,_,_,_,_,_,rfl⟩
 | some w=>exact⟨_,_,_,_,_,_,_,_,_,_,_,_,_,_,_,_,rfl⟩
def bdC(lo:Rat)(hi:Option Rat):List IV:=fc lo++sideC hi++[.bool true,.bool hi.isSome]
section
variable{N:Nat}{ws:List Rw}{goal:List (Nat×Rat)}
theorem span_says0(hs:SysOk N ws)(hg:GoalOk N goal)(hp:∀x,Sol N ws x->0<=tsum goal x):
  (spanR N ws goal= .tup [.agg (zo++zo),.int 15]/\∀x,¬Sol N ws x)\/
  (∃(r:List IV) (lo:Rat) (hi:Option Rat),spanR N ws goal= .tup [.agg r,.int 0]/\Bds N ws (tsum goal) lo hi/\FL 4000000000 lo/\(∀w,hi=some w->FL 4000000000 w)/\
   Ctr G.P 65 [.agg r] (· = .agg (bdC lo hi))/\RFound N ws (tsum goal) r lo hi):=by
 have h1:=jgk hs hg;have h2:=jgk hs hg.opp;have e1:((-1:Int):Rat)= -1:=by decide
 unfold spanR;generalize jit N ws goal=o at*;generalize jit N ws (mulT ((-1:Int):Rat) goal)=o' at*;cases h1 with
 | none Y hno=>exact .inl ⟨ze rfl,hno⟩
 | free x Z hno hx hxF=>
  exfalso;obtain⟨y,hy,hl⟩:=hno.2 0;have:=hp y hy;grind
 | found v x Y hf hmin hx hv hxF=>
  right;have a7:isNone ([.int 0]++fc v++[xl N x,.sl Y,.sl []])=false:=rfl;rw[a7,zl (by decide)];cases h2 with
  | none Y' hno=>exact absurd hx (hno x)
  | found u x' Y' hf' hmin' hx' hv' hxF'=>
   have a1:tsum goal x'= -u:=by rw[jie,e1]at hv';grind
   have a6: - -u=u:=by grind
   refine⟨_,v,some (-u),rfl,⟨hmin.at',hmin.le,?_,?_,fun h=>by cases h⟩,hf,?_,?_,⟨x,x',Y,[],0,Y',[],?_,rfl,hx,hv,hx',(fun w hw=>by cases hw;exact a1),hxF,hxF'⟩⟩
   ·intro w hw;cases hw;exact⟨x',hx',a1⟩
   ·intro w hw y hy;cases hw;have:=hmin'.le y hy;rw[jie,e1]at this;grind
   ·intro w hw;cases hw;exact jnr hf'
   ·exact x_bnd (some v) (some u) 0 0 _ _ _ _ _ _ rfl rfl (fun w h=>by cases h;exact hf) (fun w h=>by cases h;exact hf')
   ·rw[Option.map_some,a6];rfl
  | free x' Z' hno hx' hxF'=>
   refine⟨_,v,none,rfl,⟨hmin.at',hmin.le,(fun w hw=>by cases hw),(fun w hw=>by cases hw),fun _ c=> ?_⟩,hf,(fun w hw=>by cases hw),?_,⟨x,x',Y,[],2,[],Z',rfl,rfl,hx,hv,hx',(fun w hw=>by cases hw),hxF,hxF'⟩⟩
   ·obtain⟨y,hy,hl⟩:=hno.2 (-c);refine⟨y,hy,?_⟩;rw[jie,e1]at hl;grind
   ·exact x_bnd (some v) none 0 2 _ _ _ _ _ _ rfl rfl (fun w h=>by cases h;exact hf) (fun w h=>by cases h)
theorem span_says(hs:SysOk N ws)(hg:GoalOk N goal)(hp:∀t∈goal,0<=t.2):
  (spanR N ws goal= .tup [.agg (zo++zo),.int 15]/\∀x,¬Sol N ws x)\/
  (∃(r:List IV) (lo:Rat) (hi:Option Rat),spanR N ws goal= .tup [.agg r,.int 0]/\Bds N ws (tsum goal) lo hi/\FL 4000000000 lo/\(∀w,hi=some w->FL 4000000000 w)/\
   Ctr G.P 65 [.agg r] (· = .agg (bdC lo hi))/\RFound N ws (tsum goal) r lo hi):=span_says0 hs hg fun _ hx=>Go.LP.tsum_nonneg hg.rt hp hx.pos
end
end
section
set_option maxRecDepth 1000000
open Go.Abs
open Go.LP (Dic Rw RT Ov OvRw tsum Sol IsMin NoMin Bds)
attribute [local go_sem] Evid.c Evid.iv ints ic big frac fc zc
inductive BSay(e:Evid)(ps:List (Int×Int)):Option (Rat×Option Rat)->Prop
 | none:(okP e ps=true->∀x,¬Sol (nV e) (rowsE e) x)->BSay e ps none
 | some (lo:Rat) (hi:Option Rat):okP e ps=true->Bds (nV e) (rowsE e) (wgt e ps) lo hi->FL 4000000000 lo->(∀w,hi=some w->FL 4000000000 w)->BSay e ps (some (lo,hi))
def bB:Option (Rat×Option Rat)->List IV
 | none=>zc++zc++[.bool true,.bool true]
 | some (lo,hi)=>bdC lo hi
structure RSay(e:Evid)(ps:List (Int×Int))(r:List IV)(f:Int)(b:Option (Rat×Option Rat)):Prop where
 shape:RShape r
 bnd:Ctr G.P 65 [.agg r] (· = .agg (bB b))
 flag:decide (f=0)=b.isSome
 say:BSay e ps b
 arg:f=1↔okP e ps=false
 zero:b=none->r=zo++zo/\(f=1\/f=15)
 found:∀lo hi,b=some (lo,hi)->RFound (nV e) (rowsE e) (wgt e ps) r lo hi
theorem jp9:Ctr G.P 65 [.agg (zo++zo)] (· = .agg (bB none)):=by
 have hz:Ctr G.P 92 [.agg [.int 0,ints [],.int 0,ints []]] (· = .agg [.int 0,ints [],.int 0,ints []]):=x_negz;have a1:Ctr G.P 91 [.agg [.int 0,ints [],.int 0,ints []]] (· = .agg [.int 0,ints [],.int 0,ints []]):=jqz 0 0 [] [] (by simp) (by simp);exact jid 0 0 0 0 0 0 0 0 [] [] [] [] [] [] [] [] [] [] [] [] a1 hz
theorem jrn:RShape (zo++zo):=⟨_,_,_,_,_,_,_,_,_,_,_,_,_,_,_,_,rfl⟩
section
variable{e:Evid}{ps:List (Int×Int)}
theorem w_range(hs:SmallE e)(hl:ps.length<=10000):∃r f b,RSay e ps r f b/\Ctr G.P 64 [e.iv,.sl (ps.map pickC)] (· = .tup [.agg r,.int f]):=by
 have kg:=w_goal (e:=e) hl;unfold jg9 at kg;rcases h0:okP e ps with _ | _
 ·rw[h0,zl (by decide)]at kg;refine⟨zo++zo,1,none,⟨jrn,jp9,rfl,.none (fun h=>by rw[h0]at h;cases h),⟨fun _=>h0,fun _=>rfl⟩,fun _=>⟨rfl,.inl rfl⟩,fun lo hi h=>by cases h⟩,?_⟩;unfold zo;refine ja3 [.cell 4 124,.tmp 5] Tryz.func64 ?_;unfold Evid.iv Evid.c at*;simp only[go_sem];refine ja0 kg ?_;simp only[go_sem]
 ·obtain⟨hc,_,_⟩:=jiq h0;rw[h0,ze rfl]at kg;have kS:=e_System (e:=e) (fun _=>by have:=hs.mv;omega);unfold sysIV at kS;rw[ze hc]at kS;have a7:=sys_ok hc hs;have a8:=goal_ok h0;have kO:=x_Of a7 a8;have a6:∀f:Int,f≠1->(f=1↔okP e ps=false):=fun f hf=>⟨fun h=>absurd h hf,fun h=>by rw[h0]at h;cases h⟩;rcases span_says a7 a8 (fun t ht=>by
   obtain⟨k,_,rfl⟩:=z8.1 ht;show(0:Rat)<=1;decide)with ⟨e1,b3⟩ | ⟨r,lo,hi,e1,hb,f1,f2,kB,hr⟩
  ·rw[e1]at kO;refine⟨zo++zo,15,none,⟨jrn,jp9,rfl,.none fun _=>b3,a6 _ (by decide),fun _=>⟨rfl,.inr rfl⟩,fun lo hi h=>by cases h⟩,?_⟩;unfold zo nV at*;generalize (goalS e.mats.toNat ps).map tmC=gt at*;generalize (rowsE e).map rwC=rt at*;refine ja3 [.cell 4 124,.tmp 5] Tryz.func64 ?_;unfold Evid.iv Evid.c at*;simp only[go_sem];refine ja0 kg ?_;simp only[go_sem];refine ja0 kS ?_;simp only[go_sem];refine ja0 kO ?_;simp only[go_sem]
  ·rw[e1]at kO;have b0:∀l' h',some (lo,hi)=some (l',h')->RFound (nV e) (rowsE e) (wgt e ps) r l' h':=fun l' h' hh=>by
    cases hh;have e1:tsum (goalS e.mats.toNat ps)=wgt e ps:=funext fun x=>jt2 x;rw[e1]at hr;exact hr
   refine⟨r,0,some (lo,hi),⟨hr.shape,kB,rfl,.some lo hi h0 (hb.congr fun x=>jt2 x) f1 f2,a6 _ (by decide),(fun h=>by cases h),b0⟩,?_⟩;clear b0;obtain⟨k1,a1,c1,b1,d1,P1,Y1,Z1,k2,a2,c2,b2,d2,P2,Y2,Z2,rfl⟩:=hr.shape;unfold nV at*;generalize (goalS e.mats.toNat ps).map tmC=gt at*;generalize (rowsE e).map rwC=rt at*;refine ja3 [.cell 4 124,.tmp 5] Tryz.func64 ?_;unfold Evid.iv Evid.c at*;simp only[go_sem];refine ja0 kg ?_;simp only[go_sem];refine ja0 kS ?_;simp only[go_sem];refine ja0 kO ?_;simp only[go_sem]
variable{r:List IV}{f:Int}{b:Option (Rat×Option Rat)}{ys:List (List IV)}
def jrb(f:Int):Option (Rat×Option Rat)->IV
 | none=> .tup [.agg zc,.int f]
 | some (lo,_)=> .tup [frac lo,.int 0]
theorem w_least(h:RSay e ps r f b)(kR:Ctr G.P 64 [e.iv,.sl ys] (· = .tup [.agg r,.int f])):Ctr G.P 40 [e.iv,.sl ys] (· =jrb f b):=by
 have kB:=h.bnd;have hf:=h.flag;obtain⟨k1,a1,c1,b1,d1,P1,Y1,Z1,k2,a2,c2,b2,d2,P2,Y2,Z2,rfl⟩:=h.shape;cases b with
 | none=>
  clear h kB;have a6:decide (f=0)=false:=hf;unfold jrb;refine ja3 [.cell 4 48,.tmp 5] Tryz.func40 ?_;unfold Evid.iv Evid.c at*;simp only[go_sem];refine ja0 kR ?_;simp only[a6,go_sem]
 | some p=>
  obtain⟨lo,hi⟩:=p;have e1:∃(a2 c2:Int) (b2 d2:List (List IV)) (h:Bool),bB (some (lo,hi))=fc lo++[.int a2,.sl b2,.int c2,.sl d2,.bool true,.bool h]:=by
   cases hi with
   | none=>exact⟨_,_,_,_,_,rfl⟩
   | some w=>exact⟨_,_,_,_,_,rfl⟩
  obtain⟨u5,u6,u7,u8,a7,e1⟩:=e1;rw[e1]at kB;have a6:f=0:=zI hf;subst a6;clear h e1 hf;unfold jrb;refine ja3 [.cell 4 48,.tmp 5] Tryz.func40 ?_;unfold Evid.iv Evid.c at*;simp only[go_sem];refine ja0 kR ?_;simp only[go_sem];refine ja0 kB ?_;simp only[go_sem]
end
end
section
set_option maxRecDepth 1000000
open Go.Abs
attribute [local go_sem] ints ic big frac fc zc
end
section
set_option maxRecDepth 1000000
open Go.Abs
open Go.LP (Dic Rw RT Ov OvRw tsum Sol IsMin NoMin Bds)
attribute [local go_sem] ints ic big frac fc zc
instance decRw:DecidableEq Rw:=fun a b=>decidable_of_iff (a.ts=b.ts/\a.kind=b.kind/\a.val=b.val) ⟨fun⟨h1,h2,h3⟩=>by cases a;cases b;cases h1;cases h2;cases h3;rfl,fun h=>by subst h;exact⟨rfl,rfl,rfl⟩⟩
section
variable{e:Evid}{ps:List (Int×Int)}{b:Option (Rat×Option Rat)}{lo hi:Rat}{x y:Nat->Rat}
end
end
section
set_option maxRecDepth 1000000
open Go.Abs
open Go.LP (Dic Rw RT Ov OvRw tsum Sol IsMin NoMin Bds)
attribute [local go_sem] ints ic big frac fc zc
