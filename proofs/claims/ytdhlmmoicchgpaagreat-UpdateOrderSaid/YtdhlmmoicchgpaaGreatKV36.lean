/- A part of the proof. No further condition. -/
import Derived.Test.YtdhlmmoicchgpaaGreatKV33
set_option linter.all false
set_option maxRecDepth 10000000
set_option maxHeartbeats 16000000
namespace Go.Proofs.YtdhlmmoicchgpaaGreat
section
open Go.Abs
open Go.LP (Rw RT Ov OvRw tsum)
theorem Ov_int{z:Int}(h:z.natAbs<=2^80):Ov (2^100) 1000 (z:Rat):=
 ⟨z*1000,by rw[jF];rfl,by rw[jj];exact qh (zZ _ h) (by decide)⟩
theorem Ov_err{c:Cert}{rd day:Int}(h:jde c day=true)(hr:0<=rd/\rd<=1099511627776):∃z:Int,errF c rd day*((1000:Nat):Rat)=(z:Rat)/\z.natAbs<=2^80:=by
 obtain⟨_,_,_,h1,h2,h3,h4⟩:=FL_err h hr;refine⟨c.perMille*rd+(c.grams+c.drift*(day-c.fr))*1000,?_,?_⟩
 ·unfold errF;generalize c.grams+c.drift*(day-c.fr)=w0;generalize c.perMille*rd=u0;rw[Rat.divInt_eq_div,Rat.intCast_add,jF w0 1000];generalize (u0:Rat)=u;generalize (w0:Rat)=w;have:((1000:Int):Rat)≠0:=by decide
  have e2:((1000:Nat):Rat)=((1000:Int):Rat):=rfl;rw[e2];have:=Rat.div_mul_cancel (a:=u) this;grind
 ·generalize c.perMille*rd=a at*;generalize c.drift*(day-c.fr)=b at*;have:(2:Nat)^80=1208925819614629174706176:=by decide
  omega
theorem Ov_ivl{cs:List Cert}{rs:List Recall}{sc rd day:Int}{a b:Rat}(h:ivlF cs rs sc rd day=some (a,b)):Ov (2^100) 1000 a/\Ov (2^100) 1000 b:=by
 unfold ivlF at h;split at h
 ·cases h
 split at h
 ·cases h
 split at h
 ·cases h
 rename_i c _;split at h
 ·rename_i hv;rw[zC]at hv;have hb:=btw_iff.1 hv.2;obtain⟨z,h1,h2⟩:=Ov_err hv.1 hb;injection h with h;injection h with h3 h4;subst h3 h4;have e2:(2:Nat)^80=1208925819614629174706176:=by decide
  have e3:(2:Nat)^100=1267650600228229401496703205376:=by decide
  have e4:((rd:Int):Rat)*((1000:Nat):Rat)=((rd*1000:Int):Rat):=by rw[jF];rfl
  refine⟨?_,rd*1000+z,?_,?_⟩
  ·split
   ·exact Go.LP.Ov_zero
   ·refine⟨rd*1000-z,?_,by omega⟩;rw[Go.LP.cast_sub,<-h1,<-e4];grind
  ·rw[Rat.intCast_add,<-h1,<-e4];grind
  ·omega
 ·cases h
theorem jj0{M:Nat}{fr:Int}{mat:Nat}{ms:List Move}:∀i,∀t∈jam M fr mat ms i,Ov (2^100) 1000 t.2
 | 0=>fun t ht=>by cases ht
 | i+1=>by
  rw[jam];split
  ·split
   ·exact jj0 i
   ·intro t ht;rcases qp.1 ht with ht | ht
    ·exact jj0 i t ht
    ·rw[zp.1 ht];refine Ov_int ?_;unfold sgnF;split
     ·decide
     ·split<;>decide
  ·exact jj0 i
theorem jjp{M mv:Nat}{b own more:Int}(hb: -1000<=b/\b<=1000)(hm: -1000<=more/\more<=1000):∀k,∀t∈sumT M mv b own more k,Ov (2^100) 1000 t.2
 | 0=>fun t ht=>by cases ht
 | k+1=>by
  rw[sumT];split
  ·exact jjp hb hm k
  ·intro t ht;rcases qp.1 ht with ht | ht
   ·exact jjp hb hm k t ht
   ·rw[zp.1 ht];refine Ov_int ?_;have e2:(2:Nat)^80=1208925819614629174706176:=by decide
    unfold coF;split<;>omega
theorem jo2:Ov (2^100) 1000 0:=Go.LP.Ov_zero
theorem rows_ov{e:Evid}(hp:∀p∈e.purs,0<=p.least/\p.least<=1000/\0<=p.most/\p.most<=1000)(w:Rw)(hw:w∈rowsE e):OvRw (2^100) 1000 w:=by
 obtain⟨k,x,hk,hx,hw⟩:=mem_rowsU.1 hw;unfold moveR at hw;simp only[qp]at hw;rcases hw with (hw | hw) | hw
 ·split at hw
  ·cases hw
  ·obtain⟨mat,h1,rfl⟩:=mem_stockR.1 hw;exact⟨jo2,jj0 _⟩
 ·unfold jdn at hw;split at hw
  ·cases hw
  ·split at hw
   ·rename_i lo hi hv;obtain⟨o1,o2⟩:=Ov_ivl hv;rcases zN.1 hw with rfl | hw
    ·exact⟨o1,jjp (by omega) (by omega) _⟩
    ·rcases zN.1 hw with rfl | hw
     ·exact⟨o2,jjp (by omega) (by omega) _⟩
     ·cases hw
   ·cases hw
 ·unfold purR at hw;obtain⟨p,hpm,hw⟩:=j2.1 hw;have:=hp p hpm;unfold pur1 at hw;split at hw
  ·rcases zN.1 hw with rfl | hw
   ·exact⟨jo2,jjp (by omega) (by omega) _⟩
   ·rcases zN.1 hw with rfl | hw
    ·exact⟨jo2,jjp (by omega) (by omega) _⟩
    ·cases hw
  ·cases hw
theorem jk5{e e':Evid}(h1:e'.mats=e.mats)(h2:e'.moves=e.moves)(h3:e'.places=e.places)(hw:∀M k x,e.moves[k]? =some x->∀w∈jdn e M k x,w∈jdn e' M k x)(hp:∀p∈e.purs,p∈e'.purs):∀w∈rowsE e,w∈rowsE e':=fun w hm=>by
 obtain⟨k,x,hk,hx,hm⟩:=mem_rowsU.1 hm;refine mem_rowsU.2 ⟨k,x,by rw[h2];exact hk,by rw[h2];exact hx,?_⟩;unfold moveR at hm⊢;rw[h1];have e1:binF e' x=binF e x:=by unfold binF;rw[h3]
 rw[e1,h2];simp only[qp]at hm⊢;rcases hm with (hm | hm) | hm
 ·exact .inl (.inl hm)
 ·exact .inl (.inr (hw _ k x hx w hm))
 ·right;unfold purR at hm⊢;obtain⟨p,h,h'⟩:=j2.1 hm;exact j2.2 ⟨p,hp p h,h'⟩
theorem jmo{l l':List Cert}{sc day:Int}:∀i,i<=l.length->jcj (l++l') sc day i=jcj l sc day i
 | 0,_=>rfl
 | i+1,h=>by
  have ih:=jmo (l:=l) (l':=l') (sc:=sc) (day:=day) i (by omega);have hlt:i<l.length:=by omega
  have hg:(l++l')[i]? =l[i]? :=zL hlt;rw[jcj,jcj,ih,hg];have e1:pickF (l++l') sc day (jcj l sc day i)=pickF l sc day (jcj l sc day i):=by
   funext c;unfold pickF;cases h2:(jcj l sc day i).2 with
   | false=>simp
   | true=>
    have h3:(jcj l sc day i).1<l.length:=by have:=(jfh l sc day i h2).1;omega
    rw[zL h3]
  rw[e1]
theorem jlf{l:List Cert}{sc day:Int}:∀i,(∀c∈l,c.scale≠sc)->(jcj l sc day i).2=false
 | 0,_=>rfl
 | i+1,h=>by
  rw[jcj];cases hg:l[i]? with
  | none=>simpa using jlf i h
  | some c=>
   have hc:=h c (zE hg);simp only[Option.elim,pickF,hc,decide_false,qm,qb,z8];exact jlf i h
theorem ivl_none{cs:List Cert}{rs:List Recall}{sc rd day:Int}(h:∀c∈cs,c.scale≠sc):ivlF cs rs sc rd day=none:=by
 unfold ivlF findF;rw[zm (jlf _ h)]
theorem find_one{cs:List Cert}{c:Cert}{sc day:Int}(h:c.scale≠sc):findF (cs++[c]) sc day=findF cs sc day:=by
 unfold findF;rw[zD,List.length_singleton,jcj,jmo _ (zn _)];have hg:(cs++[c])[cs.length]? =some c:=by simp
 rw[hg];simp[pickF,h]
theorem ivl_cert{cs:List Cert}{rs:List Recall}{c:Cert}{sc rd day:Int}(h:c.scale≠sc):ivlF (cs++[c]) rs sc rd day=ivlF cs rs sc rd day:=by
 unfold ivlF;rw[find_one h];split
 ·rfl
 ·rename_i h2;have h3:(findF cs sc day).1<cs.length:=(jfh cs sc day cs.length (by simpa [findF]using h2)).1;rw[zL h3]
theorem ivl_fresh{cs:List Cert}{rs:List Recall}{c:Cert}{sc rd day:Int}(hf:∀c'∈cs,c'.scale≠c.scale):ivlF cs rs sc rd day=none\/ivlF (cs++[c]) rs sc rd day=ivlF cs rs sc rd day:=by
 by_cases h:c.scale=sc
 ·subst h;exact .inl (ivl_none hf)
 ·exact .inr (ivl_cert h)
theorem ivl_rec{cs:List Cert}{rs:List Recall}{x:Recall}{sc rd day:Int}:ivlF cs (rs++[x]) sc rd day=none\/ivlF cs (rs++[x]) sc rd day=ivlF cs rs sc rd day:=by
 unfold ivlF;rw[jh];cases h1:(findF cs sc day).2 with
 | false=>exact .inl (zm rfl)
 | true=>
  simp only[vx,z8];cases h2:rs.any (recF sc day)with
  | true=>simp
  | false=>
   cases h3:[x].any (recF sc day)with
   | true=>simp
   | false=>simp
theorem jga{e e':Evid}{M k:Nat}{x:Move}(h:ivlF e.certs e.recalls x.scale x.reading x.day=none\/ivlF e'.certs e'.recalls x.scale x.reading x.day=ivlF e.certs e.recalls x.scale x.reading x.day):∀w∈jdn e M k x,w∈jdn e' M k x:=fun w hw=>by
 unfold jdn at hw⊢;split at hw
 ·cases hw
 ·rename_i h1;rw[zr h1];rcases h with h | h
  ·rw[h]at hw;cases hw
  ·rw[h];exact hw
theorem rows_pure(e:Evid)(p:Purity):∀w∈rowsE e,w∈rowsE {e with purs:=e.purs++[p]}:=
 jk5 rfl rfl rfl (fun M k x hx w hw=>hw) fun q hq=>j7 _ hq
theorem rows_sure(e:Evid)(c:Cert)(hf:∀c'∈e.certs,c'.scale≠c.scale):∀w∈rowsE e,w∈rowsE {e with certs:=e.certs++[c]}:=
 jk5 rfl rfl rfl (fun M k x hx=>jga (ivl_fresh hf)) fun q hq=>hq
theorem rows_wrong(e:Evid)(x:Recall):∀w∈rowsE {e with recalls:=e.recalls++[x]},w∈rowsE e:=
 jk5 (e:={e with recalls:=e.recalls++[x]}) (e':=e) rfl rfl rfl (fun M k y hy=>jga (ivl_rec.elim .inl fun h=> .inr h.symm)) fun q hq=>hq
end
section
open Go.Abs
open Go.LP (Dic Rw RT Ov OvRw tsum Sol IsMin NoMin Bds ksum ones jhv jkh)
open Go.LW (isort noDup)
attribute [local go_sem] ints ic big frac fc zc
structure SmallE(e:Evid):Prop where
 mv:e.moves.length<=9
 mt:e.moves.length*e.mats.toNat<=18
 pu:e.purs.length<=40
theorem jhq{e:Evid}(h1:e.moves.length<=9)(h2:e.mats<=2)(h3:e.purs.length<=40):SmallE e:=⟨h1,qh (yl h1 (show e.mats.toNat<=2 by omega)) (by decide),h3⟩
def nV(e:Evid):Nat:=e.moves.length*e.mats.toNat
section
variable{e:Evid}{ps:List (Int×Int)}
theorem sys_ok(hc:jar e=0)(hs:SmallE e):SysOk (nV e) (rowsE e) where
 ok:=rows_ok
 n:=hs.mt
 len:=by
  have h1:=hs.mv;have h2:=hs.mt;have h3:=hs.pu;have h4:=jkq (e:=e) (M:=e.mats.toNat) e.moves.length;have h5:e.moves.length*(e.mats.toNat+2+2*e.purs.length)=e.moves.length*e.mats.toNat+e.moves.length*2+e.moves.length*(2*e.purs.length):=by rw[Nat.mul_add,Nat.mul_add]
  have h6:e.moves.length*(2*e.purs.length)<=9*80:=yl h1 (by omega);refine qh h4 ?_;rw[h5];omega
 mn:=fun h=>by
  obtain⟨_,hm1,_⟩:=jc5 hc;have h0:e.moves.length≠0:=fun h0=>h (by unfold rowsE;rw[h0];rfl);have:1*1<=e.moves.length*e.mats.toNat:=yl (by omega) (by omega);unfold nV;omega
 ov:=rows_ov fun p hp=>by
  have:=purF_iff.1 (jms hc p hp);omega
theorem jik(h:okP e ps=true):jar e=0/\(∀p∈ps,jc9 e p=true)/\noDup (isort (ps.map (pickK e.mats.toNat)))=true:=by
 simp only[okP,zC,zO,List.all_eq_true]at h;exact h
theorem pick_lt{p:Int×Int}(h:jc9 e p=true):pickK e.mats.toNat p<nV e:=by
 simp only[jc9,zC,zO]at h;obtain⟨h1,h2,h3,h4⟩:=h;have:(p.1.toNat+1)*e.mats.toNat<=e.moves.length*e.mats.toNat:=zZ _ (by omega);rw[jm]at this;unfold pickK nV;omega
theorem keys_lt(h:∀p∈ps,jc9 e p=true):∀k∈isort (ps.map (pickK e.mats.toNat)),k<nV e:=fun k hk=>by
 obtain⟨p,hp,rfl⟩:=zU.1 ((Go.LW.isort_perm _).mem_iff.1 hk);exact pick_lt (h p hp)
theorem goal_ok(h:okP e ps=true):GoalOk (nV e) (goalS e.mats.toNat ps) where
 rt:=by
  obtain⟨_,h1,h2⟩:=jik h;exact Go.LP.RT_ones (Go.LW.noDup_lt (Go.LW.isort_sorted _) h2) fun k hk=>⟨zI _,keys_lt h1 k hk⟩
 ov t ht:=by
  obtain⟨k,_,rfl⟩:=zU.1 ht;exact Ov_int (z:=1) (by decide)
def wgt(e:Evid)(ps:List (Int×Int))(x:Nat->Rat):Rat:=ksum (ps.map (pickK e.mats.toNat)) x
theorem jrw(x:Nat->Rat):tsum (goalS e.mats.toNat ps) x=wgt e ps x:=by
 rw[goalS,jkh];exact Go.LP.ksum_perm (Go.LW.isort_perm _) x
end
def RShape(r:List IV):Prop:=∃(k1 a1 c1:Int) (b1 d1 P1 Y1 Z1:List (List IV)) (k2 a2 c2:Int) (b2 d2 P2 Y2 Z2:List (List IV)),
 r=[.int k1,.int a1,.sl b1,.int c1,.sl d1,.sl P1,.sl Y1,.sl Z1,.int k2,.int a2,.sl b2,.int c2,.sl d2,.sl P2,.sl Y2,.sl Z2]
def RFound(N:Nat)(ws:List Rw)(f:(Nat->Rat)->Rat)(r:List IV)(lo:Rat)(hi:Option Rat):Prop:=∃(x x':Nat->Rat) (Y Z:List (List IV)) (k:Int) (Y' Z':List (List IV)),
 r=([.int 0]++fc lo++[xl N x,.sl Y,.sl Z])++([.int k]++sideC (hi.map fun v=> -v)++[xl N x',.sl Y',.sl Z'])/\decide (k=0)=hi.isSome/\Sol N ws x/\f x=lo/\Sol N ws x'/\∀w,hi=some w->f x'=w
theorem RFound.shape{N:Nat}{ws:List Rw}{f:(Nat->Rat)->Rat}{r:List IV}{lo:Rat}{hi:Option Rat}(h:RFound N ws f r lo hi):RShape r:=by
 obtain⟨x,x',Y,Z,k,Y',Z',rfl,_⟩:=h;cases hi with
 | none=>exact⟨_,_,_,_,_,_,_,_,_,_,_,_,_,_,_,_,rfl⟩
 | some w=>exact⟨_,_,_,_,_,_,_,_,_,_,_,_,_,_,_,_,rfl⟩
def bdC(lo:Rat)(hi:Option Rat):List IV:=fc lo++sideC hi++[.bool true,.bool hi.isSome]
section
variable{N:Nat}{ws:List Rw}{goal:List (Nat×Rat)}
theorem span_says(hs:SysOk N ws)(hg:GoalOk N goal)(hp:∀t∈goal,0<=t.2):
  (spanR N ws goal= .tup [.agg (zo++zo),.int 15]/\∀x,¬Sol N ws x)\/
  (∃(r:List IV) (lo:Rat) (hi:Option Rat),spanR N ws goal= .tup [.agg r,.int 0]/\Bds N ws (tsum goal) lo hi/\FL 4000000000 lo/\(∀w,hi=some w->FL 4000000000 w)/\
   Ctr G.P 18 [.agg r] (· = .agg (bdC lo hi))/\RFound N ws (tsum goal) r lo hi):=by
 have h1:=jgg hs hg;have h2:=jgg hs hg.opp;have e1:((-1:Int):Rat)= -1:=by decide
 unfold spanR;generalize jin N ws goal=o at*;generalize jin N ws (mulT ((-1:Int):Rat) goal)=o' at*;cases h1 with
 | none Y hno=>exact .inl ⟨zm rfl,hno⟩
 | free x Z hno hx=>
  exfalso;obtain⟨y,hy,hl⟩:=hno.2 0;have:=Go.LP.tsum_nonneg hg.rt hp hy.pos;grind
 | found v x Y hf hmin hx hv=>
  right;have hnn:isNone ([.int 0]++fc v++[xl N x,.sl Y,.sl []])=false:=rfl;rw[hnn,zr (by decide)];cases h2 with
  | none Y' hno=>exact absurd hx (hno x)
  | found u x' Y' hf' hmin' hx' hv'=>
   have hx'v:tsum goal x'= -u:=by rw[ji8,e1]at hv';grind
   have huu: - -u=u:=by grind
   refine⟨_,v,some (-u),rfl,⟨hmin.at',hmin.le,?_,?_,fun h=>by cases h⟩,hf,?_,?_,⟨x,x',Y,[],0,Y',[],?_,rfl,hx,hv,hx',fun w hw=>by cases hw;exact hx'v⟩⟩
   ·intro w hw;cases hw;exact⟨x',hx',hx'v⟩
   ·intro w hw y hy;cases hw;have:=hmin'.le y hy;rw[ji8,e1]at this;grind
   ·intro w hw;cases hw;exact jn0 hf'
   ·exact x_bnd (some v) (some u) 0 0 _ _ _ _ _ _ rfl rfl (fun w h=>by cases h;exact hf) (fun w h=>by cases h;exact hf')
   ·rw[Option.map_some,huu];rfl
  | free x' Z' hno hx'=>
   refine⟨_,v,none,rfl,⟨hmin.at',hmin.le,(fun w hw=>by cases hw),(fun w hw=>by cases hw),fun _ c=> ?_⟩,hf,(fun w hw=>by cases hw),?_,⟨x,x',Y,[],2,[],Z',rfl,rfl,hx,hv,hx',fun w hw=>by cases hw⟩⟩
   ·obtain⟨y,hy,hl⟩:=hno.2 (-c);refine⟨y,hy,?_⟩;rw[ji8,e1]at hl;grind
   ·exact x_bnd (some v) none 0 2 _ _ _ _ _ _ rfl rfl (fun w h=>by cases h;exact hf) (fun w h=>by cases h)
end
end
section
open Go.Abs
open Go.LP (Dic Rw RT Ov OvRw tsum Sol IsMin NoMin Bds)
attribute [local go_sem] Evid.c Evid.iv ints ic big frac fc zc
inductive BSay(e:Evid)(ps:List (Int×Int)):Option (Rat×Option Rat)->Prop
 | none:(okP e ps=true->∀x,¬Sol (nV e) (rowsE e) x)->BSay e ps none
 | some (lo:Rat) (hi:Option Rat):okP e ps=true->Bds (nV e) (rowsE e) (wgt e ps) lo hi->FL 4000000000 lo->(∀w,hi=some w->FL 4000000000 w)->BSay e ps (some (lo,hi))
def bB:Option (Rat×Option Rat)->List IV
 | none=>zc++zc++[.bool true,.bool true]
 | some (lo,hi)=>bdC lo hi
structure RSay(e:Evid)(ps:List (Int×Int))(r:List IV)(f:Int)(b:Option (Rat×Option Rat)):Prop where
 shape:RShape r
 bnd:Ctr G.P 18 [.agg r] (· = .agg (bB b))
 flag:decide (f=0)=b.isSome
 say:BSay e ps b
 arg:f=1↔okP e ps=false
 zero:b=none->r=zo++zo/\(f=1\/f=15)
 found:∀lo hi,b=some (lo,hi)->RFound (nV e) (rowsE e) (wgt e ps) r lo hi
theorem jo7:Ctr G.P 18 [.agg (zo++zo)] (· = .agg (bB none)):=by
 have hz:Ctr G.P 47 [.agg [.int 0,ints [],.int 0,ints []]] (· = .agg [.int 0,ints [],.int 0,ints []]):=jqk;have hz1:Ctr G.P 46 [.agg [.int 0,ints [],.int 0,ints []]] (· = .agg [.int 0,ints [],.int 0,ints []]):=jpu 0 0 [] [] (by simp) (by simp);exact ji5 0 0 0 0 0 0 0 0 [] [] [] [] [] [] [] [] [] [] [] [] hz1 hz
theorem jqf:RShape (zo++zo):=⟨_,_,_,_,_,_,_,_,_,_,_,_,_,_,_,_,rfl⟩
section
variable{e:Evid}{ps:List (Int×Int)}
theorem jpv(hs:SmallE e)(hl:ps.length<=10000):∃r f b,RSay e ps r f b/\Ctr G.P 16 [e.iv,.sl (ps.map pickC)] (· = .tup [.agg r,.int f]):=by
 have kg:=w_goal (e:=e) hl;unfold jg5 at kg;rcases h0:okP e ps with _ | _
 ·rw[h0,zr (by decide)]at kg;refine⟨zo++zo,1,none,⟨jqf,jo7,rfl,.none (fun h=>by rw[h0]at h;cases h),⟨fun _=>h0,fun _=>rfl⟩,fun _=>⟨rfl,.inl rfl⟩,fun lo hi h=>by cases h⟩,?_⟩;unfold zo;refine ja5 [.cell 4 68,.tmp 5] Tryz.func16 ?_;unfold Evid.iv Evid.c at*;simp only[go_sem];refine ja2 kg ?_;simp only[go_sem]
 ·obtain⟨hc,_,_⟩:=jik h0;rw[h0,zm rfl]at kg;have kS:=e_System (e:=e) (fun _=>by have:=hs.mv;omega);unfold sysIV at kS;rw[zm hc]at kS;have hso:=sys_ok hc hs;have hgo:=goal_ok h0;have kO:=x_Of hso hgo;have harg:∀f:Int,f≠1->(f=1↔okP e ps=false):=fun f hf=>⟨fun h=>absurd h hf,fun h=>by rw[h0]at h;cases h⟩;rcases span_says hso hgo (fun t ht=>by
   obtain⟨k,_,rfl⟩:=zU.1 ht;show(0:Rat)<=1;decide)with ⟨e1,hno⟩ | ⟨r,lo,hi,e1,hb,f1,f2,kB,hr⟩
  ·rw[e1]at kO;refine⟨zo++zo,15,none,⟨jqf,jo7,rfl,.none fun _=>hno,harg _ (by decide),fun _=>⟨rfl,.inr rfl⟩,fun lo hi h=>by cases h⟩,?_⟩;unfold zo nV at*;generalize (goalS e.mats.toNat ps).map tmC=gt at*;generalize (rowsE e).map rwC=rt at*;refine ja5 [.cell 4 68,.tmp 5] Tryz.func16 ?_;unfold Evid.iv Evid.c at*;simp only[go_sem];refine ja2 kg ?_;simp only[go_sem];refine ja2 kS ?_;simp only[go_sem];refine ja2 kO ?_;simp only[go_sem]
  ·rw[e1]at kO;have hfd:∀l' h',some (lo,hi)=some (l',h')->RFound (nV e) (rowsE e) (wgt e ps) r l' h':=fun l' h' hh=>by
    cases hh;have e1:tsum (goalS e.mats.toNat ps)=wgt e ps:=funext fun x=>jrw x;rw[e1]at hr;exact hr
   refine⟨r,0,some (lo,hi),⟨hr.shape,kB,rfl,.some lo hi h0 (hb.congr fun x=>jrw x) f1 f2,harg _ (by decide),(fun h=>by cases h),hfd⟩,?_⟩;clear hfd;obtain⟨k1,a1,c1,b1,d1,P1,Y1,Z1,k2,a2,c2,b2,d2,P2,Y2,Z2,rfl⟩:=hr.shape;unfold nV at*;generalize (goalS e.mats.toNat ps).map tmC=gt at*;generalize (rowsE e).map rwC=rt at*;refine ja5 [.cell 4 68,.tmp 5] Tryz.func16 ?_;unfold Evid.iv Evid.c at*;simp only[go_sem];refine ja2 kg ?_;simp only[go_sem];refine ja2 kS ?_;simp only[go_sem];refine ja2 kO ?_;simp only[go_sem]
variable{r:List IV}{f:Int}{b:Option (Rat×Option Rat)}{ys:List (List IV)}
theorem js8(b:Option (Rat×Option Rat)):∃(a1 c1:Int) (b1 d1:List (List IV)) (a2 c2:Int) (b2 d2:List (List IV)) (l h:Bool),bB b=[.int a1,.sl b1,.int c1,.sl d1,.int a2,.sl b2,.int c2,.sl d2,.bool l,.bool h]:=by
 cases b with
 | none=>exact⟨_,_,_,_,_,_,_,_,_,_,rfl⟩
 | some p=>
  obtain⟨lo,hi⟩:=p;cases hi with
  | none=>exact⟨_,_,_,_,_,_,_,_,_,_,rfl⟩
  | some w=>exact⟨_,_,_,_,_,_,_,_,_,_,rfl⟩
theorem w_possible(h:RSay e [] r f b)(kR:Ctr G.P 16 [e.iv,.sl []] (· = .tup [.agg r,.int f])):Ctr G.P 14 [e.iv] (· = .bool b.isSome):=by
 rw[<-h.flag];obtain⟨k1,a1,c1,b1,d1,P1,Y1,Z1,k2,a2,c2,b2,d2,P2,Y2,Z2,rfl⟩:=h.shape;clear h;refine ja5 [.tmp 2] Tryz.func14 ?_;unfold Evid.iv Evid.c at*;simp only[go_sem];refine ja2 kR ?_;simp only[go_sem]
end
end
section
open Go.Abs
attribute [local go_sem] ints ic big frac fc zc
theorem t_same5(s t:Int)(l m:List Int)(hl:l.length<=1000000000000000):Ctr G.P 70 [.agg [.int s,ints l],.agg [.int t,ints m]] (· = .bool (decide (s=t)&&decide (l=m))):=by
 by_cases h1:s=t
 ·by_cases h2:(l.length:Int)=m.length
  ·have d1:decide (s=t)=true:=ze h1;have d2:decide ((l.length:Int)=m.length)=true:=ze h2;rw[d1,qg];refine ja5 [.tmp 4] Tryz.func70 ?_;simp only[d1,d2,go_sem];refine jaw [2,3,5] [2,3] (fun i:Nat=>⟨[(2,.loc 2 2 0 0),(3,.loc 3 2 0 0),(5,.im (.int i))],[(3,2,[[.int t,ints m]]),(2,2,[[.int s,ints l]])],[]⟩) (fun i=>i<=l.length/\l.take i=m.take i) (fun i=>l.length-i) 0 ?_ ⟨zI _,rfl⟩ ?_
   ·simp only[Int.natCast_zero,go_sem]
   ·intro i ⟨hi,ha⟩;by_cases hp:(i:Int)<l.length
    ·have hp':(i:Int)<m.length:=by omega
     have hd:decide ((i:Int)<l.length)=true:=ze hp;have hx:=jba hp;have hy:=jba hp';have hw:=jaa (n:=(i:Int)+1) (by omega);simp only[hd,go_sem];refine jaf 11 ?_;simp only[hd,za,hx,hy,go_sem];refine jd5 (fun he he'=> ?_) (fun he he'=> ?_)
     ·simp only[go_sem];refine jai (i+1) ?_ (by omega) ⟨by omega,joe ha hp hp' he'⟩;simp only[hw,Int.natCast_add,go_sem]
     ·have hf:decide (l=m)=false:=zw (jp3 he');rw[hf];simp only[go_sem]
    ·have hd:decide ((i:Int)<l.length)=false:=zw hp;have hf:decide (l=m)=true:=ze (by
      rw[zu (by omega),zu (by omega)]at ha;exact ha)
     rw[hf];simp only[hd,go_sem]
  ·have d1:decide (s=t)=true:=ze h1;have d2:decide ((l.length:Int)=m.length)=false:=zw h2;have d3:decide (l=m)=false:=zw fun e=>h2 (by rw[e]);rw[d3,yI];refine ja5 [.tmp 4] Tryz.func70 ?_;simp only[d1,d2,go_sem]
 ·have d1:decide (s=t)=false:=zw h1;rw[d1,qm];refine ja5 [.tmp 4] Tryz.func70 ?_;simp only[d1,go_sem]
theorem t_equal(l:List Int)(hl:l.length<=1000000000000000):Ctr G.P 105 [ints l,ints l] (· = .bool true):=by
 have d2:decide ((l.length:Int)=l.length)=true:=ze rfl;refine ja5 [.tmp 4] Tryz.func105 ?_;simp only[d2,zq,go_sem];refine jaw [0,1,12,13] [] (fun i:Nat=>⟨[(0,.im (ints l)),(1,.im (ints l)),(12,.im (.int l.length)),(13,.im (.int i))],[],[]⟩) (fun i=>i<=l.length) (fun i=>l.length-i) 0 ?_ (zI _) ?_
 ·simp only[Int.natCast_zero,go_sem]
 ·intro i hi;by_cases hp:(i:Int)<l.length
  ·have hd:decide ((i:Int)<l.length)=true:=ze hp;have hx:=jba hp;have hw:=jaa (n:=(i:Int)+1) (by omega);have hz:decide (dgt l i=dgt l i)=true:=ze rfl;simp only[hd,go_sem];refine jaf 9 ?_;simp only[hd,za,hx,hz,go_sem];refine jai (i+1) ?_ (by omega) (by omega);simp only[hw,Int.natCast_add,go_sem]
  ·have hd:decide ((i:Int)<l.length)=false:=zw hp;simp only[hd,go_sem]
theorem t_selfb(s:Int)(l:List Int)(hl:l.length<=1000000000000000):Ctr G.P 76 [.agg [.int s,ints l],.agg [.int s,ints l]] (· = .bool true):=by
 have k:=t_equal l hl;have d:decide (s=s)=true:=ze rfl;unfold ints at*;generalize l.map ic=l' at*;refine ja5 [.tmp 4] Tryz.func76 ?_;simp only[d,go_sem];refine ja2 k ?_;simp only[d,go_sem]
theorem t_selff(s t:Int)(l m:List Int)(hl:l.length<=1000000000000000)(hm:m.length<=1000000000000000):Ctr G.P 51 [.agg [.int s,ints l,.int t,ints m],.agg [.int s,ints l,.int t,ints m]] (· = .bool true):=by
 have k1:=t_selfb s l hl;have k2:=t_selfb t m hm;unfold ints at*;generalize l.map ic=l' at*;generalize m.map ic=m' at*;refine ja5 [.tmp 4] Tryz.func51 ?_;simp only[go_sem];refine ja2 k1 ?_;simp only[go_sem];refine ja2 k2 ?_;simp only[go_sem]
theorem f_self{a:Rat}(ha:FL 19000000000 a):Ctr G.P 51 [frac a,frac a] (· = .bool true):=t_selff _ _ _ _ (by have:=ha.1;omega) (by have:=ha.2;rw[Int.natAbs_natCast];omega)
end
section
open Go.Abs
open Go.LP (Dic Rw RT Ov OvRw tsum Sol IsMin NoMin Bds)
attribute [local go_sem] ints ic big frac fc zc
def exE(rd:Int)(rc:List Recall):Evid:=⟨1,1,1,[⟨0,0,0⟩,⟨1,-1,-1⟩,⟨5,-1,-1⟩],[⟨3,0,1,0,20,false⟩,⟨5,1,2,0,rd,true⟩],[⟨0,0,9,2,0,0⟩],rc,[]⟩
instance decRw:DecidableEq Rw:=fun a b=>decidable_of_iff (a.ts=b.ts/\a.kind=b.kind/\a.val=b.val) ⟨fun⟨h1,h2,h3⟩=>by cases a;cases b;cases h1;cases h2;cases h3;rfl,fun h=>by subst h;exact⟨rfl,rfl,rfl⟩⟩
theorem jpg:rowsE (exE 23 [])=[⟨[(0,1)],0,18⟩,⟨[(0,1)],1,22⟩,⟨[(0,1),(1,-1)],2,0⟩,⟨[(1,1)],0,21⟩,⟨[(1,1)],1,25⟩]:=by decide+kernel
theorem ex_sol{x:Nat->Rat}(h:Sol 2 (rowsE (exE 23 [])) x):x 0=x 1/\21<=x 0/\x 0<=22:=by
 rw[jpg]at h;have h1:=(h.row ⟨[(0,1)],1,22⟩ (by simp)).2 (by decide);have h2:=h.row ⟨[(0,1),(1,-1)],2,0⟩ (by simp);have h3:=(h.row ⟨[(1,1)],0,21⟩ (by simp)).1 (by decide);have h4:=h2.1 (by decide);have h5:=h2.2 (by decide);simp only[tsum]at h1 h3 h4 h5;grind
theorem ex_has{c:Rat}(h1:21<=c)(h2:c<=22):Sol 2 (rowsE (exE 23 [])) (fun _=>c) where
 pos k hk:=by grind
 row w hw:=by
  rw[jpg]at hw;simp only[zN,yQ,j6]at hw;rcases hw with rfl | rfl | rfl | rfl | rfl<;>simp only[Rw.sat,tsum]<;>constructor<;>intro _<;>grind
section
variable{e:Evid}{ps:List (Int×Int)}{b:Option (Rat×Option Rat)}{lo hi:Rat}{x y:Nat->Rat}
theorem BSay.low(h:BSay e ps b)(hok:okP e ps=true)(hx:Sol (nV e) (rowsE e) x)(ex:wgt e ps x=lo)(hall:∀z,Sol (nV e) (rowsE e) z->lo<=wgt e ps z):∃hi,b=Option.some (lo,hi):=by
 cases h with
 | none hno=>exact absurd hx (hno hok x)
 | some l u h1 h2 h3 h4=>
  obtain⟨z,hz,rfl⟩:=h2.low_at;have a:=h2.low x hx;have c:=hall z hz;have:lo=wgt e ps z:=by grind
  exact⟨u,by rw[this]⟩
theorem BSay.exact(h:BSay e ps b)(hok:okP e ps=true)(hx:Sol (nV e) (rowsE e) x)(ex:wgt e ps x=lo)(hy:Sol (nV e) (rowsE e) y)(ey:wgt e ps y=hi)(hall:∀z,Sol (nV e) (rowsE e) z->lo<=wgt e ps z/\wgt e ps z<=hi):b=Option.some (lo,Option.some hi):=by
 cases h with
 | none hno=>exact absurd hx (hno hok x)
 | some l u h1 h2 h3 h4=>
  have e1:l=lo:=by
   obtain⟨z,hz,rfl⟩:=h2.low_at;have a:=h2.low x hx;have c:=(hall z hz).1;grind
  have e2:u=Option.some hi:=by
   cases hu:u with
   | none=>
    obtain⟨z,hz,hl⟩:=h2.wide hu hi;have:=(hall z hz).2;grind
   | some w=>
    obtain⟨z,hz,rfl⟩:=h2.high_at w hu;have a:=h2.high _ hu y hy;have c:=(hall z hz).2;have:wgt e ps z=hi:=by grind
    rw[this]
  rw[e1,e2]
end
theorem ex_small(rd:Int)(rc:List Recall):SmallE (exE rd rc):=jhq (by show 2<=9;omega) (by show(1:Int)<=2;omega) (by show 0<=40;omega)
theorem ex_one{b:Option (Rat×Option Rat)}(h:BSay (exE 23 []) [(0,0)] b):b=some (((21:Int):Rat),some ((22:Int):Rat)):=by
 refine h.exact (by decide+kernel) (ex_has (c:=21) (by decide) (by decide)) ?_ (ex_has (c:=22) (by decide) (by decide)) ?_ ?_
 ·show(21:Rat)+0=21;decide+kernel
 ·show(22:Rat)+0=22;decide+kernel
 ·intro z hz;obtain⟨h1,h2,h3⟩:=ex_sol hz;have e1:wgt (exE 23 []) [(0,0)] z=z 0+0:=rfl;have e2:((21:Int):Rat)=21:=rfl;have e3:((22:Int):Rat)=22:=rfl;rw[e1,e2,e3];grind
end
section
open Go.Abs
open Go.LP (Dic Rw RT Ov OvRw tsum Sol IsMin NoMin Bds)
attribute [local go_sem] ints ic big frac fc zc
theorem t_few5z(k:Int)(hk:0<=k):Ctr G.P 79 [.agg zc,.int k] (· = .bool true):=by
 have hd:decide ((0:Int)<=k)=true:=ze hk;refine ja5 [.tmp 4] Tryz.func79 ?_;simp only[hd,go_sem]
theorem t_few8z(k d:Int)(hk:0<=k):Ctr G.P 80 [.sl [],.int k,.int d] (· = .bool true):=by
 have hd:decide ((0:Int)<=k)=true:=ze hk;refine ja5 [.tmp 6] Tryz.func80 ?_;simp only[hd,go_sem];refine jaw [0,1,2,7] [] (fun _:Nat=>⟨[(0,.im (.sl [])),(1,.im (.int k)),(2,.im (.int d)),(7,.im (.int 0))],[],[]⟩) (fun _=>True) (fun g=>g) 0 ?_ trivial ?_
 ·simp only[go_sem]
 intro i _;simp only[hd,go_sem]
theorem t_few11z:Ctr G.P 55 [.agg zo,.int 60,.int 40] (· = .bool true):=by
 have k1:=t_few5z 40 (by omega);have k2:=t_few8z 60 40 (by omega);unfold zo;refine ja5 [.tmp 6] Tryz.func55 ?_;simp only[go_sem];refine ja2 k1 ?_;simp only[go_sem];refine ja2 k2 ?_;simp only[go_sem];refine ja2 k2 ?_;simp only[go_sem];refine ja2 k2 ?_;simp only[go_sem]
def jic(e:Evid)(k m:Int):Bool:=
 !decide (m<e.mats)&&(!decide (6<e.houses)&&(!decide (6<e.scales)&&(!decide (12<(e.places.length:Int))&&(decide ((e.moves.length:Int)<=k)&&(decide ((e.certs.length:Int)<=10)&&(decide ((e.recalls.length:Int)<=4)&&decide ((e.purs.length:Int)<=6)))))))
theorem t_small14(e:Evid)(k m:Int):Ctr G.P 54 [e.iv,.int k,.int m] (· = .bool (jic e k m)):=by
 refine ja5 [.tmp 6] Tryz.func54 ?_;unfold jic Evid.iv Evid.c;simp only[zq,go_sem]
 repeat' (first | (refine jdf (fun hd=> ?_) (fun hd=> ?_)<;>simp only[*,go_sem]))
 all_goals simp[*]
def few17(e:Evid)(n:Nat)(k:Int):Bool:=jic e k 2&&(decide ((e.purs.length:Int)<=3)&&decide ((n:Int)<=20))
theorem t_few17z(e:Evid)(C:List (List IV))(k:Int):Ctr G.P 29 [e.iv,.sl C,.agg (zo++zo),.int k,.int 2] (· = .bool (few17 e C.length k)):=by
 have k1:=t_small14 e k 2;have k2:=t_few11z;unfold few17 Evid.iv Evid.c zo at*;rcases h1:jic e k 2 with _ | _
 ·rw[h1]at k1;refine ja5 [.tmp 10] Tryz.func29 ?_;simp only[go_sem];refine ja2 k1 ?_;simp only[go_sem]
 ·rw[h1]at k1;rcases h2:decide ((e.purs.length:Int)<=3)with _ | _
  ·refine ja5 [.tmp 10] Tryz.func29 ?_;simp only[go_sem];refine ja2 k1 ?_;simp only[h2,zq,go_sem]
  ·rcases h3:decide ((C.length:Int)<=20)with _ | _
   ·refine ja5 [.tmp 10] Tryz.func29 ?_;simp only[go_sem];refine ja2 k1 ?_;simp only[h2,h3,zq,go_sem]
   ·refine ja5 [.tmp 10] Tryz.func29 ?_;simp only[go_sem];refine ja2 k1 ?_;simp only[h2,h3,zq,go_sem];refine ja2 k2 ?_;simp only[h2,h3,zq,go_sem];refine ja2 k2 ?_;simp only[h2,h3,zq,go_sem]
