/- A part of the proof. No further condition. -/
import Derived.Test.YtfahloobpegieaaGreatKX17
import Derived.Test.YtfahloobpegieaaGreatKX15
import Derived.Test.YtfahloobpegieaaGreatKX31
import Derived.Test.YtfahloobpegieaaGreatKX30
import Derived.Test.YtfahloobpegieaaGreatKX10
set_option linter.all false
set_option maxRecDepth 100000
namespace Go.Proofs.YtfahloobpegieaaGreat
section
open Go.Abs
open Go.LP (Rw RT Ov OvRw tsum)
theorem Ov_int{z:Int}(h:z.natAbs<=2^80):Ov (2^100) 1000 (z:Rat):=
 ⟨z*1000,by rw[Rat.intCast_mul];rfl,by rw[Int.natAbs_mul];exact Nat.le_trans (Nat.mul_le_mul_right _ h) (by decide)⟩
theorem Ov_err{c:Cert}{rd day:Int}(h:je1 c day=true)(hr:0<=rd/\rd<=1099511627776):∃z:Int,errF c rd day*((1000:Nat):Rat)=(z:Rat)/\z.natAbs<=2^80:=by
 obtain⟨_,_,_,h1,h2,h3,h4⟩:=FL_err h hr;refine⟨c.perMille*rd+(c.grams+c.drift*(day-c.fr))*1000,?_,?_⟩
 ·unfold errF;generalize c.grams+c.drift*(day-c.fr)=w0;generalize c.perMille*rd=u0;rw[Rat.divInt_eq_div,Rat.intCast_add,Rat.intCast_mul w0 1000];generalize (u0:Rat)=u;generalize (w0:Rat)=w;have:((1000:Int):Rat)≠0:=by decide
  have e2:((1000:Nat):Rat)=((1000:Int):Rat):=rfl;rw[e2];have:=Rat.div_mul_cancel (a:=u) this;grind
 ·generalize c.perMille*rd=a at*;generalize c.drift*(day-c.fr)=b at*;have:(2:Nat)^80=1208925819614629174706176:=by decide
  omega
theorem Ov_ivl{cs:List Cert}{rs:List Recall}{sc rd day:Int}{a b:Rat}(h:ivlF cs rs sc rd day=some (a,b)):Ov (2^100) 1000 a/\Ov (2^100) 1000 b:=by
 unfold ivlF at h;split at h
 ·cases h
 split at h
 ·cases h
 split at h
 ·cases h
 rename_i c _;split at h
 ·rename_i hv;rw[Bool.and_eq_true]at hv;have hb:=btw_iff.1 hv.2;obtain⟨z,h1,h2⟩:=Ov_err hv.1 hb;injection h with h;injection h with h3 h4;subst h3 h4;have e2:(2:Nat)^80=1208925819614629174706176:=by decide
  have e3:(2:Nat)^100=1267650600228229401496703205376:=by decide
  have e4:((rd:Int):Rat)*((1000:Nat):Rat)=((rd*1000:Int):Rat):=by rw[Rat.intCast_mul];rfl
  refine⟨?_,rd*1000+z,?_,?_⟩
  ·split
   ·exact Go.LP.Ov_zero
   ·refine⟨rd*1000-z,?_,by omega⟩;rw[Go.LP.cast_sub,<-h1,<-e4];grind
  ·rw[Rat.intCast_add,<-h1,<-e4];grind
  ·omega
 ·cases h
theorem ji3{M:Nat}{fr:Int}{mat:Nat}{ms:List Move}:∀i,∀t∈jaj M fr mat ms i,Ov (2^100) 1000 t.2
 | 0=>fun t ht=>by cases ht
 | i+1=>by
  rw[jaj];split
  ·split
   ·exact ji3 i
   ·intro t ht;rcases List.mem_append.1 ht with ht | ht
    ·exact ji3 i t ht
    ·rw[List.mem_singleton.1 ht];refine Ov_int ?_;unfold sgnF;split
     ·decide
     ·split<;>decide
  ·exact ji3 i
theorem jio{M mv:Nat}{b own more:Int}(hb: -1000<=b/\b<=1000)(hm: -1000<=more/\more<=1000):∀k,∀t∈sumT M mv b own more k,Ov (2^100) 1000 t.2
 | 0=>fun t ht=>by cases ht
 | k+1=>by
  rw[sumT];split
  ·exact jio hb hm k
  ·intro t ht;rcases List.mem_append.1 ht with ht | ht
   ·exact jio hb hm k t ht
   ·rw[List.mem_singleton.1 ht];refine Ov_int ?_;have e2:(2:Nat)^80=1208925819614629174706176:=by decide
    unfold coF;split<;>omega
theorem jmt:Ov (2^100) 1000 0:=Go.LP.Ov_zero
theorem rows_ov{e:Evid}(hp:∀p∈e.purs,0<=p.least/\p.least<=1000/\0<=p.most/\p.most<=1000)(w:Rw)(hw:w∈rowsE e):OvRw (2^100) 1000 w:=by
 obtain⟨k,x,hk,hx,hw⟩:=mem_rowsU.1 hw;unfold moveR at hw;simp only[List.mem_append]at hw;rcases hw with (hw | hw) | hw
 ·split at hw
  ·cases hw
  ·obtain⟨mat,h1,rfl⟩:=mem_stockR.1 hw;exact⟨jmt,ji3 _⟩
 ·unfold jcp at hw;split at hw
  ·cases hw
  ·split at hw
   ·rename_i lo hi hv;obtain⟨o1,o2⟩:=Ov_ivl hv;rcases List.mem_cons.1 hw with rfl | hw
    ·exact⟨o1,jio (by omega) (by omega) _⟩
    ·rcases List.mem_cons.1 hw with rfl | hw
     ·exact⟨o2,jio (by omega) (by omega) _⟩
     ·cases hw
   ·cases hw
 ·unfold purR at hw;obtain⟨p,hpm,hw⟩:=List.mem_flatMap.1 hw;have:=hp p hpm;unfold pur1 at hw;split at hw
  ·rcases List.mem_cons.1 hw with rfl | hw
   ·exact⟨jmt,jio (by omega) (by omega) _⟩
   ·rcases List.mem_cons.1 hw with rfl | hw
    ·exact⟨jmt,jio (by omega) (by omega) _⟩
    ·cases hw
  ·cases hw
theorem jgx{e e':Evid}(h1:e'.mats=e.mats)(h2:e'.moves=e.moves)(h3:e'.places=e.places)(hw:∀M k x,e.moves[k]? =some x->∀w∈jcp e M k x,w∈jcp e' M k x)(hp:∀p∈e.purs,p∈e'.purs):∀w∈rowsE e,w∈rowsE e':=fun w hm=>by
 obtain⟨k,x,hk,hx,hm⟩:=mem_rowsU.1 hm;refine mem_rowsU.2 ⟨k,x,by rw[h2];exact hk,by rw[h2];exact hx,?_⟩;unfold moveR at hm⊢;rw[h1];have e1:binF e' x=binF e x:=by unfold binF;rw[h3]
 rw[e1,h2];simp only[List.mem_append]at hm⊢;rcases hm with (hm | hm) | hm
 ·exact .inl (.inl hm)
 ·exact .inl (.inr (hw _ k x hx w hm))
 ·right;unfold purR at hm⊢;obtain⟨p,h,h'⟩:=List.mem_flatMap.1 hm;exact List.mem_flatMap.2 ⟨p,hp p h,h'⟩
theorem jle{l l':List Cert}{sc day:Int}:∀i,i<=l.length->jcl (l++l') sc day i=jcl l sc day i
 | 0,_=>rfl
 | i+1,h=>by
  have ih:=jle (l:=l) (l':=l') (sc:=sc) (day:=day) i (by omega);have hlt:i<l.length:=by omega
  have hg:(l++l')[i]? =l[i]? :=List.getElem?_append_left hlt;rw[jcl,jcl,ih,hg];have e1:pickF (l++l') sc day (jcl l sc day i)=pickF l sc day (jcl l sc day i):=by
   funext c;unfold pickF;cases h2:(jcl l sc day i).2 with
   | false=>simp
   | true=>
    have h3:(jcl l sc day i).1<l.length:=by have:=(jg1 l sc day i h2).1;omega
    rw[List.getElem?_append_left h3]
  rw[e1]
theorem jkc{l:List Cert}{sc day:Int}:∀i,(∀c∈l,c.scale≠sc)->(jcl l sc day i).2=false
 | 0,_=>rfl
 | i+1,h=>by
  rw[jcl];cases hg:l[i]? with
  | none=>simpa using jkc i h
  | some c=>
   have hc:=h c (List.mem_of_getElem? hg);simp only[Option.elim,pickF,hc,decide_false,Bool.false_and,Bool.false_eq_true,if_false];exact jkc i h
theorem jma{cs:List Cert}{rs:List Recall}{sc rd day:Int}(h:∀c∈cs,c.scale≠sc):ivlF cs rs sc rd day=none:=by
 unfold ivlF findF;rw[if_pos (jkc _ h)]
theorem find_one{cs:List Cert}{c:Cert}{sc day:Int}(h:c.scale≠sc):findF (cs++[c]) sc day=findF cs sc day:=by
 unfold findF;rw[List.length_append,List.length_singleton,jcl,jle _ (Nat.le_refl _)];have hg:(cs++[c])[cs.length]? =some c:=by simp
 rw[hg];simp[pickF,h]
theorem ivl_cert{cs:List Cert}{rs:List Recall}{c:Cert}{sc rd day:Int}(h:c.scale≠sc):ivlF (cs++[c]) rs sc rd day=ivlF cs rs sc rd day:=by
 unfold ivlF;rw[find_one h];split
 ·rfl
 ·rename_i h2;have h3:(findF cs sc day).1<cs.length:=(jg1 cs sc day cs.length (by simpa [findF]using h2)).1;rw[List.getElem?_append_left h3]
theorem ivl_fresh{cs:List Cert}{rs:List Recall}{c:Cert}{sc rd day:Int}(hf:∀c'∈cs,c'.scale≠c.scale):ivlF cs rs sc rd day=none\/ivlF (cs++[c]) rs sc rd day=ivlF cs rs sc rd day:=by
 by_cases h:c.scale=sc
 ·subst h;exact .inl (jma hf)
 ·exact .inr (ivl_cert h)
theorem ivl_rec{cs:List Cert}{rs:List Recall}{x:Recall}{sc rd day:Int}:ivlF cs (rs++[x]) sc rd day=none\/ivlF cs (rs++[x]) sc rd day=ivlF cs rs sc rd day:=by
 unfold ivlF;rw[List.any_append];cases h1:(findF cs sc day).2 with
 | false=>exact .inl (if_pos rfl)
 | true=>
  simp only[Bool.true_eq_false,if_false];cases h2:rs.any (recF sc day)with
  | true=>simp
  | false=>
   cases h3:[x].any (recF sc day)with
   | true=>simp
   | false=>simp
theorem jfr{e e':Evid}{M k:Nat}{x:Move}(h:ivlF e.certs e.recalls x.scale x.reading x.day=none\/ivlF e'.certs e'.recalls x.scale x.reading x.day=ivlF e.certs e.recalls x.scale x.reading x.day):∀w∈jcp e M k x,w∈jcp e' M k x:=fun w hw=>by
 unfold jcp at hw⊢;split at hw
 ·cases hw
 ·rename_i h1;rw[if_neg h1];rcases h with h | h
  ·rw[h]at hw;cases hw
  ·rw[h];exact hw
theorem rows_pure(e:Evid)(p:Purity):∀w∈rowsE e,w∈rowsE {e with purs:=e.purs++[p]}:=
 jgx rfl rfl rfl (fun M k x hx w hw=>hw) fun q hq=>List.mem_append_left _ hq
theorem rows_sure(e:Evid)(c:Cert)(hf:∀c'∈e.certs,c'.scale≠c.scale):∀w∈rowsE e,w∈rowsE {e with certs:=e.certs++[c]}:=
 jgx rfl rfl rfl (fun M k x hx=>jfr (ivl_fresh hf)) fun q hq=>hq
theorem rows_wrong(e:Evid)(x:Recall):∀w∈rowsE {e with recalls:=e.recalls++[x]},w∈rowsE e:=
 jgx (e:={e with recalls:=e.recalls++[x]}) (e':=e) rfl rfl rfl (fun M k y hy=>jfr (ivl_rec.elim .inl fun h=> .inr h.symm)) fun q hq=>hq
theorem rows_congr{e e':Evid}(h1:e'.mats=e.mats)(h2:e'.moves=e.moves)(h3:e'.places=e.places)(h4:e'.purs=e.purs)(hw:∀x∈e.moves,x.scale≠ -1->ivlF e'.certs e'.recalls x.scale x.reading x.day=ivlF e.certs e.recalls x.scale x.reading x.day):∀w,w∈rowsE e↔w∈rowsE e':=fun w=>by
 have key:∀{a b:Evid},(∀x∈a.moves,x.scale≠ -1->ivlF b.certs b.recalls x.scale x.reading x.day=ivlF a.certs a.recalls x.scale x.reading x.day)->∀M k x,a.moves[k]? =some x->∀w∈jcp a M k x,w∈jcp b M k x:=fun{a b} h M k x hx w hw=>by
  unfold jcp at hw⊢;split at hw
  ·cases hw
  ·rename_i h1;rw[if_neg h1,h x (List.mem_of_getElem? hx) h1];exact hw
 exact⟨jgx h1 h2 h3 (key hw) (fun p hp=>h4▸hp) w,jgx h1.symm h2.symm h3.symm (key fun x hx hs=>(hw x (h2▸hx) hs).symm) (fun p hp=>h4▸hp) w⟩
end
section
open Go.Abs
open Go.LP (Dic Rw RT Ov OvRw tsum Sol IsMin NoMin Bds ksum ones jhd jjh)
open Go.LW (isort noDup)
attribute [local go_sem] ints ic big frac fc zc
structure SmallE(e:Evid):Prop where
 mv:e.moves.length<=9
 mt:e.moves.length*e.mats.toNat<=18
 pu:e.purs.length<=40
theorem small2{e:Evid}(h1:e.moves.length<=9)(h2:e.mats<=2)(h3:e.purs.length<=40):SmallE e:=⟨h1,Nat.le_trans (Nat.mul_le_mul h1 (show e.mats.toNat<=2 by omega)) (by decide),h3⟩
def nV(e:Evid):Nat:=e.moves.length*e.mats.toNat
section
variable{e:Evid}{ps:List (Int×Int)}
theorem sys_ok(hc:jbr e=0)(hs:SmallE e):SysOk (nV e) (rowsE e) where
 ok:=rows_ok
 n:=hs.mt
 len:=by
  have h1:=hs.mv;have h2:=hs.mt;have h3:=hs.pu;have h4:=jjs (e:=e) (M:=e.mats.toNat) e.moves.length;have h5:e.moves.length*(e.mats.toNat+2+2*e.purs.length)=e.moves.length*e.mats.toNat+e.moves.length*2+e.moves.length*(2*e.purs.length):=by rw[Nat.mul_add,Nat.mul_add]
  have h6:e.moves.length*(2*e.purs.length)<=9*80:=Nat.mul_le_mul h1 (by omega);refine Nat.le_trans h4 ?_;rw[h5];omega
 mn:=fun h=>by
  obtain⟨_,hm1,_⟩:=jc6 hc;have h0:e.moves.length≠0:=fun h0=>h (by unfold rowsE;rw[h0];rfl);have:1*1<=e.moves.length*e.mats.toNat:=Nat.mul_le_mul (by omega) (by omega);unfold nV;omega
 ov:=rows_ov fun p hp=>by
  have:=purF_iff.1 (jlh hc p hp);omega
theorem jjw(h:okP e ps=true):jbr e=0/\(∀p∈ps,jdw e p=true)/\noDup (isort (ps.map (pickK e.mats.toNat)))=true:=by
 simp only[okP,Bool.and_eq_true,decide_eq_true_eq,List.all_eq_true]at h;exact h
theorem pick_lt{p:Int×Int}(h:jdw e p=true):pickK e.mats.toNat p<nV e:=by
 simp only[jdw,Bool.and_eq_true,decide_eq_true_eq]at h;obtain⟨h1,h2,h3,h4⟩:=h;have:(p.1.toNat+1)*e.mats.toNat<=e.moves.length*e.mats.toNat:=Nat.mul_le_mul_right _ (by omega);rw[Nat.succ_mul]at this;unfold pickK nV;omega
theorem keys_lt(h:∀p∈ps,jdw e p=true):∀k∈isort (ps.map (pickK e.mats.toNat)),k<nV e:=fun k hk=>by
 obtain⟨p,hp,rfl⟩:=List.mem_map.1 ((Go.LW.isort_perm _).mem_iff.1 hk);exact pick_lt (h p hp)
theorem goal_ok(h:okP e ps=true):GoalOk (nV e) (goalS e.mats.toNat ps) where
 rt:=by
  obtain⟨_,h1,h2⟩:=jjw h;exact Go.LP.RT_ones (Go.LW.noDup_lt (Go.LW.isort_sorted _) h2) fun k hk=>⟨Nat.zero_le _,keys_lt h1 k hk⟩
 ov t ht:=by
  obtain⟨k,_,rfl⟩:=List.mem_map.1 ht;exact Ov_int (z:=1) (by decide)
def wgt(e:Evid)(ps:List (Int×Int))(x:Nat->Rat):Rat:=ksum (ps.map (pickK e.mats.toNat)) x
theorem jpx(x:Nat->Rat):tsum (goalS e.mats.toNat ps) x=wgt e ps x:=by
 rw[goalS,jjh];exact Go.LP.ksum_perm (Go.LW.isort_perm _) x
end
def RShape(r:List IV):Prop:=∃(k1 a1 c1:Int) (b1 d1 P1 Y1 Z1:List (List IV)) (k2 a2 c2:Int) (b2 d2 P2 Y2 Z2:List (List IV)),
 r=[.int k1,.int a1,.sl b1,.int c1,.sl d1,.sl P1,.sl Y1,.sl Z1,.int k2,.int a2,.sl b2,.int c2,.sl d2,.sl P2,.sl Y2,.sl Z2]
def RFound(N:Nat)(ws:List Rw)(f:(Nat->Rat)->Rat)(r:List IV)(lo:Rat)(hi:Option Rat):Prop:=∃(x x':Nat->Rat) (Y Z:List (List IV)) (k:Int) (Y' Z':List (List IV)),
 r=([.int 0]++fc lo++[xl N x,.sl Y,.sl Z])++([.int k]++sideC (hi.map fun v=> -v)++[xl N x',.sl Y',.sl Z'])/\decide (k=0)=hi.isSome/\Sol N ws x/\f x=lo/\Sol N ws x'/\∀w,hi=some w->f x'=w
theorem RFound.shape{N:Nat}{ws:List Rw}{f:(Nat->Rat)->Rat}{r:List IV}{lo:Rat}{hi:Option Rat}(h:RFound N ws f r lo hi):RShape r:=by
 obtain⟨x,x',Y,Z,k,Y',Z',rfl,_⟩:=h;cases hi with
 | none=>exact⟨_,_,_,_,_,_,_,_,_,_,_,_,_,_,_,_,rfl⟩
 | some w=>exact⟨_,_,_,_,_,_,_,_,_,_,_,_,_,_,_,_,rfl⟩
def bdC(lo:Rat)(hi:Option Rat):List IV:=fc lo++sideC hi++[.bool true,.bool hi.isSome]
section
variable{N:Nat}{ws:List Rw}{goal:List (Nat×Rat)}
theorem span_says(hs:SysOk N ws)(hg:GoalOk N goal)(hp:∀t∈goal,0<=t.2):
  (spanR N ws goal= .tup [.agg (zo++zo),.int 15]/\∀x,¬Sol N ws x)\/
  (∃(r:List IV) (lo:Rat) (hi:Option Rat),spanR N ws goal= .tup [.agg r,.int 0]/\Bds N ws (tsum goal) lo hi/\FL 4000000000 lo/\(∀w,hi=some w->FL 4000000000 w)/\
   Ctr G.P 28 [.agg r] (· = .agg (bdC lo hi))/\RFound N ws (tsum goal) r lo hi):=by
 have h1:=jfx hs hg;have h2:=jfx hs hg.opp;have e1:((-1:Int):Rat)= -1:=by decide
 unfold spanR;generalize jht N ws goal=o at*;generalize jht N ws (mulT ((-1:Int):Rat) goal)=o' at*;cases h1 with
 | none Y hno=>exact .inl ⟨if_pos rfl,hno⟩
 | free x Z hno hx=>
  exfalso;obtain⟨y,hy,hl⟩:=hno.2 0;have:=Go.LP.tsum_nonneg hg.rt hp hy.pos;grind
 | found v x Y hf hmin hx hv=>
  right;have hnn:isNone ([.int 0]++fc v++[xl N x,.sl Y,.sl []])=false:=rfl;rw[hnn,if_neg (by decide)];cases h2 with
  | none Y' hno=>exact absurd hx (hno x)
  | found u x' Y' hf' hmin' hx' hv'=>
   have hx'v:tsum goal x'= -u:=by rw[jhl,e1]at hv';grind
   have huu: - -u=u:=by grind
   refine⟨_,v,some (-u),rfl,⟨hmin.at',hmin.le,?_,?_,fun h=>by cases h⟩,hf,?_,?_,⟨x,x',Y,[],0,Y',[],?_,rfl,hx,hv,hx',fun w hw=>by cases hw;exact hx'v⟩⟩
   ·intro w hw;cases hw;exact⟨x',hx',hx'v⟩
   ·intro w hw y hy;cases hw;have:=hmin'.le y hy;rw[jhl,e1]at this;grind
   ·intro w hw;cases hw;exact jls hf'
   ·exact x_bnd (some v) (some u) 0 0 _ _ _ _ _ _ rfl rfl (fun w h=>by cases h;exact hf) (fun w h=>by cases h;exact hf')
   ·rw[Option.map_some,huu];rfl
  | free x' Z' hno hx'=>
   refine⟨_,v,none,rfl,⟨hmin.at',hmin.le,(fun w hw=>by cases hw),(fun w hw=>by cases hw),fun _ c=> ?_⟩,hf,(fun w hw=>by cases hw),?_,⟨x,x',Y,[],2,[],Z',rfl,rfl,hx,hv,hx',fun w hw=>by cases hw⟩⟩
   ·obtain⟨y,hy,hl⟩:=hno.2 (-c);refine⟨y,hy,?_⟩;rw[jhl,e1]at hl;grind
   ·exact x_bnd (some v) none 0 2 _ _ _ _ _ _ rfl rfl (fun w h=>by cases h;exact hf) (fun w h=>by cases h)
end
end
section
open Go.Abs
open Go.LP (Dic Rw RT Ov OvRw tsum Sol IsMin NoMin Bds)
attribute [local go_sem] Evid.c Evid.iv ints ic big frac fc zc
inductive BSay(e:Evid)(ps:List (Int×Int)):Option (Rat×Option Rat)->Prop
 | none:(okP e ps=true->∀x,¬Sol (nV e) (rowsE e) x)->BSay e ps none
 | some (lo:Rat) (hi:Option Rat):okP e ps=true->Bds (nV e) (rowsE e) (wgt e ps) lo hi->FL 4000000000 lo->(∀w,hi=some w->FL 4000000000 w)->BSay e ps (some (lo,hi))
def bB:Option (Rat×Option Rat)->List IV
 | none=>zc++zc++[.bool true,.bool true]
 | some (lo,hi)=>bdC lo hi
structure RSay(e:Evid)(ps:List (Int×Int))(r:List IV)(f:Int)(b:Option (Rat×Option Rat)):Prop where
 shape:RShape r
 bnd:Ctr G.P 28 [.agg r] (· = .agg (bB b))
 flag:decide (f=0)=b.isSome
 say:BSay e ps b
 arg:f=1↔okP e ps=false
 zero:b=none->r=zo++zo/\(f=1\/f=15)
 found:∀lo hi,b=some (lo,hi)->RFound (nV e) (rowsE e) (wgt e ps) r lo hi
theorem jn0:Ctr G.P 28 [.agg (zo++zo)] (· = .agg (bB none)):=by
 have hz:Ctr G.P 82 [.agg [.int 0,ints [],.int 0,ints []]] (· = .agg [.int 0,ints [],.int 0,ints []]):=x_negz;have hz1:Ctr G.P 81 [.agg [.int 0,ints [],.int 0,ints []]] (· = .agg [.int 0,ints [],.int 0,ints []]):=jod 0 0 [] [] (by simp) (by simp);exact jhk 0 0 0 0 0 0 0 0 [] [] [] [] [] [] [] [] [] [] [] [] hz1 hz
theorem jou:RShape (zo++zo):=⟨_,_,_,_,_,_,_,_,_,_,_,_,_,_,_,_,rfl⟩
section
variable{e:Evid}{ps:List (Int×Int)}
set_option maxHeartbeats 4000000 in
theorem jee(hs:SmallE e)(hl:ps.length<=10000):∃r f b,RSay e ps r f b/\Ctr G.P 33 [e.iv,.sl (ps.map pickC)] (· = .tup [.agg r,.int f]):=by
 have kg:=w_goal (e:=e) hl;unfold jez at kg;rcases h0:okP e ps with _ | _
 ·rw[h0,if_neg (by decide)]at kg;refine⟨zo++zo,1,none,⟨jou,jn0,rfl,.none (fun h=>by rw[h0]at h;cases h),⟨fun _=>h0,fun _=>rfl⟩,fun _=>⟨rfl,.inl rfl⟩,fun lo hi h=>by cases h⟩,?_⟩;unfold zo;refine jae good _ _ [.cell 4 47,.tmp 5] Tryz.func33 rfl rfl (by decide+kernel) rfl ?_;unfold Evid.iv Evid.c at*;simp only[go_sem];refine ja1 kg (by decide) ?_;simp only[go_sem]
 ·obtain⟨hc,_,_⟩:=jjw h0;rw[h0,if_pos rfl]at kg;have kS:=e_System (e:=e) (fun _=>by have:=hs.mv;omega);unfold sysIV at kS;rw[if_pos hc]at kS;have hso:=sys_ok hc hs;have hgo:=goal_ok h0;have kO:=x_Of hso hgo;have harg:∀f:Int,f≠1->(f=1↔okP e ps=false):=fun f hf=>⟨fun h=>absurd h hf,fun h=>by rw[h0]at h;cases h⟩;rcases span_says hso hgo (fun t ht=>by
   obtain⟨k,_,rfl⟩:=List.mem_map.1 ht;show(0:Rat)<=1;decide)with ⟨e1,hno⟩ | ⟨r,lo,hi,e1,hb,f1,f2,kB,hr⟩
  ·rw[e1]at kO;refine⟨zo++zo,15,none,⟨jou,jn0,rfl,.none fun _=>hno,harg _ (by decide),fun _=>⟨rfl,.inr rfl⟩,fun lo hi h=>by cases h⟩,?_⟩;unfold zo nV at*;generalize (goalS e.mats.toNat ps).map tmC=gt at*;generalize (rowsE e).map rwC=rt at*;refine jae good _ _ [.cell 4 47,.tmp 5] Tryz.func33 rfl rfl (by decide+kernel) rfl ?_;unfold Evid.iv Evid.c at*;simp only[go_sem];refine ja1 kg (by decide) ?_;simp only[go_sem];refine ja1 kS (by decide) ?_;simp only[go_sem];refine ja1 kO (by decide) ?_;simp only[go_sem]
  ·rw[e1]at kO;have hfd:∀l' h',some (lo,hi)=some (l',h')->RFound (nV e) (rowsE e) (wgt e ps) r l' h':=fun l' h' hh=>by
    cases hh;have e1:tsum (goalS e.mats.toNat ps)=wgt e ps:=funext fun x=>jpx x;rw[e1]at hr;exact hr
   refine⟨r,0,some (lo,hi),⟨hr.shape,kB,rfl,.some lo hi h0 (hb.congr fun x=>jpx x) f1 f2,harg _ (by decide),(fun h=>by cases h),hfd⟩,?_⟩;clear hfd;obtain⟨k1,a1,c1,b1,d1,P1,Y1,Z1,k2,a2,c2,b2,d2,P2,Y2,Z2,rfl⟩:=hr.shape;unfold nV at*;generalize (goalS e.mats.toNat ps).map tmC=gt at*;generalize (rowsE e).map rwC=rt at*;refine jae good _ _ [.cell 4 47,.tmp 5] Tryz.func33 rfl rfl (by decide+kernel) rfl ?_;unfold Evid.iv Evid.c at*;simp only[go_sem];refine ja1 kg (by decide) ?_;simp only[go_sem];refine ja1 kS (by decide) ?_;simp only[go_sem];refine ja1 kO (by decide) ?_;simp only[go_sem]
variable{r:List IV}{f:Int}{b:Option (Rat×Option Rat)}{ys:List (List IV)}
theorem jqa(b:Option (Rat×Option Rat)):∃(a1 c1:Int) (b1 d1:List (List IV)) (a2 c2:Int) (b2 d2:List (List IV)) (l h:Bool),bB b=[.int a1,.sl b1,.int c1,.sl d1,.int a2,.sl b2,.int c2,.sl d2,.bool l,.bool h]:=by
 cases b with
 | none=>exact⟨_,_,_,_,_,_,_,_,_,_,rfl⟩
 | some p=>
  obtain⟨lo,hi⟩:=p;cases hi with
  | none=>exact⟨_,_,_,_,_,_,_,_,_,_,rfl⟩
  | some w=>exact⟨_,_,_,_,_,_,_,_,_,_,rfl⟩
set_option maxHeartbeats 4000000 in
theorem jgv(h:RSay e ps r f b)(kR:Ctr G.P 33 [e.iv,.sl ys] (· = .tup [.agg r,.int f])):Ctr G.P 12 [e.iv,.sl ys] (· = .tup [.agg (bB b),.bool b.isSome]):=by
 rw[<-h.flag];have kB:=h.bnd;obtain⟨k1,a1,c1,b1,d1,P1,Y1,Z1,k2,a2,c2,b2,d2,P2,Y2,Z2,rfl⟩:=h.shape;obtain⟨u1,u2,u3,u4,u5,u6,u7,u8,u9,u10,e1⟩:=jqa b;rw[e1]at kB⊢;clear h e1;refine jae good _ _ [.cell 4 51,.tmp 5] Tryz.func12 rfl rfl (by decide+kernel) rfl ?_;unfold Evid.iv Evid.c at*;simp only[go_sem];refine ja1 kR (by decide) ?_;simp only[go_sem];refine ja1 kB (by decide) ?_;simp only[go_sem]
def jom(f:Int):Option (Rat×Option Rat)->IV
 | none=> .tup [.agg zc,.int f]
 | some (lo,_)=> .tup [frac lo,.int 0]
set_option maxHeartbeats 4000000 in
theorem w_least(h:RSay e ps r f b)(kR:Ctr G.P 33 [e.iv,.sl ys] (· = .tup [.agg r,.int f])):Ctr G.P 16 [e.iv,.sl ys] (· =jom f b):=by
 have kB:=h.bnd;have hf:=h.flag;obtain⟨k1,a1,c1,b1,d1,P1,Y1,Z1,k2,a2,c2,b2,d2,P2,Y2,Z2,rfl⟩:=h.shape;cases b with
 | none=>
  clear h kB;have hf':decide (f=0)=false:=hf;unfold jom;refine jae good _ _ [.cell 4 42,.tmp 5] Tryz.func16 rfl rfl (by decide+kernel) rfl ?_;unfold Evid.iv Evid.c at*;simp only[go_sem];refine ja1 kR (by decide) ?_;simp only[hf',go_sem]
 | some p=>
  obtain⟨lo,hi⟩:=p;have e1:∃(a2 c2:Int) (b2 d2:List (List IV)) (h:Bool),bB (some (lo,hi))=fc lo++[.int a2,.sl b2,.int c2,.sl d2,.bool true,.bool h]:=by
   cases hi with
   | none=>exact⟨_,_,_,_,_,rfl⟩
   | some w=>exact⟨_,_,_,_,_,rfl⟩
  obtain⟨u5,u6,u7,u8,u10,e1⟩:=e1;rw[e1]at kB;have hf':f=0:=of_decide_eq_true hf;subst hf';clear h e1 hf;unfold jom;refine jae good _ _ [.cell 4 42,.tmp 5] Tryz.func16 rfl rfl (by decide+kernel) rfl ?_;unfold Evid.iv Evid.c at*;simp only[go_sem];refine ja1 kR (by decide) ?_;simp only[go_sem];refine ja1 kB (by decide) ?_;simp only[go_sem]
set_option maxHeartbeats 4000000 in
theorem jkv(h:RSay e [] r f b)(kR:Ctr G.P 33 [e.iv,.sl []] (· = .tup [.agg r,.int f])):Ctr G.P 21 [e.iv] (· = .bool b.isSome):=by
 rw[<-h.flag];obtain⟨k1,a1,c1,b1,d1,P1,Y1,Z1,k2,a2,c2,b2,d2,P2,Y2,Z2,rfl⟩:=h.shape;clear h;refine jae good _ _ [.tmp 2] Tryz.func21 rfl rfl (by decide+kernel) rfl ?_;unfold Evid.iv Evid.c at*;simp only[go_sem];refine ja1 kR (by decide) ?_;simp only[go_sem]
set_option maxHeartbeats 4000000 in
theorem w_Goal(hl:ps.length<=10000):Ctr G.P 25 [e.iv,.sl (ps.map pickC)] (· = .sl (if okP e ps=true then(goalS e.mats.toNat ps).map tmC else [])):=by
 have kg:=w_goal (e:=e) hl;unfold jez at kg;rcases h0:okP e ps with _ | _
 ·rw[h0,if_neg (by decide)]at kg;rw[if_neg (by decide)];refine jae good _ _ [.tmp 4] Tryz.func25 rfl rfl (by decide+kernel) rfl ?_;unfold Evid.iv Evid.c at*;simp only[go_sem];refine ja1 kg (by decide) ?_;simp only[go_sem]
 ·rw[h0,if_pos rfl]at kg;rw[if_pos rfl];generalize (goalS e.mats.toNat ps).map tmC=gt at*;refine jae good _ _ [.tmp 4] Tryz.func25 rfl rfl (by decide+kernel) rfl ?_;unfold Evid.iv Evid.c at*;simp only[go_sem];refine ja1 kg (by decide) ?_;simp only[go_sem]
end
end
section
open Go.Abs
attribute [local go_sem] ints ic big frac fc zc
theorem t_same5(s t:Int)(l m:List Int)(hl:l.length<=1000000000000000):Ctr G.P 113 [.agg [.int s,ints l],.agg [.int t,ints m]] (· = .bool (decide (s=t)&&decide (l=m))):=by
 by_cases h1:s=t
 ·by_cases h2:(l.length:Int)=m.length
  ·have d1:decide (s=t)=true:=decide_eq_true h1;have d2:decide ((l.length:Int)=m.length)=true:=decide_eq_true h2;rw[d1,Bool.true_and];refine jae good _ _ [.tmp 4] Tryz.func113 rfl rfl (by decide+kernel) rfl ?_;simp only[d1,d2,go_sem];refine jb2 [2,3,5] [2,3] (fun i:Nat=>⟨[(2,.loc 2 2 0 0),(3,.loc 3 2 0 0),(5,.im (.int i))],[(3,2,[[.int t,ints m]]),(2,2,[[.int s,ints l]])],[]⟩) (fun i=>i<=l.length/\l.take i=m.take i) (fun i=>l.length-i) 0 ?_ ⟨Nat.zero_le _,rfl⟩ ?_
   ·simp only[Int.natCast_zero,go_sem]
   ·intro i ⟨hi,ha⟩;by_cases hp:(i:Int)<l.length
    ·have hp':(i:Int)<m.length:=by omega
     have hd:decide ((i:Int)<l.length)=true:=decide_eq_true hp;have hx:=jb4 hp;have hy:=jb4 hp';have hw:=jad (n:=(i:Int)+1) (by omega);simp only[hd,go_sem];refine jav 11 (by decide+kernel) ?_;simp only[hd,List.getElem?_map,hx,hy,go_sem];refine jd3 (fun he he'=> ?_) (fun he he'=> ?_)
     ·simp only[go_sem];refine jai (i+1) ?_ (by omega) ⟨by omega,take_same ha hp hp' he'⟩;simp only[hw,Int.natCast_add,go_sem]
     ·have hf:decide (l=m)=false:=decide_eq_false (ne_of_dgt he');rw[hf];simp only[go_sem]
    ·have hd:decide ((i:Int)<l.length)=false:=decide_eq_false hp;have hf:decide (l=m)=true:=decide_eq_true (by
      rw[List.take_of_length_le (by omega),List.take_of_length_le (by omega)]at ha;exact ha)
     rw[hf];simp only[hd,go_sem]
  ·have d1:decide (s=t)=true:=decide_eq_true h1;have d2:decide ((l.length:Int)=m.length)=false:=decide_eq_false h2;have d3:decide (l=m)=false:=decide_eq_false fun e=>h2 (by rw[e]);rw[d3,Bool.and_false];refine jae good _ _ [.tmp 4] Tryz.func113 rfl rfl (by decide+kernel) rfl ?_;simp only[d1,d2,go_sem]
 ·have d1:decide (s=t)=false:=decide_eq_false h1;rw[d1,Bool.false_and];refine jae good _ _ [.tmp 4] Tryz.func113 rfl rfl (by decide+kernel) rfl ?_;simp only[d1,go_sem]
theorem t_self5(s:Int)(l:List Int)(hl:l.length<=1000000000000000):Ctr G.P 113 [.agg [.int s,ints l],.agg [.int s,ints l]] (· = .bool true):=by
 have h:=t_same5 s s l l hl;rw[decide_eq_true rfl,decide_eq_true rfl]at h;exact h
theorem t_equal(l:List Int)(hl:l.length<=1000000000000000):Ctr G.P 139 [ints l,ints l] (· = .bool true):=by
 have d2:decide ((l.length:Int)=l.length)=true:=decide_eq_true rfl;refine jae good _ _ [.tmp 4] Tryz.func139 rfl rfl (by decide+kernel) rfl ?_;simp only[d2,List.length_map,go_sem];refine jb2 [0,1,12,13] [] (fun i:Nat=>⟨[(0,.im (ints l)),(1,.im (ints l)),(12,.im (.int l.length)),(13,.im (.int i))],[],[]⟩) (fun i=>i<=l.length) (fun i=>l.length-i) 0 ?_ (Nat.zero_le _) ?_
 ·simp only[Int.natCast_zero,go_sem]
 ·intro i hi;by_cases hp:(i:Int)<l.length
  ·have hd:decide ((i:Int)<l.length)=true:=decide_eq_true hp;have hx:=jb4 hp;have hw:=jad (n:=(i:Int)+1) (by omega);have hz:decide (dgt l i=dgt l i)=true:=decide_eq_true rfl;simp only[hd,go_sem];refine jav 9 (by decide+kernel) ?_;simp only[hd,List.getElem?_map,hx,hz,go_sem];refine jai (i+1) ?_ (by omega) (by omega);simp only[hw,Int.natCast_add,go_sem]
  ·have hd:decide ((i:Int)<l.length)=false:=decide_eq_false hp;simp only[hd,go_sem]
theorem t_selfb(s:Int)(l:List Int)(hl:l.length<=1000000000000000):Ctr G.P 70 [.agg [.int s,ints l],.agg [.int s,ints l]] (· = .bool true):=by
 have k:=t_equal l hl;have d:decide (s=s)=true:=decide_eq_true rfl;unfold ints at*;generalize l.map ic=l' at*;refine jae good _ _ [.tmp 4] Tryz.func70 rfl rfl (by decide+kernel) rfl ?_;simp only[d,go_sem];refine ja1 k (by decide) ?_;simp only[d,go_sem]
theorem t_selff(s t:Int)(l m:List Int)(hl:l.length<=1000000000000000)(hm:m.length<=1000000000000000):Ctr G.P 18 [.agg [.int s,ints l,.int t,ints m],.agg [.int s,ints l,.int t,ints m]] (· = .bool true):=by
 have k1:=t_selfb s l hl;have k2:=t_selfb t m hm;unfold ints at*;generalize l.map ic=l' at*;generalize m.map ic=m' at*;refine jae good _ _ [.tmp 4] Tryz.func18 rfl rfl (by decide+kernel) rfl ?_;simp only[go_sem];refine ja1 k1 (by decide) ?_;simp only[go_sem];refine ja1 k2 (by decide) ?_;simp only[go_sem]
theorem t_selfg(s t:Int)(l m:List Int)(hl:l.length<=1000000000000000)(hm:m.length<=1000000000000000):Ctr G.P 47 [.agg [.int s,ints l,.int t,ints m],.agg [.int s,ints l,.int t,ints m]] (· = .bool true):=by
 have k1:=t_self5 s l hl;have k2:=t_self5 t m hm;unfold ints at*;generalize l.map ic=l' at*;generalize m.map ic=m' at*;refine jae good _ _ [.tmp 4] Tryz.func47 rfl rfl (by decide+kernel) rfl ?_;simp only[go_sem];refine ja1 k1 (by decide) ?_;simp only[go_sem];refine ja1 k2 (by decide) ?_;simp only[go_sem]
theorem f_self{a:Rat}(ha:FL 19000000000 a):Ctr G.P 18 [frac a,frac a] (· = .bool true):=t_selff _ _ _ _ (by have:=ha.1;omega) (by have:=ha.2;rw[Int.natAbs_natCast];omega)
theorem g_self{a:Rat}(ha:FL 19000000000 a):Ctr G.P 47 [frac a,frac a] (· = .bool true):=t_selfg _ _ _ _ (by have:=ha.1;omega) (by have:=ha.2;rw[Int.natAbs_natCast];omega)
theorem jof(a1 c1 a2 c2:Int)(b1 d1 b2 d2:List (List IV))(lo hi:Bool)(k1:Ctr G.P 47 [.agg [.int a1,.sl b1,.int c1,.sl d1],.agg [.int a1,.sl b1,.int c1,.sl d1]] (· = .bool true))
  (k2:Ctr G.P 47 [.agg [.int a2,.sl b2,.int c2,.sl d2],.agg [.int a2,.sl b2,.int c2,.sl d2]] (· = .bool true)):
  Ctr G.P 15 [.agg [.int a1,.sl b1,.int c1,.sl d1,.int a2,.sl b2,.int c2,.sl d2,.bool lo,.bool hi],.agg [.int a1,.sl b1,.int c1,.sl d1,.int a2,.sl b2,.int c2,.sl d2,.bool lo,.bool hi]] (· = .bool true):=by
 have e1:(lo==lo)=true:=by simp
 have e2:(hi==hi)=true:=by simp
 have e3:decide (lo=lo)=true:=by simp
 have e4:decide (hi=hi)=true:=by simp
 refine jae good _ _ [.tmp 4] Tryz.func15 rfl rfl (by decide+kernel) rfl ?_;simp only[e1,e2,e3,e4,go_sem];refine ja1 k1 (by decide) ?_;simp only[e1,e2,e3,e4,go_sem];refine ja1 k2 (by decide) ?_;simp only[e1,e2,e3,e4,go_sem]
theorem joc:Ctr G.P 47 [.agg zc,.agg zc] (· = .bool true):=t_selfg 0 0 [] [] (by simp) (by simp)
theorem w_selfB(b:Option (Rat×Option Rat))(f1:∀lo hi,b=some (lo,hi)->FL 4000000000 lo/\∀w,hi=some w->FL 4000000000 w):Ctr G.P 15 [.agg (bB b),.agg (bB b)] (· = .bool true):=by
 cases b with
 | none=>exact jof _ _ _ _ _ _ _ _ _ _ joc joc
 | some p=>
  obtain⟨lo,hi⟩:=p;obtain⟨g1,g2⟩:=f1 lo hi rfl;have hk:=g_self (g1.mono (by omega:4000000000<=19000000000));cases hi with
  | none=>exact jof _ _ _ _ _ _ _ _ _ _ hk joc
  | some w=>exact jof _ _ _ _ _ _ _ _ _ _ hk (g_self ((g2 w rfl).mono (by omega:4000000000<=19000000000)))
end
section
open Go.Abs
open Go.LP (Dic Rw RT Ov OvRw tsum Sol IsMin NoMin Bds)
attribute [local go_sem] ints ic big frac fc zc
def exE(rd:Int)(rc:List Recall):Evid:=⟨1,1,1,[⟨0,0,0⟩,⟨1,-1,-1⟩,⟨5,-1,-1⟩],[⟨3,0,1,0,20,false⟩,⟨5,1,2,0,rd,true⟩],[⟨0,0,9,2,0,0⟩],rc,[]⟩
def exPl:List (List IV):=[[.int 0,.int 0,.int 0],[.int 1,.int (-1),.int (-1)],[.int 5,.int (-1),.int (-1)]]
def exMv(rd:Int):List (List IV):=[[.int 3,.int 0,.int 1,.int 0,.int 20,.bool false],[.int 5,.int 1,.int 2,.int 0,.int rd,.bool true]]
def exCt:List (List IV):=[[.int 0,.int 0,.int 9,.int 2,.int 0,.int 0]]
def exC(rd:Int)(R:List (List IV)):List IV:=[.int 1,.int 1,.int 1,.sl exPl,.sl (exMv rd),.sl exCt,.sl R,.sl []]
instance decRw:DecidableEq Rw:=fun a b=>decidable_of_iff (a.ts=b.ts/\a.kind=b.kind/\a.val=b.val) ⟨fun⟨h1,h2,h3⟩=>by cases a;cases b;cases h1;cases h2;cases h3;rfl,fun h=>by subst h;exact⟨rfl,rfl,rfl⟩⟩
theorem jnx:rowsE (exE 23 [])=[⟨[(0,1)],0,18⟩,⟨[(0,1)],1,22⟩,⟨[(0,1),(1,-1)],2,0⟩,⟨[(1,1)],0,21⟩,⟨[(1,1)],1,25⟩]:=by decide+kernel
theorem ex_rows25:rowsE (exE 25 [])=[⟨[(0,1)],0,18⟩,⟨[(0,1)],1,22⟩,⟨[(0,1),(1,-1)],2,0⟩,⟨[(1,1)],0,23⟩,⟨[(1,1)],1,27⟩]:=by decide+kernel
theorem ex_rowsR:rowsE (exE 23 [⟨0,0⟩])=[⟨[(0,1),(1,-1)],2,0⟩]:=by decide+kernel
theorem ex_sol{x:Nat->Rat}(h:Sol 2 (rowsE (exE 23 [])) x):x 0=x 1/\21<=x 0/\x 0<=22:=by
 rw[jnx]at h;have h1:=(h.row ⟨[(0,1)],1,22⟩ (by simp)).2 (by decide);have h2:=h.row ⟨[(0,1),(1,-1)],2,0⟩ (by simp);have h3:=(h.row ⟨[(1,1)],0,21⟩ (by simp)).1 (by decide);have h4:=h2.1 (by decide);have h5:=h2.2 (by decide);simp only[tsum]at h1 h3 h4 h5;grind
theorem jny{c:Rat}(h1:21<=c)(h2:c<=22):Sol 2 (rowsE (exE 23 [])) (fun _=>c) where
 pos k hk:=by grind
 row w hw:=by
  rw[jnx]at hw;simp only[List.mem_cons,List.not_mem_nil,or_false]at hw;rcases hw with rfl | rfl | rfl | rfl | rfl<;>simp only[Rw.sat,tsum]<;>constructor<;>intro _<;>grind
theorem ex_no{x:Nat->Rat}(h:Sol 2 (rowsE (exE 25 [])) x):False:=by
 rw[ex_rows25]at h;have h1:=(h.row ⟨[(0,1)],1,22⟩ (by simp)).2 (by decide);have h2:=h.row ⟨[(0,1),(1,-1)],2,0⟩ (by simp);have h3:=(h.row ⟨[(1,1)],0,23⟩ (by simp)).1 (by decide);have h4:=h2.1 (by decide);have h5:=h2.2 (by decide);simp only[tsum]at h1 h3 h4 h5;grind
theorem ex_hasR:Sol 2 (rowsE (exE 23 [⟨0,0⟩])) (fun _=>0) where
 pos k hk:=by grind
 row w hw:=by
  rw[ex_rowsR]at hw;simp only[List.mem_cons,List.not_mem_nil,or_false]at hw;subst hw;simp only[Rw.sat,tsum];constructor<;>intro _<;>grind
section
variable{e:Evid}{ps:List (Int×Int)}{b:Option (Rat×Option Rat)}{lo hi:Rat}{x y:Nat->Rat}
theorem BSay.low(h:BSay e ps b)(hok:okP e ps=true)(hx:Sol (nV e) (rowsE e) x)(ex:wgt e ps x=lo)(hall:∀z,Sol (nV e) (rowsE e) z->lo<=wgt e ps z):∃hi,b=Option.some (lo,hi):=by
 cases h with
 | none hno=>exact absurd hx (hno hok x)
 | some l u h1 h2 h3 h4=>
  obtain⟨z,hz,rfl⟩:=h2.low_at;have a:=h2.low x hx;have c:=hall z hz;have:lo=wgt e ps z:=by grind
  exact⟨u,by rw[this]⟩
theorem BSay.exact(h:BSay e ps b)(hok:okP e ps=true)(hx:Sol (nV e) (rowsE e) x)(ex:wgt e ps x=lo)(hy:Sol (nV e) (rowsE e) y)(ey:wgt e ps y=hi)(hall:∀z,Sol (nV e) (rowsE e) z->lo<=wgt e ps z/\wgt e ps z<=hi):b=Option.some (lo,Option.some hi):=by
 cases h with
 | none hno=>exact absurd hx (hno hok x)
 | some l u h1 h2 h3 h4=>
  have e1:l=lo:=by
   obtain⟨z,hz,rfl⟩:=h2.low_at;have a:=h2.low x hx;have c:=(hall z hz).1;grind
  have e2:u=Option.some hi:=by
   cases hu:u with
   | none=>
    obtain⟨z,hz,hl⟩:=h2.wide hu hi;have:=(hall z hz).2;grind
   | some w=>
    obtain⟨z,hz,rfl⟩:=h2.high_at w hu;have a:=h2.high _ hu y hy;have c:=(hall z hz).2;have:wgt e ps z=hi:=by grind
    rw[this]
  rw[e1,e2]
theorem BSay.no(h:BSay e ps b)(hno:∀x,¬Sol (nV e) (rowsE e) x):b=Option.none:=by
 cases h with
 | none _=>rfl
 | some l u h1 h2 h3 h4=>obtain⟨z,hz,_⟩:=h2.low_at;exact absurd hz (hno z)
end
theorem jh0(rd:Int)(rc:List Recall):SmallE (exE rd rc):=small2 (by show 2<=9;omega) (by show(1:Int)<=2;omega) (by show 0<=40;omega)
theorem ex_one{b:Option (Rat×Option Rat)}(h:BSay (exE 23 []) [(0,0)] b):b=some (((21:Int):Rat),some ((22:Int):Rat)):=by
 refine h.exact (by decide+kernel) (jny (c:=21) (by decide) (by decide)) ?_ (jny (c:=22) (by decide) (by decide)) ?_ ?_
 ·show(21:Rat)+0=21;decide+kernel
 ·show(22:Rat)+0=22;decide+kernel
 ·intro z hz;obtain⟨h1,h2,h3⟩:=ex_sol hz;have e1:wgt (exE 23 []) [(0,0)] z=z 0+0:=rfl;have e2:((21:Int):Rat)=21:=rfl;have e3:((22:Int):Rat)=22:=rfl;rw[e1,e2,e3];grind
theorem ex_two{b:Option (Rat×Option Rat)}(h:BSay (exE 23 []) [(1,0),(0,0)] b):b=some (((42:Int):Rat),some ((44:Int):Rat)):=by
 refine h.exact (by decide+kernel) (jny (c:=21) (by decide) (by decide)) ?_ (jny (c:=22) (by decide) (by decide)) ?_ ?_
 ·show(21:Rat)+(21+0)=42;decide+kernel
 ·show(22:Rat)+(22+0)=44;decide+kernel
 ·intro z hz;obtain⟨h1,h2,h3⟩:=ex_sol hz;have e1:wgt (exE 23 []) [(1,0),(0,0)] z=z 1+(z 0+0):=rfl;have e2:((42:Int):Rat)=42:=rfl;have e3:((44:Int):Rat)=44:=rfl;rw[e1,e2,e3];grind
theorem jn3(rd:Int):Ctr G.P 54 [.int rd] (· = .agg (exC rd [])):=by
 unfold exC exPl exMv exCt;refine jae good _ _ [.cell 2 28] Tryz.func54 rfl rfl (by decide+kernel) rfl ?_;simp only[go_sem]
set_option maxHeartbeats 4000000 in
theorem jn4{e:Evid}{C:List (List IV)}{ps:List (Int×Int)}{r:List IV}{f:Int}{lo hi:Int}(h:RSay e ps r f (some ((lo:Rat),some (hi:Rat))))(kR:Ctr G.P 33 [.agg (exC 23 []),.sl C] (· = .tup [.agg r,.int f]))
  (hlo:0<=lo/\lo<=100) (hhi:0<=hi/\hi<=100):Ctr G.P 55 [.agg (exC 23 []),.sl C,.int lo,.int hi] (· = .bool true):=by
 have kB:=h.bnd;have hf:f=0:=of_decide_eq_true h.flag;subst hf;obtain⟨k1,a1,c1,b1,d1,P1,Y1,Z1,k2,a2,c2,b2,d2,P2,Y2,Z2,rfl⟩:=h.shape;clear h;simp only[bB,bdC,sideC,List.cons_append,List.nil_append,List.append_assoc]at kB;have i1:=jcb lo (by omega);have i2:=jcb hi (by omega);have s1:=f_self (FL.mono (jck (n:=lo) (by omega)) (by omega:4<=19000000000));have s2:=f_self (FL.mono (jck (n:=hi) (by omega)) (by omega:4<=19000000000));simp only[frac,fc,ints,Option.isSome,List.cons_append,List.nil_append]at*;generalize (dig ((lo:Rat).num.natAbs)).map ic=x1 at*;generalize (dig ((lo:Rat).den:Int).natAbs).map ic=x2 at*;generalize (dig ((hi:Rat).num.natAbs)).map ic=x3 at*;generalize (dig ((hi:Rat).den:Int).natAbs).map ic=x4 at*;unfold exC at*;refine jae good _ _ [.tmp 8] Tryz.func55 rfl rfl (by decide+kernel) rfl ?_;simp only[go_sem];refine ja1 kR (by decide) ?_;simp only[go_sem];refine ja1 kB (by decide) ?_;simp only[go_sem];refine jav 25 (by decide+kernel) ?_;simp only[go_sem];refine ja7 i1 (by decide) ?_;simp only[go_sem];refine ja7 s1 (by decide) ?_;simp only[go_sem];refine ja7 i2 (by decide) ?_;simp only[go_sem];refine ja7 s2 (by decide) ?_;simp only[go_sem]
end
section
open Go.Abs
open Go.LP (Dic Rw RT Ov OvRw tsum Sol IsMin NoMin Bds)
attribute [local go_sem] ints ic big frac fc zc
set_option maxHeartbeats 8000000 in
theorem w_small:Ctr G.P 9 [] (· = .bool true):=by
 have kE23:=jn3 23;have kE25:=jn3 25;have kI0:Ctr G.P 19 [.int 0] (· =frac ((0:Int):Rat)):=jcb 0 (by omega);have kS0:=f_self (FL.mono (jck (n:=0) (by omega)) (by omega:4<=19000000000));obtain⟨r1,f1,b1,s1,kR1⟩:=jee (e:=exE 23 []) (ps:=[(0,0)]) (jh0 _ _) (by simp);have hb1:=ex_one s1.say;subst hb1;have kb1:=jn4 (e:=exE 23 []) (C:=[[.int 0,.int 0]]) s1 kR1 (by omega) (by omega);obtain⟨r2,f2,b2,s2,kR2⟩:=jee (e:=exE 23 []) (ps:=[(1,0),(0,0)]) (jh0 _ _) (by simp);have hb2:=ex_two s2.say;subst hb2;have kb2:=jn4 (e:=exE 23 []) (C:=[[.int 1,.int 0],[.int 0,.int 0]]) s2 kR2 (by omega) (by omega);have kG:=w_Goal (e:=exE 23 []) (ps:=[(1,0),(0,0)]) (by simp);have hg:okP (exE 23 []) [(1,0),(0,0)]=true:=by decide+kernel
 rw[hg,if_pos rfl]at kG;have kG':Ctr G.P 25 [.agg (exC 23 []),.sl [[.int 1,.int 0],[.int 0,.int 0]]] (· = .sl [tmC (0,1),tmC (1,1)]):=kG;obtain⟨r3,f3,b3,s3,kR3⟩:=jee (e:=exE 23 []) (ps:=[]) (jh0 _ _) (by simp);have kP3:=jkv s3 kR3;have hb3:b3.isSome=true:=by
  obtain⟨hi,h⟩:=s3.say.low (lo:=0) (by decide+kernel) (jny (c:=21) (by decide) (by decide)) rfl (fun z _=>by show(0:Rat)<=0;decide);rw[h];rfl
 rw[hb3]at kP3;obtain⟨r4,f4,b4,s4,kR4⟩:=jee (e:=exE 25 []) (ps:=[]) (jh0 _ _) (by simp);have kP4:=jkv s4 kR4;have hb4:=s4.say.no fun x hx=>ex_no hx;subst hb4;obtain⟨r5,f5,b5,s5,kR5⟩:=jee (e:=exE 25 []) (ps:=[(0,0)]) (jh0 _ _) (by simp);have hb5:=s5.say.no fun x hx=>ex_no hx;obtain⟨e5,e6⟩:=s5.zero hb5;have hf5:f5=15:=by
  rcases e6 with h | h
  ·have h2:=s5.arg.1 h;rw[show okP (exE 25 []) [(0,0)]=true by decide+kernel]at h2;cases h2
  ·exact h
 subst e5 hf5;obtain⟨r6,f6,b6,s6,kR6⟩:=jee (e:=exE 23 [⟨0,0⟩]) (ps:=[(0,0)]) (jh0 _ _) (by simp);have hb6:∃hi,b6=some (((0:Int):Rat),hi):=by
  refine s6.say.low (by decide+kernel) ex_hasR ?_ ?_
  ·show(0:Rat)+0=0;decide+kernel
  ·intro z hz;have:=hz.pos 0 (by decide);have e1:wgt (exE 23 [⟨0,0⟩]) [(0,0)] z=z 0+0:=rfl;have e2:((0:Int):Rat)=0:=rfl;rw[e1,e2];grind
 obtain⟨hi6,hb6⟩:=hb6;subst hb6;have kL:=w_least s6 kR6;have kL':Ctr G.P 16 [.agg (exC 23 [[.int 0,.int 0]]),.sl [[.int 0,.int 0]]] (· = .tup [frac ((0:Int):Rat),.int 0]):=kL;have kR5':Ctr G.P 33 [.agg (exC 25 []),.sl [[.int 0,.int 0]]] (· = .tup [.agg (zo++zo),.int 15]):=kR5;have kP3':Ctr G.P 21 [.agg (exC 23 [])] (· = .bool true):=kP3;have kP4':Ctr G.P 21 [.agg (exC 25 [])] (· = .bool false):=kP4;clear kR1 kR2 kR3 kR4 kR5 kR6 s1 s2 s3 s4 s5 s6 kL kP3 kP4 hb3 hb5 e6 kG hg;simp only[frac,ints,exC,zo,zc,List.cons_append,List.nil_append,tmC,fc]at*;generalize (dig (((0:Int):Rat).num.natAbs)).map ic=x1 at*;generalize (dig ((((0:Int):Rat).den:Int).natAbs)).map ic=x2 at*;generalize exMv 23=m23 at*;generalize exMv 25=m25 at*;generalize exPl=pl at*;generalize exCt=ct at*;refine jae good _ _ [.tmp 0] Tryz.func9 rfl rfl (by decide+kernel) rfl ?_;simp only[go_sem];refine ja1 kE23 (by decide) ?_;simp only[go_sem];refine ja1 kE25 (by decide) ?_;simp only[go_sem];refine ja1 kR5' (by decide) ?_;simp only[go_sem];refine ja1 kL' (by decide) ?_;simp only[go_sem];refine jav 19 (by decide+kernel) ?_;simp only[go_sem];refine ja7 kE23 (by decide) ?_;simp only[go_sem];refine ja7 kG' (by decide) ?_;simp only[go_sem];refine ja7 kI0 (by decide) ?_;simp only[go_sem];refine ja7 kS0 (by decide) ?_;simp only[go_sem];refine ja1 kE23 (by decide) ?_;simp only[go_sem]
 refine ja1 kb1 (by decide) ?_;simp only[go_sem];refine ja1 kE23 (by decide) ?_;simp only[go_sem];refine ja1 kb2 (by decide) ?_;simp only[go_sem];refine ja1 kE23 (by decide) ?_;simp only[go_sem];refine ja1 kP3' (by decide) ?_;simp only[go_sem];refine ja1 kE25 (by decide) ?_;simp only[go_sem];refine ja1 kP4' (by decide) ?_;simp only[go_sem]
theorem t_few5z(k:Int)(hk:0<=k):Ctr G.P 118 [.agg zc,.int k] (· = .bool true):=by
 have hd:decide ((0:Int)<=k)=true:=decide_eq_true hk;refine jae good _ _ [.tmp 4] Tryz.func118 rfl rfl (by decide+kernel) rfl ?_;simp only[hd,go_sem]
theorem t_few8z(k d:Int)(hk:0<=k):Ctr G.P 103 [.sl [],.int k,.int d] (· = .bool true):=by
 have hd:decide ((0:Int)<=k)=true:=decide_eq_true hk;refine jae good _ _ [.tmp 6] Tryz.func103 rfl rfl (by decide+kernel) rfl ?_;simp only[hd,go_sem];refine jb2 [0,1,2,7] [] (fun _:Nat=>⟨[(0,.im (.sl [])),(1,.im (.int k)),(2,.im (.int d)),(7,.im (.int 0))],[],[]⟩) (fun _=>True) (fun g=>g) 0 ?_ trivial ?_
 ·simp only[go_sem]
 intro i _;simp only[hd,go_sem]
theorem t_few11z:Ctr G.P 56 [.agg zo,.int 60,.int 40] (· = .bool true):=by
 have k1:=t_few5z 40 (by omega);have k2:=t_few8z 60 40 (by omega);unfold zo;refine jae good _ _ [.tmp 6] Tryz.func56 rfl rfl (by decide+kernel) rfl ?_;simp only[go_sem];refine ja1 k1 (by decide) ?_;simp only[go_sem];refine ja1 k2 (by decide) ?_;simp only[go_sem];refine ja1 k2 (by decide) ?_;simp only[go_sem];refine ja1 k2 (by decide) ?_;simp only[go_sem]
def jne(e:Evid)(k m:Int):Bool:=
 !decide (m<e.mats)&&(!decide (6<e.houses)&&(!decide (6<e.scales)&&(!decide (12<(e.places.length:Int))&&(decide ((e.moves.length:Int)<=k)&&(decide ((e.certs.length:Int)<=10)&&(decide ((e.recalls.length:Int)<=4)&&decide ((e.purs.length:Int)<=6)))))))
set_option maxHeartbeats 4000000 in
theorem t_small14(e:Evid)(k m:Int):Ctr G.P 35 [e.iv,.int k,.int m] (· = .bool (jne e k m)):=by
 refine jae good _ _ [.tmp 6] Tryz.func35 rfl rfl (by decide+kernel) rfl ?_;unfold jne Evid.iv Evid.c;simp only[List.length_map,go_sem]
 repeat' (first | (refine jd2 (fun hd=> ?_) (fun hd=> ?_)<;>simp only[*,go_sem]))
 all_goals simp[*]
def few17(e:Evid)(n:Nat)(k:Int):Bool:=jne e k 2&&(decide ((e.purs.length:Int)<=3)&&decide ((n:Int)<=20))
set_option maxHeartbeats 4000000 in
theorem jp9(e:Evid)(C:List (List IV))(k:Int):Ctr G.P 10 [e.iv,.sl C,.agg (zo++zo),.int k,.int 2] (· = .bool (few17 e C.length k)):=by
 have k1:=t_small14 e k 2;have k2:=t_few11z;unfold few17 Evid.iv Evid.c zo at*;rcases h1:jne e k 2 with _ | _
 ·rw[h1]at k1;refine jae good _ _ [.tmp 10] Tryz.func10 rfl rfl (by decide+kernel) rfl ?_;simp only[go_sem];refine ja1 k1 (by decide) ?_;simp only[go_sem]
 ·rw[h1]at k1;rcases h2:decide ((e.purs.length:Int)<=3)with _ | _
  ·refine jae good _ _ [.tmp 10] Tryz.func10 rfl rfl (by decide+kernel) rfl ?_;simp only[go_sem];refine ja1 k1 (by decide) ?_;simp only[h2,List.length_map,go_sem]
  ·rcases h3:decide ((C.length:Int)<=20)with _ | _
   ·refine jae good _ _ [.tmp 10] Tryz.func10 rfl rfl (by decide+kernel) rfl ?_;simp only[go_sem];refine ja1 k1 (by decide) ?_;simp only[h2,h3,List.length_map,go_sem]
   ·refine jae good _ _ [.tmp 10] Tryz.func10 rfl rfl (by decide+kernel) rfl ?_;simp only[go_sem];refine ja1 k1 (by decide) ?_;simp only[h2,h3,List.length_map,go_sem];refine ja1 k2 (by decide) ?_;simp only[h2,h3,List.length_map,go_sem];refine ja1 k2 (by decide) ?_;simp only[h2,h3,List.length_map,go_sem]
theorem few_small{e:Evid}{n:Nat}{k:Int}(h:few17 e n k=true)(hk:k<=9):SmallE e/\n<=20/\(e.moves.length:Int)<=k/\e.certs.length<=10/\e.recalls.length<=4/\e.scales<=6:=by
 simp only[few17,jne,Bool.and_eq_true,Bool.not_eq_true',decide_eq_false_iff_not,decide_eq_true_eq]at h;exact⟨small2 (by omega) (by omega) (by omega),by omega,by omega,by omega,by omega,by omega⟩
set_option maxHeartbeats 4000000 in
theorem jj3{la lb:Rat}{ha hb:Option Rat}(fa:FL 4000000000 la)(fb:FL 4000000000 lb)(ga:∀w,ha=some w->FL 4000000000 w)(gb:∀w,hb=some w->FL 4000000000 w)(hl:lb<=la)(hh:∀w,hb=some w->∃w',ha=some w'/\w'<=w):
  Ctr G.P 13 [.agg (bdC la ha),.agg (bdC lb hb)] (· = .bool true):=by
 have k1:=f_cmp (fb.mono (by omega:4000000000<=19000000000)) (fa.mono (by omega:4000000000<=19000000000));have d1:decide (cmpR lb la<=0)=true:=decide_eq_true (by
  have:=(not_congr (jq6 (a:=lb) (b:=la))).2 (by grind);omega)
 unfold bdC;cases hb with
 | none=>
  cases ha with
  | none=>
   unfold sideC frac fc at*;refine jae good _ _ [.tmp 4] Tryz.func13 rfl rfl (by decide+kernel) rfl ?_;simp only[d1,go_sem];refine ja1 k1 (by decide) ?_;simp only[d1,go_sem]
  | some w=>
   unfold sideC frac fc at*;refine jae good _ _ [.tmp 4] Tryz.func13 rfl rfl (by decide+kernel) rfl ?_;simp only[d1,go_sem];refine ja1 k1 (by decide) ?_;simp only[d1,go_sem]
 | some w=>
  obtain⟨w',rfl,hle⟩:=hh w rfl;have k2:=f_cmp ((ga w' rfl).mono (by omega:4000000000<=19000000000)) ((gb w rfl).mono (by omega:4000000000<=19000000000));have d2:decide (cmpR w' w<=0)=true:=decide_eq_true (by
   have:=(not_congr (jq6 (a:=w') (b:=w))).2 (by grind);omega)
  unfold sideC frac fc at*;refine jae good _ _ [.tmp 4] Tryz.func13 rfl rfl (by decide+kernel) rfl ?_;simp only[d1,go_sem];refine ja1 k1 (by decide) ?_;simp only[d1,d2,go_sem];refine ja1 k2 (by decide) ?_;simp only[d1,d2,go_sem]
end
end Go.Proofs.YtfahloobpegieaaGreat
