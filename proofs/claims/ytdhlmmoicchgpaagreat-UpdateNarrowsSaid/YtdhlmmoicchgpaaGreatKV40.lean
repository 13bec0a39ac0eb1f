/- A part of the proof. No further condition. -/
import Derived.Test.YtdhlmmoicchgpaaGreatKV38
import Derived.Test.YtdhlmmoicchgpaaGreatKV35
set_option linter.all false
set_option maxRecDepth 10000000
set_option maxHeartbeats 16000000
namespace Go.Proofs.YtdhlmmoicchgpaaGreat
section
open Go.Abs
attribute [local go_sem] ints ic big frac fc zc
theorem rat_dec(a b:Rat):(decide (a.num=b.num)&&decide ((a.den:Int)=(b.den:Int)))=decide (a=b):=by
 by_cases h:a=b
 ·subst h;simp
 ·rw[zw h];by_cases h1:a.num=b.num
  ·have h2:¬(a.den:Int)=(b.den:Int):=fun e=>h (Rat.ext h1 (by omega));rw[zw h2,yI]
  ·rw[zw h1,qm]
theorem u_same{a b:Rat}(ha:FL 19000000000 a):Ctr G.P 51 [frac a,frac b] (· = .bool (decide (a=b))):=by
 have h:=u_frac a.num.sign (a.den:Int).sign (dig a.num.natAbs) (dig (a.den:Int).natAbs) b.num.sign (b.den:Int).sign (dig b.num.natAbs) (dig (b.den:Int).natAbs)
  (by have:=ha.1;omega) (by have:=ha.2;rw[Int.natAbs_natCast];omega)
 rw[jnz,jnz,rat_dec]at h;exact h
theorem u_gfrac(s t:Int)(l m:List Int)(s' t':Int)(l' m':List Int)(hl:l.length<=1000000000000000)(hm:m.length<=1000000000000000):
  Ctr G.P 45 [.agg [.int s,ints l,.int t,ints m],.agg [.int s',ints l',.int t',ints m']] (· = .bool ((decide (s=s')&&decide (l=l'))&&(decide (t=t')&&decide (m=m')))):=by
 have k1:=t_same5 s s' l l' hl;have k2:=t_same5 t t' m m' hm;unfold ints at*;generalize (decide (s=s')&&decide (l=l'))=p at*;generalize (decide (t=t')&&decide (m=m'))=q at*;generalize l.map ic=l1 at*;generalize m.map ic=m1 at*;generalize l'.map ic=l2 at*;generalize m'.map ic=m2 at*;refine ja5 [.tmp 4] Tryz.func45 ?_;simp only[go_sem];refine ja2 k1 ?_;cases p
 ·simp only[go_sem]
 ·simp only[go_sem];refine ja2 k2 ?_;simp only[go_sem]
theorem u_gsame{a b:Rat}(ha:FL 19000000000 a):Ctr G.P 45 [frac a,frac b] (· = .bool (decide (a=b))):=by
 have h:=u_gfrac a.num.sign (a.den:Int).sign (dig a.num.natAbs) (dig (a.den:Int).natAbs) b.num.sign (b.den:Int).sign (dig b.num.natAbs) (dig (b.den:Int).natAbs)
  (by have:=ha.1;omega) (by have:=ha.2;rw[Int.natAbs_natCast];omega)
 rw[jnz,jnz,rat_dec]at h;exact h
end
section
open Go.Abs
attribute [local go_sem] ints ic zc
theorem u_bound{e:Evid}{q:List (Int×Int)}{r:List IV}{f:Int}{b:Option (Rat×Option Rat)}(h:RSay e q r f b)(kR:Ctr G.P 16 [e.iv,.sl (q.map pickC)] (· = .tup [.agg r,.int f])):
  Ctr G.P 35 [e.iv,.sl (q.map pickC)] (· = .agg (bB b)):=by
 have kB:=h.bnd;obtain⟨k1,a1,c1,b1,d1,P1,Y1,Z1,k2,a2,c2,b2,d2,P2,Y2,Z2,rfl⟩:=h.shape;obtain⟨u1,u2,u3,u4,u5,u6,u7,u8,u9,u10,e1⟩:=js8 b;rw[e1]at kB⊢;clear h e1;refine ja5 [.cell 4 73] Tryz.func35 ?_;unfold Evid.iv Evid.c at*;simp only[go_sem];refine ja2 kR ?_;simp only[go_sem];refine ja2 kB ?_;simp only[go_sem]
end
section
open Go.Abs
section
variable{a1 c1 a2 c2 a3 c3 a4 c4:Int}{b1 d1 b2 d2 b3 d3 b4 d4:List (List IV)}{h h' p1 p2:Bool}
theorem jn3(k1:Ctr G.P 51 [.agg [.int a1,.sl b1,.int c1,.sl d1],.agg [.int a3,.sl b3,.int c3,.sl d3]] (· = .bool p1))
  (k2:h=h'->p1=true->Ctr G.P 51 [.agg [.int a2,.sl b2,.int c2,.sl d2],.agg [.int a4,.sl b4,.int c4,.sl d4]] (· = .bool p2)):
  Ctr G.P 78 [.agg [.int a1,.sl b1,.int c1,.sl d1,.int a2,.sl b2,.int c2,.sl d2,.bool true,.bool h],.agg [.int a3,.sl b3,.int c3,.sl d3,.int a4,.sl b4,.int c4,.sl d4,.bool true,.bool h']] (· = .bool (decide (h=h')&&(p1&&p2))):=by
 cases h<;>cases h'
 ·have k3:=k2 rfl;rw[show decide (false=false)=true from rfl,qg];refine ja5 [.tmp 4] Tryz.func78 ?_;simp only[go_sem];refine ja2 k1 ?_;cases p1
  ·simp only[go_sem]
  ·simp only[go_sem];refine ja2 (k3 rfl) ?_;simp only[go_sem]
 ·clear k1 k2;rw[show decide (false=true)=false from rfl,qm];refine ja5 [.tmp 4] Tryz.func78 ?_;simp only[go_sem]
 ·clear k1 k2;rw[show decide (true=false)=false from rfl,qm];refine ja5 [.tmp 4] Tryz.func78 ?_;simp only[go_sem]
 ·have k3:=k2 rfl;rw[show decide (true=true)=true from rfl,qg];refine ja5 [.tmp 4] Tryz.func78 ?_;simp only[go_sem];refine ja2 k1 ?_;cases p1
  ·simp only[go_sem]
  ·simp only[go_sem];refine ja2 (k3 rfl) ?_;simp only[go_sem]
theorem jk4(k1:Ctr G.P 45 [.agg [.int a1,.sl b1,.int c1,.sl d1],.agg [.int a3,.sl b3,.int c3,.sl d3]] (· = .bool p1))
  (k2:h=h'->p1=true->Ctr G.P 45 [.agg [.int a2,.sl b2,.int c2,.sl d2],.agg [.int a4,.sl b4,.int c4,.sl d4]] (· = .bool p2)):
  Ctr G.P 17 [.agg [.int a1,.sl b1,.int c1,.sl d1,.int a2,.sl b2,.int c2,.sl d2,.bool true,.bool h],.agg [.int a3,.sl b3,.int c3,.sl d3,.int a4,.sl b4,.int c4,.sl d4,.bool true,.bool h']] (· = .bool (decide (h=h')&&(p1&&p2))):=by
 cases h<;>cases h'
 ·have k3:=k2 rfl;rw[show decide (false=false)=true from rfl,qg];refine ja5 [.tmp 4] Tryz.func17 ?_;simp only[go_sem];refine ja2 k1 ?_;cases p1
  ·simp only[go_sem]
  ·simp only[go_sem];refine ja2 (k3 rfl) ?_;simp only[go_sem]
 ·clear k1 k2;rw[show decide (false=true)=false from rfl,qm];refine ja5 [.tmp 4] Tryz.func17 ?_;simp only[go_sem]
 ·clear k1 k2;rw[show decide (true=false)=false from rfl,qm];refine ja5 [.tmp 4] Tryz.func17 ?_;simp only[go_sem]
 ·have k3:=k2 rfl;rw[show decide (true=true)=true from rfl,qg];refine ja5 [.tmp 4] Tryz.func17 ?_;simp only[go_sem];refine ja2 k1 ?_;cases p1
  ·simp only[go_sem]
  ·simp only[go_sem];refine ja2 (k3 rfl) ?_;simp only[go_sem]
theorem jqy(n1:Ctr G.P 47 [.agg [.int a1,.sl b1,.int c1,.sl d1]] (· = .agg [.int a3,.sl b3,.int c3,.sl d3]))(n3:Ctr G.P 47 [.agg [.int a3,.sl b3,.int c3,.sl d3]] (· = .agg [.int a1,.sl b1,.int c1,.sl d1]))
  (n2:Ctr G.P 47 [.agg [.int a2,.sl b2,.int c2,.sl d2]] (· = .agg [.int a4,.sl b4,.int c4,.sl d4])) (n4:Ctr G.P 47 [.agg [.int a4,.sl b4,.int c4,.sl d4]] (· = .agg [.int a2,.sl b2,.int c2,.sl d2])):
  Ctr G.P 41 [.agg [.int a1,.sl b1,.int c1,.sl d1,.int a2,.sl b2,.int c2,.sl d2,.bool h,.bool h']] (· = .agg [.int a1,.sl b1,.int c1,.sl d1,.int a2,.sl b2,.int c2,.sl d2,.bool h,.bool h']):=by
 refine ja5 [.cell 2 73] Tryz.func41 ?_;simp only[go_sem];refine jav ?_;simp only[go_sem];refine ja4 n1 (by decide) ?_;simp only[go_sem];refine ja4 n3 (by decide) ?_;simp only[go_sem];refine ja4 n2 (by decide) ?_;simp only[go_sem];refine ja4 n4 (by decide) ?_;simp only[go_sem]
end
end
section
open Go.Abs
section
variable{e e':Evid}{q:List (Int×Int)}
theorem b_say(hs:SmallE e)(hl:q.length<=10000):BSay e q (bO e q):=by
 obtain⟨r,f,b,h,_⟩:=jpv hs hl;rw[bO_of h.say];exact h.say
theorem u_pos(hs:SmallE e):Ctr G.P 14 [e.iv] (· = .bool (posF e)):=by
 obtain⟨r,f,b,h,k⟩:=jpv (ps:=[]) hs (zI _);unfold posF;rw[bO_of h.say];exact w_possible h k
theorem u_bd(hs:SmallE e)(hl:q.length<=10000):Ctr G.P 35 [e.iv,.sl (q.map pickC)] (· = .agg (bB (bO e q))):=by
 obtain⟨r,f,b,h,k⟩:=jpv hs hl;rw[bO_of h.say];exact u_bound h k
theorem b_cell(b:Option (Rat×Option Rat)):BCell (bB b):=js8 b
noncomputable def fB(e:Evid)(q:List (Int×Int)):List IV:=bB (bO e q)
theorem jcw(e:Evid)(q:List (Int×Int)):BCell (fB e q):=b_cell _
theorem z_same:Ctr G.P 51 [.agg zc,.agg zc] (· = .bool true):=by
 have h:=u_frac 0 0 [] [] 0 0 [] [] (by decide) (by decide);exact h
theorem zg_same:Ctr G.P 45 [.agg zc,.agg zc] (· = .bool true):=by
 have h:=u_gfrac 0 0 [] [] 0 0 [] [] (by decide) (by decide);exact h
structure FLB(p:Rat×Option Rat):Prop where
 lo:FL 4000000000 p.1
 hi:∀w,p.2=some w->FL 4000000000 w
theorem FL.up{a:Rat}(h:FL 4000000000 a):FL 19000000000 a:=⟨qh h.1 (by decide),qh h.2 (by decide)⟩
theorem jrb(lo lo':Rat)(hi hi':Option Rat):decide ((lo,hi)=(lo',hi'))=(decide (hi.isSome=hi'.isSome)&&(decide (lo=lo')&&decide (hi=hi'))):=by
 by_cases h1:lo=lo'
 ·subst h1;by_cases h2:hi=hi'
  ·subst h2;simp
  ·rw[zw h2,zw (fun e=>h2 (Prod.mk.inj e).2)];simp
 ·rw[zw h1,zw (fun e=>h1 (Prod.mk.inj e).1)];simp
theorem u_sameB{p p':Rat×Option Rat}(h:FLB p)(h':FLB p'):Ctr G.P 78 [.agg (bB (some p)),.agg (bB (some p'))] (· = .bool (decide (p=p'))):=by
 obtain⟨lo,hi⟩:=p;obtain⟨lo',hi'⟩:=p';rw[jrb];have k1:=u_same (a:=lo) (b:=lo') h.lo.up;cases hi with
 | none=>cases hi' with
  | none=>exact jn3 k1 fun _ _=>z_same
  | some w=>exact jn3 (p2:=decide (none=some w)) k1 fun h=>by cases h
 | some v=>cases hi' with
  | none=>exact jn3 (p2:=decide (some v=none)) k1 fun h=>by cases h
  | some w=>
   have k2:=u_same (a:=v) (b:=w) (h.hi v rfl).up;rw[show decide (v=w)=decide (some v=some w)by simp]at k2;exact jn3 k1 fun _ _=>k2
theorem jqw{p p':Rat×Option Rat}(h:FLB p)(h':FLB p'):Ctr G.P 17 [.agg (bB (some p)),.agg (bB (some p'))] (· = .bool (decide (p=p'))):=by
 obtain⟨lo,hi⟩:=p;obtain⟨lo',hi'⟩:=p';rw[jrb];have k1:=u_gsame (a:=lo) (b:=lo') h.lo.up;cases hi with
 | none=>cases hi' with
  | none=>exact jk4 k1 fun _ _=>zg_same
  | some w=>exact jk4 (p2:=decide (none=some w)) k1 fun h=>by cases h
 | some v=>cases hi' with
  | none=>exact jk4 (p2:=decide (some v=none)) k1 fun h=>by cases h
  | some w=>
   have k2:=u_gsame (a:=v) (b:=w) (h.hi v rfl).up;rw[show decide (v=w)=decide (some v=some w)by simp]at k2;exact jk4 k1 fun _ _=>k2
theorem FL.neg{k:Nat}{a:Rat}(h:FL k a):FL k (-a):=⟨by rw[Rat.neg_num,qW];exact h.1,by rw[Rat.neg_den];exact h.2⟩
theorem neg2{a:Rat}(h:FL 4000000000 a):Ctr G.P 47 [frac (-a)] (· =frac a):=by
 have:=f_neg h.neg.up
 rwa [Rat.neg_neg]at this
theorem u_freshB{p:Rat×Option Rat}(h:FLB p):Ctr G.P 41 [.agg (bB (some p))] (· = .agg (bB (some p))):=by
 obtain⟨lo,hi⟩:=p;cases hi with
 | none=>exact jqy (f_neg h.lo.up) (neg2 h.lo) jqk jqk
 | some v=>exact jqy (f_neg h.lo.up) (neg2 h.lo) (f_neg (h.hi v rfl).up) (neg2 (h.hi v rfl))
theorem say_flb{p:Rat×Option Rat}{b:Option (Rat×Option Rat)}(h:BSay e q b)(hb:b=some p):FLB p:=by
 cases h with
 | none _=>cases hb
 | some lo hi _ _ h1 h2=>cases hb;exact⟨h1,h2⟩
end
end
section
open Go.Abs
attribute [local go_sem] Evid.iv Evid.c ints ic
def HasW(L:Abs.Rows)(A:Nat)(e:Evid)(qs:List (List (Int×Int))):Prop:=∃Q B,HasR L A Q B 0 e (posF e) qs (fB e) []
noncomputable def chg(e e':Evid)(q:List (Int×Int)):Bool:=(posF e' !=posF e) || (posF e'&& !decide (bO e' q=bO e q))
section
variable{L:Abs.Rows}{A B Q:Nat}{e e':Evid}{qs:List (List (Int×Int))}{x y:IV}{p p':Bool}
theorem u_put_err{c:Int}(hb:blks L)(hc:c≠0)(kK:Ctr G.P 12 [e'.iv] (· = .int c)):CtrH G.P 53 [.loc (hp A) 11 0 0,.im e'.iv] L (fun r L'=>r= .im (.tup [.sl [],.int c])/\L'=L):=by
 have F1:=bF hb;have K1:=bK hb;have G1:=bN hb;have hd:decide (c=0)=false:=zw hc;refine jag [57] [] [.tmp 4,.tmp 5] Tryz.func53 ?_;simp only[go_sem];refine ja2 kK ?_;simp only[hd,F1,K1,G1,go_sem];refine jao L hb (ja3 (by decide) hb (SubR.refl L)) ?_;simp only[go_sem]
theorem u_put_nil(hb:blks L)(c0:Abs.look L (hp A)=some (11,[e.c++[.emp,x,y]]))(kK:Ctr G.P 12 [e'.iv] (· = .int 0))(kP:Ctr G.P 14 [e'.iv] (· = .bool p')):
  CtrH G.P 53 [.loc (hp A) 11 0 0,.im e'.iv] L (fun r L'=>r= .im (.tup [.emp,.int 0])/\blks L'/\Abs.look L' (hp A)=some (11,[e'.c++[.emp,bV 0 p' 0,.bool p']])):=by
 have F1:=bF hb;have K1:=bK hb;have G1:=bN hb;have kF:=jlz (Q:=0) (qs:=[]) (f:=fun _=>bB none) hb c0 (fun h=>absurd rfl h) (by decide) (fun _=>b_cell _) kP (fun q hq=>by cases hq);rw[List.length_nil]at kF;simp only[Evid.c,List.cons_append,List.nil_append]at c0;obtain⟨v,hv,hv2⟩:∃v,(∀B,bV B p' 0=v)/\(v= .emp\/v= .sl []):=by
  cases p' with
  | false=>exact⟨_,fun _=>rfl,.inr rfl⟩
  | true=>exact⟨_,fun _=>rfl,.inl rfl⟩
 simp only[hv]at kF⊢;rcases hv2 with rfl | rfl
 ·refine jag [57] [] [.tmp 4,.tmp 5] Tryz.func53 ?_;simp only[go_sem];refine ja2 kK ?_;simp only[F1,K1,G1,go_sem];refine ja9 kF (by decide) (by simp only[zl,zB,jaq];rfl) hb (ja3 (by decide) hb (SubR.refl L)) ?_;rintro _ L1 ⟨B1,rfl,hb1,hs1,hn1⟩ _;refine⟨_,jb3 [(3,8,[e'.c])] (fun p hp=>by rw[zp.1 hp];exact G1 3 (by decide)),?_⟩;have cA1:=hs1 _ _ c0;have F3:=bF hb1;have K3:=bK hb1;have G3:=bN hb1;simp only[cA1,List.cons_append,List.nil_append,F3,K3,G3,go_sem];refine jes ?_;simp only[go_sem];refine jb1 [0,3,7,8,9,26,27] (fun g:Unit=>⟨[(0,.loc (hp A) 11 0 0),(3,.loc 3 8 0 0),(7,.im .emp),(8,.im (.bool p')),(9,.im .emp),(26,.im (.int 0)),(27,.im (.int 0))],(3,8,[e'.c])::L1,[]⟩) (fun _=>True) (fun _=>0) () ?_ (SubR.refl _) rfl trivial ?_
  ·simp only[go_sem]
  rintro _ _;simp only[cA1,jc6 cA1,je5,F3,K3,G3,go_sem];refine lay (List.map (fun q=>if q.1=hp A then(q.1,11,[e'.c++[.emp,.emp,.bool p']])else q) L1) (fun M hM=> ?_);have bM:blks M:=hM▸jb6 hb1;refine jao M bM (ja3 (by decide) bM (SubR.of_eq hM.symm)) ?_;simp only[go_sem];exact⟨bM,by rw[<-hM];exact jc6 cA1 _ _⟩
 ·refine jag [57] [] [.tmp 4,.tmp 5] Tryz.func53 ?_;simp only[go_sem];refine ja2 kK ?_;simp only[F1,K1,G1,go_sem];refine ja9 kF (by decide) (by simp only[zl,zB,jaq];rfl) hb (ja3 (by decide) hb (SubR.refl L)) ?_;rintro _ L1 ⟨B1,rfl,hb1,hs1,hn1⟩ _;refine⟨_,jb3 [(3,8,[e'.c])] (fun p hp=>by rw[zp.1 hp];exact G1 3 (by decide)),?_⟩;have cA1:=hs1 _ _ c0;have F3:=bF hb1;have K3:=bK hb1;have G3:=bN hb1;simp only[cA1,List.cons_append,List.nil_append,F3,K3,G3,go_sem];refine jes ?_;simp only[go_sem];refine jb1 [0,3,7,8,9,26,27] (fun g:Unit=>⟨[(0,.loc (hp A) 11 0 0),(3,.loc 3 8 0 0),(7,.im (.sl [])),(8,.im (.bool p')),(9,.im .emp),(26,.im (.int 0)),(27,.im (.int 0))],(3,8,[e'.c])::L1,[]⟩) (fun _=>True) (fun _=>0) () ?_ (SubR.refl _) rfl trivial ?_
  ·simp only[go_sem]
  rintro _ _;simp only[cA1,jc6 cA1,je5,F3,K3,G3,go_sem];refine lay (List.map (fun q=>if q.1=hp A then(q.1,11,[e'.c++[.emp,.sl [],.bool p']])else q) L1) (fun M hM=> ?_);have bM:blks M:=hM▸jb6 hb1;refine jao M bM (ja3 (by decide) bM (SubR.of_eq hM.symm)) ?_;simp only[go_sem];exact⟨bM,by rw[<-hM];exact jc6 cA1 _ _⟩
theorem HasR.del{X:Nat}{f:List (Int×Int)->List IV}{l:List Nat}(h:HasR L A Q B X e p qs f l)(hl:l.length≠0):HasR (Abs.del L (hp X)) A Q B 0 e p qs f []:=
 ⟨jbd h.blk,(ja6 _ (hpn (zG (h.out hl).2.1))).trans h.row,fun hne=>(ja6 _ (hpn (zG (h.out hl).2.2.1))).trans (h.qst hne),fun hp hne=>(ja6 _ (hpn (zG ((h.out hl).2.2.2 hp)))).trans (h.bnd hp hne),fun hh=>absurd rfl hh⟩
theorem jn9{l:List Nat}{f:List (Int×Int)->List IV}(h:CtrH G.P 53 [.loc (hp A) 11 0 0,.im e'.iv] L (fun r L'=>∃B' X,r= .im (.tup [sl0 X 3 1 l.length,.int 0])/\HasR L' A Q B' X e' p' qs f l)):
  CtrH G.P 53 [.loc (hp A) 11 0 0,.im e'.iv] L (fun r L'=>r= .im (.tup [.sl (l.map nC),.int 0])/\∃B',HasR L' A Q B' 0 e' p' qs f []):=by
 refine CtrH.empt (CtrH.frz (ψ:=fun r L'=>∃y,r= .im y/\emp3 y= .tup [.sl (l.map nC),.int 0]/\∃B',HasR L' A Q B' 0 e' p' qs f []) h ?_) fun r L' ⟨y,h1,h2,h3⟩=>⟨y,h1,by rw[h2],h3⟩;rintro r L' ⟨B',X,rfl,hR⟩;by_cases hl:l.length=0
 ·refine .inl ⟨_,rfl,?_,B',hR.blk,hR.row,hR.qst,hR.bnd,fun h=>absurd rfl h⟩;rw[hl,zF hl];rfl
 ·refine .inr ⟨_,X,1,l.map nC,rfl,(hR.out hl).1,_,rfl,?_,B',hR.del hl⟩;rw[jab hl];have ht:List.take l.length (l.map nC)=l.map nC:=zu (by rw[zq];exact zn _);simp only[frz3,frz2,frz1,zl,zB,zq,zn,jC,qv,ht,emp3,emp2,emp1]
end
end
section
open Go.Abs
attribute [local go_sem] Evid.iv Evid.c Place.c Move.c Cert.c Recall.c Purity.c ints ic
section
variable{L:Abs.Rows}{A:Nat}{e e':Evid}{qs:List (List (Int×Int))}
theorem jmd{ch:List (Int×Int)->Bool}{l:List (List (Int×Int))}(h:∀q∈l,ch q=false):∀k,outGo ch l k=[]
 | 0=>rfl
 | k+1=>by
  have ih:=jmd h k;rw[outGo];cases hq:l[k]? with
  | none=>exact ih
  | some q=>
   dsimp only;rw[zr (by rw[h q (zE hq)];exact qo)];exact ih
theorem jp1{ch ch':List (Int×Int)->Bool}{l:List (List (Int×Int))}(h:∀q∈l,ch q=ch' q):∀k,outGo ch l k=outGo ch' l k
 | 0=>rfl
 | k+1=>by
  have ih:=jp1 h k;rw[outGo,outGo,ih];cases hq:l[k]? with
  | none=>rfl
  | some q=>
   dsimp only;rw[h q (zE hq)]
structure AskOk(e:Evid)(qs:List (List (Int×Int))):Prop where
 small:SmallE e
 right:jar e=0
 short:∀q∈qs,q.length<=10000
 ok:∀q∈qs,okP e q=true
 few:qs.length<=100000
theorem AskOk.some(h:AskOk e qs){q:List (Int×Int)}(hq:q∈qs)(hp:posF e=true):∃p,bO e q=some p/\FLB p:=by
 have hs:=b_say (q:=q) h.small (qh (h.short q hq) (by decide));have h2:=bO_pos (h.ok q hq) (b_say (q:=[]) h.small (zI _)) hs;rw[hp]at h2;obtain⟨p,hp⟩:=zh.1 h2;exact⟨p,hp,say_flb hs hp⟩
theorem u_put(h:HasW L A e qs)(h1:AskOk e qs)(h2:AskOk e' qs):
  CtrH G.P 53 [.loc (hp A) 11 0 0,.im e'.iv] L (fun r L'=>r= .im (.tup [.sl ((outF (chg e e') qs).map nC),.int 0])/\HasW L' A e' qs):=by
 obtain⟨Q,B,hR⟩:=h;have kK:=c21 e';rw[h2.right]at kK;have kP:=u_pos h2.small;have kB:∀q∈qs,Ctr G.P 35 [e'.iv,.sl (q.map pickC)] (· = .agg (fB e' q)):=fun q hq=>u_bd h2.small (h2.short q hq);have hrow:=hR.row;have hbnd:=hR.bnd;have hwrap:∀{X:Prop},X->X:=id;by_cases hn:qs=[]
 ·subst hn;have hz:outF (chg e e') []=[]:=rfl;rw[hz];rw[List.length_nil,jb7]at hrow;refine CtrH.empt (u_put_nil hR.blk hrow kK kP) fun r L' ⟨a,b,c⟩=>⟨_,a,rfl,0,0,b,c,fun h=>absurd rfl h,fun _ h=>absurd rfl h,fun h=>absurd rfl h⟩
 ·have key:∀(ch:List (Int×Int)->Bool),(∀q∈qs,ch q=chg e e' q)->outF ch qs=outF (chg e e') qs:=fun ch hc=>jp1 hc _;cases hp:posF e with
  | false=>
   rw[hp]at hrow;cases hp':posF e' with
   | false=>
    rw[hp']at kP;have h3:=jn9 (u_put_ff (f':=fB e') hR.blk hrow hR.qst h2.few (jcw e') hn kK kP kB);rw[key _ fun q hq=>by unfold chg;rw[hp,hp'];rfl]at h3;refine h3.mono fun r L' ⟨a,B',b⟩=>⟨a,Q,B',?_⟩;rw[hp'];exact b
   | true=>
    rw[hp']at kP;have h3:=jn9 (u_put_ft (f':=fB e') hR.blk hrow hR.qst h2.few (jcw e') hn kK kP kB);rw[key _ fun q hq=>by unfold chg;rw[hp,hp'];rfl]at h3;refine h3.mono fun r L' ⟨a,B',b⟩=>⟨a,Q,B',?_⟩;rw[hp'];exact b
  | true=>
   rw[hp]at hrow;cases hp':posF e' with
   | false=>
    rw[hp']at kP;have h3:=jn9 (u_put_tf (f':=fB e') hR.blk hrow hR.qst h2.few (jcw e') hn kK kP kB);rw[key _ fun q hq=>by unfold chg;rw[hp,hp'];rfl]at h3;refine h3.mono fun r L' ⟨a,B',b⟩=>⟨a,Q,B',?_⟩;rw[hp'];exact b
   | true=>
    rw[hp']at kP;have h3:=jn9 (u_put_tt (f:=fB e) (f':=fB e') (s:=fun q=>decide (bO e' q=bO e q)) hR.blk hrow hR.qst (hbnd hp) (jcw e) (fun q hq=>by
     obtain⟨p1,e1,f1⟩:=h1.some hq hp;obtain⟨p2,e2,f2⟩:=h2.some hq hp';unfold fB;rw[e1,e2,show decide (some p2=some p1)=decide (p2=p1)by simp];exact u_sameB f2 f1) h2.few (jcw e') hn kK kP kB)
    rw[key _ fun q hq=>by unfold chg;rw[hp,hp'];rfl]at h3;refine h3.mono fun r L' ⟨a,B',b⟩=>⟨a,Q,B',?_⟩;rw[hp'];exact b
noncomputable def stepL(e e':Evid)(qs:List (List (Int×Int))):List (List IV):=if jar e'=0 then(outF (chg e e') qs).map nC else []
def heldF(e e':Evid):Evid:=if jar e'=0 then e' else e
theorem jqt(h:HasW L A e qs)(h1:AskOk e qs)(h2:jar e'=0->AskOk e' qs):
  CtrH G.P 53 [.loc (hp A) 11 0 0,.im e'.iv] L (fun r L'=>r= .im (.tup [.sl (stepL e e' qs),.int (jar e')])/\HasW L' A (heldF e e') qs):=by
 unfold stepL heldF;by_cases hc:jar e'=0
 ·rw[zm hc,zm hc,hc];exact u_put h h1 (h2 hc)
 ·rw[zr hc,zr hc];obtain⟨Q,B,hR⟩:=h;refine(u_put_err hR.blk hc (c21 e')).mono fun r L' ⟨a,b⟩=>⟨a,Q,B,?_⟩;rw[b];exact hR
theorem jdr{R:Abs.Rows}{d:Nat}(h:Abs.look R d=none):R.filter (fun p=>p.1 !=d)=R:=by
 induction R with
 | nil=>rfl
 | cons p R ih=>
  obtain⟨j,v⟩:=p;by_cases e:d=j
  ·subst e;rw[ja1]at h;cases h
  ·rw[ja0 _ _ e]at h;rw[yj,ih h,zm (by simp only[zY,ne_eq];exact fun x=>e x.symm)]
theorem HasW.blk(h:HasW L A e qs):blks L:=let⟨_,_,h⟩:=h;h.blk
theorem jbh{R L0:Abs.Rows}:jed R [] L0 R:=fun _ _ h=> .inr ⟨rfl,h⟩
