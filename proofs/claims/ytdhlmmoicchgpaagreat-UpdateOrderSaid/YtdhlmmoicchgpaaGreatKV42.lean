/- A part of the proof. No further condition. -/
import Derived.Test.YtdhlmmoicchgpaaGreatKV41
import Derived.Test.YtdhlmmoicchgpaaGreatKV39
set_option linter.all false
set_option maxRecDepth 10000000
set_option maxHeartbeats 16000000
namespace Go.Proofs.YtdhlmmoicchgpaaGreat
section
open Go.Abs
attribute [local go_sem] Evid.iv Evid.c ints ic
section
variable{L:Abs.Rows}{A B n:Nat}{e:Evid}{x:IV}{p:Bool}{bs:List (List IV)}
theorem u_ranges_no(hb:blks L)(c0:Abs.look L (hp A)=some (11,[e.c++[x,bV B false n,.bool false]])):
  CtrH G.P 13 [.loc (hp A) 11 0 0] L (fun r L'=>r= .im (.tup [.sl [],.int 15])/\L'=L):=by
 have F1:=bF hb;have K1:=bK hb;have G1:=bN hb;simp only[Evid.c,List.cons_append,List.nil_append]at c0;refine jag [25] [] [.tmp 2,.tmp 3] Tryz.func13 ?_;simp only[c0,F1,K1,G1,go_sem];refine jao L hb (SubR.refl L) ?_;simp only[go_sem]
theorem u_ranges_nil(hb:blks L)(c0:Abs.look L (hp A)=some (11,[e.c++[x,.emp,.bool true]])):
  CtrH G.P 13 [.loc (hp A) 11 0 0] L (fun r L'=>r= .im (.tup [.emp,.int 0])/\L'=L):=by
 have F1:=bF hb;have K1:=bK hb;have G1:=bN hb;simp only[Evid.c,List.cons_append,List.nil_append]at c0;refine jag [25] [] [.tmp 2,.tmp 3] Tryz.func13 ?_;simp only[c0,F1,K1,G1,go_sem];refine jes ?_;simp only[go_sem];refine jb1 [4,16,17] (fun g:Unit=>⟨[(4,.im .emp),(16,.im (.int 0)),(17,.im (.int 0))],L,[]⟩) (fun _=>True) (fun _=>0) () ?_ (SubR.refl L) rfl trivial ?_
 ·simp only[go_sem]
 rintro _ _;simp only[go_sem];refine jao L hb (SubR.refl L) ?_;simp only[go_sem]
theorem u_ranges_all(hb:blks L)(hn:bs.length≠0)(hl:bs.length<=100000)(c0:Abs.look L (hp A)=some (11,[e.c++[x,.ref B 73 10 bs.length,.bool true]]))(cB:Abs.look L (hp B)=some (10,bs))
  (hf:∀c∈bs,BCell c) (kF:∀c∈bs,Ctr G.P 41 [.agg c] (· = .agg c)):
  CtrH G.P 13 [.loc (hp A) 11 0 0] L (fun r L'=>∃X,r= .im (.tup [.ref X 73 10 bs.length,.int 0])/\blks L'/\SubR L L'/\Abs.look L' (hp X)=some (10,bs)/\Abs.look L (hp X)=none):=by
 have F1:=bF hb;have K1:=bK hb;have G1:=bN hb;simp only[Evid.c,List.cons_append,List.nil_append]at c0;refine jag [25] [] [.tmp 2,.tmp 3] Tryz.func13 ?_;simp only[c0,F1,K1,G1,go_sem];refine jes ?_;simp only[go_sem];refine jb1 [4,15,16,17] (fun g:(Nat×Nat)×Abs.Rows=>⟨[(4,.im (sl0 g.1.2 73 10 g.1.1)),(15,.im (.ref B 73 10 bs.length)),(16,.im (.int bs.length)),(17,.im (.int g.1.1))],g.2,[]⟩)
  (fun g=>g.1.1<=bs.length/\blks g.2/\SubR L g.2/\(g.1.1≠0->Abs.look g.2 (hp g.1.2)=some (10,bs.take g.1.1)/\Abs.look L (hp g.1.2)=none)) (fun g=>bs.length-g.1.1) ((0,0),L) ?_ (SubR.refl _) rfl ⟨zI _,hb,SubR.refl L,fun h=>absurd rfl h⟩ ?_
 ·simp only[Int.natCast_zero,jb7,go_sem]
 rintro⟨⟨k,X⟩,R⟩ ⟨hk,hR,hs,hX⟩;dsimp only at hk hR hs hX;have F2:=bF hR;have K2:=bK hR;have G2:=bN hR;have c1:=hs _ _ cB;by_cases hkl:(k:Int)<bs.length
 ·have hd:decide ((k:Int)<bs.length)=true:=ze hkl;obtain⟨c,hc⟩:=jby hkl;have kQ:=kF c (zE hc);have h1:=jaa (n:=(k:Int)+1) (by omega);have hi0:(0:Int)<=k:=by omega
  have hk1:k<bs.length:=by omega
  have ht:=jm3 hc;obtain⟨a1,v1,b1,d1,a2,v2,b2,d2,l1,l2,e1⟩:=hf c (zE hc);rw[e1]at kQ hc;have hs1:=fun X:Nat=>jab (b:=X) (e:=73) (s:=10) (ql k);by_cases hk0:k=0
  ·have hz:sl0 X 73 10 k= .emp:=by rw[hk0];rfl
   simp only[hd,c1,hkl,hi0,hk1,hc,hz,F2,K2,G2,go_sem];refine ja2 kQ ?_;simp only[F2,K2,G2,go_sem];refine And.intro (fun c' hc'=>by rw[zp.1 hc'];rfl) ?_;refine jc2 (fun Y hY=> ?_);have lY:Abs.look L (hp Y)=none:=by
    rw[ja0 _ _ (hp_ne (by decide)).symm]at hY;exact jg3 hs hY
   clear hY;simp only[F2,K2,G2,go_sem];refine ja8 ((k+1,Y),(hp Y,10,[c])::R) ?_ (by rw[e1];exact jau _ (ja3 (by decide) hR (SubR.refl R))) rfl (by show bs.length-(k+1)<bs.length-k;omega) ⟨hk1,jac hR,jat lY hs,fun _=>⟨?_,lY⟩⟩
   ·have hs2:sl0 Y 73 10 1= .ref Y 73 10 1:=rfl;have w1:=jaa (n:=1) (by decide);simp only[hs2,w1,hk0,Int.natCast_add,go_sem]
   ·rw[ja1,ht,hk0];rfl
  ·obtain⟨g1,g2⟩:=hX hk0;have hz:=jab (b:=X) (e:=73) (s:=10) hk0;have htk:List.take k (bs.take k)=bs.take k:=by rw[vC,Nat.min_self]
   have hlk:(bs.take k).length=k:=by rw[qa];omega
   simp only[hd,c1,hkl,hi0,hk1,hc,hz,F2,K2,G2,go_sem];refine ja2 kQ ?_;simp only[g1,htk,hlk,F2,K2,G2,go_sem];refine And.intro (fun c' hc'=>by rw[zp.1 hc'];rfl) (And.intro (zn _) (And.intro (by omega) ?_));refine jec (fun Y hY=> ?_);have n6:∀k,(6 !=hp k)=true:=fun k=>by simp only[zY,ne_eq];exact hp_ne (by decide)
   have hY2:Abs.look (Abs.del R (hp X)) (hp Y)=none:=by
    simp only[Abs.del,n6,yj,qv]at hY;rw[ja0 _ _ (hp_ne (by decide)).symm]at hY;exact hY
   obtain⟨lS,lY⟩:=jdg (v:=(10,bs.take k++[c])) hs g2 (X:=Y) hY2;clear hY hY2;have bD:blks (Abs.del R (hp X)):=jbd hR;simp only[n6,F2,K2,G2,go_sem];refine ja8 ((k+1,Y),(hp Y,10,bs.take k++[c])::Abs.del R (hp X)) ?_ (by rw[e1];exact jau _ (ja3 (by decide) bD (SubR.refl _))) rfl (by show bs.length-(k+1)<bs.length-k;omega) ⟨hk1,jac bD,lS,fun _=>⟨?_,lY⟩⟩
   ·simp only[h1,hs1,Int.natCast_add,go_sem]
   ·rw[ja1,ht]
 ·have hd:decide ((k:Int)<bs.length)=false:=zw hkl;have hkn:k=bs.length:=by omega
  subst hkn;rw[zu (zn _)]at hX;simp only[hd,jab hn,F2,K2,G2,go_sem];refine jao R hR (SubR.refl R) ?_;simp only[go_sem];exact⟨X,rfl,hR,hs,hX hn⟩
end
end
section
open Go.Abs
attribute [local go_sem] Evid.iv Evid.c Place.c Move.c Cert.c Recall.c Purity.c ints ic
noncomputable def bL(e:Evid)(qs:List (List (Int×Int))):List (List IV):=if posF e=true then qs.map (fB e)else []
noncomputable def bE(e:Evid):Int:=if posF e=true then 0 else 15
section
variable{L L':Abs.Rows}{A:Nat}{e:Evid}{qs:List (List (Int×Int))}
theorem HasW.sub(h:HasW L A e qs)(hb:blks L')(hs:SubR L L'):HasW L' A e qs:=by
 obtain⟨Q,B,hR⟩:=h;exact⟨Q,B,hb,hs _ _ hR.row,fun hn=>hs _ _ (hR.qst hn),fun hp hn=>hs _ _ (hR.bnd hp hn),fun h=>absurd rfl h⟩
theorem jf5(h:HasW L A e qs)(h1:AskOk e qs):CtrH G.P 13 [.loc (hp A) 11 0 0] L (fun r L'=>r= .im (.tup [.sl (bL e qs),.int (bE e)])/\HasW L' A e qs):=by
 obtain⟨Q,B,hR⟩:=id h;have hrow:=hR.row;unfold bL bE;cases hp:posF e with
 | false=>
  rw[hp]at hrow;exact(u_ranges_no hR.blk hrow).mono fun r L' ⟨a,b⟩=>⟨a,b▸h⟩
 | true=>
  rw[hp]at hrow;unfold bV at hrow;rw[zm rfl]at hrow;rw[zm rfl,zm rfl];by_cases hn:qs=[]
  ·subst hn;exact CtrH.empt (u_ranges_nil hR.blk hrow) fun r L' ⟨a,b⟩=>⟨_,a,rfl,b▸h⟩
  ·have hn0:qs.length≠0:=fun h=>hn (zF h);rw[jab (b:=B) (e:=73) (s:=10) hn0,<-zq (f:=fB e)]at hrow;have hB:=hR.bnd hp (fun h=>hn (qd.1 h));have k:=u_ranges_all hR.blk (by rw[zq];exact hn0) (by rw[zq];exact h1.few) hrow hB (fun c hc=>by
    obtain⟨q,_,rfl⟩:=zU.1 hc;exact jcw e q) (fun c hc=>by
    obtain⟨q,hq,rfl⟩:=zU.1 hc;obtain⟨p,e1,f1⟩:=h1.some hq hp;unfold fB;rw[e1];exact u_freshB f1)
   refine CtrH.frz k ?_;rintro r L' ⟨X,rfl,b1,s1,l1,n1⟩;refine .inr ⟨_,X,10,qs.map (fB e),rfl,l1,?_,h.sub (jbd b1) fun k x hx=> ?_⟩
   ·have ht:List.take qs.length (qs.map (fB e))=qs.map (fB e):=zu (by rw[zq];exact zn _);simp only[frz3,frz2,frz1,zl,zB,zq,zn,jC,qv,ht]
   ·rw[ja6 _ (fun e=>by subst e;rw[n1]at hx;cases hx)];exact s1 _ _ hx
theorem u_evid(h:HasW L A e qs)(hE:FitE e):CtrH G.P 11 [.loc (hp A) 11 0 0] L (fun r L'=>r= .im e.iv/\L'=L):=by
 obtain⟨Q,B,hR⟩:=h;have hb:=hR.blk;have c0:=hR.row;clear hR;have kO:=u_own e hE;have F1:=bF hb;have K1:=bK hb;have G1:=bN hb;simp only[Evid.c,List.cons_append,List.nil_append]at c0;refine jag [] [] [.cell 2 28] Tryz.func11 ?_;simp only[c0,F1,K1,G1,go_sem];refine ja2 kO ?_;simp only[F1,K1,G1,go_sem];refine jao L hb (ja3 (by decide) hb (SubR.refl L)) ?_;simp only[go_sem]
def Stp.cl(x:Stp):List IV:=[.int x.kind]++x.m.c++x.c.c++x.r.c++x.p.c
theorem u_do(h:HasW L A e qs)(x:Stp)(hE:FitE e)(h1:AskOk e qs)(h2:jar (jah e x)=0->AskOk (jah e x) qs):
  CtrH G.P 10 [.loc (hp A) 11 0 0,.im (.agg x.cl)] L (fun r L'=>r= .im (.tup [.sl (stepL e (jah e x) qs),.int (jar (jah e x))])/\HasW L' A (putF e x) qs):=by
 have hb:=h.blk;have F1:=bF hb;have K1:=bK hb;have G1:=bN hb;show CtrH _ _ _ _ (fun r L'=>r= .im (.tup [.sl (stepL e (jah e x) qs),.int (jar (jah e x))])/\HasW L' A (heldF e (jah e x)) qs);unfold Stp.cl;rcases d0:decide (x.kind=0)with _ | _
 ·have n0:=zJ d0;rcases d1:decide (x.kind=1)with _ | _
  ·have n1:=zJ d1;rcases d2:decide (x.kind=2)with _ | _
   ·have n2:=zJ d2;rw[aft3 n0 n1 n2]at h2⊢;have k:=jqu x.p h hE h1 h2;generalize stepL e _ qs=sv at*;generalize jar _=cv at*;generalize heldF e _=ev at*;simp only[Move.c,Cert.c,Recall.c,Purity.c,List.cons_append,List.nil_append]at k⊢;refine jag [] [] [.tmp 4,.tmp 5] Tryz.func10 ?_;simp only[d0,d1,d2,F1,K1,G1,go_sem];refine ja9 k (by decide) (by simp only[zl,zB,jaq];rfl) hb (ja3 (by decide) hb (SubR.refl L)) ?_;rintro _ L' ⟨rfl,hW⟩ _;refine⟨_,jap,?_⟩;simp only[go_sem];refine jao L' hW.blk (SubR.refl L') ?_;simp only[go_sem];exact hW
   ·rw[aft2 (zK d2)]at h2⊢;have k:=jqs x.r h hE h1 h2;generalize stepL e _ qs=sv at*;generalize jar _=cv at*;generalize heldF e _=ev at*;simp only[Move.c,Cert.c,Recall.c,Purity.c,List.cons_append,List.nil_append]at k⊢;refine jag [] [] [.tmp 4,.tmp 5] Tryz.func10 ?_;simp only[d0,d1,d2,F1,K1,G1,go_sem];refine ja9 k (by decide) (by simp only[zl,zB,jaq];rfl) hb (ja3 (by decide) hb (SubR.refl L)) ?_;rintro _ L' ⟨rfl,hW⟩ _;refine⟨_,jap,?_⟩;simp only[go_sem];refine jao L' hW.blk (SubR.refl L') ?_;simp only[go_sem];exact hW
  ·rw[aft1 (zK d1)]at h2⊢;have k:=u_cert x.c h hE h1 h2;generalize stepL e _ qs=sv at*;generalize jar _=cv at*;generalize heldF e _=ev at*;simp only[Move.c,Cert.c,Recall.c,Purity.c,List.cons_append,List.nil_append]at k⊢;refine jag [] [] [.tmp 4,.tmp 5] Tryz.func10 ?_;simp only[d0,d1,F1,K1,G1,go_sem];refine ja9 k (by decide) (by simp only[zl,zB,jaq];rfl) hb (ja3 (by decide) hb (SubR.refl L)) ?_;rintro _ L' ⟨rfl,hW⟩ _;refine⟨_,jap,?_⟩;simp only[go_sem];refine jao L' hW.blk (SubR.refl L') ?_;simp only[go_sem];exact hW
 ·rw[aft0 (zK d0)]at h2⊢;have k:=u_move x.m h hE h1 h2;generalize stepL e _ qs=sv at*;generalize jar _=cv at*;generalize heldF e _=ev at*;simp only[Move.c,Cert.c,Recall.c,Purity.c,List.cons_append,List.nil_append]at k⊢;refine jag [] [] [.tmp 4,.tmp 5] Tryz.func10 ?_;simp only[d0,F1,K1,G1,go_sem];refine ja9 k (by decide) (by simp only[zl,zB,jaq];rfl) hb (ja3 (by decide) hb (SubR.refl L)) ?_;rintro _ L' ⟨rfl,hW⟩ _;refine⟨_,jap,?_⟩;simp only[go_sem];refine jao L' hW.blk (SubR.refl L') ?_;simp only[go_sem];exact hW
end
end
section
open Go.Abs
open Go.LP (Dic Rw RT Ov OvRw tsum Sol IsMin NoMin Bds)
def mvA:Move:=⟨3,0,1,0,20,false⟩
def mvB:Move:=⟨5,1,2,0,23,true⟩
def mvC:Move:=⟨4,1,2,0,23,true⟩
def puA:Purity:=⟨0,0,0,1000⟩
def rcA:Recall:=⟨0,0⟩
def uE0:Evid:=⟨1,1,1,[⟨0,0,0⟩,⟨1,-1,-1⟩,⟨5,-1,-1⟩],[mvA],[⟨0,0,9,2,0,0⟩],[],[]⟩
def uE1:Evid:={uE0 with moves:=uE0.moves++[mvB]}
def uE2:Evid:={uE1 with purs:=uE1.purs++[puA]}
def uE4:Evid:={uE2 with moves:=uE2.moves++[mvC]}
def uE3:Evid:={uE2 with recalls:=uE2.recalls++[rcA]}
theorem ur0:rowsE uE0=[⟨[(0,1)],0,18⟩,⟨[(0,1)],1,22⟩]:=by decide+kernel
theorem ur2:rowsE uE2=[⟨[(0,1)],0,18⟩,⟨[(0,1)],1,22⟩,⟨[(0,1000)],0,0⟩,⟨[],0,0⟩,⟨[(0,1),(1,-1)],2,0⟩,⟨[(1,1)],0,21⟩,⟨[(1,1)],1,25⟩]:=by decide+kernel
theorem ur3:rowsE uE3=[⟨[(0,1000)],0,0⟩,⟨[],0,0⟩,⟨[(0,1),(1,-1)],2,0⟩]:=by decide+kernel
theorem us0:SmallE uE0:=jhq (by decide) (by decide) (by decide)
theorem us1:SmallE uE1:=jhq (by decide) (by decide) (by decide)
theorem us2:SmallE uE2:=jhq (by decide) (by decide) (by decide)
theorem us3:SmallE uE3:=jhq (by decide) (by decide) (by decide)
theorem ub0:bO uE0 [(0,0)]=some (((18:Int):Rat),some ((22:Int):Rat)):=by
 have key:∀z,Sol 1 (rowsE uE0) z->18<=z 0/\z 0<=22:=fun z h=>by
  rw[ur0]at h;have h1:=(h.row ⟨[(0,1)],0,18⟩ (by simp)).1 (by decide);have h2:=(h.row ⟨[(0,1)],1,22⟩ (by simp)).2 (by decide);simp only[tsum]at h1 h2;grind
 have has:∀c:Rat,18<=c->c<=22->Sol 1 (rowsE uE0) (fun _=>c):=fun c h1 h2=>by
  refine⟨fun k hk=>by grind,fun w hw=> ?_⟩;rw[ur0]at hw;simp only[zN,yQ,j6]at hw;rcases hw with rfl | rfl<;>simp only[Rw.sat,tsum]<;>constructor<;>intro _<;>grind
 refine(b_say us0 (by decide)).exact (by decide+kernel) (has 18 (by decide) (by decide)) ?_ (has 22 (by decide) (by decide)) ?_ ?_
 ·show(18:Rat)+0=18;decide+kernel
 ·show(22:Rat)+0=22;decide+kernel
 ·intro z hz;obtain⟨h1,h2⟩:=key z hz;have e1:wgt uE0 [(0,0)] z=z 0+0:=rfl;have e2:((18:Int):Rat)=18:=rfl;have e3:((22:Int):Rat)=22:=rfl;rw[e1,e2,e3];grind
theorem ub1:bO uE1 [(0,0)]=some (((21:Int):Rat),some ((22:Int):Rat)):=ex_one (b_say (e:=exE 23 []) (q:=[(0,0)]) (ex_small _ _) (by decide))
theorem ub2:bO uE2 [(0,0)]=some (((21:Int):Rat),some ((22:Int):Rat)):=by
 have key:∀z,Sol 2 (rowsE uE2) z->21<=z 0/\z 0<=22:=fun z h=>by
  rw[ur2]at h;have h1:=(h.row ⟨[(0,1)],1,22⟩ (by simp)).2 (by decide);have h2:=h.row ⟨[(0,1),(1,-1)],2,0⟩ (by simp);have h3:=(h.row ⟨[(1,1)],0,21⟩ (by simp)).1 (by decide);have h4:=h2.1 (by decide);have h5:=h2.2 (by decide);simp only[tsum]at h1 h3 h4 h5;grind
 have has:∀c:Rat,21<=c->c<=22->Sol 2 (rowsE uE2) (fun _=>c):=fun c h1 h2=>by
  refine⟨fun k hk=>by grind,fun w hw=> ?_⟩;rw[ur2]at hw;simp only[zN,yQ,j6]at hw;rcases hw with rfl | rfl | rfl | rfl | rfl | rfl | rfl<;>simp only[Rw.sat,tsum]<;>constructor<;>intro _<;>grind
 refine(b_say us2 (by decide)).exact (by decide+kernel) (has 21 (by decide) (by decide)) ?_ (has 22 (by decide) (by decide)) ?_ ?_
 ·show(21:Rat)+0=21;decide+kernel
 ·show(22:Rat)+0=22;decide+kernel
 ·intro z hz;obtain⟨h1,h2⟩:=key z hz;have e1:wgt uE2 [(0,0)] z=z 0+0:=rfl;have e2:((21:Int):Rat)=21:=rfl;have e3:((22:Int):Rat)=22:=rfl;rw[e1,e2,e3];grind
theorem ub3:bO uE3 [(0,0)]=some (((0:Int):Rat),none):=by
 have has:∀c:Rat,0<=c->Sol 2 (rowsE uE3) (fun _=>c):=fun c h1=>by
  refine⟨fun k hk=>by grind,fun w hw=> ?_⟩;rw[ur3]at hw;simp only[zN,yQ,j6]at hw;rcases hw with rfl | rfl | rfl<;>simp only[Rw.sat,tsum]<;>constructor<;>intro _<;>grind
 have hs:=b_say (q:=[(0,0)]) us3 (by decide);obtain⟨hi,hb⟩:=hs.low (lo:=((0:Int):Rat)) (by decide+kernel) (has 0 (by decide)) (by show(0:Rat)+0=((0:Int):Rat);decide+kernel) fun z hz=>by
  have:=hz.pos 0 (by decide);have e1:wgt uE3 [(0,0)] z=z 0+0:=rfl;have e2:((0:Int):Rat)=0:=rfl;rw[e1,e2];grind
 rw[hb]at hs⊢;obtain⟨_,h2,_⟩:=hs.inv;cases hi with
 | none=>rfl
 | some w=>
  have h3:=h2.high w rfl _ (has 0 (by decide));have h4:=h2.high w rfl _ (has (w+1) (by
   have e1:wgt uE3 [(0,0)] (fun _=>(0:Rat))=0+0:=rfl;rw[e1]at h3;grind))
  have e1:wgt uE3 [(0,0)] (fun _=>w+1)=(w+1)+0:=rfl;rw[e1]at h4;grind
theorem up_of{e:Evid}{p:Rat×Option Rat}(hs:SmallE e)(hk:okP e [(0,0)]=true)(hb:bO e [(0,0)]=some p):posF e=true:=by
 rw[<-bO_pos hk (b_say (q:=[]) hs (zI _)) (b_say hs (by decide)),hb];rfl
theorem up0:posF uE0=true:=up_of us0 (by decide+kernel) ub0
theorem up1:posF uE1=true:=up_of us1 (by decide+kernel) ub1
theorem up2:posF uE2=true:=up_of us2 (by decide+kernel) ub2
theorem up3:posF uE3=true:=up_of us3 (by decide+kernel) ub3
def uQ:List (List (Int×Int)):=[[(0,0)]]
theorem js9{e:Evid}(hs:SmallE e)(hc:jar e=0)(hk:okP e [(0,0)]=true):AskOk e uQ:=
 ⟨hs,hc,fun q hq=>by rw[zp.1 hq];decide,fun q hq=>by rw[zp.1 hq];exact hk,by decide⟩
theorem ua0:AskOk uE0 uQ:=js9 us0 (by decide+kernel) (by decide+kernel)
theorem ua1:AskOk uE1 uQ:=js9 us1 (by decide+kernel) (by decide+kernel)
theorem ua2:AskOk uE2 uQ:=js9 us2 (by decide+kernel) (by decide+kernel)
theorem ua3:AskOk uE3 uQ:=js9 us3 (by decide+kernel) (by decide+kernel)
theorem uc4:jar uE4=17:=by decide+kernel
theorem ul1:stepL uE0 uE1 uQ=[[.int 0]]:=by
 unfold stepL;rw[zm ua1.right];have h:chg uE0 uE1 [(0,0)]=true:=by
  unfold chg;rw[up0,up1,ub0,ub1];decide+kernel
 show((if chg uE0 uE1 [(0,0)]=true then([]++[0]:List Nat)else []).map nC)=_;rw[zm h];rfl
theorem ul2:stepL uE1 uE2 uQ=[]:=by
 unfold stepL;rw[zm ua2.right];have h:chg uE1 uE2 [(0,0)]=false:=by
  unfold chg;rw[up1,up2,ub1,ub2];decide+kernel
 show((if chg uE1 uE2 [(0,0)]=true then([]++[0]:List Nat)else []).map nC)=_;rw[zr (by rw[h];exact qo)];rfl
theorem ul4:stepL uE2 uE4 uQ=[]:=by
 unfold stepL;rw[zr (by rw[uc4];decide)]
theorem ul3:stepL uE2 uE3 uQ=[[.int 0]]:=by
 unfold stepL;rw[zm ua3.right];have h:chg uE2 uE3 [(0,0)]=true:=by
  unfold chg;rw[up2,up3,ub2,ub3];decide+kernel
 show((if chg uE2 uE3 [(0,0)]=true then([]++[0]:List Nat)else []).map nC)=_;rw[zm h];rfl
end
section
open Go.Abs
attribute [local go_sem] ints ic big frac fc zc
theorem u_ints1(n:Int):Ctr G.P 26 [.sl [[.int n]],.sl [[.int n]]] (· = .bool true):=by
 refine ja5 [.tmp 4] Tryz.func26 ?_;simp only[go_sem];refine jaw [0,1,5] [] (fun i:Nat=>⟨[(0,.im (.sl [[.int n]])),(1,.im (.sl [[.int n]])),(5,.im (.int i))],[],[]⟩) (fun i=>i<=1) (fun i=>1-i) 0 ?_ (by decide) ?_
 ·simp only[Int.natCast_zero,go_sem]
 ·intro i hi;by_cases h0:i=0
  ·subst h0;simp only[Int.natCast_zero,go_sem];refine jaf 9 ?_;simp only[yx,go_sem];refine jai 1 ?_ (by decide) (by decide);have w1:=jaa (n:=1) (by decide);simp only[w1,go_sem]
  ·have h1:i=1:=by omega
   subst h1;simp only[go_sem]
section
variable{L:Abs.Rows}{A:Nat}{e:Evid}{q:List (Int×Int)}
theorem u_one_n{low most:Int}(h:HasW L A e [q])(h1:AskOk e [q])(hm:most<0)(hl:0<=low/\low<=100)(hb:bO e q=some ((low:Rat),none))(hps:posF e=true):
  CtrH G.P 24 [.loc (hp A) 11 0 0,.im (.int low),.im (.int most)] L (fun r L'=>r= .im (.bool true)/\HasW L' A e [q]):=by
 have kR:=jf5 h h1;have hbk:=h.blk;have e1:bL e [q]=[bB (some ((low:Rat),none))]:=by unfold bL;rw[zm hps];show [fB e q]=_;unfold fB;rw[hb]
 have e2:bE e=0:=by unfold bE;rw[zm hps]
 rw[e1,e2]at kR;clear e1 e2 hb h h1;have d0:decide (most<0)=true:=ze hm;have i1:=jck low (by omega);have s1:=f_self (FL.mono (jcy (n:=low) (by omega)) (by omega:4<=19000000000));simp only[bB,bdC,sideC,Option.isSome,frac,fc,zc,ints,List.cons_append,List.nil_append]at*;generalize (dig ((low:Rat).num.natAbs)).map ic=x1 at*;generalize (dig ((low:Rat).den:Int).natAbs).map ic=x2 at*;refine jag [] [] [.tmp 6] Tryz.func24 ?_;simp only[go_sem];refine ja9 kR (by decide) (by simp only[zl,zB,jaq]) hbk (SubR.refl L) ?_;rintro _ L1 ⟨rfl,hW⟩ _;refine⟨_,jap,?_⟩;have b1:=hW.blk;have F1:=bF b1;have K1:=bK b1;have G1:=bN b1;simp only[d0,F1,K1,G1,go_sem];refine jaf 15 ?_;simp only[d0,F1,K1,G1,go_sem];refine ja4 i1 (by decide) ?_;simp only[F1,K1,G1,go_sem];refine ja4 s1 (by decide) ?_;simp only[F1,K1,G1,go_sem];refine jao L1 b1 (ja3 (by decide) b1 (SubR.refl L1)) ?_;simp only[go_sem];exact hW
theorem u_one_b{low most:Int}(h:HasW L A e [q])(h1:AskOk e [q])(hm:0<=most/\most<=100)(hl:0<=low/\low<=100)(hb:bO e q=some ((low:Rat),some (most:Rat)))(hps:posF e=true):
  CtrH G.P 24 [.loc (hp A) 11 0 0,.im (.int low),.im (.int most)] L (fun r L'=>r= .im (.bool true)/\HasW L' A e [q]):=by
 have kR:=jf5 h h1;have hbk:=h.blk;have e1:bL e [q]=[bB (some ((low:Rat),some (most:Rat)))]:=by unfold bL;rw[zm hps];show [fB e q]=_;unfold fB;rw[hb]
 have e2:bE e=0:=by unfold bE;rw[zm hps]
 rw[e1,e2]at kR;clear e1 e2 hb h h1;have d0:decide (most<0)=false:=zw (by omega);have i1:=jck low (by omega);have i2:=jck most (by omega);have s1:=f_self (FL.mono (jcy (n:=low) (by omega)) (by omega:4<=19000000000));have s2:=f_self (FL.mono (jcy (n:=most) (by omega)) (by omega:4<=19000000000));simp only[bB,bdC,sideC,Option.isSome,frac,fc,ints,List.cons_append,List.nil_append]at*;generalize (dig ((low:Rat).num.natAbs)).map ic=x1 at*;generalize (dig ((low:Rat).den:Int).natAbs).map ic=x2 at*;generalize (dig ((most:Rat).num.natAbs)).map ic=x3 at*;generalize (dig ((most:Rat).den:Int).natAbs).map ic=x4 at*;refine jag [] [] [.tmp 6] Tryz.func24 ?_;simp only[go_sem];refine ja9 kR (by decide) (by simp only[zl,zB,jaq]) hbk (SubR.refl L) ?_;rintro _ L1 ⟨rfl,hW⟩ _;refine⟨_,jap,?_⟩;have b1:=hW.blk;have F1:=bF b1;have K1:=bK b1;have G1:=bN b1;simp only[d0,F1,K1,G1,go_sem];refine jaf 21 ?_;simp only[d0,F1,K1,G1,go_sem];refine ja4 i1 (by decide) ?_;simp only[F1,K1,G1,go_sem];refine ja4 s1 (by decide) ?_;simp only[F1,K1,G1,go_sem];refine ja4 i2 (by decide) ?_;simp only[F1,K1,G1,go_sem];refine ja4 s2 (by decide) ?_;simp only[F1,K1,G1,go_sem];refine jao L1 b1 (ja3 (by decide) b1 (SubR.refl L1)) ?_;simp only[go_sem];exact hW
end
end
section
open Go.Abs
attribute [local go_sem] ints ic
theorem aBin_ptr{G:Ctx}(o:Oper)(b:BinOp)(t:TypeId)(x:Operand)(q:Option Addr)(K:St->Prop)(st:St):aBin G K st o b t x (.const (.pointer q))=Opt (yv G st o) (K:=⟨fun av=>K (st.put o.dst av)⟩):=jd4 K st o
attribute [go_sem ↓] aBin_ptr
def AVe(x:AV):AV:=match x with
 | .im x=> .im (emp2 x)
 | x=>x
theorem CtrH.empA{P:Program}{f:FuncId}{args args':List AV}{L:Abs.Rows}{φ:AV->Abs.Rows->Prop}(h:CtrH P f args L φ)(ha:args'.map AVe=args):CtrH P f args' L φ:=by
 subst ha;intro w M vs h1 h2 h3 h4;refine h w M vs h1 h2 (by rw[zq];exact h3) (fun i av v hi hv=> ?_);rw[za]at hi;obtain⟨x,hx,rfl⟩:=zS.1 hi;have hx:=h4 i x v hx hv;cases x with
 | im y=>exact jk6 hx
 | _=>exact hx
def uPl:List (List IV):=[[.int 0,.int 0,.int 0],[.int 1,.int (-1),.int (-1)],[.int 5,.int (-1),.int (-1)]]
def uC0:List IV:=[.int 1,.int 1,.int 1,.sl uPl,.sl [[.int 3,.int 0,.int 1,.int 0,.int 20,.bool false]],.sl [[.int 0,.int 0,.int 9,.int 2,.int 0,.int 0]],.emp,.emp]
def uQC:IV:= .sl [[.sl [[.int 0,.int 0]]]]
theorem k_new:CtrH G.P 8 [.im (.agg uC0),.im uQC] [] (fun r L'=>∃A,r= .im (.tup [.pr A 11 0 0,.int 0])/\HasW L' A uE0 uQ):=by
 have kK:=c21 uE0;rw[ua0.right]at kK;have hE:FitE uE0:=⟨by decide,by decide,by decide,by decide,by decide⟩;have k:=u_new (e:=uE0) (qs:=uQ) (f:=fB uE0) (p:=posF uE0) hE kK (by decide) (fun q hq=>qh (ua0.short q hq) (by decide)) (jcw uE0) (u_pos us0) (fun q hq=>u_bd us0 (ua0.short q hq));refine(CtrH.empA k rfl).mono fun r L' h=> ?_;rcases h with ⟨h1,_⟩ | ⟨_,A,Q,B,h1,h2⟩
 ·have:uQ.all (jdc uE0)=true:=by decide+kernel
  rw[this]at h1;cases h1
 ·exact⟨A,h1,Q,B,h2⟩
section
variable{L:Abs.Rows}{A:Nat}
theorem fit0:FitE uE0:=⟨by decide,by decide,by decide,by decide,by decide⟩
theorem fit1:FitE uE1:=⟨by decide,by decide,by decide,by decide,by decide⟩
theorem fit2:FitE uE2:=⟨by decide,by decide,by decide,by decide,by decide⟩
theorem k_mv1(h:HasW L A uE0 uQ):CtrH G.P 25 [.im (.pr A 11 0 0),.im (.agg [.int 5,.int 1,.int 2,.int 0,.int 23,.bool true])] L (fun r L'=>r= .im (.tup [.sl [[.int 0]],.int 0])/\HasW L' A uE1 uQ):=by
 have k:=CtrH.pr (u_move mvB h fit0 ua0 fun _=>ua1);refine k.mono fun r L' ⟨a,b⟩=>⟨?_,?_⟩
 ·have e1:stepL uE0 uE1 uQ=[[.int 0]]:=ul1;have e2:jar uE1=0:=ua1.right;rw[<-e1,<-e2];exact a
 ·have e2:heldF uE0 uE1=uE1:=zm ua1.right;rw[<-e2];exact b
theorem k_pur(h:HasW L A uE1 uQ):CtrH G.P 27 [.im (.pr A 11 0 0),.im (.agg [.int 0,.int 0,.int 0,.int 1000])] L (fun r L'=>r= .im (.tup [.sl [],.int 0])/\HasW L' A uE2 uQ):=by
 have k:=CtrH.pr (jqu puA h fit1 ua1 fun _=>ua2);refine k.mono fun r L' ⟨a,b⟩=>⟨?_,?_⟩
 ·have e1:stepL uE1 uE2 uQ=[]:=ul2;have e2:jar uE2=0:=ua2.right;rw[<-e1,<-e2];exact a
 ·have e2:heldF uE1 uE2=uE2:=zm ua2.right;rw[<-e2];exact b
theorem k_mv2(h:HasW L A uE2 uQ):CtrH G.P 25 [.im (.pr A 11 0 0),.im (.agg [.int 4,.int 1,.int 2,.int 0,.int 23,.bool true])] L (fun r L'=>r= .im (.tup [.sl [],.int 17])/\HasW L' A uE2 uQ):=by
 have k:=CtrH.pr (u_move mvC h fit2 ua2 fun hc=>absurd (uc4.symm.trans hc) (by decide));refine k.mono fun r L' ⟨a,b⟩=>⟨?_,?_⟩
 ·have e1:stepL uE2 uE4 uQ=[]:=ul4;have e2:jar uE4=17:=uc4;rw[<-e1,<-e2];exact a
 ·have e2:heldF uE2 uE4=uE2:=zr (by rw[uc4];decide);rw[<-e2];exact b
theorem k_rec(h:HasW L A uE2 uQ):CtrH G.P 28 [.im (.pr A 11 0 0),.im (.agg [.int 0,.int 0])] L (fun r L'=>r= .im (.tup [.sl [[.int 0]],.int 0])/\HasW L' A uE3 uQ):=by
 have k:=CtrH.pr (jqs rcA h fit2 ua2 fun _=>ua3);refine k.mono fun r L' ⟨a,b⟩=>⟨?_,?_⟩
 ·have e1:stepL uE2 uE3 uQ=[[.int 0]]:=ul3;have e2:jar uE3=0:=ua3.right;rw[<-e1,<-e2];exact a
 ·have e2:heldF uE2 uE3=uE3:=zm ua3.right;rw[<-e2];exact b
theorem k_one0(h:HasW L A uE0 uQ):CtrH G.P 24 [.im (.pr A 11 0 0),.im (.int 18),.im (.int 22)] L (fun r L'=>r= .im (.bool true)/\HasW L' A uE0 uQ):=CtrH.pr (u_one_b h ua0 (by decide) (by decide) ub0 up0)
theorem k_one1(h:HasW L A uE1 uQ):CtrH G.P 24 [.im (.pr A 11 0 0),.im (.int 21),.im (.int 22)] L (fun r L'=>r= .im (.bool true)/\HasW L' A uE1 uQ):=CtrH.pr (u_one_b h ua1 (by decide) (by decide) ub1 up1)
theorem k_one3(h:HasW L A uE3 uQ):CtrH G.P 24 [.im (.pr A 11 0 0),.im (.int 0),.im (.int (-1))] L (fun r L'=>r= .im (.bool true)/\HasW L' A uE3 uQ):=CtrH.pr (u_one_n h ua3 (by decide) (by decide) ub3 up3)
end
theorem u_small:Ctr G.P 6 [] (· = .bool true):=by
 have k1:=k_new;have kI:=u_ints1 0;unfold uC0 uPl uQC at k1;refine jis (φ:=fun r L'=>r= .im (.bool true)/\L'=[]) ?_ (fun r L' ⟨h1,h2⟩=>⟨_,[],h1,by rfl⟩);simp only[zB];refine jag [] [] [.tmp 0] Tryz.func6 ?_;simp only[go_sem];refine jbn k1 (by decide) rfl jak jad ?_;rintro _ L1 ⟨A,rfl,h1⟩-;refine⟨_,jap,?_⟩;simp only[go_sem];refine ja9 (k_one0 h1) (by decide) rfl h1.blk ?_ ?_
 ·exact SubR.refl _
 rintro _ L2 ⟨rfl,h2⟩-;refine⟨_,jap,?_⟩;simp only[go_sem];refine ja9 (k_mv1 h2) (by decide) rfl h2.blk ?_ ?_
 ·exact SubR.refl _
 rintro _ L3 ⟨rfl,h3⟩-;refine⟨_,jap,?_⟩;simp only[go_sem];refine ja2 kI ?_;simp only[go_sem];refine ja9 (k_one1 h3) (by decide) rfl h3.blk ?_ ?_
 ·exact SubR.refl _
 rintro _ L4 ⟨rfl,h4⟩-;refine⟨_,jap,?_⟩;simp only[go_sem];refine ja9 (k_pur h4) (by decide) rfl h4.blk ?_ ?_
 ·exact SubR.refl _
 rintro _ L5 ⟨rfl,h5⟩-;refine⟨_,jap,?_⟩;simp only[go_sem];refine ja9 (k_mv2 h5) (by decide) rfl h5.blk ?_ ?_
 ·exact SubR.refl _
 rintro _ L6 ⟨rfl,h6⟩-;refine⟨_,jap,?_⟩;simp only[go_sem];refine ja9 (k_rec h6) (by decide) rfl h6.blk ?_ ?_
 ·exact SubR.refl _
 rintro _ L7 ⟨rfl,h7⟩-;refine⟨_,jap,?_⟩;simp only[go_sem];refine ja2 kI ?_;simp only[go_sem];refine ja9 (k_one3 h7) (by decide) rfl h7.blk ?_ ?_
 ·exact SubR.refl _
 rintro _ L8 ⟨rfl,h8⟩-;refine⟨_,jap,?_⟩;simp only[go_sem];refine jao [] jak jad ?_;simp only[go_sem]
