/- A part of the proof. No further condition. -/
import Derived.Test.YtdhlmmoicchgpaaGreatKV40
set_option linter.all false
set_option maxRecDepth 10000000
set_option maxHeartbeats 16000000
namespace Go.Proofs.YtdhlmmoicchgpaaGreat
section
open Go.Abs
attribute [local go_sem] Evid.iv Evid.c Place.c Move.c Cert.c Recall.c Purity.c ints ic
section
variable{L:Abs.Rows}{A:Nat}{e:Evid}{qs:List (List (Int×Int))}
theorem u_move(m:Move)(h:HasW L A e qs)(hE:FitE e)(h1:AskOk e qs)(h2:jar {e with moves:=e.moves++[m]}=0->AskOk {e with moves:=e.moves++[m]} qs):
  CtrH G.P 25 [.loc (hp A) 11 0 0,.im (.agg m.c)] L (fun r L'=>r= .im (.tup [.sl (stepL e {e with moves:=e.moves++[m]} qs),.int (jar {e with moves:=e.moves++[m]})])/\HasW L' A (heldF e {e with moves:=e.moves++[m]}) qs):=by
 have kp:=jqt h h1 h2;clear h1 h2;obtain⟨Q,B,hR⟩:=h;have hb:=hR.blk;have c0:=hR.row;clear hR;have kO:=u_ownM e hE;have F1:=bF hb;have K1:=bK hb;have G1:=bN hb;have n3:∀k,(3 !=hp k)=true:=fun k=>by simp only[zY,ne_eq];exact hp_ne (by decide)
 have n6:∀k,(6 !=hp k)=true:=fun k=>by simp only[zY,ne_eq];exact hp_ne (by decide)
 have hfl:=hE.moves;generalize stepL e {e with moves:=e.moves++[m]} qs=sv at*;generalize jar {e with moves:=e.moves++[m]}=cv at*;generalize heldF e {e with moves:=e.moves++[m]}=ev at*;unfold Evid.iv Evid.c at kp;dsimp only at kp;rw[qD]at kp;simp only[Evid.c,List.cons_append,List.nil_append]at c0;by_cases hn:e.moves.length=0
 ·have hnil:e.moves=[]:=zF hn;simp only[hn,jb7]at kO;rw[hnil,zB,List.map_singleton]at kp;refine jag [16] [20] [.tmp 4,.tmp 5] Tryz.func25 ?_;simp only[c0,F1,K1,G1,go_sem];refine jbn kO (by decide) rfl jak jad ?_;rintro _ L0 ⟨X,rfl,b0,g0⟩ _;refine⟨_,jbh,?_⟩;simp only[F1,K1,G1,go_sem];refine And.intro (fun c hc=>by rw[zp.1 hc];rfl) ?_;refine jc2 (fun Y hY=> ?_);have lY:Abs.look L (hp Y)=none:=by
   rw[ja0 _ _ (hp_ne (by decide)).symm,ja0 _ _ (hp_ne (by decide)).symm]at hY;exact hY
  clear hY;have yA:=jcz lY c0;have kp2:=CtrH.frzA (Y:=Y) (s:=6) (es:=[m.c]) (args':=[.loc (hp A) 11 0 0,.im (.agg [.int e.mats,.int e.houses,.int e.scales,.sl (e.places.map Place.c),.ref Y 44 6 1,.sl (e.certs.map Cert.c),.sl (e.recalls.map Recall.c),.sl (e.purs.map Purity.c)])]) kp lY (by
   simp only[zl,zB,AV.frz,frz3,frz2,frz1,hp_inj,zG yA,z8,yZ,List.length_singleton,zn,qv,List.take_succ_cons,jU,List.nil_append])
  have hfY:List.filter (fun p=>p.1 !=hp Y) L=L:=jdr lY;simp only[n3,n6,hfY,F1,K1,G1,go_sem];refine ja9 kp2 (by decide) (by simp only[zl,zB,jaq];rfl) (jac hb) (jau _ (ja3 (by decide) hb (ja3 (by decide) hb (SubR.refl L)))) ?_;rintro _ L' ⟨rfl,hW⟩ _;refine⟨_,jap,?_⟩;simp only[go_sem];refine jao L' hW.blk (SubR.refl L') ?_;simp only[go_sem];exact hW
 ·simp only[jab hn]at kO;have hne:e.moves.map Move.c≠[]:=fun h=>hn (by rw[<-zq (f:=Move.c),h];rfl);have htk:List.take e.moves.length (e.moves.map Move.c)=e.moves.map Move.c:=zu (by rw[zq];exact zn _);have htk2:List.take (e.moves.length+1) (e.moves.map Move.c++[m.c])=e.moves.map Move.c++[m.c]:=zu (by rw[zD,zq];exact zn _);rw[List.map_singleton]at kp;refine jag [16] [20] [.tmp 4,.tmp 5] Tryz.func25 ?_;simp only[c0,F1,K1,G1,go_sem];refine jbn kO (by decide) rfl jak jad ?_;rintro _ L0 ⟨X,rfl,b0,g0⟩ hfr;have lX:Abs.look L (hp X)=none:=by
   have h0:=(hfr (hp X) (jbp (g0 hne))).resolve_left (by simp[Abs.look]);simp only[F1,K1,G1,go_sem]at h0
   first | exact h0 | (rw[ja0 _ _ (hp_ne (by decide)).symm]at h0;exact h0)
  clear hfr;refine⟨_,jhp (g0 hne),?_⟩;have hf:List.filter (fun p=>p.1 !=hp X) L=L:=jdr lX;simp only[htk,zq,n3,n6,hf,F1,K1,G1,go_sem];refine And.intro (fun c hc=>by rw[zp.1 hc];rfl) (And.intro (zn _) (And.intro (by omega) ?_));refine jec (fun Y hY=> ?_);have lY:Abs.look L (hp Y)=none:=by
   simp only[Abs.del,jR,n3,n6,hf,yj,qv,qb,z8]at hY;rw[ja0 _ _ (hp_ne (by decide)).symm,ja0 _ _ (hp_ne (by decide)).symm]at hY;exact hY
  clear hY;have yA:=jcz lY c0;have kp2:=CtrH.frzA (Y:=Y) (s:=6) (es:=e.moves.map Move.c++[m.c]) (args':=[.loc (hp A) 11 0 0,.im (.agg [.int e.mats,.int e.houses,.int e.scales,.sl (e.places.map Place.c),.ref Y 44 6 (e.moves.length+1),.sl (e.certs.map Cert.c),.sl (e.recalls.map Recall.c),.sl (e.purs.map Purity.c)])]) kp lY (by
   simp only[zl,zB,AV.frz,frz3,frz2,frz1,hp_inj,zG yA,z8,yZ,zD,zq,List.length_singleton,zn,qv,htk2])
  have hfY:List.filter (fun p=>p.1 !=hp Y) L=L:=jdr lY;simp only[n3,n6,hf,hfY,F1,K1,G1,go_sem];refine ja9 kp2 (by decide) (by simp only[zl,zB,jaq];rfl) (jac hb) (jau _ (ja3 (by decide) hb (ja3 (by decide) hb (SubR.refl L)))) ?_;rintro _ L' ⟨rfl,hW⟩ _;refine⟨_,jap,?_⟩;simp only[go_sem];refine jao L' hW.blk (SubR.refl L') ?_;simp only[go_sem];exact hW
end
section
variable{L:Abs.Rows}{A:Nat}{e:Evid}{qs:List (List (Int×Int))}
theorem u_cert(ce:Cert)(h:HasW L A e qs)(hE:FitE e)(h1:AskOk e qs)(h2:jar {e with certs:=e.certs++[ce]}=0->AskOk {e with certs:=e.certs++[ce]} qs):
  CtrH G.P 36 [.loc (hp A) 11 0 0,.im (.agg ce.c)] L (fun r L'=>r= .im (.tup [.sl (stepL e {e with certs:=e.certs++[ce]} qs),.int (jar {e with certs:=e.certs++[ce]})])/\HasW L' A (heldF e {e with certs:=e.certs++[ce]}) qs):=by
 have kp:=jqt h h1 h2;clear h1 h2;obtain⟨Q,B,hR⟩:=h;have hb:=hR.blk;have c0:=hR.row;clear hR;have kO:=u_ownC e hE;have F1:=bF hb;have K1:=bK hb;have G1:=bN hb;have n3:∀k,(3 !=hp k)=true:=fun k=>by simp only[zY,ne_eq];exact hp_ne (by decide)
 have n6:∀k,(6 !=hp k)=true:=fun k=>by simp only[zY,ne_eq];exact hp_ne (by decide)
 have hfl:=hE.certs;generalize stepL e {e with certs:=e.certs++[ce]} qs=sv at*;generalize jar {e with certs:=e.certs++[ce]}=cv at*;generalize heldF e {e with certs:=e.certs++[ce]}=ev at*;unfold Evid.iv Evid.c at kp;dsimp only at kp;rw[qD]at kp;simp only[Evid.c,List.cons_append,List.nil_append]at c0;by_cases hn:e.certs.length=0
 ·have hnil:e.certs=[]:=zF hn;simp only[hn,jb7]at kO;rw[hnil,zB,List.map_singleton]at kp;refine jag [16] [20] [.tmp 4,.tmp 5] Tryz.func36 ?_;simp only[c0,F1,K1,G1,go_sem];refine jbn kO (by decide) rfl jak jad ?_;rintro _ L0 ⟨X,rfl,b0,g0⟩ _;refine⟨_,jbh,?_⟩;simp only[F1,K1,G1,go_sem];refine And.intro (fun c hc=>by rw[zp.1 hc];rfl) ?_;refine jc2 (fun Y hY=> ?_);have lY:Abs.look L (hp Y)=none:=by
   rw[ja0 _ _ (hp_ne (by decide)).symm,ja0 _ _ (hp_ne (by decide)).symm]at hY;exact hY
  clear hY;have yA:=jcz lY c0;have kp2:=CtrH.frzA (Y:=Y) (s:=6) (es:=[ce.c]) (args':=[.loc (hp A) 11 0 0,.im (.agg [.int e.mats,.int e.houses,.int e.scales,.sl (e.places.map Place.c),.sl (e.moves.map Move.c),.ref Y 46 6 1,.sl (e.recalls.map Recall.c),.sl (e.purs.map Purity.c)])]) kp lY (by
   simp only[zl,zB,AV.frz,frz3,frz2,frz1,hp_inj,zG yA,z8,yZ,List.length_singleton,zn,qv,List.take_succ_cons,jU,List.nil_append])
  have hfY:List.filter (fun p=>p.1 !=hp Y) L=L:=jdr lY;simp only[n3,n6,hfY,F1,K1,G1,go_sem];refine ja9 kp2 (by decide) (by simp only[zl,zB,jaq];rfl) (jac hb) (jau _ (ja3 (by decide) hb (ja3 (by decide) hb (SubR.refl L)))) ?_;rintro _ L' ⟨rfl,hW⟩ _;refine⟨_,jap,?_⟩;simp only[go_sem];refine jao L' hW.blk (SubR.refl L') ?_;simp only[go_sem];exact hW
 ·simp only[jab hn]at kO;have hne:e.certs.map Cert.c≠[]:=fun h=>hn (by rw[<-zq (f:=Cert.c),h];rfl);have htk:List.take e.certs.length (e.certs.map Cert.c)=e.certs.map Cert.c:=zu (by rw[zq];exact zn _);have htk2:List.take (e.certs.length+1) (e.certs.map Cert.c++[ce.c])=e.certs.map Cert.c++[ce.c]:=zu (by rw[zD,zq];exact zn _);rw[List.map_singleton]at kp;refine jag [16] [20] [.tmp 4,.tmp 5] Tryz.func36 ?_;simp only[c0,F1,K1,G1,go_sem];refine jbn kO (by decide) rfl jak jad ?_;rintro _ L0 ⟨X,rfl,b0,g0⟩ hfr;have lX:Abs.look L (hp X)=none:=by
   have h0:=(hfr (hp X) (jbp (g0 hne))).resolve_left (by simp[Abs.look]);simp only[F1,K1,G1,go_sem]at h0
   first | exact h0 | (rw[ja0 _ _ (hp_ne (by decide)).symm]at h0;exact h0)
  clear hfr;refine⟨_,jhp (g0 hne),?_⟩;have hf:List.filter (fun p=>p.1 !=hp X) L=L:=jdr lX;simp only[htk,zq,n3,n6,hf,F1,K1,G1,go_sem];refine And.intro (fun c hc=>by rw[zp.1 hc];rfl) (And.intro (zn _) (And.intro (by omega) ?_));refine jec (fun Y hY=> ?_);have lY:Abs.look L (hp Y)=none:=by
   simp only[Abs.del,jR,n3,n6,hf,yj,qv,qb,z8]at hY;rw[ja0 _ _ (hp_ne (by decide)).symm,ja0 _ _ (hp_ne (by decide)).symm]at hY;exact hY
  clear hY;have yA:=jcz lY c0;have kp2:=CtrH.frzA (Y:=Y) (s:=6) (es:=e.certs.map Cert.c++[ce.c]) (args':=[.loc (hp A) 11 0 0,.im (.agg [.int e.mats,.int e.houses,.int e.scales,.sl (e.places.map Place.c),.sl (e.moves.map Move.c),.ref Y 46 6 (e.certs.length+1),.sl (e.recalls.map Recall.c),.sl (e.purs.map Purity.c)])]) kp lY (by
   simp only[zl,zB,AV.frz,frz3,frz2,frz1,hp_inj,zG yA,z8,yZ,zD,zq,List.length_singleton,zn,qv,htk2])
  have hfY:List.filter (fun p=>p.1 !=hp Y) L=L:=jdr lY;simp only[n3,n6,hf,hfY,F1,K1,G1,go_sem];refine ja9 kp2 (by decide) (by simp only[zl,zB,jaq];rfl) (jac hb) (jau _ (ja3 (by decide) hb (ja3 (by decide) hb (SubR.refl L)))) ?_;rintro _ L' ⟨rfl,hW⟩ _;refine⟨_,jap,?_⟩;simp only[go_sem];refine jao L' hW.blk (SubR.refl L') ?_;simp only[go_sem];exact hW
end
section
variable{L:Abs.Rows}{A:Nat}{e:Evid}{qs:List (List (Int×Int))}
theorem jqs(rc:Recall)(h:HasW L A e qs)(hE:FitE e)(h1:AskOk e qs)(h2:jar {e with recalls:=e.recalls++[rc]}=0->AskOk {e with recalls:=e.recalls++[rc]} qs):
  CtrH G.P 28 [.loc (hp A) 11 0 0,.im (.agg rc.c)] L (fun r L'=>r= .im (.tup [.sl (stepL e {e with recalls:=e.recalls++[rc]} qs),.int (jar {e with recalls:=e.recalls++[rc]})])/\HasW L' A (heldF e {e with recalls:=e.recalls++[rc]}) qs):=by
 have kp:=jqt h h1 h2;clear h1 h2;obtain⟨Q,B,hR⟩:=h;have hb:=hR.blk;have c0:=hR.row;clear hR;have kO:=u_ownR e hE;have F1:=bF hb;have K1:=bK hb;have G1:=bN hb;have n3:∀k,(3 !=hp k)=true:=fun k=>by simp only[zY,ne_eq];exact hp_ne (by decide)
 have n6:∀k,(6 !=hp k)=true:=fun k=>by simp only[zY,ne_eq];exact hp_ne (by decide)
 have hfl:=hE.recalls;generalize stepL e {e with recalls:=e.recalls++[rc]} qs=sv at*;generalize jar {e with recalls:=e.recalls++[rc]}=cv at*;generalize heldF e {e with recalls:=e.recalls++[rc]}=ev at*;unfold Evid.iv Evid.c at kp;dsimp only at kp;rw[qD]at kp;simp only[Evid.c,List.cons_append,List.nil_append]at c0;by_cases hn:e.recalls.length=0
 ·have hnil:e.recalls=[]:=zF hn;simp only[hn,jb7]at kO;rw[hnil,zB,List.map_singleton]at kp;refine jag [16] [20] [.tmp 4,.tmp 5] Tryz.func28 ?_;simp only[c0,F1,K1,G1,go_sem];refine jbn kO (by decide) rfl jak jad ?_;rintro _ L0 ⟨X,rfl,b0,g0⟩ _;refine⟨_,jbh,?_⟩;simp only[F1,K1,G1,go_sem];refine And.intro (fun c hc=>by rw[zp.1 hc];rfl) ?_;refine jc2 (fun Y hY=> ?_);have lY:Abs.look L (hp Y)=none:=by
   rw[ja0 _ _ (hp_ne (by decide)).symm,ja0 _ _ (hp_ne (by decide)).symm]at hY;exact hY
  clear hY;have yA:=jcz lY c0;have kp2:=CtrH.frzA (Y:=Y) (s:=2) (es:=[rc.c]) (args':=[.loc (hp A) 11 0 0,.im (.agg [.int e.mats,.int e.houses,.int e.scales,.sl (e.places.map Place.c),.sl (e.moves.map Move.c),.sl (e.certs.map Cert.c),.ref Y 48 2 1,.sl (e.purs.map Purity.c)])]) kp lY (by
   simp only[zl,zB,AV.frz,frz3,frz2,frz1,hp_inj,zG yA,z8,yZ,List.length_singleton,zn,qv,List.take_succ_cons,jU,List.nil_append])
  have hfY:List.filter (fun p=>p.1 !=hp Y) L=L:=jdr lY;simp only[n3,n6,hfY,F1,K1,G1,go_sem];refine ja9 kp2 (by decide) (by simp only[zl,zB,jaq];rfl) (jac hb) (jau _ (ja3 (by decide) hb (ja3 (by decide) hb (SubR.refl L)))) ?_;rintro _ L' ⟨rfl,hW⟩ _;refine⟨_,jap,?_⟩;simp only[go_sem];refine jao L' hW.blk (SubR.refl L') ?_;simp only[go_sem];exact hW
 ·simp only[jab hn]at kO;have hne:e.recalls.map Recall.c≠[]:=fun h=>hn (by rw[<-zq (f:=Recall.c),h];rfl);have htk:List.take e.recalls.length (e.recalls.map Recall.c)=e.recalls.map Recall.c:=zu (by rw[zq];exact zn _);have htk2:List.take (e.recalls.length+1) (e.recalls.map Recall.c++[rc.c])=e.recalls.map Recall.c++[rc.c]:=zu (by rw[zD,zq];exact zn _);rw[List.map_singleton]at kp;refine jag [16] [20] [.tmp 4,.tmp 5] Tryz.func28 ?_;simp only[c0,F1,K1,G1,go_sem];refine jbn kO (by decide) rfl jak jad ?_;rintro _ L0 ⟨X,rfl,b0,g0⟩ hfr;have lX:Abs.look L (hp X)=none:=by
   have h0:=(hfr (hp X) (jbp (g0 hne))).resolve_left (by simp[Abs.look]);simp only[F1,K1,G1,go_sem]at h0
   first | exact h0 | (rw[ja0 _ _ (hp_ne (by decide)).symm]at h0;exact h0)
  clear hfr;refine⟨_,jhp (g0 hne),?_⟩;have hf:List.filter (fun p=>p.1 !=hp X) L=L:=jdr lX;simp only[htk,zq,n3,n6,hf,F1,K1,G1,go_sem];refine And.intro (fun c hc=>by rw[zp.1 hc];rfl) (And.intro (zn _) (And.intro (by omega) ?_));refine jec (fun Y hY=> ?_);have lY:Abs.look L (hp Y)=none:=by
   simp only[Abs.del,jR,n3,n6,hf,yj,qv,qb,z8]at hY;rw[ja0 _ _ (hp_ne (by decide)).symm,ja0 _ _ (hp_ne (by decide)).symm]at hY;exact hY
  clear hY;have yA:=jcz lY c0;have kp2:=CtrH.frzA (Y:=Y) (s:=2) (es:=e.recalls.map Recall.c++[rc.c]) (args':=[.loc (hp A) 11 0 0,.im (.agg [.int e.mats,.int e.houses,.int e.scales,.sl (e.places.map Place.c),.sl (e.moves.map Move.c),.sl (e.certs.map Cert.c),.ref Y 48 2 (e.recalls.length+1),.sl (e.purs.map Purity.c)])]) kp lY (by
   simp only[zl,zB,AV.frz,frz3,frz2,frz1,hp_inj,zG yA,z8,yZ,zD,zq,List.length_singleton,zn,qv,htk2])
  have hfY:List.filter (fun p=>p.1 !=hp Y) L=L:=jdr lY;simp only[n3,n6,hf,hfY,F1,K1,G1,go_sem];refine ja9 kp2 (by decide) (by simp only[zl,zB,jaq];rfl) (jac hb) (jau _ (ja3 (by decide) hb (ja3 (by decide) hb (SubR.refl L)))) ?_;rintro _ L' ⟨rfl,hW⟩ _;refine⟨_,jap,?_⟩;simp only[go_sem];refine jao L' hW.blk (SubR.refl L') ?_;simp only[go_sem];exact hW
end
section
variable{L:Abs.Rows}{A:Nat}{e:Evid}{qs:List (List (Int×Int))}
theorem jqu(pu:Purity)(h:HasW L A e qs)(hE:FitE e)(h1:AskOk e qs)(h2:jar {e with purs:=e.purs++[pu]}=0->AskOk {e with purs:=e.purs++[pu]} qs):
  CtrH G.P 27 [.loc (hp A) 11 0 0,.im (.agg pu.c)] L (fun r L'=>r= .im (.tup [.sl (stepL e {e with purs:=e.purs++[pu]} qs),.int (jar {e with purs:=e.purs++[pu]})])/\HasW L' A (heldF e {e with purs:=e.purs++[pu]}) qs):=by
 have kp:=jqt h h1 h2;clear h1 h2;obtain⟨Q,B,hR⟩:=h;have hb:=hR.blk;have c0:=hR.row;clear hR;have kO:=u_ownP e hE;have F1:=bF hb;have K1:=bK hb;have G1:=bN hb;have n3:∀k,(3 !=hp k)=true:=fun k=>by simp only[zY,ne_eq];exact hp_ne (by decide)
 have n6:∀k,(6 !=hp k)=true:=fun k=>by simp only[zY,ne_eq];exact hp_ne (by decide)
 have hfl:=hE.purs;generalize stepL e {e with purs:=e.purs++[pu]} qs=sv at*;generalize jar {e with purs:=e.purs++[pu]}=cv at*;generalize heldF e {e with purs:=e.purs++[pu]}=ev at*;unfold Evid.iv Evid.c at kp;dsimp only at kp;rw[qD]at kp;simp only[Evid.c,List.cons_append,List.nil_append]at c0;by_cases hn:e.purs.length=0
 ·have hnil:e.purs=[]:=zF hn;simp only[hn,jb7]at kO;rw[hnil,zB,List.map_singleton]at kp;refine jag [16] [20] [.tmp 4,.tmp 5] Tryz.func27 ?_;simp only[c0,F1,K1,G1,go_sem];refine jbn kO (by decide) rfl jak jad ?_;rintro _ L0 ⟨X,rfl,b0,g0⟩ _;refine⟨_,jbh,?_⟩;simp only[F1,K1,G1,go_sem];refine And.intro (fun c hc=>by rw[zp.1 hc];rfl) ?_;refine jc2 (fun Y hY=> ?_);have lY:Abs.look L (hp Y)=none:=by
   rw[ja0 _ _ (hp_ne (by decide)).symm,ja0 _ _ (hp_ne (by decide)).symm]at hY;exact hY
  clear hY;have yA:=jcz lY c0;have kp2:=CtrH.frzA (Y:=Y) (s:=4) (es:=[pu.c]) (args':=[.loc (hp A) 11 0 0,.im (.agg [.int e.mats,.int e.houses,.int e.scales,.sl (e.places.map Place.c),.sl (e.moves.map Move.c),.sl (e.certs.map Cert.c),.sl (e.recalls.map Recall.c),.ref Y 50 4 1])]) kp lY (by
   simp only[zl,zB,AV.frz,frz3,frz2,frz1,hp_inj,zG yA,z8,yZ,List.length_singleton,zn,qv,List.take_succ_cons,jU,List.nil_append])
  have hfY:List.filter (fun p=>p.1 !=hp Y) L=L:=jdr lY;simp only[n3,n6,hfY,F1,K1,G1,go_sem];refine ja9 kp2 (by decide) (by simp only[zl,zB,jaq];rfl) (jac hb) (jau _ (ja3 (by decide) hb (ja3 (by decide) hb (SubR.refl L)))) ?_;rintro _ L' ⟨rfl,hW⟩ _;refine⟨_,jap,?_⟩;simp only[go_sem];refine jao L' hW.blk (SubR.refl L') ?_;simp only[go_sem];exact hW
 ·simp only[jab hn]at kO;have hne:e.purs.map Purity.c≠[]:=fun h=>hn (by rw[<-zq (f:=Purity.c),h];rfl);have htk:List.take e.purs.length (e.purs.map Purity.c)=e.purs.map Purity.c:=zu (by rw[zq];exact zn _);have htk2:List.take (e.purs.length+1) (e.purs.map Purity.c++[pu.c])=e.purs.map Purity.c++[pu.c]:=zu (by rw[zD,zq];exact zn _);rw[List.map_singleton]at kp;refine jag [16] [20] [.tmp 4,.tmp 5] Tryz.func27 ?_;simp only[c0,F1,K1,G1,go_sem];refine jbn kO (by decide) rfl jak jad ?_;rintro _ L0 ⟨X,rfl,b0,g0⟩ hfr;have lX:Abs.look L (hp X)=none:=by
   have h0:=(hfr (hp X) (jbp (g0 hne))).resolve_left (by simp[Abs.look]);simp only[F1,K1,G1,go_sem]at h0
   first | exact h0 | (rw[ja0 _ _ (hp_ne (by decide)).symm]at h0;exact h0)
  clear hfr;refine⟨_,jhp (g0 hne),?_⟩;have hf:List.filter (fun p=>p.1 !=hp X) L=L:=jdr lX;simp only[htk,zq,n3,n6,hf,F1,K1,G1,go_sem];refine And.intro (fun c hc=>by rw[zp.1 hc];rfl) (And.intro (zn _) (And.intro (by omega) ?_));refine jec (fun Y hY=> ?_);have lY:Abs.look L (hp Y)=none:=by
   simp only[Abs.del,jR,n3,n6,hf,yj,qv,qb,z8]at hY;rw[ja0 _ _ (hp_ne (by decide)).symm,ja0 _ _ (hp_ne (by decide)).symm]at hY;exact hY
  clear hY;have yA:=jcz lY c0;have kp2:=CtrH.frzA (Y:=Y) (s:=4) (es:=e.purs.map Purity.c++[pu.c]) (args':=[.loc (hp A) 11 0 0,.im (.agg [.int e.mats,.int e.houses,.int e.scales,.sl (e.places.map Place.c),.sl (e.moves.map Move.c),.sl (e.certs.map Cert.c),.sl (e.recalls.map Recall.c),.ref Y 50 4 (e.purs.length+1)])]) kp lY (by
   simp only[zl,zB,AV.frz,frz3,frz2,frz1,hp_inj,zG yA,z8,yZ,zD,zq,List.length_singleton,zn,qv,htk2])
  have hfY:List.filter (fun p=>p.1 !=hp Y) L=L:=jdr lY;simp only[n3,n6,hf,hfY,F1,K1,G1,go_sem];refine ja9 kp2 (by decide) (by simp only[zl,zB,jaq];rfl) (jac hb) (jau _ (ja3 (by decide) hb (ja3 (by decide) hb (SubR.refl L)))) ?_;rintro _ L' ⟨rfl,hW⟩ _;refine⟨_,jap,?_⟩;simp only[go_sem];refine jao L' hW.blk (SubR.refl L') ?_;simp only[go_sem];exact hW
