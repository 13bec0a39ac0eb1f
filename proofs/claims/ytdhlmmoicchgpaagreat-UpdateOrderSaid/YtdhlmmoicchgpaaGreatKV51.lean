/- A part of the proof. No further condition. -/
import Derived.Test.YtdhlmmoicchgpaaGreatKV50
set_option linter.all false
set_option maxRecDepth 10000000
set_option maxHeartbeats 16000000
namespace Go.Proofs.YtdhlmmoicchgpaaGreat
section
open Go.Abs
attribute [local go_sem] Evid.iv Evid.c Stp.cl Move.c Cert.c Recall.c Purity.c ints ic
theorem Dis.look{L1 L:Abs.Rows}{k:Nat}(h:Dis L1 L)(hk:(Abs.look L k).isSome):Abs.look L1 k=none:=by
 cases hx:Abs.look L1 k with
 | none=>rfl
 | some z=>rw[h k (by rw[hx];rfl)]at hk;cases hk
section
variable{e:Evid}{x y:Stp}{L L' L1:Abs.Rows}
theorem or_low(h:blks L):∀p∈([(7,19,[y.cl]),(6,19,[x.cl]),(4,8,[e.c])]:Abs.Rows),Abs.look L p.1=none:=fun p hp=>by
 rcases zN.1 hp with rfl | hp
 ·exact jb2 (d:=7) h (by decide)
 rcases zN.1 hp with rfl | hp
 ·exact jb2 (d:=6) h (by decide)
 ·rw[zp.1 hp];exact jb2 (d:=4) h (by decide)
theorem jgu(h2:SubR L' L)(h3:blks L'):SubR L' (OR e x y L):=ja3 (by decide) h3 (ja3 (by decide) h3 (ja3 (by decide) h3 h2))
theorem jkv(h:blks L):jed (OR e x y L) L L' (OR e x y L'):=jb3 [_,_,_] (or_low h)
theorem jq4(h:blks L1)(hd:Dis L1 L):jed (OR e x y (L1++L)) L1 L' (OR e x y (L'++L)):=jlw (pre:=[_,_,_]) (or_low h) (fun _ hk=>hd.look hk)
theorem or_none{k:Nat}(h:Abs.look (OR e x y L) k=none):Abs.look L k=none:=by
 unfold OR at h;by_cases e7:k=7
 ·subst e7;rw[ja1]at h;cases h
 rw[ja0 _ _ e7]at h;by_cases e6:k=6
 ·subst e6;rw[ja1]at h;cases h
 rw[ja0 _ _ e6]at h;by_cases e4:k=4
 ·subst e4;rw[ja1]at h;cases h
 rwa [ja0 _ _ e4]at h
theorem jq3(hd:Dis L1 L)(hfr:∀k,(Abs.look L' k).isSome->(Abs.look L1 k).isSome\/Abs.look (OR e x y (L1++L)) k=none):Dis L' L:=fun k hk=>by
 rcases hfr k hk with h | h
 ·exact hd k h
 ·have h:=or_none h;rw[jim]at h;cases h1:Abs.look L1 k with
  | some z=>rw[h1]at h;cases h
  | none=>rw[h1]at h;exact h
theorem or_beh2(h:blks L)(hd:Dis L1 L):jed (OR e x y (L1++L)) L L' (OR e x y (L1++L')):=by
 have:=or_low (e:=e) (x:=x) (y:=y) h;intro k z hk;unfold OR at hk⊢;by_cases e7:k=7
 ·subst e7;rw[ja1]at hk⊢;exact .inr ⟨jb2 h (by decide),hk⟩
 rw[ja0 _ _ e7]at hk⊢;by_cases e6:k=6
 ·subst e6;rw[ja1]at hk⊢;exact .inr ⟨jb2 h (by decide),hk⟩
 rw[ja0 _ _ e6]at hk⊢;by_cases e4:k=4
 ·subst e4;rw[ja1]at hk⊢;exact .inr ⟨jb2 h (by decide),hk⟩
 rw[ja0 _ _ e4]at hk⊢;rw[jim]at hk⊢;cases h1:Abs.look L1 k with
 | some w=>rw[h1]at hk;exact .inr ⟨hd k (by rw[h1];rfl),hk⟩
 | none=>rw[h1]at hk;exact .inl hk
theorem or_dis2(hd:Dis L1 L)(hfr:∀k,(Abs.look L' k).isSome->(Abs.look L k).isSome\/Abs.look (OR e x y (L1++L)) k=none):Dis L1 L':=fun k hk=>by
 cases hx:Abs.look L' k with
 | none=>rfl
 | some z=>
  rcases hfr k (by rw[hx];rfl)with h | h
  ·rw[hd k hk]at h;cases h
  ·have h:=or_none h;rw[jim]at h;cases h1:Abs.look L1 k with
   | some z=>rw[h1]at h;cases h
   | none=>rw[h1]at hk;cases hk
end
section
variable{e:Evid}{qs:List (List (Int×Int))}{x y:Stp}
noncomputable def O2(A V:Nat)(e:Evid)(qs:List (List (Int×Int)))(x y:Stp)(R:Abs.Rows):St:=
 ⟨[(4,.loc 4 8 0 0),(6,.loc 6 19 0 0),(7,.loc 7 19 0 0),(9,.im (.bool true)),(10,.im (.pr A 11 0 0)),(12,.im (.sl (bL e qs))),(13,.im (.int (bE e))),(14,.im (.pr V 11 0 0))],OR e x y R,[]⟩
theorem uo_2{P:Exit->St->Prop}{A:Nat}{L:Abs.Rows}(h:OP e qs x y (A,L))(hN:∀V L1 L' s,HasW L1 V e qs->HasW L' A e qs->Dis L1 L'->St.Le s (O2 A V e qs x y (L1++L'))->P .normal s):
  awp (GH [] []) (putN 3 (tailN 5 (jcf Tryz.f5)) .skip) P (OS e x y (A,L)):=by
 obtain⟨hW,hG,h2,_⟩:=h;dsimp only at hW;have hA:=hG.ask (by omega);have kR:=CtrH.pr (jf5 hW hA);refine jhr rfl ?_
 as_aux_lemma=>
  unfold OS OR;dsimp only;simp only[go_sem];refine ja9 kR (by decide) rfl hW.blk (jgu (SubR.refl L) hW.blk) ?_;rintro _ L0 ⟨rfl,hW1⟩-;refine⟨OR e x y L0,jkv hW.blk,?_⟩;unfold OR;have kC:=CtrH.pr (u_copy hW1 (jf3 hG.right) (by omega));simp only[go_sem];refine ja9 kC (by decide) rfl hW1.blk (jgu (SubR.refl L0) hW1.blk) ?_;rintro _ _ ⟨V,rfl,L1,rfl,hD,hW2⟩-;refine⟨OR e x y (L1++L0),jkv hW1.blk,?_⟩;unfold OR;simp only[go_sem];refine hN V L1 L0 _ hW2 hW1 hD (jc7 [4,6,7,9,10,12,13,14] ?_ (SubR.refl _) rfl);unfold O2;simp only[go_sem]
  try rfl
end
end
section
open Go.Abs
attribute [local go_sem] Evid.iv Evid.c Stp.cl Move.c Cert.c Recall.c Purity.c ints ic
section
variable{e:Evid}{qs:List (List (Int×Int))}{x y:Stp}
noncomputable def O3(A V:Nat)(e:Evid)(qs:List (List (Int×Int)))(x y:Stp)(R:Abs.Rows):St:=
 ⟨[(4,.loc 4 8 0 0),(6,.loc 6 19 0 0),(7,.loc 7 19 0 0),(9,.im (.bool true)),(10,.im (.pr A 11 0 0)),(12,.im (.sl (bL e qs))),(13,.im (.int (bE e))),(14,.im (.pr V 11 0 0)),
  (15,.im (.sl (bL (putF (putF e x) y) qs))),(16,.im (.int (bE (putF (putF e x) y))))],OR e x y R,[]⟩
theorem uo_3{P:Exit->St->Prop}{A V:Nat}{L L1:Abs.Rows}(hW:HasW L1 V e qs)(hG:Good e qs 0)(hD:Dis L1 L)(hN:∀L' s,HasW L' V (putF (putF e x) y) qs->Dis L' L->St.Le s (O3 A V e qs x y (L'++L))->P .normal s):
  awp (GH [] []) (putN 3 (tailN 8 (jcf Tryz.f5)) .skip) P (O2 A V e qs x y (L1++L)):=by
 have hA:=hG.ask (by omega);have kD:=CtrH.pr (u_do hW x (jf3 hG.right) hA (do_ok hG (by omega)));simp only[Stp.cl,Move.c,Cert.c,Recall.c,Purity.c,List.cons_append,List.nil_append]at kD;have hG1:=hG.put (x:=x);refine jhr rfl ?_
 as_aux_lemma=>
  unfold O2 OR;simp only[List.cons_append,List.nil_append,go_sem];refine ja9 kD (by decide) rfl hW.blk (jgu jhd hW.blk) ?_;rintro _ L2 ⟨rfl,hW2⟩ hfr;have hD2:=jq3 hD hfr;clear hfr;refine⟨OR e x y (L2++L),jq4 hW.blk hD,?_⟩;unfold OR;have kD2:=CtrH.pr (u_do hW2 y (jf3 hG1.right) (hG1.ask (by omega)) (do_ok hG1 (by omega)));simp only[Stp.cl,Move.c,Cert.c,Recall.c,Purity.c,List.cons_append,List.nil_append]at kD2;simp only[List.cons_append,List.nil_append,go_sem];refine ja9 kD2 (by decide) rfl hW2.blk (jgu jhd hW2.blk) ?_;rintro _ L3 ⟨rfl,hW3⟩ hfr;have hD3:=jq3 hD2 hfr;clear hfr;refine⟨OR e x y (L3++L),jq4 hW2.blk hD2,?_⟩;unfold OR;have kR:=CtrH.pr (jf5 hW3 ((hG1.put (x:=y)).ask (by omega)));simp only[List.cons_append,List.nil_append,go_sem];refine ja9 kR (by decide) rfl hW3.blk (jgu jhd hW3.blk) ?_;rintro _ L4 ⟨rfl,hW4⟩ hfr;have hD4:=jq3 hD3 hfr;clear hfr;refine⟨OR e x y (L4++L),jq4 hW3.blk hD3,?_⟩;unfold OR;simp only[List.cons_append,List.nil_append,go_sem];refine hN L4 _ hW4 hD4 (jc7 [4,6,7,9,10,12,13,14,15,16] ?_ (SubR.refl _) rfl);unfold O3;simp only[go_sem]
  try rfl
end
end
section
open Go.Abs
attribute [local go_sem] Evid.iv Evid.c ints ic
section
variable{e:Evid}{qs:List (List (Int×Int))}{x y:Stp}{z z':List (List IV)}{n n':Int}
noncomputable def O4(A:Nat)(e:Evid)(qs:List (List (Int×Int)))(x y:Stp)(R:Abs.Rows):St:=
 ⟨[(4,.loc 4 8 0 0),(6,.loc 6 19 0 0),(7,.loc 7 19 0 0),(9,.im (.bool true)),(10,.im (.pr A 11 0 0)),(15,.im (.sl (bL (putF (putF e x) y) qs))),(16,.im (.int (bE (putF (putF e x) y))))],OR e x y R,[]⟩
theorem uo_4{P:Exit->St->Prop}{A V:Nat}{L L1:Abs.Rows}(hW:HasW L A e qs)(hG:Good e qs 0)(hD:Dis L1 L)(hb1:blks L1)(hN:∀L' s,HasW L' A e qs->St.Le s (O4 A e qs x y L')->P .normal s):
  awp (GH [] []) (putN 2 (tailN 11 (jcf Tryz.f5)) .skip) P (O3 A V e qs x y (L1++L)):=by
 have hA:=hG.ask (by omega);have hF:=jf3 hG.right;have kS:=u_sbl hA;have kM:=c15 e hF.places hF.moves hF.certs hF.recalls hF.purs;have kR:=CtrH.pr (jf5 hW hA);refine jhr rfl ?_
 as_aux_lemma=>
  unfold O3 OR;simp only[go_sem];refine ja9 kR (by decide) rfl hW.blk (jgu (jiy hD) hW.blk) ?_;rintro _ L2 ⟨rfl,hW2⟩ hfr;have hD2:=or_dis2 hD hfr;clear hfr;refine⟨OR e x y (L1++L2),or_beh2 hW.blk hD,?_⟩;unfold OR;have kE:=CtrH.pr (u_evid hW2 hF);simp only[yx,go_sem];refine jci [false,false,false,false,false,false,false,false,false,false,false,true,false] (.alt 11 .fin .none) [(4,8,[e.c])] (by decide+kernel) (jbg (by simp only[go_sem]) jad) ?_;simp only[yx,go_sem];refine ja4 kS (by decide) ?_;simp only[yx,go_sem];refine jb8 kE (by decide) rfl hW2.blk (jgu (jiy hD2) hW2.blk) ?_;rintro _ L0 ⟨rfl,hL0⟩-;obtain rfl:=hL0.symm;refine⟨OR e x y (L1++L2),or_beh2 hW2.blk hD2,?_⟩;unfold OR;refine And.intro (jbg (by simp only[go_sem]) jad) ?_;simp only[go_sem];refine ja2 kM ?_;simp only[go_sem];refine hN L2 _ hW2 (jc7 [4,6,7,9,10,15,16] ?_ ?_ rfl)
  ·unfold O4;simp only[go_sem]
   try rfl
  ·exact jau _ (jau _ (jau _ (jiy hD2)))
end
end
section
open Go.Abs
attribute [local go_sem] Evid.iv Evid.c Stp.cl Move.c Cert.c Recall.c Purity.c ints ic
theorem jrd{ch:List (Int×Int)->Bool}{qs:List (List (Int×Int))}(h:∀q∈qs,ch q=false):∀k,k<=qs.length->outGo ch qs k=[]
 | 0,_=>rfl
 | k+1,hk=>by
  obtain⟨q,hq⟩:∃q,qs[k]? =some q:=⟨_,zk (by omega)⟩;rw[jre hq (h q (zE hq)),jrd h k (by omega)]
section
variable{e e':Evid}{qs:List (List (Int×Int))}{x y:Stp}{k j:Nat}
theorem al_bO(h:Alike e e')(g:Good e qs k)(g':Good e' qs j)(hk:k<=5)(hj:j<=5){q:List (Int×Int)}(hq:q∈qs):bO e q=bO e' q:=
 h.bnd g.right g'.right (g.say hk hq) (g'.say hj hq)
theorem al_pos(h:Alike e e')(g:Good e qs k)(g':Good e' qs j)(hk:k<=5)(hj:j<=5):posF e=posF e':=by
 unfold posF;rw[h.bnd g.right g'.right (say0 (g.ask hk)) (say0 (g'.ask hj))]
theorem al_bL(h:Alike e e')(g:Good e qs k)(g':Good e' qs j)(hk:k<=5)(hj:j<=5):bL e qs=bL e' qs:=by
 unfold bL;rw[al_pos h g g' hk hj];split
 ·refine yB fun q hq=> ?_;unfold fB;rw[al_bO h g g' hk hj hq]
 ·rfl
theorem al_bE(h:Alike e e')(g:Good e qs k)(g':Good e' qs j)(hk:k<=5)(hj:j<=5):bE e=bE e':=by
 unfold bE;rw[al_pos h g g' hk hj]
theorem few3_of(g:Good e qs k):Few3 e k:=⟨g.certs,g.recalls,by have:=g.purs;omega⟩
theorem al_step(g:Good e qs k)(hk:k<=4)(h:Alike (putF e x) e):stepL e (jah e x) qs=[]:=by
 unfold stepL;split
 ·rename_i hc;have hp:putF e x=jah e x:=zm hc;rw[hp]at h;have g':=g.aft hc;have hps:=al_pos h g' g (by omega) (by omega);have:∀q∈qs,chg e (jah e x) q=false:=fun q hq=>by
   cases h1:posF e with
   | false=>exact chg_ff h1 (hps.trans h1)
   | true=>rw[chg_tt h1 (hps.trans h1),al_bO h g' g (by omega) (by omega) hq,ze rfl];rfl
  unfold outF;rw[jrd this _ (zn _)];rfl
 ·rfl
noncomputable def O5(A:Nat)(e:Evid)(qs:List (List (Int×Int)))(x y:Stp)(R:Abs.Rows):St:=
 ⟨[(4,.loc 4 8 0 0),(6,.loc 6 19 0 0),(7,.loc 7 19 0 0),(9,.im (.bool true)),(10,.im (.pr A 11 0 0)),(15,.im (.sl (bL (putF (putF e x) y) qs))),(16,.im (.int (bE (putF (putF e x) y)))),
  (19,.im (.sl (bL (putF (putF e y) x) qs))),(20,.im (.int (bE (putF (putF e y) x))))],OR e x y R,[]⟩
theorem uo_5{P:Exit->St->Prop}{A:Nat}{L:Abs.Rows}(hW:HasW L A e qs)(hG:Good e qs 0)(hN:∀L' s,HasW L' A (putF (putF e y) x) qs->St.Le s (O5 A e qs x y L')->P .normal s):
  awp (GH [] []) (putN 3 (tailN 13 (jcf Tryz.f5)) .skip) P (O4 A e qs x y L):=by
 have hA:=hG.ask (by omega);have kD:=CtrH.pr (u_do hW y (jf3 hG.right) hA (do_ok hG (by omega)));simp only[Stp.cl,Move.c,Cert.c,Recall.c,Purity.c,List.cons_append,List.nil_append]at kD;have hG1:=hG.put (x:=y);refine jhr rfl ?_
 as_aux_lemma=>
  unfold O4 OR;simp only[List.cons_append,List.nil_append,go_sem];refine ja9 kD (by decide) rfl hW.blk (jgu (SubR.refl _) hW.blk) ?_;rintro _ L2 ⟨rfl,hW2⟩-;refine⟨OR e x y L2,jkv hW.blk,?_⟩;unfold OR;have kD2:=CtrH.pr (u_do hW2 x (jf3 hG1.right) (hG1.ask (by omega)) (do_ok hG1 (by omega)));simp only[Stp.cl,Move.c,Cert.c,Recall.c,Purity.c,List.cons_append,List.nil_append]at kD2;simp only[List.cons_append,List.nil_append,go_sem];refine ja9 kD2 (by decide) rfl hW2.blk (jgu (SubR.refl _) hW2.blk) ?_;rintro _ L3 ⟨rfl,hW3⟩-;refine⟨OR e x y L3,jkv hW2.blk,?_⟩;unfold OR;have kR:=CtrH.pr (jf5 hW3 ((hG1.put (x:=x)).ask (by omega)));simp only[List.cons_append,List.nil_append,go_sem];refine ja9 kR (by decide) rfl hW3.blk (jgu (SubR.refl _) hW3.blk) ?_;rintro _ L4 ⟨rfl,hW4⟩-;refine⟨OR e x y L4,jkv hW3.blk,?_⟩;unfold OR;simp only[List.cons_append,List.nil_append,go_sem];refine hN L4 _ hW4 (jc7 [4,6,7,9,10,15,16,19,20] ?_ (SubR.refl _) rfl);unfold O5;simp only[go_sem]
  try rfl
noncomputable def O6(A:Nat)(e:Evid)(e3:Evid)(qs:List (List (Int×Int)))(x y:Stp)(R:Abs.Rows):St:=
 ⟨[(4,.loc 4 8 0 0),(6,.loc 6 19 0 0),(7,.loc 7 19 0 0),(9,.im (.bool true)),(10,.im (.pr A 11 0 0)),(19,.im (.sl (bL e3 qs))),(20,.im (.int (bE e3)))],OR e x y R,[]⟩
theorem uo_6{P:Exit->St->Prop}{A:Nat}{L:Abs.Rows}(h2:AskOk (putF (putF e y) x) qs)(h3:bL (putF (putF e x) y) qs=bL (putF (putF e y) x) qs)(h4:bE (putF (putF e x) y)=bE (putF (putF e y) x))(hN:∀s,St.Le s (O6 A e (putF (putF e y) x) qs x y L)->P .normal s):
  awp (GH [] []) (putN 1 (tailN 16 (jcf Tryz.f5)) .skip) P (O5 A e qs x y L):=by
 have kS:=u_sbl h2;refine jhr rfl ?_
 as_aux_lemma=>
  unfold O5 OR;rw[h3,h4];simp only[yx,go_sem];refine ja2 kS ?_;simp only[yx,go_sem];refine hN _ (jc7 [4,6,7,9,10,19,20] ?_ (SubR.refl _) rfl);unfold O6;simp only[go_sem]
  try rfl
theorem uo_7{P:Exit->St->Prop}{A:Nat}{L:Abs.Rows}(hW:HasW L A e' qs)(hG:Good e' qs 2)(h1:stepL e' (jah e' x) qs=[])(h3:bL (putF e' x) qs=bL e' qs)(h4:bE (putF e' x)=bE e')(hR:∀s,s.get 8= .im (.bool true)->P .ret s):
  awp (GH [] []) (tailN 17 (jcf Tryz.f5)) P (O6 A e e' qs x y L):=by
 have hA:=hG.ask (by omega);have kS:=u_sbl hA;have kD:=CtrH.pr (u_do hW x (jf3 hG.right) hA (do_ok hG (by omega)));simp only[Stp.cl,Move.c,Cert.c,Recall.c,Purity.c,List.cons_append,List.nil_append]at kD;rw[h1]at kD;have hG1:=hG.put (x:=x);refine jpx rfl ?_
 as_aux_lemma=>
  unfold O6 OR;simp only[List.cons_append,List.nil_append,go_sem];refine ja9 kD (by decide) rfl hW.blk (jgu (SubR.refl _) hW.blk) ?_;rintro _ L2 ⟨rfl,hW2⟩-;refine⟨OR e x y L2,jkv hW.blk,?_⟩;unfold OR;have kR:=CtrH.pr (jf5 hW2 (hG1.ask (by omega)));rw[h3,h4]at kR;simp only[List.cons_append,List.nil_append,go_sem];refine ja9 kR (by decide) rfl hW2.blk (jgu (SubR.refl _) hW2.blk) ?_;rintro _ L4 ⟨rfl,hW4⟩-;refine⟨OR e x y L4,jkv hW2.blk,?_⟩;unfold OR;simp only[List.cons_append,List.nil_append,yx,List.length_nil,go_sem];refine ja2 kS ?_;simp only[yx,go_sem];exact hR _ rfl
end
end
section
open Go.Abs
attribute [local go_sem] Evid.iv Evid.c ints ic
theorem u_order(e:Evid)(qs:List (List (Int×Int)))(x y:Stp):Ctr G.P 5 [e.iv,.sl (qs.map qC),.agg x.cl,.agg y.cl] (· = .bool true):=by
 refine ctrX_of (c:=tailN 0 (jcf Tryz.f5)) (t:=8) (goodH [] []) Tryz.func5 rfl (by decide+kernel) (qE rfl) rfl ?_;refine SemC.cutsF (goodH [] []) (OS e x y) (OP e qs x y) 5 rfl (by decide+kernel) (uo_1 (fun i s h1 h2=>⟨i,h1,h2⟩) (fun s h=>h)) ?_;rintro⟨A,L⟩ hP;rw[jcd];have hG:=hP.2.1;have hx:=hP.2.2.2.1;have hy:=hP.2.2.2.2.1;have hcc:=hP.2.2.2.2.2;refine SemC.cutsF (goodH [] []) (fun i:Nat×Abs.Rows×Abs.Rows=>O2 A i.1 e qs x y (i.2.1++i.2.2)) (fun i=>HasW i.2.1 i.1 e qs/\HasW i.2.2 A e qs/\Dis i.2.1 i.2.2) 3 rfl (by decide+kernel) (uo_2 hP fun V L1 L' s h1 h2 h3 h4=>⟨(V,L1,L'),⟨h1,h2,h3⟩,h4⟩) ?_;rintro⟨V,L1,L2⟩ ⟨hV,hW,hD⟩;dsimp only at hV hW hD⊢;rw[jcd];refine SemC.cutsF (goodH [] []) (fun L':Abs.Rows=>O3 A V e qs x y (L'++L2)) (fun L'=>HasW L' V (putF (putF e x) y) qs/\Dis L' L2) 3 rfl (by decide+kernel) (uo_3 hV hG hD fun L' s h1 h2 h3=>⟨L',⟨h1,h2⟩,h3⟩) ?_;rintro L3 ⟨hV3,hD3⟩;rw[jcd];refine SemC.cutsF (goodH [] []) (fun L':Abs.Rows=>O4 A e qs x y L') (fun L'=>HasW L' A e qs) 2 rfl (by decide+kernel) (uo_4 hW hG hD3 hV3.blk fun L' s h1 h2=>⟨L',h1,h2⟩) ?_;intro L4 hW4;rw[jcd];refine SemC.cutsF (goodH [] []) (fun L':Abs.Rows=>O5 A e qs x y L') (fun L'=>HasW L' A (putF (putF e y) x) qs) 3 rfl (by decide+kernel) (uo_5 hW4 hG fun L' s h1 h2=>⟨L',h1,h2⟩) ?_;intro L5 hW5;rw[jcd];have g2:Good (putF (putF e x) y) qs 2:=hG.put.put
 have g3:Good (putF (putF e y) x) qs 2:=hG.put.put;have sw:=put_swap hG.right (few3_of hG) hx hy hcc;have h3:=al_bL sw g2 g3 (by omega) (by omega);have h4:=al_bE sw g2 g3 (by omega) (by omega);refine SemC.cuts (goodH [] []) (O6 A e (putF (putF e y) x) qs x y L5) 1 rfl (by decide+kernel) (uo_6 (g3.ask (by omega)) h3 h4 fun s h=>h) ?_;rw[jcd];have gy:Good (putF e y) qs 1:=hG.put;have du:=put_dup (x:=x) gy.right (few3_of gy) (by omega) hx;have g4:Good (putF (putF (putF e y) x) x) qs 3:=g3.put;exact SemC.awp (goodH [] []) (by decide+kernel) (uo_7 hW5 g3 (al_step g3 (by omega) du) (al_bL du g4 g3 (by omega) (by omega)) (al_bE du g4 g3 (by omega) (by omega)) fun s h=>h)
