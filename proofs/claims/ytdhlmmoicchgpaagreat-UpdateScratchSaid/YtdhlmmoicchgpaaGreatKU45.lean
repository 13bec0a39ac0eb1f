/- A part of the proof. No further condition. -/
import Derived.Test.YtdhlmmoicchgpaaGreatKU44
set_option linter.all false
set_option maxRecDepth 10000000
set_option maxHeartbeats 16000000
namespace Go.Proofs.YtdhlmmoicchgpaaGreat
section
open Go.Abs
attribute [local go_sem] ints ic Stp.cl Move.c Cert.c Recall.c Purity.c
section
variable{e:Evid}{qs:List (List (Int×Int))}{xs:List Stp}{a:List (Int×Int)}
theorem us_3{P:Exit->St->Prop}{A X:Nat}{L:Abs.Rows}(hW:HasW L A e qs)(hG:Good e qs 0)(hD:Dj X (qs.map qC) L)(hx2:xs.length<=2)(ha:a.length<=12)(hq2:qs.length<=2)(hN:∀X L ec Qc s,P3 A xs Qc ec (X,L)->St.Le s (S2 xs a A Qc (X,L))->P .normal s):
  awp (GH [62,93] []) (putN 1 (tailN 6 (jd8 Tryz.f3)) .skip) P (S2 xs a A qs (X,L)):=by
 refine jht rfl ?_
 as_aux_lemma=>
  unfold S2;simp only[go_sem];refine jax [2,3,9,10,12,13] (fun g:(Nat×Nat×Abs.Rows)×Evid×List (List (Int×Int))=>⟨[(2,.im (.sl (xs.map Stp.cl))),(3,.im (.sl (a.map pickC))),(9,.im (.bool true)),(10,.im (.pr A 11 0 0)),(12,.im (sl0 g.1.2.1 31 1 g.2.2.length)),(13,.im (.int g.1.1))],rowX g.1.2.1 (g.2.2.map qC) g.1.2.2,[]⟩)
   (fun g=>g.1.1<=xs.length/\HasW g.1.2.2 A g.2.1 g.2.2/\Good g.2.1 g.2.2 g.1.1/\Dj g.1.2.1 (g.2.2.map qC) g.1.2.2/\(g.1.1<xs.length->g.2.2=qs)) (fun g=>xs.length-g.1.1) ((0,X,L),e,qs) ?_ (SubR.refl _) rfl ⟨zI _,hW,hG,hD,fun _=>rfl⟩ ?_
  ·simp only[Int.natCast_zero,go_sem]
  clear hW hG hD;rintro⟨⟨i,X,L⟩,ec,Qc⟩ ⟨hi,hWc,hGc,hDc,hQc⟩;dsimp only at hi hWc hGc hDc hQc;by_cases hkl:(i:Int)<xs.length
  ·have hd:decide ((i:Int)<xs.length)=true:=ze hkl;obtain⟨x,hx⟩:=jce hkl;have h1:=jaa (n:=(i:Int)+1) (by omega);have hwn:=jaa (n:=(xs.length:Int)-1) (by omega);have hi0:(0:Int)<=i:=by omega
   have hi1:i<xs.length:=by omega
   have hQe:=hQc hi1;subst hQe;by_cases hlast:(i:Int)=(xs.length:Int)-1
   ·have dl:decide ((i:Int)=(xs.length:Int)-1)=true:=ze hlast;have kA:=CtrH.pr (u_Ask (a:=a) hWc (hGc.ask (by omega)) (jkp hGc.right) (by omega) (by omega));rcases hr:jcd ec a with _ | _
    ·simp only[hr,qf,z8]at kA;simp only[hd,hwn,dl,hkl,hi0,hi1,zq,go_sem];refine ja9 kA (by decide) rfl hWc.blk (jg4 hDc) ?_;rintro _ L2 ⟨rfl,hW2⟩ hfr2;refine⟨_,jdp hDc,?_⟩;have hD2:=jin hDc hfr2;clear hfr2;have kD:=CtrH.pr (u_do hW2 x (jkp hGc.right) (hGc.ask (by omega)) (do_ok hGc (by omega)));simp only[Stp.cl,Move.c,Cert.c,Recall.c,Purity.c,List.cons_append,List.nil_append]at kD;simp only[hkl,hi0,hi1,zq,za,hx,List.cons_append,List.nil_append,go_sem];refine ja9 kD (by decide) rfl hW2.blk (jg4 hD2) ?_;rintro _ L3 ⟨rfl,hW3⟩ hfr3;refine⟨_,jdp hD2,?_⟩;have hD3:=jin hD2 hfr3;clear hfr3;simp only[go_sem];refine ja8 ((i+1,X,L3),putF ec x,Qc) ?_ (SubR.refl _) rfl (by show xs.length-(i+1)<xs.length-i;omega) ⟨hi1,hW3,hGc.put,hD3,fun _=>rfl⟩;simp only[h1,Int.natCast_add,go_sem]
    ·simp only[hr,qb]at kA;have hG2:=hGc.more ha hr hq2;simp only[hd,hwn,dl,hkl,hi0,hi1,zq,go_sem];refine ja9 kA (by decide) rfl hWc.blk (jg4 hDc) ?_;rintro _ L2 ⟨rfl,hW2⟩ hfr2;refine⟨_,jdp hDc,?_⟩;have hD2:=jin hDc hfr2;clear hfr2;have b2:=hW2.blk;have kD:=CtrH.pr (u_do hW2 x (jkp hGc.right) (hG2.ask (by omega)) (do_ok hG2 (by omega)));simp only[Stp.cl,Move.c,Cert.c,Recall.c,Purity.c,List.cons_append,List.nil_append]at kD;by_cases hn0:Qc.length=0
     ·have hnil:Qc=[]:=zB hn0;have hz:sl0 X 31 1 Qc.length= .emp:=by rw[hn0];rfl
      have hrow:rowX X (Qc.map qC) L2=L2:=by rw[hnil];rfl
      have hn0':(Qc.length:Int)=0:=by omega
      rw[hrow];simp only[hz,hn0',go_sem];refine And.intro (fun c hc=>by rw[zm.1 hc];rfl) ?_;refine jcq (fun Y lY=> ?_);have hD3:Dj Y ((Qc++[a]).map qC) L2:=fun _=>lY;have hrw:rowX Y ((Qc++[a]).map qC) L2=(hp Y,1,[qC a])::L2:=by rw[hnil];rfl
      have hsb:=jg4 hD3;have hbh:=fun L3=>jdp (L':=L3) hD3;rw[hrw]at hsb;simp only[hrw]at hbh;simp only[hkl,hi0,hi1,zq,za,hx,List.cons_append,List.nil_append,go_sem];refine ja9 kD (by decide) rfl hW2.blk hsb ?_;rintro _ L3 ⟨rfl,hW3⟩ hfr3;refine⟨_,hbh L3,?_⟩;have hD4:=jin hD3 (by rw[hrw];exact hfr3);clear hfr3;have hs2:sl0 Y 31 1 (Qc++[a]).length= .ref Y 31 1 1:=by rw[hnil];rfl
      simp only[go_sem];refine ja8 ((i+1,Y,L3),putF ec x,Qc++[a]) ?_ (SubR.refl _) rfl (by show xs.length-(i+1)<xs.length-i;omega) ⟨hi1,hW3,hG2.put,hD4,fun h=>absurd h (by dsimp only;omega)⟩;simp only[h1,hs2,Int.natCast_add,go_sem]
     ·have hz:=jab (b:=X) (e:=31) (s:=1) hn0;have hne:Qc.map qC≠[]:=fun h=>hn0 (by rw[zX.1 h];rfl);have hrow:rowX X (Qc.map qC) L2=(hp X,1,Qc.map qC)::L2:=zu hne;have dn:decide ((Qc.length:Int)=Qc.length)=true:=ze rfl;have hfil:List.filter (fun p=>p.1 !=hp X) L2=L2:=jd5 (hD2 hne);have htk:List.take Qc.length (Qc.map qC)=Qc.map qC:=zr (by rw[zq];exact zn _);rw[hrow];simp only[hz,dn,htk,zq,go_sem];refine And.intro (fun c hc=>by rw[zm.1 hc];rfl) (And.intro (zn _) (And.intro (by omega) ?_));refine jdn (fun Y hY=> ?_);have lY:Abs.look L2 (hp Y)=none:=by
       simp only[Abs.del,qR,ji,qf,z8,hfil]at hY;exact hY
      clear hY;have hD3:Dj Y ((Qc++[a]).map qC) L2:=fun _=>lY;have hrw:rowX Y ((Qc++[a]).map qC) L2=(hp Y,1,Qc.map qC++[qC a])::L2:=by rw[ql];exact zu (by simp)
      have hsb:=jg4 hD3;have hbh:=fun L3=>jdp (L':=L3) hD3;rw[hrw]at hsb;simp only[hrw]at hbh;simp only[hfil,hkl,hi0,hi1,zq,za,hx,List.cons_append,List.nil_append,go_sem];refine ja9 kD (by decide) rfl hW2.blk hsb ?_;rintro _ L3 ⟨rfl,hW3⟩ hfr3;refine⟨_,hbh L3,?_⟩;have hD4:=jin hD3 (by rw[hrw];exact hfr3);clear hfr3;have hs2:sl0 Y 31 1 (Qc++[a]).length= .ref Y 31 1 (Qc.length+1):=by rw[zF,List.length_singleton];exact jab (qk _)
      simp only[go_sem];refine ja8 ((i+1,Y,L3),putF ec x,Qc++[a]) ?_ (SubR.refl _) rfl (by show xs.length-(i+1)<xs.length-i;omega) ⟨hi1,hW3,hG2.put,hD4,fun h=>absurd h (by dsimp only;omega)⟩;simp only[h1,hs2,Int.natCast_add,go_sem]
   ·have dl:decide ((i:Int)=(xs.length:Int)-1)=false:=zw hlast;have kD:=CtrH.pr (u_do hWc x (jkp hGc.right) (hGc.ask (by omega)) (do_ok hGc (by omega)));simp only[Stp.cl,Move.c,Cert.c,Recall.c,Purity.c,List.cons_append,List.nil_append]at kD;simp only[hd,hwn,dl,hkl,hi0,hi1,zq,za,hx,List.cons_append,List.nil_append,go_sem];refine ja9 kD (by decide) rfl hWc.blk (jg4 hDc) ?_;rintro _ L3 ⟨rfl,hW3⟩ hfr3;refine⟨_,jdp hDc,?_⟩;have hD3:=jin hDc hfr3;clear hfr3;simp only[go_sem];refine ja8 ((i+1,X,L3),putF ec x,Qc) ?_ (SubR.refl _) rfl (by show xs.length-(i+1)<xs.length-i;omega) ⟨hi1,hW3,hGc.put,hD3,fun _=>rfl⟩;simp only[h1,Int.natCast_add,go_sem]
  ·have hd:decide ((i:Int)<xs.length)=false:=zw hkl;simp only[hd,zq,go_sem];have hi2:i=xs.length:=by omega
   refine hN X L ec Qc _ ⟨hWc,?_,hDc⟩ (jfe [2,3,9,10,12] ?_ (SubR.refl _) rfl)
   ·have:∀m,m+i=2->Good ec Qc 2:=fun m hm=>by
     have g:∀m,Good ec Qc (i+m):=fun m=>by
      induction m with
      | zero=>exact hGc
      | succ m ih=>exact ih.up
     have:=g m
     rwa [show i+m=2 by omega]at this
    exact this (2-i) (by omega)
   ·simp only[go_sem];rfl
