/- A part of the proof. No further condition. -/
import Derived.Test.YtdhlmmoicchgpaaGreatKV48
set_option linter.all false
set_option maxRecDepth 10000000
set_option maxHeartbeats 16000000
namespace Go.Proofs.YtdhlmmoicchgpaaGreat
section
open Go.Abs
attribute [local go_sem] Evid.iv Evid.c ints ic
section
variable{L:Abs.Rows}{A Q B:Nat}{e:Evid}{qs:List (List (Int×Int))}{f:List (Int×Int)->List IV}{p:Bool}
theorem jq8{V:Nat}(p:Bool):HasR [(hp V,11,[e.c++[.emp,bV 0 p 0,.bool p]])] V 0 0 0 e p [] f []:=
 ⟨jac jak,ja1 _ _ _,fun h=>absurd rfl h,fun _ h=>absurd rfl h,fun h=>absurd rfl h⟩
theorem cp_has1{V X:Nat}(h1:X≠V)(hn:qs.length≠0):HasR [(hp V,11,[e.c++[.ref X 31 1 qs.length,.sl [],.bool false]]),(hp X,1,qs.map qC)] V X 0 0 e false qs f []:=
 ⟨jac (jac jak),by rw[ja1,jab hn];rfl,fun _=>by rw[ja0 _ _ (hpn h1),ja1],(fun h=>by cases h),fun h=>absurd rfl h⟩
theorem u_copy_a1(hE:FitE e)(hb:blks L)(c0:Abs.look L (hp A)=some (11,[e.c++[.emp,.emp,.bool true]])):
  CtrH G.P 23 [.loc (hp A) 11 0 0] L (fun r L'=>∃V,r= .im (.pr V 11 0 0)/\∃L1,L'=L1++L/\Dis L1 L/\∃Q B,HasR L1 V Q B 0 e true [] f []):=by
 have kO:=u_own e hE;have F1:=bF hb;have K1:=bK hb;have G1:=bN hb;simp only[Evid.c,List.cons_append,List.nil_append]at c0;refine jji (goodH [23] []) _ _ [.tmp 2] Tryz.func23 rfl rfl (by decide+kernel) rfl ?_;simp only[F1,K1,G1,go_sem];refine jci [false,false,false,false,false,false,false,false,false,true,false,false,false,false,true,false,false,false,false] (.alt 9 (.alt 14 .fin .none) (.alt 14 (.alt 9 .fin .none) .none)) [(hp A,11,[e.c++[.emp,.emp,.bool true]])] (by decide+kernel) (jbg (by simp only[c0,go_sem]) jad) ?_;simp only[c0,F1,K1,G1,go_sem];refine ja4 kO (by decide) ?_;simp only[c0,F1,K1,G1,go_sem];refine And.intro ?_ ?_
 ·as_aux_lemma=>
  refine jb8 jkg (by decide) rfl jak jad ?_;rintro _ L0 ⟨rfl,rfl⟩-;refine⟨_,jbh,And.intro (jbg (by simp only[c0,go_sem]) jad) ?_⟩;simp only[F1,K1,G1,go_sem];refine jb8 joc (by decide) rfl jak jad ?_;rintro _ L0 ⟨rfl,rfl⟩-;refine⟨_,jbh,And.intro (jbg (by simp only[c0,go_sem]) jad) ?_⟩;simp only[F1,K1,G1,go_sem];refine jc2 (fun V hV=> ?_);have hV2:Abs.look L (hp V)=none:=hV;clear hV;simp only[F1,K1,G1,go_sem];refine lay ([(hp V,11,[e.c++[.emp,.emp,.bool true]])]) (fun M hM=> ?_);have hH:HasR M V 0 0 0 e true [] f []:=hM▸jq8 true;have hD:Dis M L:=hM▸ .one hV2 .nil;refine jfl (M++L) (jfp hH.blk hb) ?_ ?_
  ·subst hM;exact SubR.refl _
  simp only[go_sem];exact⟨V,rfl,M,rfl,hD,0,0,hH⟩
 ·as_aux_lemma=>
  refine jb8 joc (by decide) rfl jak jad ?_;rintro _ L0 ⟨rfl,rfl⟩-;refine⟨_,jbh,And.intro (jbg (by simp only[c0,go_sem]) jad) ?_⟩;simp only[F1,K1,G1,go_sem];refine jb8 jkg (by decide) rfl jak jad ?_;rintro _ L0 ⟨rfl,rfl⟩-;refine⟨_,jbh,And.intro (jbg (by simp only[c0,go_sem]) jad) ?_⟩;simp only[F1,K1,G1,go_sem];refine jc2 (fun V hV=> ?_);have hV2:Abs.look L (hp V)=none:=hV;clear hV;simp only[F1,K1,G1,go_sem];refine lay ([(hp V,11,[e.c++[.emp,.emp,.bool true]])]) (fun M hM=> ?_);have hH:HasR M V 0 0 0 e true [] f []:=hM▸jq8 true;have hD:Dis M L:=hM▸ .one hV2 .nil;refine jfl (M++L) (jfp hH.blk hb) ?_ ?_
  ·subst hM;exact SubR.refl _
  simp only[go_sem];exact⟨V,rfl,M,rfl,hD,0,0,hH⟩
theorem u_copy_a2(hE:FitE e)(hb:blks L)(c0:Abs.look L (hp A)=some (11,[e.c++[.emp,.sl [],.bool false]])):
  CtrH G.P 23 [.loc (hp A) 11 0 0] L (fun r L'=>∃V,r= .im (.pr V 11 0 0)/\∃L1,L'=L1++L/\Dis L1 L/\∃Q B,HasR L1 V Q B 0 e false [] f []):=by
 have kO:=u_own e hE;have F1:=bF hb;have K1:=bK hb;have G1:=bN hb;simp only[Evid.c,List.cons_append,List.nil_append]at c0;refine jji (goodH [23] []) _ _ [.tmp 2] Tryz.func23 rfl rfl (by decide+kernel) rfl ?_;simp only[F1,K1,G1,go_sem];refine jci [false,false,false,false,false,false,false,false,false,true,false,false,false,false,false,false,false,false,false] (.alt 9 .fin .none) [(hp A,11,[e.c++[.emp,.sl [],.bool false]])] (by decide+kernel) (jbg (by simp only[c0,go_sem]) jad) ?_;simp only[c0,F1,K1,G1,go_sem];refine ja4 kO (by decide) ?_;simp only[c0,F1,K1,G1,go_sem];refine ja4 job (by decide) ?_;simp only[c0,F1,K1,G1,go_sem];refine jb8 jkg (by decide) rfl jak jad ?_;rintro _ L0 ⟨rfl,rfl⟩-;refine⟨_,jbh,And.intro (jbg (by simp only[c0,go_sem]) jad) ?_⟩;simp only[F1,K1,G1,go_sem];refine jc2 (fun V hV=> ?_);have hV2:Abs.look L (hp V)=none:=hV;clear hV;simp only[F1,K1,G1,go_sem];refine lay ([(hp V,11,[e.c++[.emp,.sl [],.bool false]])]) (fun M hM=> ?_);have hH:HasR M V 0 0 0 e false [] f []:=hM▸jq8 false;have hD:Dis M L:=hM▸ .one hV2 .nil;refine jfl (M++L) (jfp hH.blk hb) ?_ ?_
 ·subst hM;exact SubR.refl _
 simp only[go_sem];exact⟨V,rfl,M,rfl,hD,0,0,hH⟩
theorem u_copy_b(hE:FitE e)(h0:qs.length≠0)(hl:qs.length<=100000)(hb:blks L)(c0:Abs.look L (hp A)=some (11,[e.c++[.ref Q 31 1 qs.length,.sl [],.bool false]]))(hQ:Abs.look L (hp Q)=some (1,qs.map qC)):
  CtrH G.P 23 [.loc (hp A) 11 0 0] L (fun r L'=>∃V,r= .im (.pr V 11 0 0)/\∃L1,L'=L1++L/\Dis L1 L/\∃Q B,HasR L1 V Q B 0 e false qs f []):=by
 have hcl:∀c∈qs.map qC,c.length=1:=fun c hc=>by
  obtain⟨q,_,rfl⟩:=zU.1 hc;rfl
 have kO:=u_own e hE;have kQ:=joa (L:=L) (Q:=Q) (es:=qs.map qC) hb (by rw[zq];exact h0) (by rw[zq];exact hl) hcl hQ;rw[zq]at kQ;have F1:=bF hb;have K1:=bK hb;have G1:=bN hb;simp only[Evid.c,List.cons_append,List.nil_append]at c0;refine jji (goodH [23] []) _ _ [.tmp 2] Tryz.func23 rfl rfl (by decide+kernel) rfl ?_;simp only[F1,K1,G1,go_sem];refine jci [false,false,false,false,false,false,false,false,false,true,false,false,false,false,false,false,false,false,false] (.alt 9 .fin .none) [(hp A,11,[e.c++[.ref Q 31 1 qs.length,.sl [],.bool false]])] (by decide+kernel) (jbg (by simp only[c0,go_sem]) jad) ?_;simp only[c0,F1,K1,G1,go_sem];refine ja4 kO (by decide) ?_;simp only[c0,F1,K1,G1,go_sem];refine ja4 job (by decide) ?_;simp only[c0,F1,K1,G1,go_sem];refine jb8 kQ (by decide) rfl hb (SubR.refl L) ?_;rintro _ L0 ⟨X,rfl,rfl,hX⟩-;refine⟨_,jap,And.intro (jbg ((ja0 _ _ (fun e=>by rw[<-e,c0]at hX;cases hX)).trans c0) jad) ?_⟩;simp only[F1,K1,G1,go_sem];refine jc2 (fun V hV=> ?_);have hV2:Abs.look ((hp X,1,qs.map qC)::L) (hp V)=none:=hV;clear hV;have hXV:X≠V:=fun e=>by subst e;rw[ja1]at hV2;cases hV2
 rw[ja0 _ _ (hpn (zG hXV))]at hV2;simp only[F1,K1,G1,go_sem];refine lay ([(hp V,11,[e.c++[.ref X 31 1 qs.length,.sl [],.bool false]]),(hp X,1,qs.map qC)]) (fun M hM=> ?_);have hH:HasR M V X 0 0 e false qs f []:=hM▸cp_has1 hXV h0;have hD:Dis M L:=hM▸ .one hV2 (.one hX .nil);refine jfl (M++L) (jfp hH.blk hb) ?_ ?_
 ·subst hM;exact SubR.refl _
 simp only[go_sem];exact⟨V,rfl,M,rfl,hD,X,0,hH⟩
theorem u_copy(h:HasW L A e qs)(hE:FitE e)(hl:qs.length<=100000):
  CtrH G.P 23 [.loc (hp A) 11 0 0] L (fun r L'=>∃V,r= .im (.pr V 11 0 0)/\∃L1,L'=L1++L/\Dis L1 L/\HasW L1 V e qs):=by
 obtain⟨Q,B,hR⟩:=h;have hb:=hR.blk;have hrow:=hR.row;have hQ:=hR.qst;have hB:=hR.bnd;clear hR;unfold HasW;by_cases h0:qs.length=0
 ·obtain rfl:=zF h0;rcases hps:posF e with _ | _
  ·rw[hps]at hrow;exact u_copy_a2 hE hb hrow
  ·rw[hps]at hrow;exact u_copy_a1 hE hb hrow
 ·rw[jab h0]at hrow;have hne:qs.map qC≠[]:=fun h=>h0 (by rw[qd.1 h];rfl);have hne2:qs.map (fB e)≠[]:=fun h=>h0 (by rw[qd.1 h];rfl);rcases hps:posF e with _ | _
  ·rw[hps]at hrow;exact u_copy_b hE h0 hl hb hrow (hQ hne)
  ·rw[hps]at hrow;unfold bV at hrow;rw[zm rfl,jab h0]at hrow;exact u_copy_c hE h0 hl (jcw e) hb hrow (hQ hne) (hB hps hne2)
