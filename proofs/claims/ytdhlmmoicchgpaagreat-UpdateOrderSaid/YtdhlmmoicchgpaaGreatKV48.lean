/- A part of the proof. No further condition. -/
import Derived.Test.YtdhlmmoicchgpaaGreatKV46
set_option linter.all false
set_option maxRecDepth 10000000
set_option maxHeartbeats 16000000
namespace Go.Proofs.YtdhlmmoicchgpaaGreat
section
open Go.Abs
attribute [local go_sem] Evid.iv Evid.c ints ic
theorem CtrH.argE{P:Program}{f:FuncId}{args args':List AV}{L:Abs.Rows}{φ:AV->Abs.Rows->Prop}(h:CtrH P f args L φ)(ha:args'.map AVe=args):CtrH P f args' L φ:=by
 subst ha;intro w M vs h1 h2 h3 h4;refine h w M vs h1 h2 (by rw[zq];exact h3) (fun i av v hi hv=> ?_);rw[za]at hi;obtain⟨x,hx,rfl⟩:=zS.1 hi;have hr:=h4 i x v hx hv;cases x with
 | im y=>exact jk6 hr
 | _=>exact hr
section
variable{L:Abs.Rows}{Q n:Nat}{es:List (List IV)}
theorem joa(hb:blks L)(h0:es.length≠0)(hm:es.length<=100000)(hl:∀c∈es,c.length=1)(hQ:Abs.look L (hp Q)=some (1,es)):
  CtrH G.P 49 [.im (.ref Q 31 1 es.length)] L (fun r L'=>∃X,r= .im (.ref X 31 1 es.length)/\L'=(hp X,1,es)::L/\Abs.look L (hp X)=none):=by
 have F1:=bF hb;have K1:=bK hb;have G1:=bN hb;have ht:es.take es.length=es:=zu (zn _);refine jag [7] [] [.tmp 2] Tryz.func49 ?_;simp only[hQ,ht,zn,F1,K1,G1,go_sem];refine And.intro hl (And.intro (by omega) (And.intro (fun h=>h0 (by rw[h];rfl)) (jc2 (fun X hX=> ?_))));simp only[F1,K1,G1,go_sem];refine lay ((hp X,1,es)::L) (fun M hM=> ?_);have bM:blks M:=hM▸jac hb;refine jao M bM (SubR.of_eq hM.symm) ?_;simp only[go_sem];exact⟨X,rfl,hM.symm,hX⟩
theorem u_cloneBr(hb:blks L)(h0:es.length≠0)(hm:es.length<=100000)(hl:∀c∈es,c.length=10)(hQ:Abs.look L (hp Q)=some (10,es)):
  CtrH G.P 50 [.im (.ref Q 73 10 es.length)] L (fun r L'=>∃X,r= .im (.ref X 73 10 es.length)/\L'=(hp X,10,es)::L/\Abs.look L (hp X)=none):=by
 have F1:=bF hb;have K1:=bK hb;have G1:=bN hb;have ht:es.take es.length=es:=zu (zn _);refine jag [7] [] [.tmp 2] Tryz.func50 ?_;simp only[hQ,ht,zn,F1,K1,G1,go_sem];refine And.intro hl (And.intro (by omega) (And.intro (fun h=>h0 (by rw[h];rfl)) (jc2 (fun X hX=> ?_))));simp only[F1,K1,G1,go_sem];refine lay ((hp X,10,es)::L) (fun M hM=> ?_);have bM:blks M:=hM▸jac hb;refine jao M bM (SubR.of_eq hM.symm) ?_;simp only[go_sem];exact⟨X,rfl,hM.symm,hX⟩
theorem jkg:CtrH G.P 49 [.im .emp] [] (fun r L'=>r= .im .emp/\L'=[]):=by
 refine CtrH.argE (args:=[.im (.sl [])]) ?_ rfl;refine jjj (xs:=[.sl []]) (t:=2) good Tryz.func49 rfl (by decide+kernel) (by decide) rfl ?_;refine SemC.seq ?_;refine SemC.awp good (by decide+kernel) ?_;simp only[go_sem];refine SemC.seq ?_;refine SemC.awp good (by decide+kernel) ?_;simp only[go_sem];refine jd6 (fun h=> ?_) ?_
 ·simp only[go_sem]
 ·simp only[go_sem];refine SemC.seq ?_;refine SemC.list good (by decide+kernel) ?_;refine⟨rfl,.inl ?_⟩;simp only[go_sem];refine⟨rfl,.inl ?_⟩;simp only[go_sem];refine⟨rfl,.inr (jfz (e:=31) rfl rfl rfl (by decide) (by decide) (by decide) ?_)⟩;refine⟨rfl,.inl ?_⟩;simp only[go_sem];refine SemC.awp good (by decide+kernel) ?_;simp only[go_sem]
theorem joc:CtrH G.P 50 [.im .emp] [] (fun r L'=>r= .im .emp/\L'=[]):=by
 refine CtrH.argE (args:=[.im (.sl [])]) ?_ rfl;refine jjj (xs:=[.sl []]) (t:=2) good Tryz.func50 rfl (by decide+kernel) (by decide) rfl ?_;refine SemC.seq ?_;refine SemC.awp good (by decide+kernel) ?_;simp only[go_sem];refine SemC.seq ?_;refine SemC.awp good (by decide+kernel) ?_;simp only[go_sem];refine jd6 (fun h=> ?_) ?_
 ·simp only[go_sem]
 ·simp only[go_sem];refine SemC.seq ?_;refine SemC.list good (by decide+kernel) ?_;refine⟨rfl,.inl ?_⟩;simp only[go_sem];refine⟨rfl,.inl ?_⟩;simp only[go_sem];refine⟨rfl,.inr (jfz (e:=73) rfl rfl rfl (by decide) (by decide) (by decide) ?_)⟩;refine⟨rfl,.inl ?_⟩;simp only[go_sem];refine SemC.awp good (by decide+kernel) ?_;simp only[go_sem]
theorem job:Ctr G.P 50 [.sl []] (· = .sl []):=by
 refine CtrV.ctr (e:=73) (s:=10) ?_;refine ji0 good _ _ [.tmp 2] Tryz.func50 rfl rfl (by decide+kernel) rfl ?_;simp only[go_sem];refine jd6 (fun h=> ?_) ?_
 ·simp only[go_sem]
 ·simp only[go_sem];exact And.intro (fun c hc=>(by cases hc)) (fun c hc=>(by cases hc))
end
end
section
open Go.Abs
attribute [local go_sem] Evid.iv Evid.c ints ic
def Dis(L1 L:Abs.Rows):Prop:=∀k,(Abs.look L1 k).isSome->Abs.look L k=none
section
variable{L:Abs.Rows}{A Q B:Nat}{e:Evid}{qs:List (List (Int×Int))}{f:List (Int×Int)->List IV}{p:Bool}
theorem Dis.one{k:Nat}{v:Nat×List (List IV)}{L1 L:Abs.Rows}(h:Abs.look L k=none)(hd:Dis L1 L):Dis ((k,v)::L1) L:=fun j hj=>by
 by_cases e:j=k
 ·subst e;exact h
 ·rw[ja0 _ _ e]at hj;exact hd j hj
theorem Dis.nil{L:Abs.Rows}:Dis [] L:=fun j hj=>by cases hj
theorem cp_has{V X Y:Nat}(h1:X≠V)(h2:Y≠V)(h3:X≠Y)(hn:qs.length≠0):HasR [(hp V,11,[e.c++[.ref X 31 1 qs.length,.ref Y 73 10 qs.length,.bool true]]),(hp X,1,qs.map qC),(hp Y,10,qs.map f)] V X Y 0 e true qs f []:=
 ⟨jac (jac (jac jak)),by rw[ja1,jab hn];unfold bV;rw[zm rfl,jab hn],fun _=>by rw[ja0 _ _ (hpn h1),ja1],fun _ _=>by rw[ja0 _ _ (hpn h2),ja0 _ _ (hpn (zG h3)),ja1],fun h=>absurd rfl h⟩
theorem u_copy_c(hE:FitE e)(h0:qs.length≠0)(hl:qs.length<=100000)(hf:∀q,BCell (f q))(hb:blks L)(c0:Abs.look L (hp A)=some (11,[e.c++[.ref Q 31 1 qs.length,.ref B 73 10 qs.length,.bool true]]))(hQ:Abs.look L (hp Q)=some (1,qs.map qC))(hB:Abs.look L (hp B)=some (10,qs.map f)):
  CtrH G.P 23 [.loc (hp A) 11 0 0] L (fun r L'=>∃V,r= .im (.pr V 11 0 0)/\∃L1,L'=L1++L/\Dis L1 L/\∃Q B,HasR L1 V Q B 0 e true qs f []):=by
 have hcl:∀c∈qs.map qC,c.length=1:=fun c hc=>by
  obtain⟨q,_,rfl⟩:=zU.1 hc;rfl
 have hfl:∀c∈qs.map f,c.length=10:=fun c hc=>by
  obtain⟨q,_,rfl⟩:=zU.1 hc;exact(hf q).len
 have kO:=u_own e hE;have kQ:=joa (L:=L) (Q:=Q) (es:=qs.map qC) hb (by rw[zq];exact h0) (by rw[zq];exact hl) hcl hQ;have kB:=u_cloneBr (L:=L) (Q:=B) (es:=qs.map f) hb (by rw[zq];exact h0) (by rw[zq];exact hl) hfl hB;rw[zq]at kQ kB;have F1:=bF hb;have K1:=bK hb;have G1:=bN hb;simp only[Evid.c,List.cons_append,List.nil_append]at c0;refine jji (goodH [23] []) _ _ [.tmp 2] Tryz.func23 rfl rfl (by decide+kernel) rfl ?_;simp only[F1,K1,G1,go_sem];refine jci [false,false,false,false,false,false,false,false,false,true,false,false,false,false,true,false,false,false,false] (.alt 9 (.alt 14 .fin .none) (.alt 14 (.alt 9 .fin .none) .none)) [(hp A,11,[e.c++[.ref Q 31 1 qs.length,.ref B 73 10 qs.length,.bool true]])] (by decide+kernel) (jbg (by simp only[c0,go_sem]) jad) ?_;simp only[c0,F1,K1,G1,go_sem];refine ja4 kO (by decide) ?_;simp only[c0,F1,K1,G1,go_sem];refine And.intro ?_ ?_
 ·as_aux_lemma=>
  refine jb8 kQ (by decide) rfl hb (SubR.refl L) ?_;rintro _ L0 ⟨X,rfl,rfl,hX⟩-;refine⟨_,jap,And.intro (jbg ((ja0 _ _ (fun e=>by rw[<-e,c0]at hX;cases hX)).trans c0) jad) ?_⟩;simp only[F1,K1,G1,go_sem];refine jb8 kB (by decide) rfl hb (fun k x hk=>(ja0 _ _ (fun e=>by rw[e,hX]at hk;cases hk)).trans hk) ?_;rintro _ L0 ⟨Y,rfl,rfl,hY⟩ hfr;have hXY:X≠Y:=fun e=>by
   subst e;have:=(hfr (hp X) (by rw[ja1];rfl)).resolve_left (by rw[hX];exact qo);rw[ja1]at this;cases this
  clear hfr;refine⟨_,jb3 [_] (fun p hp=>by rw[zp.1 hp];exact hX),And.intro (jbg ((ja0 _ _ (fun e=>by rw[<-e,c0]at hX;cases hX)).trans ((ja0 _ _ (fun e=>by rw[<-e,c0]at hY;cases hY)).trans c0)) jad) ?_⟩;simp only[F1,K1,G1,go_sem];refine jc2 (fun V hV=> ?_);have hV2:Abs.look ((hp X,1,qs.map qC)::(hp Y,10,qs.map f)::L) (hp V)=none:=hV;clear hV;have hXV:X≠V:=fun e=>by subst e;first | (rw[ja1]at hV2;cases hV2) | (rw[ja0 _ _ (hpn hXY),ja1]at hV2;cases hV2)
  have hYV:Y≠V:=fun e=>by subst e;first | (rw[ja1]at hV2;cases hV2) | (rw[ja0 _ _ (hpn (zG hXY)),ja1]at hV2;cases hV2)
  first | rw[ja0 _ _ (hpn (zG hXV)),ja0 _ _ (hpn (zG hYV))]at hV2 | rw[ja0 _ _ (hpn (zG hYV)),ja0 _ _ (hpn (zG hXV))]at hV2
  simp only[F1,K1,G1,go_sem];refine lay ([(hp V,11,[e.c++[.ref X 31 1 qs.length,.ref Y 73 10 qs.length,.bool true]]),(hp X,1,qs.map qC),(hp Y,10,qs.map f)]) (fun M hM=> ?_);have hH:HasR M V X Y 0 e true qs f []:=hM▸cp_has hXV hYV hXY h0;have hD:Dis M L:=hM▸ .one hV2 (.one hX (.one hY .nil));refine jfl (M++L) (jfp hH.blk hb) ?_ ?_
  ·subst hM;exact SubR.refl _
  simp only[go_sem];exact⟨V,rfl,M,rfl,hD,X,Y,hH⟩
 ·as_aux_lemma=>
  refine jb8 kB (by decide) rfl hb (SubR.refl L) ?_;rintro _ L0 ⟨Y,rfl,rfl,hY⟩-;refine⟨_,jap,And.intro (jbg ((ja0 _ _ (fun e=>by rw[<-e,c0]at hY;cases hY)).trans c0) jad) ?_⟩;simp only[F1,K1,G1,go_sem];refine jb8 kQ (by decide) rfl hb (fun k x hk=>(ja0 _ _ (fun e=>by rw[e,hY]at hk;cases hk)).trans hk) ?_;rintro _ L0 ⟨X,rfl,rfl,hX⟩ hfr;have hXY:X≠Y:=fun e=>by
   subst e;have:=(hfr (hp X) (by rw[ja1];rfl)).resolve_left (by rw[hX];exact qo);rw[ja1]at this;cases this
  clear hfr;refine⟨_,jb3 [_] (fun p hp=>by rw[zp.1 hp];exact hY),And.intro (jbg ((ja0 _ _ (fun e=>by rw[<-e,c0]at hY;cases hY)).trans ((ja0 _ _ (fun e=>by rw[<-e,c0]at hX;cases hX)).trans c0)) jad) ?_⟩;simp only[F1,K1,G1,go_sem];refine jc2 (fun V hV=> ?_);have hV2:Abs.look ((hp Y,10,qs.map f)::(hp X,1,qs.map qC)::L) (hp V)=none:=hV;clear hV;have hXV:X≠V:=fun e=>by subst e;first | (rw[ja1]at hV2;cases hV2) | (rw[ja0 _ _ (hpn hXY),ja1]at hV2;cases hV2)
  have hYV:Y≠V:=fun e=>by subst e;first | (rw[ja1]at hV2;cases hV2) | (rw[ja0 _ _ (hpn (zG hXY)),ja1]at hV2;cases hV2)
  first | rw[ja0 _ _ (hpn (zG hXV)),ja0 _ _ (hpn (zG hYV))]at hV2 | rw[ja0 _ _ (hpn (zG hYV)),ja0 _ _ (hpn (zG hXV))]at hV2
  simp only[F1,K1,G1,go_sem];refine lay ([(hp V,11,[e.c++[.ref X 31 1 qs.length,.ref Y 73 10 qs.length,.bool true]]),(hp X,1,qs.map qC),(hp Y,10,qs.map f)]) (fun M hM=> ?_);have hH:HasR M V X Y 0 e true qs f []:=hM▸cp_has hXV hYV hXY h0;have hD:Dis M L:=hM▸ .one hV2 (.one hX (.one hY .nil));refine jfl (M++L) (jfp hH.blk hb) ?_ ?_
  ·subst hM;exact jau _ (jds (hpn (zG hXY)))
  simp only[go_sem];exact⟨V,rfl,M,rfl,hD,X,Y,hH⟩
