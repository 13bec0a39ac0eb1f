/- A part of the proof. No further condition. -/
import Derived.Test.YtgncgpfjldefpaaGreatKR46
import Derived.ChangeArms
import Derived.DataReads
import Derived.Deep.Slices
import Derived.ProofKit
import Derived.Carry
set_option linter.all false
set_option maxRecDepth 10000000
set_option maxHeartbeats 16000000
namespace Go.Abs
section
section
variable{G:Ctx}{N:Nat}
theorem SemC.le{c:Code}{Q:Exit->St->Prop}{st S:St}(hl:St.Le st S)(h:SemC G N c Q S):SemC G N c Q st:=fun w0 M0 β a w hs=>
 let⟨β2,h2⟩:=hl N w0 M0 β a w hs;h w0 M0 β2 a w h2
def LeC(s S:St):Prop:=St.Le s S
theorem LeC_of{s S:St}(L:List Nat)(hf:L.map (fun t=>(t,s.get t))=S.fr)(hr:SubR S.rows s.rows)(ht:S.toks=[]):LeC s S:=(St.sub_of L hf hr ht).le
def isSeq:Nat->Code->Bool
 | 0,_=>true
 | k+1,.seq _ y=>isSeq k y
 | _+1,_=>false
theorem SemC.cuts(hG:G.Good){Q:Exit->St->Prop}(S:St):∀(k:Nat) {c:Code} {st:St},isSeq k c=true->dstB N c=true->Go.Abs.awp G (putN k c .skip) (fun e s=>match e with | .normal=>LeC s S | e=>Q e s) st->SemC G N (tailN k c) Q S->SemC G N c Q st
 | 0,c,st,_,_,h1,h2=>SemC.le h1 h2
 | k+1,.seq x y,st,hs,hd,h1,h2=>by
  simp only[dstB,zB]at hd;refine SemC.seq fun w0 M0 β a w hsim=> ?_;refine wp_mono (jhd hG x _ st β a w hd.1 h1 hsim) fun e a' w' hq=> ?_;obtain⟨β',st',hq,hs'⟩:=hq;refine⟨β',st',?_,hs'⟩;cases e with
  | normal=>exact SemC.cuts hG S k hs hd.2 hq h2
  | _=>exact hq
theorem ctrX_of(hG:G.Good){f:FuncId}{fn:Func}{c:Code}{xs:List IV}{t:Tmp}{x:IV}(hf:G.P.funcs[f]? =some fn)(hb:fn.body=some c)(hd:dstC fn.ntmps c=true)(hn:xs.length<=fn.ntmps)(hr:fn.results.toList=[.tmp t])
  (h:SemC G fn.ntmps c (fun e s=>match e with | .normal=>s.get t= .im x | .ret=>s.get t= .im x | _=>False) (jbg (xs.map .im) [])):Ctr G.P f xs (· =x):=by
 refine jgn (φ:=fun r L'=>r= .im x/\L'=[]) ?_ (fun r L' ⟨h1,h2⟩=>⟨x,[],h1,rfl⟩);obtain⟨hN,_⟩:=jle hd;intro w M vs hM hrows hlen hargs;rw[zh]at hlen;refine calls_of_wp hf hb ?_;have hMo:∀b o,Mo M pβ (jbg (xs.map .im) []) b o->MoH M [] b o:=by
  rintro b o (hm | ⟨d,s,es,hd,hb⟩ | ⟨d,s,n,hd,_⟩)
  ·exact .inl hm
  ·simp[jbg,look]at hd
  ·simp[jbg,look]at hd
 have hsim:Sim fn.ntmps (Base.exH w []) M pβ (jbg (xs.map .im) []) {tmps:=vs.toArray++Array.replicate (fn.ntmps-vs.toArray.size) undef,defers:=[]} w:=by
  refine⟨by simp;omega,rfl,Base.Fr.refl _,fun b o hm=>⟨hM b o hm,rfl⟩,fun t=> ?_,fun d s es hd=>by simp[jbg,look]at hd,fun d s n hd=>by simp[jbg,look]at hd,fun d d' b h1 h2 hb hb'=> ?_,fun d _=>rfl,fun k _ hk hr=>by simp[jbg,look]at hr,hN,pβ_hp⟩
  ·have hg:=jgk (xs.map .im) 0 t;rw[zn (zG _),Nat.sub_zero]at hg;have hg2:(jbg (xs.map .im) []).get t=(look (jgi 0 (xs.map .im)) t).getD .und:=rfl;rw[hg2,hg];cases hx:(xs.map AV.im)[t]? with
   | none=>trivial
   | some x=>
    have htl:t<vs.length:=by rw[hlen];have:=(zt.1 hx).1;simpa using this
    have hv:(vs.toArray++Array.replicate (fn.ntmps-vs.toArray.size) undef).getD t undef=vs[t]:=by
     simp[jc,htl]
    show RepA _ _ _ _ _ _;rw[hv];exact(hargs t x _ hx (ze htl)).move (Kept.less w hMo) (fun _ _=>rfl) (fun _ _ _ _ hl=>hl) (fun _ _ _ _ _=>rfl) (Shp.refl _)
  ·rw[pβ_of hb,pβ_of hb']
 refine wp_mono (h _ _ _ _ _ hsim) fun e a' w' hq=> ?_;obtain⟨β,st,hq,hs⟩:=hq;have hless:∀b o,MoH M [] b o->Mo M β st b o:=by
  rintro b o (hm | hm)
  ·exact .inl hm
  ·cases hm
 suffices hsuff:st.get t= .im x->a'.defers=[]/\∃v,(results fn a'.tmps).run G.P w'= .ok v w'/\∃r v2 L',(r=AV.im x/\L'=[])/\Ending.returned v= .returned v2/\r.toArg=r/\(Base.exH w []).Fr w'/\
   (∀k s es,look L' k=some (s,es)->∃b,k=hp b/\((look ([]:Rows) k).isSome\/w.heap.size<=b)/\RowRep w' (MoH M L') b s es)/\RepA w' (MoH M L') pβ [] r v2 by
  cases e with
  | normal=>obtain⟨h1,v,h2,h3⟩:=hsuff hq;exact⟨h1,v,h2,h3⟩
  | ret=>obtain⟨h1,v,h2,h3⟩:=hsuff hq;exact⟨h1,v,h2,h3⟩
  | _=>exact hq.elim
 intro hq;have hrun:(results fn a'.tmps).run G.P w'= .ok (a'.tmps.getD t undef) w':=by
  rw[je8,Sem.run_bind,qT,Sem.run_map,hr];rfl
 have hv:=hs.fr t;rw[hq]at hv;exact⟨hs.defers,_,hrun,_,_,[],⟨rfl,rfl⟩,rfl,rfl,hs.below,fun k s es hk=>(by cases hk),Rep.less hv hless⟩
end
end
end Go.Abs
namespace Go.Proofs.YtgncgpfjldefpaaGreat
section
open Go.Abs
open Go.LP (Rw RT tsum Sol Bds)
attribute [local go_sem] ints ic Evid.c Evid.iv Purity.c Recall.c Bat.c
def evZ(e:Evid):List IV:=e.c
theorem r_A(e:Evid)(h:List (List Raw))(b:Bat)(r:Recall)(y:Purity)(n f:Int)(r4:e.recalls.length<=1000){P:Exit->St->Prop}(hP:∀s,St.Le s ⟨[(1,.im (.sl (h.map rowC))),(5,.loc 5 8 0 0),(7,.loc 7 2 0 0),(9,.loc 9 4 0 0),(11,.im (.bool true)),(12,.im (.int n)),(13,.im (.int f)),(14,.loc 14 8 0 0)],[(14,8,[Evid.c {e with recalls:=e.recalls++[r]}]),(9,4,[y.c]),(8,2,[r.c]),(7,2,[b.c]),(5,8,[e.c])],[]⟩->P .normal s):
  awp (GH [51,54,79,82] []) (putN 1 (tailN 5 (jll Tryz.f6)) .skip) P ⟨[(1,.im (.sl (h.map rowC))),(5,.loc 5 8 0 0),(7,.loc 7 2 0 0),(8,.loc 8 2 0 0),(9,.loc 9 4 0 0),(11,.im (.bool true)),(12,.im (.int n)),(13,.im (.int f)),(14,.loc 14 8 0 0)],[(14,8,[e.c]),(9,4,[y.c]),(8,2,[r.c]),(7,2,[b.c]),(5,8,[e.c])],[]⟩:=by
 have hpb:∀q k:Nat,q<100000->(q !=hp k)=true:=fun q k hq=>by simp only[qq,ne_eq];exact hp_ne hq
 refine jqr rfl ?_;simp only[go_sem];rcases hpl:e.recalls.map Recall.c with _ | ⟨y0,yr⟩
 ·have hS:(e.recalls++[r]).map Recall.c=[r.c]:=by rw[qp,hpl];rfl
  refine jbo [false,false,false,true,false,false,true,false] [(8,2,[r.c]),(5,8,[evZ e])] (by decide+kernel) (ja5 (by simp only[go_sem]) (ja5 (by simp only[evZ,hpl,go_sem]) ja7)) ?_;simp only[hpl,evZ,go_sem];refine And.intro (ja5 (by simp only[go_sem]) (ja5 (by simp only[evZ,hpl,go_sem]) ja7)) (And.intro (fun c' hc'=>by rw[zC.1 hc'];rfl) ?_);refine je4 (fun X hX=> ?_);clear hX;refine And.intro (ja5 (by simp only[go_sem]) (ja5 (by simp only[evZ,hpl,go_sem]) ja7)) ?_;simp only[go_sem];refine hP _ (jk8 [X] [1,5,7,9,11,12,13,14] ?_ (SubR.of_eq ?_) rfl)
  ·simp only[hpb,hpl,hS,go_sem]
  ·simp only[hpb,hpl,hS,go_sem]
 ·have hS:(e.recalls++[r]).map Recall.c=y0::(yr++[r.c]):=by rw[qp,hpl];rfl
  have hlen:yr.length+1=e.recalls.length:=by rw[<-zh (f:=Recall.c),hpl];rfl
  have hy4:∀c'∈y0::yr,c'.length=2:=fun c' hc'=>by
   rw[<-hpl]at hc';obtain⟨z,_,rfl⟩:=qd.1 hc';rfl
  have htk:List.take yr.length yr=yr:=qC;have htk2:List.take (yr.length+1) (yr++[r.c])=yr++[r.c]:=zD (by rw[zF];exact zu _);have hle2:yr.length+1<=(yr++[r.c]).length:=by rw[zF];exact zu _
  simp only[Recall.c]at htk2 hle2 hS;refine jbo [false,false,false,true,false,false,true,false] [(8,2,[r.c]),(5,8,[evZ e])] (by decide+kernel) (ja5 (by simp only[go_sem]) (ja5 (by simp only[evZ,hpl,go_sem]) ja7)) ?_;simp only[hpl,evZ,go_sem];refine And.intro hy4 (And.intro (by omega) ?_);refine je4 (fun X hX=> ?_);clear hX;refine And.intro (ja5 (by simp only[go_sem]) (ja5 (by simp only[evZ,hpl,go_sem]) ja7)) ?_;simp only[htk,go_sem];refine And.intro (fun c' hc'=>by rw[zC.1 hc'];rfl) (And.intro (zu _) (And.intro (by omega) ?_));refine jdk (fun X' hX'=> ?_);clear hX';refine And.intro ?_ ?_
  ·simp only[hpb,go_sem];exact ja5 (by simp only[go_sem]) (ja5 (by simp only[evZ,hpl,go_sem]) ja7)
  simp only[hpb,go_sem];refine hP _ (jk8 [X'] [1,5,7,9,11,12,13,14] ?_ (SubR.of_eq ?_) rfl)
  ·simp only[hpb,hpl,hS,htk2,hle2,go_sem]
  ·simp only[hpb,hpl,hS,htk2,hle2,go_sem]
end
section
open Go.Abs
open Go.LP (Rw RT tsum Sol Bds)
attribute [local go_sem] ints ic Evid.c Evid.iv Purity.c Recall.c Bat.c
theorem r_B(e:Evid)(h:List (List Raw))(b:Bat)(r:Recall)(y:Purity)(n f:Int)(p4:e.purs.length<=1000){P:Exit->St->Prop}(hP:∀s,St.Le s ⟨[(1,.im (.sl (h.map rowC))),(5,.loc 5 8 0 0),(7,.loc 7 2 0 0),(11,.im (.bool true)),(12,.im (.int n)),(13,.im (.int f)),(17,.loc 17 8 0 0)],[(17,8,[Evid.c {e with purs:=e.purs++[y]}]),(14,8,[Evid.c {e with recalls:=e.recalls++[r]}]),(9,4,[y.c]),(8,2,[r.c]),(7,2,[b.c]),(5,8,[e.c])],[]⟩->P .normal s):
  awp (GH [51,54,79,82] []) (putN 1 (tailN 9 (jll Tryz.f6)) .skip) P ⟨[(1,.im (.sl (h.map rowC))),(5,.loc 5 8 0 0),(7,.loc 7 2 0 0),(9,.loc 9 4 0 0),(11,.im (.bool true)),(12,.im (.int n)),(13,.im (.int f)),(17,.loc 17 8 0 0)],[(17,8,[e.c]),(14,8,[Evid.c {e with recalls:=e.recalls++[r]}]),(9,4,[y.c]),(8,2,[r.c]),(7,2,[b.c]),(5,8,[e.c])],[]⟩:=by
 have hpb:∀q k:Nat,q<100000->(q !=hp k)=true:=fun q k hq=>by simp only[qq,ne_eq];exact hp_ne hq
 refine jqr rfl ?_;simp only[go_sem];rcases hpl:e.purs.map Purity.c with _ | ⟨y0,yr⟩
 ·have hS:(e.purs++[y]).map Purity.c=[y.c]:=by rw[qp,hpl];rfl
  refine jbo [false,false,false,true,false,false,true,false] [(9,4,[y.c]),(5,8,[evZ e])] (by decide+kernel) (ja5 (by simp only[go_sem]) (ja5 (by simp only[evZ,hpl,go_sem]) ja7)) ?_;simp only[hpl,evZ,go_sem];refine And.intro (ja5 (by simp only[go_sem]) (ja5 (by simp only[evZ,hpl,go_sem]) ja7)) (And.intro (fun c' hc'=>by rw[zC.1 hc'];rfl) ?_);refine je4 (fun X hX=> ?_);clear hX;refine And.intro (ja5 (by simp only[go_sem]) (ja5 (by simp only[evZ,hpl,go_sem]) ja7)) ?_;simp only[go_sem];refine hP _ (jk8 [X] [1,5,7,11,12,13,17] ?_ (SubR.of_eq ?_) rfl)
  ·simp only[hpb,hpl,hS,go_sem]
  ·simp only[hpb,hpl,hS,go_sem]
 ·have hS:(e.purs++[y]).map Purity.c=y0::(yr++[y.c]):=by rw[qp,hpl];rfl
  have hlen:yr.length+1=e.purs.length:=by rw[<-zh (f:=Purity.c),hpl];rfl
  have hy4:∀c'∈y0::yr,c'.length=4:=fun c' hc'=>by
   rw[<-hpl]at hc';obtain⟨z,_,rfl⟩:=qd.1 hc';rfl
  have htk:List.take yr.length yr=yr:=qC;have htk2:List.take (yr.length+1) (yr++[y.c])=yr++[y.c]:=zD (by rw[zF];exact zu _);have hle2:yr.length+1<=(yr++[y.c]).length:=by rw[zF];exact zu _
  simp only[Purity.c]at htk2 hle2 hS;refine jbo [false,false,false,true,false,false,true,false] [(9,4,[y.c]),(5,8,[evZ e])] (by decide+kernel) (ja5 (by simp only[go_sem]) (ja5 (by simp only[evZ,hpl,go_sem]) ja7)) ?_;simp only[hpl,evZ,go_sem];refine And.intro hy4 (And.intro (by omega) ?_);refine je4 (fun X hX=> ?_);clear hX;refine And.intro (ja5 (by simp only[go_sem]) (ja5 (by simp only[evZ,hpl,go_sem]) ja7)) ?_;simp only[htk,go_sem];refine And.intro (fun c' hc'=>by rw[zC.1 hc'];rfl) (And.intro (zu _) (And.intro (by omega) ?_));refine jdk (fun X' hX'=> ?_);clear hX';refine And.intro ?_ ?_
  ·simp only[hpb,go_sem];exact ja5 (by simp only[go_sem]) (ja5 (by simp only[evZ,hpl,go_sem]) ja7)
  simp only[hpb,go_sem];refine hP _ (jk8 [X'] [1,5,7,11,12,13,17] ?_ (SubR.of_eq ?_) rfl)
  ·simp only[hpb,hpl,hS,htk2,hle2,go_sem]
  ·simp only[hpb,hpl,hS,htk2,hle2,go_sem]
end
section
open Go.Abs
open Go.LP (Rw RT tsum Sol Bds)
attribute [local go_sem] ints ic Evid.c Evid.iv Purity.c Recall.c Bat.c
theorem pb_recalls(k0:Ctr G.P 8 [] (· = .bool true))(e:Evid)(h:List (List Raw))(b:Bat)(r:Recall)(y:Purity):Ctr G.P 6 [e.iv,hist h,.agg b.c,.agg r.c,.agg y.c] (· = .bool true):=by
 have kL:=pb_light e;rcases hl:jrb e with _ | _
 ·rw[hl]at kL;simp only[Evid.iv,Evid.c,hist]at kL⊢;refine ja4 [.tmp 10] Tryz.func6 ?_;simp only[go_sem];refine ja1 k0 ?_;simp only[go_sem];refine ja1 kL ?_;simp only[go_sem]
 rw[hl]at kL;simp only[jrb,zB,qG,zU]at hl;obtain⟨m6,_,_,r4,p4,hmt⟩:=hl;have kF:=t_few15 h;simp only[hist]at kF;rcases h20:decide (20<(b.mv.length:Int))with _ | _
 case true=>
  simp only[Evid.iv,Evid.c,hist]at kL⊢;refine ja4 [.tmp 10] Tryz.func6 ?_;simp only[go_sem];refine ja1 k0 ?_;simp only[go_sem];refine ja1 kL ?_;simp only[go_sem];refine jdf kF ?_;rintro _ ⟨z,rfl,_⟩;cases z<;>simp only[h20,zh,go_sem]
 have b20:=zK h20;by_cases hfew:FewH h
 case neg=>
  simp only[Evid.iv,Evid.c,hist]at kL⊢;refine ja4 [.tmp 10] Tryz.func6 ?_;simp only[go_sem];refine ja1 k0 ?_;simp only[go_sem];refine ja1 kL ?_;simp only[go_sem];refine jdf kF ?_;rintro _ ⟨z,rfl,hz⟩;rcases z with _ | _
  ·simp only[h20,zh,go_sem]
  ·exact absurd (hz rfl) hfew
 obtain⟨c,kH,hc⟩:=h_says e h hfew;rcases dc:decide (c=0)with _ | _
 ·simp only[Evid.iv,Evid.c,hist]at kL kH⊢;refine ja4 [.tmp 10] Tryz.func6 ?_;simp only[go_sem];refine ja1 k0 ?_;simp only[go_sem];refine ja1 kL ?_;simp only[go_sem];refine jdf kF ?_;rintro _ ⟨z,rfl,hz⟩;rcases z with _ | _
  ·simp only[h20,zh,go_sem]
  ·simp only[h20,zh,go_sem];refine ja1 kH ?_;simp only[dc,go_sem]
 obtain⟨h0,H,hH,hx⟩:=hc (zJ dc);obtain⟨n,f,C1,kC⟩:=jj2 (e:=e) b (small3 (by omega) (by have:=(jgl (jbt h0).1);omega) (by omega)) (by omega);have hpb:∀q k:Nat,q<100000->(q !=hp k)=true:=fun q k hq=>by simp only[qq,ne_eq];exact hp_ne hq
 have sM:SmallE {e with recalls:=e.recalls++[r]}:=small3 (by show e.moves.length<=6;omega) (by show e.mats<=3;have:=(jgl (jbt h0).1);omega) (by show e.purs.length<=40;omega);have sP:SmallE {e with purs:=e.purs++[y]}:=small3 (by show e.moves.length<=6;omega) (by show e.mats<=3;have:=(jgl (jbt h0).1);omega) (by show(e.purs++[y]).length<=40;rw[zF];show e.purs.length+1<=40;omega);obtain⟨less,g,C2,kC2⟩:=jj2 b sM (by omega);have kck:=c21 {e with recalls:=e.recalls++[r]};have more:jbe {e with recalls:=e.recalls++[r]}=0->f=g/\less<=n:=fun hm=>recalls_more C1 C2 (by omega) hH hx h0 hm;obtain⟨cp,kH2,hcp⟩:=h_says {e with purs:=e.purs++[y]} h hfew;obtain⟨much,g2,C3,kC3⟩:=jj2 b sP (by omega);have pure:cp=0->f=g2/\n<=much/\(f=0\/f=1):=fun hz=>by
  obtain⟨q0,H',q1,q2⟩:=hcp hz;exact recalls_pure C1 C3 (by omega) hH hx h0 q1 q2 q0
 clear hc hcp C1 C2 C3 sM sP hx hH;generalize jbe {e with recalls:=e.recalls++[r]}=cm at*;simp only[Evid.iv,Evid.c,hist]at kL kH kC kC2 kck kH2 kC3⊢;refine ctrX_of (c:=tailN 0 (jll Tryz.f6)) (t:=10) (goodH [51,54,79,82] []) Tryz.func6 rfl (by decide+kernel) (ya rfl) rfl ?_;refine SemC.cuts (goodH [51,54,79,82] []) ⟨[(1,.im (.sl (h.map rowC))),(5,.loc 5 8 0 0),(7,.loc 7 2 0 0),(8,.loc 8 2 0 0),(9,.loc 9 4 0 0),(11,.im (.bool true)),(12,.im (.int n)),(13,.im (.int f)),(14,.loc 14 8 0 0)],[(14,8,[e.c]),(9,4,[y.c]),(8,2,[r.c]),(7,2,[b.c]),(5,8,[e.c])],[]⟩ 5 rfl (by decide+kernel) ?_ ?_
 ·refine jqr rfl ?_
  as_aux_lemma=>
   simp only[go_sem];refine ja1 k0 ?_;simp only[go_sem];refine ja1 kL ?_;simp only[go_sem];refine jdf kF ?_;rintro _ ⟨z,rfl,hz⟩;rcases z with _ | _
   ·simp only[h20,zh,go_sem]
   ·simp only[h20,zh,go_sem];refine ja1 kH ?_;simp only[dc,go_sem];refine ja1 kC ?_;simp only[go_sem];refine LeC_of [1,5,7,8,9,11,12,13,14] ?_ (SubR.of_eq ?_) rfl
    ·simp only[go_sem]
    ·simp only[go_sem]
 rw[jgx];refine SemC.cuts (goodH [51,54,79,82] []) ⟨[(1,.im (.sl (h.map rowC))),(5,.loc 5 8 0 0),(7,.loc 7 2 0 0),(9,.loc 9 4 0 0),(11,.im (.bool true)),(12,.im (.int n)),(13,.im (.int f)),(14,.loc 14 8 0 0)],[(14,8,[Evid.c {e with recalls:=e.recalls++[r]}]),(9,4,[y.c]),(8,2,[r.c]),(7,2,[b.c]),(5,8,[e.c])],[]⟩ 1 rfl (by decide+kernel) (r_A e h b r y n f (by omega) fun s hs=>hs) ?_;rw[jgx];refine SemC.cuts (goodH [51,54,79,82] []) ⟨[(1,.im (.sl (h.map rowC))),(5,.loc 5 8 0 0),(7,.loc 7 2 0 0),(9,.loc 9 4 0 0),(11,.im (.bool true)),(12,.im (.int n)),(13,.im (.int f)),(17,.loc 17 8 0 0)],[(17,8,[e.c]),(14,8,[Evid.c {e with recalls:=e.recalls++[r]}]),(9,4,[y.c]),(8,2,[r.c]),(7,2,[b.c]),(5,8,[e.c])],[]⟩ 3 rfl (by decide+kernel) ?_ ?_
 ·refine jqr rfl ?_
  as_aux_lemma=>
   simp only[go_sem];refine ja1 kC2 ?_;simp only[go_sem];refine ja1 kck ?_;rcases dm:decide (cm=0)with _ | _
   ·simp only[dm,go_sem];refine LeC_of [1,5,7,9,11,12,13,17] ?_ (SubR.of_eq ?_) rfl
    ·simp only[go_sem]
    ·simp only[go_sem]
   ·obtain⟨m1,m2⟩:=more (zJ dm);have dfg:decide (f=g)=true:=zk m1;have dln:decide (n<less)=false:=za (by omega);simp only[dm,dfg,dln,go_sem];refine LeC_of [1,5,7,9,11,12,13,17] ?_ (SubR.of_eq ?_) rfl
    ·simp only[go_sem]
    ·simp only[go_sem]
 rw[jgx];refine SemC.cuts (goodH [51,54,79,82] []) ⟨[(1,.im (.sl (h.map rowC))),(5,.loc 5 8 0 0),(7,.loc 7 2 0 0),(11,.im (.bool true)),(12,.im (.int n)),(13,.im (.int f)),(17,.loc 17 8 0 0)],[(17,8,[Evid.c {e with purs:=e.purs++[y]}]),(14,8,[Evid.c {e with recalls:=e.recalls++[r]}]),(9,4,[y.c]),(8,2,[r.c]),(7,2,[b.c]),(5,8,[e.c])],[]⟩ 1 rfl (by decide+kernel) (r_B e h b r y n f (by omega) fun s hs=>hs) ?_;rw[jgx];refine SemC.awp (goodH [51,54,79,82] []) (by decide+kernel) ?_;refine tail_go rfl ?_;simp only[go_sem];refine ja1 kH2 ?_;rcases dp:decide (cp=0)with _ | _
 ·simp only[dp,go_sem]
 ·obtain⟨p1,p2,p3⟩:=pure (zJ dp);have q1:decide (f=g2)=true:=zk p1;have q2:decide (n<=much)=true:=zk p2;simp only[dp,go_sem];refine ja1 kC3 ?_;rcases dz:decide (f=0)with _ | _
  ·have d1:decide (f=1)=true:=zk (p3.resolve_left (zK dz));simp only[q1,q2,dz,d1,go_sem]
  ·simp only[q1,q2,dz,go_sem]
end
end Go.Proofs.YtgncgpfjldefpaaGreat
namespace Go.Abs
section
open Go.RowKit (Below)
def tileB(G:Ctx):Nat->List (Nat×TypeId)->Nat->Bool
 | k,[],n=>k==n
 | k,(o,t)::r,n=>o==k&&tileB G (k+(G.ti t).size) r n
def opens(G:Ctx):Nat->TypeId->Bool
 | 0,_=>false
 | n+1,t=>(G.ti t).size !=0&&match(G.ti t).kind with
  | .it _ | .bl | .str=>(G.ti t).size==1
  | .sl e=>(G.ti t).size==1&&opens G n e
  | .st fs=>tileB G 0 fs (G.ti t).size&&fs.all fun p=>opens G n p.2
  | _=>false
def Fits(G:Ctx):Nat->TypeId->List IV->Prop
 | 0,_,_=>False
 | n+1,t,xs=>match(G.ti t).kind with
  | .it k=>∃i,xs=[.sc (.int k i)]/\(Lit.int k i).wf=true
  | .bl=>∃b,xs=[.sc (.bool b)]
  | .str=>∃s:ByteArray,xs=[.sc (.string s)]/\s.size<=maxLen
  | .sl e=>∃es,xs=[.sl es]/\es.length<=maxLen/\∀c∈es,Fits G n e c
  | .st fs=>xs.length=(G.ti t).size/\∀p∈fs,Fits G n p.2 ((xs.drop p.1).take (G.ti p.2).size)
  | _=>False
theorem jov{α:Type}{R:Nat->α->Prop}:∀n,(∀i,i<n->∃x,R i x)->∃l:List α,l.length=n/\∀i x,l[i]? =some x->R i x
 | 0,_=>⟨[],rfl,fun i x h=>by simp at h⟩
 | n+1,h=>by
  obtain⟨l,hl,hR⟩:=jov n fun i hi=>h i (by omega);obtain⟨x,hx⟩:=h n (by omega);refine⟨l++[x],by simp[hl],fun i y hy=> ?_⟩;rcases zX i l.length with hi | hi
  ·rw[zQ hi]at hy;exact hR i y hy
  ·rw[zV hi]at hy;have hi':i=l.length:=by
    have:=(zt.1 hy).1;simp at this;omega
   subst hi';simp at hy;subst hy;rw[hl];exact hx
theorem RepL.append{w:World}{M:Nat->Nat->Prop}{xs ys:List IV}{us vs:List Value}(h:RepL w M xs us)(h':RepL w M ys vs):RepL w M (xs++ys) (us++vs):=by
 refine⟨by simp[h.1,h'.1],fun k x v hx hv=> ?_⟩;rcases zX k xs.length with hk | hk
 ·rw[zQ hk]at hx;rw[zQ (by rw[<-h.1];exact hk)]at hv;exact h.2 k x v hx hv
 ·rw[zV hk]at hx;rw[zV (by rw[<-h.1];exact hk),<-h.1]at hv;exact h'.2 _ x v hx hv
section
variable{G:Ctx}{H:Type}{enc:TypeId×Value->H}{w:World}{base:Nat}{spare:Nat->Bool}{held:Bool}
abbrev NoM:Nat->Nat->Prop:=fun _ _=>False
theorem jja(hG:G.Ok){t:TypeId}(h:(G.ti t).size≠0):G.P.cellsOf t=(G.ti t).size:=by
 obtain⟨i,z,hi,hs,_⟩:=hG.info h;simp[Program.cellsOf,hi,hs]
theorem jnc(hG:G.Ok):∀(n m:Nat) (t:TypeId) (cs:List Value) (x:DataW H×List MemPlace),opens G n t=true->DataW.trod enc G.P w base spare held m t cs=some x->
  ∃xs,RepL w NoM xs cs/\(∀y∈xs,y.one=true)/\xs.length=(G.ti t).size/\Fits G n t xs
 | 0,_,_,_,_,ho,_=>by simp[opens]at ho
 | n+1,m,t,cs,x,ho,h=>by
  unfold opens at ho;simp only[zB,qq,ne_eq]at ho;obtain⟨h0,ho⟩:=ho;have one:∀{v:Value} {y:IV},Rep w NoM y v->y.one=true->Fits G (n+1) t [y]->(G.ti t).size=1->cs=[v]->
    ∃xs,RepL w NoM xs cs/\(∀y∈xs,y.one=true)/\xs.length=(G.ti t).size/\Fits G (n+1) t xs:=by
   intro v y h1 h2 h3 h4 h5;subst h5;exact⟨[y],RepL.cons h1 RepL.nil,by simpa using h2,h4.symm,h3⟩
  split at ho
  ·rename_i k hk;obtain⟨i,rfl,_,hwf⟩:=DataW.trod_int (hG.it h0 hk) h;exact one (.sc _ rfl) rfl (by unfold Fits;rw[hk];exact⟨i,rfl,hwf⟩) (by simpa using ho) rfl
  ·rename_i hk;obtain⟨b,rfl,rfl⟩:=DataW.trod_bool (hG.bl h0 hk) h;exact one (.sc _ rfl) rfl (by unfold Fits;rw[hk];exact⟨b,rfl⟩) (by simpa using ho) rfl
  ·rename_i hk;obtain⟨s,rfl,_,hwf⟩:=DataW.trod_string (hG.str h0 hk) h;exact one (.sc _ rfl) rfl (by unfold Fits;rw[hk];exact⟨s,rfl,hwf⟩) (by simpa using ho) rfl
  ·rename_i e hk;simp only[zB,yL]at ho;obtain⟨h1,ho⟩:=ho;rcases DataW.trod_slice (hG.sl h0 hk) h with ⟨rfl,_⟩ | ⟨a,len,cap,elems,rest,m',rfl,rfl,_,_,hlc,hcm,hel,hat,_⟩
   ·exact one (.nil _ _) rfl (by unfold Fits;rw[hk];exact⟨[],rfl,zG _,by simp⟩) h1 rfl
   ·have he0:(G.ti e).size≠0:=by
     cases n with
     | zero=>simp[opens]at ho
     | succ n=>
      unfold opens at ho;simp only[zB,qq,ne_eq]at ho;exact ho.1
    rw[jja hG he0]at hat;have hex:∀i,i<len->∃p:List IV×List Value,w.cells? base (a.add (i*(G.ti e).size)) (G.ti e).size=some p.2/\RepL w NoM p.1 p.2/\(∀y∈p.1,y.one=true)/\p.1.length=(G.ti e).size/\Fits G n e p.1:=by
     intro i hi;have h3:=hat i hi;rw[ze (by omega)]at h3;obtain⟨cs',h4,h5⟩:=Option.bind_eq_some_iff.1 h3;obtain⟨xs,h6,h7,h8,h9⟩:=jnc hG n _ e cs' _ ho h5;exact⟨⟨xs,cs'⟩,h4,h6,h7,h8,h9⟩
    obtain⟨l,hl,hR⟩:=jov len hex;have hmap:∀(i:Nat) c,(l.map (·.1))[i]? =some c->∃us,w.cells? base (a.add (i*(G.ti e).size)) (G.ti e).size=some us/\RepL w NoM c us/\(∀y∈c,y.one=true)/\c.length=(G.ti e).size/\Fits G n e c:=by
     intro i c hc;rw[zq]at hc;obtain⟨p,hp,rfl⟩:=z7.1 hc;obtain⟨h3,h4,h5,h6,h7⟩:=hR i p hp;exact⟨p.2,h3,h4,h5,h6,h7⟩
    have hlen:(l.map (·.1)).length=len:=by simpa using hl
    have hfit:Fits G (n+1) t [.sl (l.map (·.1))]:=by
     unfold Fits;rw[hk];refine⟨_,rfl,by omega,fun c hc=> ?_⟩;obtain⟨i,hi⟩:=qQ hc;obtain⟨_,_,_,_,_,h7⟩:=hmap i c hi;exact h7
    refine one (y:= .sl (l.map (·.1))) ?_ rfl hfit h1 rfl;by_cases hz:len=0
    ·subst hz;have:l=[]:=zO hl;subst this;exact .nil _ _
    ·have hlist:∀i c j y,(l.map (·.1))[i]? =some c->c[j]? =some y->∃u,w.cell? (a.add (i*(G.ti e).size+j))=some u/\Rep w NoM y u/\y.one=true:=by
      intro i c j y hi hj;obtain⟨us,h3,h4,h5,h6,_⟩:=hmap i c hi;have hjl:=(zt.1 hj).1;obtain⟨_,h7,h8⟩:=World.cells?_some h3;have hu:us[j]? =some (us[j]'(by omega)):=ze (by omega);refine⟨_,?_,h4.2 j y _ hj hu,h5 y (zl hj)⟩;have:=h8 j (by omega);rw[Go.Deep.add_add]at this;rw[this,hu]
     have hsp:a=⟨a.block,a.off,none⟩:=by
      have hg:(l.map (·.1))[0]? =some ((l.map (·.1))[0]'(by omega)):=ze (by omega);obtain⟨us,_,_,_,h6,_⟩:=hmap 0 _ hg;have hg2:((l.map (·.1))[0]'(by omega))[0]? =some (((l.map (·.1))[0]'(by omega))[0]'(by omega)):=ze (by omega);obtain⟨u,h3,_⟩:=hlist 0 _ 0 _ hg hg2;simp[Addr.add]at h3;have:=World.cell?_spot h3;cases a;simp_all
     have hadd:∀k,a.add k=⟨a.block,a.off+k,none⟩:=fun k=>by
      obtain⟨b,o,sp⟩:=a;cases hsp;unfold Addr.add;split
      ·rename_i hk0;subst hk0;rfl
      ·rfl
     have hgo:∀(i:Nat) c (j:Nat) y,(l.map (·.1))[i]? =some c->c[j]? =some y->w.cell? ⟨a.block,a.off+i*(G.ti e).size+j,none⟩=some ((w.cell? ⟨a.block,a.off+i*(G.ti e).size+j,none⟩).getD undef)/\
       y.one=true/\Rep w NoM y ((w.cell? ⟨a.block,a.off+i*(G.ti e).size+j,none⟩).getD undef):=by
      intro i c j y hi hj;obtain⟨u,h3,h4,h5⟩:=hlist i c j y hi hj;rw[hadd,<-jr]at h3;rw[h3];exact⟨rfl,h5,h4⟩
     have:=Rep.sl (w:=w) (M:=NoM) (l.map (·.1)) (G.ti e).size a.block a.off cap (fun i j=>(w.cell? ⟨a.block,a.off+i*(G.ti e).size+j,none⟩).getD undef)
      (by intro hn;rw[hn]at hlen;simp at hlen;omega)
      (fun c hc=>by obtain⟨i,hi⟩:=qQ hc;obtain⟨_,_,_,_,h6,_⟩:=hmap i c hi;exact h6)
      (by omega)
      (fun i c j y hi hj=>⟨(hgo i c j y hi hj).2.1,(hgo i c j y hi hj).1,fun h=>h⟩)
      (fun i c j y hi hj=>(hgo i c j y hi hj).2.2)
     rw[hlen,<-hsp]at this;exact this
  ·rename_i fs hk;simp only[zB]at ho;obtain⟨ht,ho⟩:=ho;obtain⟨gs,hu,hgs⟩:=hG.st h0 hk;obtain⟨xs,m',rfl,_,hcl,hxl,hat⟩:=DataW.trod_struct hu h;rw[jja hG h0]at hcl;have hfield:∀p∈fs,∃ys,RepL w NoM ys ((cs.drop p.1).take (G.ti p.2).size)/\(∀y∈ys,y.one=true)/\ys.length=(G.ti p.2).size/\Fits G n p.2 ys:=by
    intro p hp;obtain⟨i,hi⟩:=qQ hp;rw[<-hgs,zq]at hi;obtain⟨f,hf,rfl⟩:=z7.1 hi;have hf':gs[i]? =some f:=by simpa using hf
    have h3:=hat i f hf';have hil:i<gs.size:=(zH.1 hf').1;rw[ze (by omega)]at h3;have hof:=List.all_eq_true.1 ho _ hp;have hs0:(G.ti f.type).size≠0:=by
     cases n with
     | zero=>simp[opens]at hof
     | succ n=>
      simp only[]at hof;unfold opens at hof;simp only[zB,qq,ne_eq]at hof;exact hof.1
    rw[jja hG hs0]at h3;exact jnc hG n _ _ _ _ hof h3
   have build:∀(r:List (Nat×TypeId)) (k:Nat),(∀p∈r,p∈fs)->tileB G k r (G.ti t).size=true->k<=cs.length->∃zs,RepL w NoM zs (cs.drop k)/\(∀y∈zs,y.one=true)/\
     ∀p∈r,k<=p.1/\Fits G n p.2 ((zs.drop (p.1-k)).take (G.ti p.2).size):=by
    intro r
    induction r with
    | nil=>
     intro k _ htl _;simp only[tileB,yL]at htl;refine⟨[],?_,by simp,by simp⟩;rw[zY (by omega)];exact RepL.nil
    | cons p r ih=>
     obtain⟨o,u⟩:=p;intro k hm htl hkl;simp only[tileB,zB,yL]at htl;obtain⟨rfl,htl⟩:=htl;obtain⟨ys,h3,h4,h5,h6⟩:=hfield (o,u) (hm _ (qj ..));have hle:o+(G.ti u).size<=cs.length:=by
      have:=h3.1;simp at this h5;omega
     obtain⟨zs,h7,h8,h9⟩:=ih _ (fun p hp=>hm p (qw _ hp)) htl hle;refine⟨ys++zs,?_,?_,?_⟩
     ·have:=h3.append h7;rw[<-vw,ja]at this;exact this
     ·intro y hy;rcases qu.1 hy with h | h
      ·exact h4 y h
      ·exact h8 y h
     ·intro p hp;rcases zT.1 hp with rfl | hp
      ·refine⟨zu _,?_⟩;simp only[jf,ym];rw[<-h5]
       simpa using h6
      ·obtain⟨h10,h11⟩:=h9 p hp;refine⟨by omega,?_⟩;rw[List.drop_append,zY (by simp at h5;omega),List.nil_append];have e:p.1-o-ys.length=p.1-(o+(G.ti u).size):=by simp at h5;omega
       rw[e];exact h11
   obtain⟨zs,h7,h8,h9⟩:=build fs 0 (fun _ h=>h) ht (zG _);rw[ym]at h7;refine⟨zs,h7,h8,by rw[h7.1,hcl],?_⟩;unfold Fits;rw[hk];exact⟨by rw[h7.1,hcl],fun p hp=>by simpa using (h9 p hp).2⟩
  ·cases ho
end
end
section
open Go.RowKit (Below)
open Go.ChangeShapes Go.WideShapes
def FitsA(G:Ctx)(n:Nat)(t:TypeId)(y:IV):Prop:=
 if aggK (G.ti t).kind=true then ∃xs,y= .agg xs/\Fits G n t xs else Fits G n t [y]
def FitsL(G:Ctx)(n:Nat):List TypeId->List IV->Prop
 | [],[]=>True
 | t::ts,y::ys=>FitsA G n t y/\FitsL G n ts ys
 | _,_=>False
section
variable{G:Ctx}{H:Type}{enc:TypeId×Value->H}{w:World}{base:Nat}{spare:Nat->Bool}{held:Bool}{r:Reach}{b0 n:Nat}
theorem opens_ne{t:TypeId}(h:opens G n t=true):(G.ti t).size≠0:=by
 cases n with
 | zero=>simp[opens]at h
 | succ n=>
  unfold opens at h;simp only[zB,qq,ne_eq]at h;exact h.1
theorem open_arg(hG:G.Ok){t:TypeId}{v:Value}{d:DataW H}{p:List MemPlace}(ho:opens G n t=true)(hv:Value.okWide G.P w r b0 t v)(h:DataW.Trod enc G.P w base spare held t v d p):
  ∃y,Rep w NoM y v/\FitsA G n t y:=by
 obtain⟨m,hm⟩:=h;have h0:=opens_ne ho;obtain⟨xs,h1,h2,h3,h4⟩:=jnc hG n m t _ _ ho hm;have single:v.cells= #[v]->aggK (G.ti t).kind=false->∃y,Rep w NoM y v/\FitsA G n t y:=by
  intro hc hk;rw[hc]at h1;obtain⟨hl,hr⟩:=h1
  match xs,hl with
  | [y],_=>
   refine⟨y,hr 0 y v rfl rfl,?_⟩;unfold FitsA;rw[hk];exact h4
 have ho':=ho;cases n with
 | zero=>simp[opens]at ho
 | succ n=>
  unfold opens at ho';simp only[zB]at ho';obtain⟨_,ho'⟩:=ho';split at ho'
  ·rename_i k hk;obtain⟨i,rfl⟩:=okWide_int (hG.it h0 hk) hv;exact single rfl (by rw[hk];rfl)
  ·rename_i hk;obtain⟨i,rfl⟩:=okWide_bool (hG.bl h0 hk) hv;exact single rfl (by rw[hk];rfl)
  ·rename_i hk;obtain⟨i,rfl⟩:=okWide_string (hG.str h0 hk) hv;exact single rfl (by rw[hk];rfl)
  ·rename_i e hk;obtain⟨a,l,c,rfl⟩:=okWide_slice (hG.sl h0 hk) hv;exact single rfl (by rw[hk];rfl)
  ·rename_i fs hk;obtain⟨gs,hu,_⟩:=hG.st h0 hk;obtain⟨cs,rfl,_⟩:=okWide_struct hu hv;refine⟨.agg xs,RepL.agg (by simpa [Value.cells]using h1) h2,?_⟩;unfold FitsA;rw[zn (by rw[hk];rfl)];exact⟨xs,rfl,h4⟩
  ·cases ho'
theorem jp1(hG:G.Ok):∀{ts:List TypeId} {vs:List Value} {ds:List (DataW H)} {p:List MemPlace},(∀t∈ts,opens G n t=true)->
  (∀(j:Nat) t v,ts[j]? =some t->vs[j]? =some v->Value.okWide G.P w r b0 t v)->DataW.TrodAll enc G.P w base spare held ts vs ds p->∃ys,RepL w NoM ys vs/\FitsL G n ts ys
 | [],[],[],_,_,_,_=>⟨[],RepL.nil,trivial⟩
 | t::ts,v::vs,d::ds,_,ho,hv,⟨_,_,h1,h2,_⟩=>by
  obtain⟨y,h3,h4⟩:=open_arg hG (ho t (qj ..)) (hv 0 t v rfl rfl) h1;obtain⟨ys,h5,h6⟩:=jp1 hG (fun t ht=>ho t (qw _ ht)) (fun j t v hj hk=>hv (j+1) t v (by simpa using hj) (by simpa using hk)) h2;exact⟨y::ys,RepL.cons h3 h5,h4,h6⟩
theorem jpg{P:Program}(hl:laidOutB P=true){W W':World}(hb:Below W.heap.size W W'):∀{ts:List TypeId} {vs:List Value} {ds:List (DataW H)} {ps:List MemPlace},
  (∀t∈ts,P.readableRec t=true/\t<P.types.size)->DataW.TrodAll enc P W 0 (fun _=>true) true ts vs ds ps->(∀x∈ps,x.block<W.heap.size)->
  DataW.TrodAll enc P W' 0 (fun b=>decide (b<W.heap.size)) true ts vs ds ps
 | [],[],[],_,_,h,_=>h
 | t::ts,v::vs,d::ds,_,ht,⟨p,q,h1,h2,e⟩,hlt=>by
  subst e;obtain⟨h3,h4⟩:=ht t (qj ..);exact⟨p,q,Go.RowKit.Below.trod hl h3 h4 h1 hb (fun x hx=>hlt x (yW _ hx)),
   jpg hl hb (fun t h=>ht t (qw _ h)) h2 (fun x hx=>hlt x (vy _ hx)),rfl⟩
theorem jkc{P:Program}:∀{ts:List TypeId} {vs:List Value} {ds:List (DataW H)} {ps:List MemPlace},DataW.TrodAll enc P w base spare held ts vs ds ps->ds.length=ts.length
 | [],[],[],_,_=>rfl
 | _::_,_::_,_::_,_,⟨_,_,_,h2,_⟩=>by simp[jkc h2]
theorem law_calls(hG:G.Good)(hl:laidOutB G.P=true){f:FuncId}{fn:Func}{s:ChangeSpec}{tb:TypeId}(n:Nat)(ts:List TypeId)
  (hp:fn.params.toList=ts) (hrt:fn.resultTypes.toList=[tb]) (hsz:fn.resultTypes.size=1) (htb:G.P.underlying tb=some .bool)
  (hts:(ts.all fun t=>opens G n t&&G.P.readableRec t&&decide (t<G.P.types.size))=true)
  (hvars:s.vars=[]) (hspec:∀ds:List (DataW H),ds.length=ts.length->s.fn H ds={results:=[.lit (.bool true)],args:=ds})
  (hc:∀ys,FitsL G n ts ys->Ctr G.P f ys (· = .bool true)) {W:World} {args:Array Value} {ds gs:List (DataW H)} {before:List MemPlace}
  (hval:∀(j:Nat) t v,fn.params[j]? =some t->args[j]? =some v->Value.okWide G.P W .any b0 t v) (hW:DataW.Whole enc G.P fn.params.toList s.vars false W args.toList ds gs before):
  Calls G.P f args W fun e W'=>∃v,e= .returned v/\s.post enc G.P fn false true false false W args v W':=by
 have hts':∀t∈ts,opens G n t=true/\G.P.readableRec t=true/\t<G.P.types.size:=fun t ht=>by
  have:=List.all_eq_true.1 hts t ht;simp only[zB,zU]at this;exact⟨this.1.1,this.1.2,this.2⟩
 have hW0:=hW;obtain⟨p,q,hA,hV,hpq,hfz,hnd⟩:=hW;rw[hvars]at hV;obtain⟨rfl,rfl⟩:=trodVars_none hV;rw[hp]at hA;obtain⟨ys,h1,h2⟩:=jp1 hG.ok (fun t ht=>(hts' t ht).1) (fun j t v hj hk=>hval j t v (by rw[<-qm,hp];exact hj) (by rw[<-qm];exact hk)) hA;have hcall:=hc ys h2 W NoM args.toList (fun b o h=>h.elim) h1;rw[Array.toArray_toList]at hcall;refine hcall.mono fun e W' ⟨r,v,hr,he,hv,hb⟩=> ?_;subst hr;obtain rfl:=Rep.sc_inv hv;refine⟨_,he,?_⟩;have hsp:=hspec ds (jkc hA);have hlt:∀x∈before,x.block<W.heap.size:=fun x hx=>hW0.lt x hx;refine⟨ds,[],before,[],p,[],hW0,?_,?_,?_,World.keptBut_mono (fun p hp=>⟨hp,?_⟩) (hb.frame (· ∈before)),fun h=>by cases h⟩
 ·rw[hrt,hsz,qk,hsp];exact trodAll_mk1 (Go.RowKit.shut_bool htb _)
 ·rw[qk,hsp,hp];exact jpg hl hb (fun t ht=>(hts' t ht).2) hA (fun x hx=>hlt x (by rw[hpq];simpa using hx))
 ·rw[qk,hsp,hvars];rfl
 ·rw[hpq,qk]at hp;exact .inr (.inl hp)
end
end
end Go.Abs
namespace Go.Proofs.YtgncgpfjldefpaaGreat
section
open Go.Abs
theorem jbs{t:TypeId}(hk:(G.ti t).kind= .it .i64):∀{n:Nat} {xs:List IV},Fits G n t xs->∃i,xs=[.int i]
 | 0,_,h=>h.elim
 | n+1,xs,h=>by
  unfold Fits at h;rw[hk]at h;obtain⟨i,rfl,_⟩:=h;exact⟨i,rfl⟩
theorem fits_bool{t:TypeId}(hk:(G.ti t).kind= .bl):∀{n:Nat} {xs:List IV},Fits G n t xs->∃i,xs=[.bool i]
 | 0,_,h=>h.elim
 | n+1,xs,h=>by
  unfold Fits at h;rw[hk]at h;exact h
theorem list_of{α:Type}{f:α->List IV}:∀{es:List (List IV)},(∀c∈es,∃p,c=f p)->∃l:List α,es=l.map f
 | [],_=>⟨[],rfl⟩
 | c::es,h=>by
  obtain⟨p,rfl⟩:=h c (qj ..);obtain⟨l,rfl⟩:=list_of fun c hc=>h c (qw _ hc);exact⟨p::l,rfl⟩
theorem jeo{α:Type}(f:α->List IV){t e:TypeId}(hk:(G.ti t).kind= .sl e)(hf:∀{n:Nat} (c:List IV),Fits G n e c->∃p,c=f p):∀{n:Nat} {xs:List IV},Fits G n t xs->∃l:List α,xs=[.sl (l.map f)]
 | 0,_,h=>h.elim
 | n+1,xs,h=>by
  unfold Fits at h;rw[hk]at h;obtain⟨es,rfl,_,h⟩:=h;obtain⟨l,rfl⟩:=list_of fun c hc=>hf c (h c hc);exact⟨l,rfl⟩
theorem jpa{t e:TypeId}(hk:(G.ti t).kind= .sl e)(he:(G.ti e).kind= .it .i64){n:Nat}{xs:List IV}(h:Fits G n t xs):∃l:List Int,xs=[ints l]:=
 jeo ic hk (fun _ hc=>jbs he hc) h
theorem jq2{t:TypeId}{fs:List (Nat×TypeId)}(hk:(G.ti t).kind= .st fs):∀{n:Nat} {xs:List IV},Fits G n t xs->xs.length=(G.ti t).size/\∃m,∀p∈fs,Fits G m p.2 ((xs.drop p.1).take (G.ti p.2).size)
 | 0,_,h=>h.elim
 | n+1,xs,h=>by
  unfold Fits at h;rw[hk]at h;exact⟨h.1,n,h.2⟩
theorem jfg{t:TypeId}{n:Nat}{y:IV}(hk:aggK (G.ti t).kind=true)(h:FitsA G n t y):∃xs,y= .agg xs/\Fits G n t xs:=by
 unfold FitsA at h
 rwa [zn hk]at h
theorem fitsA_one{t:TypeId}{n:Nat}{y:IV}(hk:aggK (G.ti t).kind=false)(h:FitsA G n t y):Fits G n t [y]:=by
 unfold FitsA at h
 rwa [zp (by rw[hk];simp)]at h
theorem jpy{α:Type}:∀{l:List α},l.length=2->∃x0 x1,l=[x0,x1]
 | [x0,x1],_=>⟨x0,x1,rfl⟩
theorem of_len3{α:Type}:∀{l:List α},l.length=3->∃x0 x1 x2,l=[x0,x1,x2]
 | [x0,x1,x2],_=>⟨x0,x1,x2,rfl⟩
theorem of_len4{α:Type}:∀{l:List α},l.length=4->∃x0 x1 x2 x3,l=[x0,x1,x2,x3]
 | [x0,x1,x2,x3],_=>⟨x0,x1,x2,x3,rfl⟩
theorem jfz{n:Nat}{t:TypeId}{ts:List TypeId}:∀{ys:List IV},FitsL G n (t::ts) ys->∃y ys',ys=y::ys'/\FitsA G n t y/\FitsL G n ts ys'
 | y::ys',h=>⟨y,ys',rfl,h⟩
theorem fitsL_nil{n:Nat}:∀{ys:List IV},FitsL G n [] ys->ys=[]
 | [],_=>rfl
theorem jrq{n:Nat}{xs:List IV}(h:Fits G n 67 xs):∃s l,xs=[.int s,ints l]:=by
 obtain⟨hl,m,hf⟩:=jq2 (t:=67) (fs:=[(0,3),(1,26)]) rfl h;obtain⟨x0,x1,rfl⟩:=jpy (show xs.length=2 from hl);have h0:Fits G m 3 [x0]:=hf (0,3) (by simp);obtain⟨i0,e0⟩:=jbs rfl h0;cases e0;have h1:Fits G m 26 [x1]:=hf (1,26) (by simp);obtain⟨i1,e1⟩:=jpa rfl rfl h1;cases e1;exact⟨i0,i1,rfl⟩
theorem fits_Frac{n:Nat}{xs:List IV}(h:Fits G n 69 xs):∃s l t m,xs=[.int s,ints l,.int t,ints m]:=by
 obtain⟨hl,m,hf⟩:=jq2 (t:=69) (fs:=[(0,67),(2,67)]) rfl h;obtain⟨x0,x1,x2,x3,rfl⟩:=of_len4 (show xs.length=4 from hl);have h0:Fits G m 67 [x0,x1]:=hf (0,67) (by simp);obtain⟨s,l,e0⟩:=jrq h0;cases e0;have h1:Fits G m 67 [x2,x3]:=hf (2,67) (by simp);obtain⟨t,l',e1⟩:=jrq h1;cases e1;exact⟨s,l,t,l',rfl⟩
