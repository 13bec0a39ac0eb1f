/- A part of the proof. No further condition. -/
import Derived.Test.YtdhlmmoicchgpaaGreatKU43
set_option linter.all false
set_option maxRecDepth 10000000
set_option maxHeartbeats 16000000
namespace Go.Proofs.YtdhlmmoicchgpaaGreat
section
open Go.Abs
attribute [local go_sem] Evid.iv Evid.c ints ic
structure FewU(e:Evid)(qs:List (List (Int×Int)))(n:Nat):Prop where
 few:few17 e 0 3=true
 purs:e.purs.length<=2
 short:qs.length<=2->∀q∈qs,q.length<=12
 steps:n<=2
theorem u_fewQ(qs:List (List (Int×Int))):Ctr G.P 30 [.sl (qs.map qC)] (fun r=>∃b,r= .bool b/\(b=true->qs.length<=2->∀q∈qs,q.length<=12)):=by
 refine ja6 [.tmp 2] Tryz.func30 ?_;simp only[go_sem];refine jb4 [0,3] [] (fun i:Nat=>⟨[(0,.im (.sl (qs.map qC))),(3,.im (.int i))],[],[]⟩) (fun i=>i<=qs.length/\i<=60/\∀q∈qs.take i,q.length<=12) (fun i=>qs.length-i) 0 ?_ ⟨zI _,zI _,fun q h=>by cases h⟩ ?_
 ·simp only[Int.natCast_zero,go_sem]
 ·intro i ⟨hi,h60,ha⟩;have fin:(i=qs.length\/i=60)->qs.length<=2->∀q∈qs,q.length<=12:=fun h h2=>by
   have:i=qs.length:=by omega
   rw[this,zr (zn _)]at ha;exact ha
  by_cases hkl:(i:Int)<qs.length
  ·have hd:decide ((i:Int)<qs.length)=true:=ze hkl;by_cases h6:(i:Int)<60
   ·have hd6:decide ((i:Int)<60)=true:=ze h6;obtain⟨q,hq⟩:=jce hkl;have h1:=jaa (n:=(i:Int)+1) (by omega);simp only[hd,hd6,za,hq,qC,zq,go_sem];refine jcy (fun he he'=> ?_) (fun he he'=> ?_)
    ·simp only[go_sem];exact⟨false,rfl,fun h=>by cases h⟩
    ·simp only[go_sem];refine jaj (i+1) ?_ (by show qs.length-(i+1)<qs.length-i;omega) ⟨by show i+1<=qs.length;omega,by show i+1<=60;omega,?_⟩
     ·simp only[h1,Int.natCast_add,go_sem]
     ·rw[jnk hq];intro x hx;rcases qr.1 hx with h | h
      ·exact ha x h
      ·rw[zm.1 h];omega
   ·have hd6:decide ((i:Int)<60)=false:=zw h6;have:=fin (.inr (by omega));rcases z2:decide ((qs.length:Int)<=2)with _ | _
    ·have n2:¬qs.length<=2:=fun h=>absurd (jl.2 h) (zJ z2);rcases z5:decide ((50:Int)<qs.length)with _ | _
     ·simp only[hd,hd6,z2,z5,zq,go_sem];exact⟨_,rfl,fun _ h=>absurd h n2⟩
     ·simp only[hd,hd6,z2,z5,zq,go_sem];exact⟨_,rfl,fun _ h=>absurd h n2⟩
    ·simp only[hd,hd6,z2,zq,go_sem];exact⟨_,rfl,fun _=>this⟩
  ·have hd:decide ((i:Int)<qs.length)=false:=zw hkl;have:=fin (.inl (by omega));rcases z2:decide ((qs.length:Int)<=2)with _ | _
   ·have n2:¬qs.length<=2:=fun h=>absurd (jl.2 h) (zJ z2);rcases z5:decide ((50:Int)<qs.length)with _ | _
    ·simp only[hd,z2,z5,zq,go_sem];exact⟨_,rfl,fun _ h=>absurd h n2⟩
    ·simp only[hd,z2,z5,zq,go_sem];exact⟨_,rfl,fun _ h=>absurd h n2⟩
   ·simp only[hd,z2,zq,go_sem];exact⟨_,rfl,fun _=>this⟩
theorem u_few(e:Evid)(qs:List (List (Int×Int)))(S:List (List IV)):Ctr G.P 7 [e.iv,.sl (qs.map qC),.sl S] (fun r=>∃b,r= .bool b/\(b=true->FewU e qs S.length)):=by
 have k1:=t_few17z e [] 3;have k2:=u_fewQ qs;rw[List.length_nil]at k1;unfold zo at k1;rcases h1:few17 e 0 3 with _ | _
 ·rw[h1]at k1;refine ja6 [.tmp 6] Tryz.func7 ?_;simp only[go_sem];refine ja2 k1 ?_;simp only[go_sem];exact⟨false,rfl,fun h=>by cases h⟩
 ·rw[h1]at k1;rcases h2:decide ((e.purs.length:Int)<=2)with _ | _
  ·refine ja6 [.tmp 6] Tryz.func7 ?_;simp only[go_sem];refine ja2 k1 ?_;simp only[h2,zq,go_sem];exact⟨false,rfl,fun h=>by cases h⟩
  ·refine ja6 [.tmp 6] Tryz.func7 ?_;simp only[go_sem];refine ja2 k1 ?_;simp only[h2,zq,go_sem];refine jih k2 ?_;rintro r ⟨b,rfl,hb⟩;cases b with
   | false=>
    simp only[go_sem];exact⟨false,rfl,fun h=>by cases h⟩
   | true=>
    simp only[go_sem];exact⟨_,rfl,fun h=>⟨h1,by have:=zK h2;omega,hb rfl,by have:=zK h;omega⟩⟩
theorem u_sranges(es:List (List IV))(hf:∀c∈es,BCell c)(hl:es.length<=100000)(kS:∀c∈es,Ctr G.P 17 [.agg c,.agg c] (· = .bool true)):Ctr G.P 15 [.sl es,.sl es] (· = .bool true):=by
 have d0:decide ((es.length:Int)=es.length)=true:=ze rfl;refine ja6 [.tmp 4] Tryz.func15 ?_;simp only[d0,go_sem];refine jb4 [0,1,5] [] (fun i:Nat=>⟨[(0,.im (.sl es)),(1,.im (.sl es)),(5,.im (.int i))],[],[]⟩) (fun i=>i<=es.length) (fun i=>es.length-i) 0 ?_ (zI _) ?_
 ·simp only[Int.natCast_zero,go_sem]
 ·intro i hi;by_cases hkl:(i:Int)<es.length
  ·have hd:decide ((i:Int)<es.length)=true:=ze hkl;obtain⟨c,hc⟩:=jce hkl;have k:=kS c (zG hc);obtain⟨a1,v1,b1,d1,a2,v2,b3,d2,l1,l2,e1⟩:=hf c (zG hc);rw[e1]at k hc;have h1:=jaa (n:=(i:Int)+1) (by omega);simp only[hd,go_sem];refine jah 10 ?_;simp only[hd,hc,go_sem];refine ja4 k (by decide) ?_;simp only[go_sem];refine jaj (i+1) ?_ (by omega) (by omega);simp only[h1,Int.natCast_add,go_sem]
  ·have hd:decide ((i:Int)<es.length)=false:=zw hkl;simp only[hd,go_sem]
section
variable{L:Abs.Rows}{A:Nat}{e:Evid}{qs:List (List (Int×Int))}{a:List (Int×Int)}
theorem u_Ask(h:HasW L A e qs)(h1:AskOk e qs)(hE:FitE e)(hl:a.length<=10000)(hn:qs.length<50):
  CtrH G.P 9 [.loc (hp A) 11 0 0,.im (.sl (a.map pickC))] L (fun r L'=>r= .im (.tup [.int (if jcd e a=true then(qs.length:Int)else 0),.int (if jcd e a=true then 0 else 1)])/\HasW L' A e (if jcd e a=true then qs++[a]else qs)):=by
 have kR:=u_right (e:=e) (q:=a) (by omega) hE.moves;have kB:=u_bd h1.small hl;obtain⟨Q,B,hR⟩:=id h;have hb:=hR.blk;have c0:=hR.row;rcases hr:jcd e a with _ | _
 ·rw[hr]at kR;simp only[qf,z8];exact(u_ask_bad hb c0 kR).mono fun r L' ⟨x,y⟩=>⟨x,y▸h⟩
 ·rw[hr]at kR;simp only[qb];cases hps:posF e with
  | false=>
   rw[hps]at c0;by_cases hq:qs=[]
   ·subst hq;rw[List.length_nil,jb1]at c0;refine(u_ask_0f hb c0 kR (by omega)).mono fun r L' ⟨x,X,g1,g2,g3⟩=>⟨x,X,0,g1,?_,fun _=>g3,(fun h=>by rw[hps]at h;cases h),fun h=>absurd rfl h⟩;rw[hps];exact g2
   ·have hn0:qs.length≠0:=fun h=>hq (zB h);rw[jab hn0]at c0;refine(u_ask_1f hb c0 (hR.qst fun h=>hq (zX.1 h)) hn kR (by omega)).mono fun r L' ⟨x,X,g1,g2,g3⟩=>⟨x,X,0,g1,?_,fun _=>by rw[ql];exact g3,(fun h=>by rw[hps]at h;cases h),fun h=>absurd rfl h⟩;rw[hps,zF];exact g2
  | true=>
   rw[hps]at c0;have hbd:=hR.bnd hps;unfold bV at c0;rw[zp rfl]at c0;by_cases hq:qs=[]
   ·subst hq;rw[List.length_nil,jb1,jb1]at c0;refine(u_ask_0t hb c0 kR kB (jqw _) (by omega)).mono fun r L' ⟨x,X,Y,g1,g2,g3,g4⟩=>⟨x,X,Y,g1,?_,fun _=>g3,fun _ _=>g4,fun h=>absurd rfl h⟩;rw[hps];exact g2
   ·have hn0:qs.length≠0:=fun h=>hq (zB h);rw[jab hn0,jab hn0]at c0;refine(u_ask_1t hb c0 (hR.qst fun h=>hq (zX.1 h)) (hbd fun h=>hq (zX.1 h)) (zq _) hn kR kB (jqw _) (by omega)).mono fun r L' ⟨x,X,Y,g1,g2,g3,g4⟩=>⟨x,X,Y,g1,?_,fun _=>by rw[ql];exact g3,fun _ _=>by rw[ql];exact g4,fun h=>absurd rfl h⟩;rw[hps,zF];exact g2
end
end
section
open Go.Abs
structure Good(e:Evid)(qs:List (List (Int×Int)))(k:Nat):Prop where
 moves:e.moves.length<=3+k
 mats:e.mats<=2
 purs:e.purs.length<=2+k
 certs:e.certs.length<=10+k
 recalls:e.recalls.length<=4+k
 right:jb5 e=0
 short:∀q∈qs,q.length<=12
 ok:∀q∈qs,jcd e q=true
 few:qs.length<=3
section
variable{e:Evid}{qs:List (List (Int×Int))}{k:Nat}{x:Stp}{a:List (Int×Int)}
theorem Good.ask(h:Good e qs k)(hk:k<=5):AskOk e qs:=
 ⟨jk1 (by have:=h.moves;omega) h.mats (by have:=h.purs;omega),h.right,fun q hq=>qg (h.short q hq) (by decide),fun q hq=>by rw[okP_right h.right];exact h.ok q hq,qg h.few (by decide)⟩
theorem jkp(h:jb5 e=0):FitE e:=by
 obtain⟨h1,_⟩:=jcn h;obtain⟨l1,l2,l3,l4,l5,_⟩:=jkq h1;exact⟨by omega,by omega,by omega,by omega,by omega⟩
theorem Good.aft(h:Good e qs k)(hc:jb5 (jc9 e x)=0):Good (jc9 e x) qs (k+1):=by
 have hok:∀q∈qs,jcd (jc9 e x) q=true:=fun q hq=>rightQ_aft (h.ok q hq);have h1:=h.moves;have h2:=h.purs;have h3:=h.certs;have h4:=h.recalls;by_cases k0:x.kind=0
 ·rw[aft0 k0]at hc hok⊢;exact⟨by dsimp only;rw[zF,List.length_singleton];omega,h.mats,by dsimp only;omega,by dsimp only;omega,by dsimp only;omega,hc,h.short,hok,h.few⟩
 ·obtain⟨p1,p2,p3⟩:=aft_certs (e:=e) k0;obtain⟨b1,_,_,_,b5⟩:=jr0 (e:=e) k0;refine⟨by rw[b5];omega,by rw[b1];exact h.mats,?_,?_,?_,hc,h.short,hok,h.few⟩
  ·rw[p3,zF];split<;>simp only[List.length_cons,List.length_nil]<;>omega
  ·rw[p1,zF];split<;>simp only[List.length_cons,List.length_nil]<;>omega
  ·rw[p2,zF];split<;>simp only[List.length_cons,List.length_nil]<;>omega
theorem Good.up(h:Good e qs k):Good e qs (k+1):=⟨by have:=h.moves;omega,h.mats,by have:=h.purs;omega,by have:=h.certs;omega,by have:=h.recalls;omega,h.right,h.short,h.ok,h.few⟩
theorem Good.put(h:Good e qs k):Good (putF e x) qs (k+1):=by
 unfold putF;split
 ·rename_i hc;exact h.aft hc
 ·exact h.up
theorem Good.more(h:Good e qs k)(ha:a.length<=12)(hr:jcd e a=true)(hl:qs.length<=2):Good e (qs++[a]) k:=
 ⟨h.moves,h.mats,h.purs,h.certs,h.recalls,h.right,fun q hq=>by
  rcases qr.1 hq with h1 | h1
  ·exact h.short q h1
  ·rw[zm.1 h1];exact ha,fun q hq=>by
  rcases qr.1 hq with h1 | h1
  ·exact h.ok q h1
  ·rw[zm.1 h1];exact hr,by rw[zF,List.length_singleton];omega⟩
theorem good_of{n:Nat}(hf:FewU e qs n)(hc:jb5 e=0)(hr:qs.all (jcd e)=true)(hl:qs.length<=2):Good e qs 0:=by
 have h:=hf.few;unfold few17 jlk at h;simp only[zE,jz,zP,qy]at h;refine⟨?_,?_,by have:=hf.purs;omega,?_,?_,hc,hf.short hl,List.all_eq_true.1 hr,by omega⟩<;>omega
theorem do_ok(h:Good e qs k)(hk:k<=4):jb5 (jc9 e x)=0->AskOk (jc9 e x) qs:=fun hc=>(h.aft hc).ask (by omega)
theorem bl_cell(c:List IV)(hc:c∈bL e qs):BCell c:=by
 unfold bL at hc;split at hc
 ·obtain⟨q,_,rfl⟩:=zV.1 hc;exact jfm e q
 ·cases hc
theorem bl_len:(bL e qs).length=if posF e=true then qs.length else 0:=by
 unfold bL;split
 ·rw[zq]
 ·rfl
theorem bl_same(h:AskOk e qs)(c:List IV)(hc:c∈bL e qs):Ctr G.P 17 [.agg c,.agg c] (· = .bool true):=by
 unfold bL at hc;split at hc
 ·rename_i hps;obtain⟨q,hq,rfl⟩:=zV.1 hc;obtain⟨p,e1,f1⟩:=h.some hq hps;unfold fB;rw[e1];have k:=jps f1 f1
  rwa [ze rfl]at k
 ·cases hc
theorem u_sbl(h:AskOk e qs):Ctr G.P 15 [.sl (bL e qs),.sl (bL e qs)] (· = .bool true):=
 u_sranges _ bl_cell (by rw[bl_len];split<;>(have:=h.few;omega)) (bl_same h)
end
end
section
open Go.Abs
attribute [local go_sem] Evid.iv Evid.c ints ic
section
variable{e:Evid}{qs:List (List (Int×Int))}{xs:List Stp}{a:List (Int×Int)}
def S1(qs:List (List (Int×Int)))(xs:List Stp)(a:List (Int×Int))(i:Nat×Abs.Rows):St:=
 ⟨[(1,.im (.sl (qs.map qC))),(2,.im (.sl (xs.map Stp.cl))),(3,.im (.sl (a.map pickC))),(9,.im (.bool true)),(10,.im (.pr i.1 11 0 0))],i.2,[]⟩
def P1(e:Evid)(qs:List (List (Int×Int)))(xs:List Stp)(a:List (Int×Int))(i:Nat×Abs.Rows):Prop:=HasW i.2 i.1 e qs/\Good e qs 0/\xs.length<=2/\a.length<=12/\qs.length<=2
theorem us_1{P:Exit->St->Prop}(hN:∀i s,P1 e qs xs a i->St.Le s (S1 qs xs a i)->P .normal s)(hR:∀s,s.get 8= .im (.bool true)->P .ret s):awp (GH [62,93] []) (putN 5 (tailN 0 (jd8 Tryz.f3)) .skip) P (jc2 [.im e.iv,.im (.sl (qs.map qC)),.im (.sl (xs.map Stp.cl)),.im (.sl (a.map pickC))] []):=by
 have k0:=u_small;have kF:=u_few e qs (xs.map Stp.cl);have kK:=c21 e;refine jht rfl ?_
 as_aux_lemma=>
  simp only[go_sem];refine ja2 k0 ?_;simp only[go_sem];refine jih kF ?_;rintro _ ⟨b,rfl,hb⟩;rcases b with _ | _
  ·simp only[go_sem];exact hR _ rfl
  rcases d12:decide ((12:Int)<a.length)with _ | _
  case true=>
   simp only[d12,zq,go_sem];exact hR _ rfl
  rcases d2:decide ((2:Int)<qs.length)with _ | _
  case true=>
   simp only[d12,d2,zq,go_sem];exact hR _ rfl
  have hfew:=hb rfl;rw[zq]at hfew;have l12:=zJ d12;have l2:=zJ d2;have hsh:=hfew.short (by omega);simp only[d12,d2,zq,go_sem];rcases hc:decide (jb5 e=0)with _ | _
  ·have kN:=u_new_bad (qs:=qs) (zJ hc) kK;refine jbv kN (by decide) rfl jaq jaf ?_;rintro _ L1 ⟨rfl,rfl⟩-;refine⟨_,jeg,?_⟩;simp only[go_sem];exact hR _ rfl
  ·have h0:=zK hc;rw[h0]at kK;have hsm:SmallE e:=by
    have h:=hfew.few;unfold few17 jlk at h;simp only[zE,jz,zP,qy]at h;exact jk1 (by omega) (by omega) (by have:=hfew.purs;omega)
   have kN:=u_new (e:=e) (qs:=qs) (f:=fB e) (p:=posF e) (jkp h0) kK (by omega) (fun q hq=>by have:=hsh q hq;omega) (jfm e) (u_pos hsm) (fun q hq=>u_bd hsm (by have:=hsh q hq;omega));refine jbv kN (by decide) rfl jaq jaf ?_;rintro _ L1 (⟨_,rfl,rfl⟩ | ⟨hr,A,Q,B,rfl,hRW⟩)-
   ·refine⟨_,jeg,?_⟩;simp only[go_sem];exact hR _ rfl
   ·refine⟨_,jao,?_⟩;simp only[go_sem];refine hN (A,L1) _ ⟨⟨Q,B,hRW⟩,good_of hfew h0 hr (by omega),hfew.steps,by omega,by omega⟩ (jfe [1,2,3,9,10] ?_ (SubR.refl _) rfl);simp only[go_sem];rfl
end
end
section
open Go.Abs
attribute [local go_sem] ints ic
def rowX(X:Nat)(es:List (List IV))(L:Abs.Rows):Abs.Rows:=if es=[]then L else(hp X,1,es)::L
def Dj(X:Nat)(es:List (List IV))(L:Abs.Rows):Prop:=es≠[]->Abs.look L (hp X)=none
theorem jg4{X:Nat}{es:List (List IV)}{L:Abs.Rows}(h:Dj X es L):SubR L (rowX X es L):=by
 unfold rowX;split
 ·exact SubR.refl L
 ·rename_i hn;exact jar (h hn) (SubR.refl L)
theorem jdp{X:Nat}{es:List (List IV)}{L L':Abs.Rows}(h:Dj X es L):jdv (rowX X es L) L L' (rowX X es L'):=fun k x hk=>by
 unfold rowX at hk⊢;split at hk
 ·exact .inl hk
 ·rename_i hn;by_cases e:k=hp X
  ·subst e;rw[zu hn,ja1];rw[ja1]at hk;exact .inr ⟨h hn,hk⟩
  ·rw[ja0 _ _ e]at hk;exact .inl hk
theorem jin{X:Nat}{es:List (List IV)}{L L':Abs.Rows}(h:Dj X es L)(hf:∀k,(Abs.look L' k).isSome->(Abs.look L k).isSome\/Abs.look (rowX X es L) k=none):Dj X es L':=fun hn=>by
 cases hl:Abs.look L' (hp X)with
 | none=>rfl
 | some y=>
  rcases hf (hp X) (by rw[hl];rfl)with h1 | h1
  ·rw[h hn]at h1;cases h1
  ·unfold rowX at h1;rw[zu hn,ja1]at h1;cases h1
section
variable{e:Evid}{qs:List (List (Int×Int))}{xs:List Stp}{a:List (Int×Int)}
def S2(xs:List Stp)(a:List (Int×Int))(A:Nat)(Qc:List (List (Int×Int)))(i:Nat×Abs.Rows):St:=
 ⟨[(2,.im (.sl (xs.map Stp.cl))),(3,.im (.sl (a.map pickC))),(9,.im (.bool true)),(10,.im (.pr A 11 0 0)),(12,.im (sl0 i.1 31 1 Qc.length))],rowX i.1 (Qc.map qC) i.2,[]⟩
theorem us_2{P:Exit->St->Prop}{A:Nat}{L:Abs.Rows}(hn:qs≠[])(hl:qs.length<=2)(hN:∀X s,Dj X (qs.map qC) L->St.Le s (S2 xs a A qs (X,L))->P .normal s):
  awp (GH [62,93] []) (putN 1 (tailN 5 (jd8 Tryz.f3)) .skip) P (S1 qs xs a (A,L)):=by
 have hn0:qs.length≠0:=fun h=>hn (zB h);have hne:qs.map qC≠[]:=fun h=>hn (zX.1 h);refine jht rfl ?_
 as_aux_lemma=>
  unfold S1;simp only[hne,go_sem];refine And.intro (fun c hc=>by obtain⟨z,_,rfl⟩:=zV.1 hc;rfl) (And.intro (by first | omega | (rw[zq];omega)) (jcq (fun X hX=> ?_)));simp only[zq,go_sem];refine hN X _ (fun _=>hX) (jfe [2,3,9,10,12] ?_ ?_ rfl)
  ·unfold S2;dsimp only;rw[jab hn0];simp only[go_sem]
  ·unfold S2 rowX;dsimp only;rw[zu hne];exact SubR.refl _
def P3(A:Nat)(xs:List Stp)(Qc:List (List (Int×Int)))(ec:Evid)(i:Nat×Abs.Rows):Prop:=HasW i.2 A ec Qc/\Good ec Qc 2/\Dj i.1 (Qc.map qC) i.2
