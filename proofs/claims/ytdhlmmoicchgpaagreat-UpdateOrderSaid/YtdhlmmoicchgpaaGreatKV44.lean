/- A part of the proof. No further condition. -/
import Derived.Test.YtdhlmmoicchgpaaGreatKV43
set_option linter.all false
set_option maxRecDepth 10000000
set_option maxHeartbeats 16000000
namespace Go.Proofs.YtdhlmmoicchgpaaGreat
section
open Go.Abs
attribute [local go_sem] Evid.iv Evid.c ints ic
structure FewU(e:Evid)(qs:List (List (Int×Int)))(n:Nat):Prop where
 few:few17 e 0 3=true
 purs:e.purs.length<=2
 short:qs.length<=2->∀q∈qs,q.length<=12
 steps:n<=2
theorem u_fewQ(qs:List (List (Int×Int))):Ctr G.P 30 [.sl (qs.map qC)] (fun r=>∃b,r= .bool b/\(b=true->qs.length<=2->∀q∈qs,q.length<=12)):=by
 refine ja5 [.tmp 2] Tryz.func30 ?_;simp only[go_sem];refine jaw [0,3] [] (fun i:Nat=>⟨[(0,.im (.sl (qs.map qC))),(3,.im (.int i))],[],[]⟩) (fun i=>i<=qs.length/\i<=60/\∀q∈qs.take i,q.length<=12) (fun i=>qs.length-i) 0 ?_ ⟨zI _,zI _,fun q h=>by cases h⟩ ?_
 ·simp only[Int.natCast_zero,go_sem]
 ·intro i ⟨hi,h60,ha⟩;have fin:(i=qs.length\/i=60)->qs.length<=2->∀q∈qs,q.length<=12:=fun h h2=>by
   have:i=qs.length:=by omega
   rw[this,zu (zn _)]at ha;exact ha
  by_cases hkl:(i:Int)<qs.length
  ·have hd:decide ((i:Int)<qs.length)=true:=ze hkl;by_cases h6:(i:Int)<60
   ·have hd6:decide ((i:Int)<60)=true:=ze h6;obtain⟨q,hq⟩:=jby hkl;have h1:=jaa (n:=(i:Int)+1) (by omega);simp only[hd,hd6,za,hq,qC,zq,go_sem];refine jd5 (fun he he'=> ?_) (fun he he'=> ?_)
    ·simp only[go_sem];exact⟨false,rfl,fun h=>by cases h⟩
    ·simp only[go_sem];refine jai (i+1) ?_ (by show qs.length-(i+1)<qs.length-i;omega) ⟨by show i+1<=qs.length;omega,by show i+1<=60;omega,?_⟩
     ·simp only[h1,Int.natCast_add,go_sem]
     ·rw[jm3 hq];intro x hx;rcases qp.1 hx with h | h
      ·exact ha x h
      ·rw[zp.1 h];omega
   ·have hd6:decide ((i:Int)<60)=false:=zw h6;have:=fin (.inr (by omega));rcases z2:decide ((qs.length:Int)<=2)with _ | _
    ·have n2:¬qs.length<=2:=fun h=>absurd (jn.2 h) (zJ z2);rcases z5:decide ((50:Int)<qs.length)with _ | _
     ·simp only[hd,hd6,z2,z5,zq,go_sem];exact⟨_,rfl,fun _ h=>absurd h n2⟩
     ·simp only[hd,hd6,z2,z5,zq,go_sem];exact⟨_,rfl,fun _ h=>absurd h n2⟩
    ·simp only[hd,hd6,z2,zq,go_sem];exact⟨_,rfl,fun _=>this⟩
  ·have hd:decide ((i:Int)<qs.length)=false:=zw hkl;have:=fin (.inl (by omega));rcases z2:decide ((qs.length:Int)<=2)with _ | _
   ·have n2:¬qs.length<=2:=fun h=>absurd (jn.2 h) (zJ z2);rcases z5:decide ((50:Int)<qs.length)with _ | _
    ·simp only[hd,z2,z5,zq,go_sem];exact⟨_,rfl,fun _ h=>absurd h n2⟩
    ·simp only[hd,z2,z5,zq,go_sem];exact⟨_,rfl,fun _ h=>absurd h n2⟩
   ·simp only[hd,z2,zq,go_sem];exact⟨_,rfl,fun _=>this⟩
theorem u_few(e:Evid)(qs:List (List (Int×Int)))(S:List (List IV)):Ctr G.P 7 [e.iv,.sl (qs.map qC),.sl S] (fun r=>∃b,r= .bool b/\(b=true->FewU e qs S.length)):=by
 have k1:=t_few17z e [] 3;have k2:=u_fewQ qs;rw[List.length_nil]at k1;unfold zo at k1;rcases h1:few17 e 0 3 with _ | _
 ·rw[h1]at k1;refine ja5 [.tmp 6] Tryz.func7 ?_;simp only[go_sem];refine ja2 k1 ?_;simp only[go_sem];exact⟨false,rfl,fun h=>by cases h⟩
 ·rw[h1]at k1;rcases h2:decide ((e.purs.length:Int)<=2)with _ | _
  ·refine ja5 [.tmp 6] Tryz.func7 ?_;simp only[go_sem];refine ja2 k1 ?_;simp only[h2,zq,go_sem];exact⟨false,rfl,fun h=>by cases h⟩
  ·refine ja5 [.tmp 6] Tryz.func7 ?_;simp only[go_sem];refine ja2 k1 ?_;simp only[h2,zq,go_sem];refine jhe k2 ?_;rintro r ⟨b,rfl,hb⟩;cases b with
   | false=>
    simp only[go_sem];exact⟨false,rfl,fun h=>by cases h⟩
   | true=>
    simp only[go_sem];exact⟨_,rfl,fun h=>⟨h1,by have:=zK h2;omega,hb rfl,by have:=zK h;omega⟩⟩
theorem u_sranges(es:List (List IV))(hf:∀c∈es,BCell c)(hl:es.length<=100000)(kS:∀c∈es,Ctr G.P 17 [.agg c,.agg c] (· = .bool true)):Ctr G.P 15 [.sl es,.sl es] (· = .bool true):=by
 have d0:decide ((es.length:Int)=es.length)=true:=ze rfl;refine ja5 [.tmp 4] Tryz.func15 ?_;simp only[d0,go_sem];refine jaw [0,1,5] [] (fun i:Nat=>⟨[(0,.im (.sl es)),(1,.im (.sl es)),(5,.im (.int i))],[],[]⟩) (fun i=>i<=es.length) (fun i=>es.length-i) 0 ?_ (zI _) ?_
 ·simp only[Int.natCast_zero,go_sem]
 ·intro i hi;by_cases hkl:(i:Int)<es.length
  ·have hd:decide ((i:Int)<es.length)=true:=ze hkl;obtain⟨c,hc⟩:=jby hkl;have k:=kS c (zE hc);obtain⟨a1,v1,b1,d1,a2,v2,b3,d2,l1,l2,e1⟩:=hf c (zE hc);rw[e1]at k hc;have h1:=jaa (n:=(i:Int)+1) (by omega);simp only[hd,go_sem];refine jaf 10 ?_;simp only[hd,hc,go_sem];refine ja4 k (by decide) ?_;simp only[go_sem];refine jai (i+1) ?_ (by omega) (by omega);simp only[h1,Int.natCast_add,go_sem]
  ·have hd:decide ((i:Int)<es.length)=false:=zw hkl;simp only[hd,go_sem]
section
variable{L:Abs.Rows}{A:Nat}{e:Evid}{qs:List (List (Int×Int))}{a:List (Int×Int)}
end
end
section
open Go.Abs
structure Good(e:Evid)(qs:List (List (Int×Int)))(k:Nat):Prop where
 moves:e.moves.length<=3+k
 mats:e.mats<=2
 purs:e.purs.length<=2+k
 certs:e.certs.length<=10+k
 recalls:e.recalls.length<=4+k
 right:jar e=0
 short:∀q∈qs,q.length<=12
 ok:∀q∈qs,jdc e q=true
 few:qs.length<=3
section
variable{e:Evid}{qs:List (List (Int×Int))}{k:Nat}{x:Stp}{a:List (Int×Int)}
theorem Good.ask(h:Good e qs k)(hk:k<=5):AskOk e qs:=
 ⟨jhq (by have:=h.moves;omega) h.mats (by have:=h.purs;omega),h.right,fun q hq=>qh (h.short q hq) (by decide),fun q hq=>by rw[jkw h.right];exact h.ok q hq,qh h.few (by decide)⟩
theorem jf3(h:jar e=0):FitE e:=by
 obtain⟨h1,_⟩:=jc5 h;obtain⟨l1,l2,l3,l4,l5,_⟩:=jlc h1;exact⟨by omega,by omega,by omega,by omega,by omega⟩
theorem Good.aft(h:Good e qs k)(hc:jar (jah e x)=0):Good (jah e x) qs (k+1):=by
 have hok:∀q∈qs,jdc (jah e x) q=true:=fun q hq=>rightQ_aft (h.ok q hq);have h1:=h.moves;have h2:=h.purs;have h3:=h.certs;have h4:=h.recalls;by_cases k0:x.kind=0
 ·rw[aft0 k0]at hc hok⊢;exact⟨by dsimp only;rw[zD,List.length_singleton];omega,h.mats,by dsimp only;omega,by dsimp only;omega,by dsimp only;omega,hc,h.short,hok,h.few⟩
 ·obtain⟨p1,p2,p3⟩:=jez (e:=e) k0;obtain⟨b1,_,_,_,b5⟩:=jeb (e:=e) k0;refine⟨by rw[b5];omega,by rw[b1];exact h.mats,?_,?_,?_,hc,h.short,hok,h.few⟩
  ·rw[p3,zD];split<;>simp only[List.length_cons,List.length_nil]<;>omega
  ·rw[p1,zD];split<;>simp only[List.length_cons,List.length_nil]<;>omega
  ·rw[p2,zD];split<;>simp only[List.length_cons,List.length_nil]<;>omega
theorem Good.up(h:Good e qs k):Good e qs (k+1):=⟨by have:=h.moves;omega,h.mats,by have:=h.purs;omega,by have:=h.certs;omega,by have:=h.recalls;omega,h.right,h.short,h.ok,h.few⟩
theorem Good.put(h:Good e qs k):Good (putF e x) qs (k+1):=by
 unfold putF;split
 ·rename_i hc;exact h.aft hc
 ·exact h.up
theorem jnn{n:Nat}(hf:FewU e qs n)(hc:jar e=0)(hr:qs.all (jdc e)=true)(hl:qs.length<=2):Good e qs 0:=by
 have h:=hf.few;unfold few17 jic at h;simp only[zC,q6,zO,zT]at h;refine⟨?_,?_,by have:=hf.purs;omega,?_,?_,hc,hf.short hl,List.all_eq_true.1 hr,by omega⟩<;>omega
theorem do_ok(h:Good e qs k)(hk:k<=4):jar (jah e x)=0->AskOk (jah e x) qs:=fun hc=>(h.aft hc).ask (by omega)
theorem Good.say(h:Good e qs k)(hk:k<=5){q:List (Int×Int)}(hq:q∈qs):BSay e q (bO e q):=b_say (h.ask hk).small ((h.ask hk).short q hq)
theorem bl_cell(c:List IV)(hc:c∈bL e qs):BCell c:=by
 unfold bL at hc;split at hc
 ·obtain⟨q,_,rfl⟩:=zU.1 hc;exact jcw e q
 ·cases hc
theorem bl_len:(bL e qs).length=if posF e=true then qs.length else 0:=by
 unfold bL;split
 ·rw[zq]
 ·rfl
theorem bl_same(h:AskOk e qs)(c:List IV)(hc:c∈bL e qs):Ctr G.P 17 [.agg c,.agg c] (· = .bool true):=by
 unfold bL at hc;split at hc
 ·rename_i hps;obtain⟨q,hq,rfl⟩:=zU.1 hc;obtain⟨p,e1,f1⟩:=h.some hq hps;unfold fB;rw[e1];have k:=jqw f1 f1
  rwa [ze rfl]at k
 ·cases hc
theorem u_sbl(h:AskOk e qs):Ctr G.P 15 [.sl (bL e qs),.sl (bL e qs)] (· = .bool true):=
 u_sranges _ bl_cell (by rw[bl_len];split<;>(have:=h.few;omega)) (bl_same h)
end
end
section
open Go.Abs
attribute [local go_sem] Evid.iv Evid.c Cert.c ints ic
section
variable{a1 c1 a2 c2 a3 c3 a4 c4 m1 m2:Int}{b1 d1 b2 d2 b3 d3 b4 d4:List (List IV)}{h h':Bool}
theorem ji7(k1:Ctr G.P 48 [.agg [.int a3,.sl b3,.int c3,.sl d3],.agg [.int a1,.sl b1,.int c1,.sl d1]] (· = .int m1))
  (k2:h=true->h'=true->Ctr G.P 48 [.agg [.int a2,.sl b2,.int c2,.sl d2],.agg [.int a4,.sl b4,.int c4,.sl d4]] (· = .int m2)):
  Ctr G.P 22 [.agg [.int a1,.sl b1,.int c1,.sl d1,.int a2,.sl b2,.int c2,.sl d2,.bool true,.bool h],.agg [.int a3,.sl b3,.int c3,.sl d3,.int a4,.sl b4,.int c4,.sl d4,.bool true,.bool h']] (· = .bool (decide (m1<=0)&&(!h' || (h&&decide (m2<=0))))):=by
 rcases e1:decide (m1<=0)with _ | _
 ·refine ja5 [.tmp 4] Tryz.func22 ?_;simp only[go_sem];refine ja2 k1 ?_;simp only[e1,go_sem]
 ·cases h' with
  | false=>
   refine ja5 [.tmp 4] Tryz.func22 ?_;simp only[go_sem];refine ja2 k1 ?_;simp only[e1,go_sem]
  | true=>
   cases h with
   | false=>
    refine ja5 [.tmp 4] Tryz.func22 ?_;simp only[go_sem];refine ja2 k1 ?_;simp only[e1,go_sem]
   | true=>
    have k3:=k2 rfl rfl;refine ja5 [.tmp 4] Tryz.func22 ?_;simp only[go_sem];refine ja2 k1 ?_;simp only[e1,go_sem];refine ja2 k3 ?_;simp only[e1,go_sem]
end
def inF(p p':Rat×Option Rat):Bool:=decide (cmpR p'.1 p.1<=0)&&(match p'.2 with
 | none=>true
 | some w'=>match p.2 with
  | none=>false
  | some w=>decide (cmpR w w'<=0))
theorem jqv{p p':Rat×Option Rat}(h:FLB p)(h':FLB p'):Ctr G.P 22 [.agg (bB (some p)),.agg (bB (some p'))] (· = .bool (inF p p')):=by
 obtain⟨lo,hi⟩:=p;obtain⟨lo',hi'⟩:=p';have k1:=f_cmp (a:=lo') (b:=lo) h'.lo.up h.lo.up;unfold inF;cases hi' with
 | none=>cases hi with
  | none=>exact ji7 (m2:=0) k1 (fun h=>by cases h)
  | some v=>exact ji7 (m2:=0) k1 (fun _ h=>by cases h)
 | some w=>cases hi with
  | none=>exact ji7 (m2:=0) k1 (fun h=>by cases h)
  | some v=>exact ji7 k1 fun _ _=>f_cmp (h.hi v rfl).up (h'.hi w rfl).up
def jh1(e:Evid)(x:Stp):Bool:= !(decide (x.kind=1)&&e.certs.any fun c=>decide (c.scale=x.c.scale))
theorem frs_take{l:List Cert}{i:Nat}{c:Cert}{f:Cert->Bool}(hc:l[i]? =some c)(h:(l.take i).any f=false)(h1:f c=false):(l.take (i+1)).any f=false:=by
 rw[jm3 hc,jh,h,List.any_cons,h1];rfl
theorem jqx(e:Evid)(x:Stp)(hl:e.certs.length<=100000):Ctr G.P 21 [e.iv,.agg x.cl] (· = .bool (jh1 e x)):=by
 unfold Stp.cl;rcases d1:decide (x.kind=1)with _ | _
 ·have hf:jh1 e x=true:=by unfold jh1;rw[d1];rfl
  rw[hf];simp only[Move.c,Cert.c,Recall.c,Purity.c,List.cons_append,List.nil_append];refine ja5 [.tmp 4] Tryz.func21 ?_;simp only[go_sem];refine jaw [2,3,5] [2,3] (fun i:Nat=>⟨[(2,.loc 2 8 0 0),(3,.loc 3 19 0 0),(5,.im (.int i))],[(3,19,[[.int x.kind,.int x.m.day,.int x.m.fr,.int x.m.to,.int x.m.scale,.int x.m.reading,.bool x.m.all,.int x.c.scale,.int x.c.fr,.int x.c.until',.int x.c.grams,.int x.c.perMille,.int x.c.drift,.int x.r.scale,.int x.r.since,.int x.p.move,.int x.p.mat,.int x.p.least,.int x.p.most]]),(2,8,[e.c])],[]⟩) (fun i=>i<=e.certs.length) (fun i=>e.certs.length-i) 0 ?_ (zI _) ?_
  ·simp only[Int.natCast_zero,go_sem]
  intro i hi;by_cases hkl:(i:Int)<e.certs.length
  ·have hd:decide ((i:Int)<e.certs.length)=true:=ze hkl;obtain⟨c,hc⟩:=jby hkl;have h1:=jaa (n:=(i:Int)+1) (by omega);simp only[hd,zq,go_sem];refine jaf 15 ?_;simp only[d1,za,hc,go_sem];refine jai (i+1) ?_ (by show e.certs.length-(i+1)<e.certs.length-i;omega) (by show i+1<=e.certs.length;omega);simp only[h1,Int.natCast_add,go_sem]
  ·have hd:decide ((i:Int)<e.certs.length)=false:=zw hkl;simp only[hd,zq,go_sem]
 ·have hf:jh1 e x= !(e.certs.any fun c=>decide (c.scale=x.c.scale)):=by unfold jh1;rw[d1];rfl
  rw[hf];simp only[Move.c,Cert.c,Recall.c,Purity.c,List.cons_append,List.nil_append];refine ja5 [.tmp 4] Tryz.func21 ?_;simp only[go_sem];refine jaw [2,3,5] [2,3] (fun i:Nat=>⟨[(2,.loc 2 8 0 0),(3,.loc 3 19 0 0),(5,.im (.int i))],[(3,19,[[.int x.kind,.int x.m.day,.int x.m.fr,.int x.m.to,.int x.m.scale,.int x.m.reading,.bool x.m.all,.int x.c.scale,.int x.c.fr,.int x.c.until',.int x.c.grams,.int x.c.perMille,.int x.c.drift,.int x.r.scale,.int x.r.since,.int x.p.move,.int x.p.mat,.int x.p.least,.int x.p.most]]),(2,8,[e.c])],[]⟩) (fun i=>i<=e.certs.length/\(e.certs.take i).any (fun c=>decide (c.scale=x.c.scale))=false) (fun i=>e.certs.length-i) 0 ?_ ⟨zI _,rfl⟩ ?_
  ·simp only[Int.natCast_zero,go_sem]
  intro i ⟨hi,ha⟩;by_cases hkl:(i:Int)<e.certs.length
  ·have hd:decide ((i:Int)<e.certs.length)=true:=ze hkl;obtain⟨c,hc⟩:=jby hkl;have h1:=jaa (n:=(i:Int)+1) (by omega);rcases d2:decide (c.scale=x.c.scale)with _ | _
   ·simp only[hd,zq,go_sem];refine jaf 15 ?_;simp only[d1,d2,hkl,zq,za,hc,go_sem];refine jai (i+1) ?_ (by show e.certs.length-(i+1)<e.certs.length-i;omega) ⟨by show i+1<=e.certs.length;omega,frs_take hc ha d2⟩;simp only[h1,Int.natCast_add,go_sem]
   ·have hany:(e.certs.any fun c=>decide (c.scale=x.c.scale))=true:=qZ.2 ⟨c,zE hc,d2⟩;rw[hany];simp only[hd,zq,go_sem];refine jaf 15 ?_;simp only[d1,d2,hkl,zq,za,hc,go_sem]
  ·have hd:decide ((i:Int)<e.certs.length)=false:=zw hkl;rw[zu (by omega)]at ha;rw[ha];simp only[hd,zq,go_sem]
end
section
open Go.Abs
attribute [local go_sem] ints ic nC
theorem out_pre{ch:List (Int×Int)->Bool}{qs:List (List (Int×Int))}{k:Nat}:∀m,k<=m->outGo ch qs k<+:outGo ch qs m
 | 0,h=>by rw[Nat.le_zero.1 h];exact List.prefix_rfl
 | m+1,h=>by
  rcases zR k (m+1)with h1 | h1
  ·refine(out_pre m (by omega)).trans ?_;rw[show outGo ch qs (m+1)=_ from rfl,outGo];split
   ·split
    ·exact List.prefix_append _ _
    ·exact List.prefix_rfl
   ·exact List.prefix_rfl
  ·rw[show k=m+1 by omega];exact List.prefix_rfl
theorem out_at{ch:List (Int×Int)->Bool}{qs:List (List (Int×Int))}{k:Nat}{q:List (Int×Int)}(hq:qs[k]? =some q)(h:ch q=true):(outF ch qs)[(outGo ch qs k).length]? =some k:=by
 obtain⟨l,hl⟩:=out_pre (ch:=ch) (qs:=qs) (k:=k+1) qs.length (zt.1 hq).1;unfold outF;rw[<-hl,jgf hq h,z7,zQ (zn _),Nat.sub_self];rfl
section
variable{qs:List (List (Int×Int))}{f f':List (Int×Int)->List IV}{ch:List (Int×Int)->Bool}
theorem u_changes(hl:qs.length<=100000)(hf:∀q,BCell (f q))(hf':∀q,BCell (f' q))(kS:∀q∈qs,Ctr G.P 17 [.agg (f q),.agg (f' q)] (· = .bool (!ch q))):
  Ctr G.P 20 [.sl ((outF ch qs).map nC),.sl (qs.map f),.sl (qs.map f')] (· = .bool true):=by
 have hol:(outF ch qs).length<=qs.length:=jjb ch qs qs.length;refine ja5 [.tmp 6] Tryz.func20 ?_;simp only[go_sem];refine jaw [0,1,2,7,8] [] (fun i:Nat=>⟨[(0,.im (.sl ((outF ch qs).map nC))),(1,.im (.sl (qs.map f))),(2,.im (.sl (qs.map f'))),(7,.im (.int (outGo ch qs i).length)),(8,.im (.int i))],[],[]⟩) (fun i=>i<=qs.length) (fun i=>qs.length-i) 0 ?_ (zI _) ?_
 ·simp only[Int.natCast_zero,go_sem];rfl
 intro i hi;have hgl:=jjb ch qs i;by_cases hkl:(i:Int)<qs.length
 ·have hd:decide ((i:Int)<qs.length)=true:=ze hkl;obtain⟨q,hq⟩:=jby hkl;have h1:=jaa (n:=(i:Int)+1) (by omega);have k:=kS q (zE hq);obtain⟨a1,v1,b1,d1,a2,v2,b3,d2,l1,l2,e1⟩:=hf q;obtain⟨a3,v3,b4,d3,a4,v4,b5,d4,l3,l4,e2⟩:=hf' q;rw[e1,e2]at k;simp only[hd,zq,go_sem];refine jaf 10 ?_;simp only[hkl,zq,za,hq,e1,e2,go_sem];refine ja4 k (by decide) ?_;rcases hch:ch q with _ | _
  ·have hy:=jre hq hch;simp only[hch,go_sem];refine jai (i+1) ?_ (by show qs.length-(i+1)<qs.length-i;omega) (by show i+1<=qs.length;omega);simp only[h1,hy,Int.natCast_add,go_sem]
  ·have hy:=jgf hq hch;have hat:=out_at hq hch;have hlt:=(zt.1 hat).1;have dg:decide (((outF ch qs).length:Int)<=(outGo ch qs i).length)=false:=zw (by omega);have w1:=jaa (n:=((outF ch qs).length:Int)-1) (by omega);have hi0:(0:Int)<=(outGo ch qs i).length:=by omega
   have hi1:((outGo ch qs i).length:Int)<(outF ch qs).length:=by omega
   have hmn:min ((outGo ch qs i).length:Int) (((outF ch qs).length:Int)-1)=(outGo ch qs i).length:=by omega
   simp only[hch,dg,w1,hmn,hi0,hi1,hlt,zq,za,hat,go_sem];have w2:=jaa (n:=((outGo ch qs i).length:Int)+1) (by omega);have hl1:(outGo ch qs (i+1)).length=(outGo ch qs i).length+1:=by rw[hy,zD];rfl
   refine jai (i+1) ?_ (by show qs.length-(i+1)<qs.length-i;omega) (by show i+1<=qs.length;omega);simp only[h1,w2,hl1,Int.natCast_add,go_sem]
 ·have hd:decide ((i:Int)<qs.length)=false:=zw hkl;have hiq:i=qs.length:=by omega
  have de:decide (((outGo ch qs qs.length).length:Int)=(outF ch qs).length)=true:=ze rfl;subst hiq;simp only[hd,de,zq,go_sem]
end
end
section
open Go.Abs
theorem jnd{ch:List (Int×Int)->Bool}{qs:List (List (Int×Int))}(h:∀q∈qs,ch q=true):∀k,k<=qs.length->(outGo ch qs k).length=k
 | 0,_=>rfl
 | k+1,hk=>by
  obtain⟨q,hq⟩:∃q,qs[k]? =some q:=⟨_,zk (by omega)⟩;rw[jgf hq (h q (zE hq)),zD,jnd h k (by omega)];rfl
theorem jnv{a b:Rat}(h:a<=b):decide (cmpR a b<=0)=true:=by
 refine ze ?_;rcases ya 0 (cmpR a b)with h1 | h1
 ·have:=cmpR_pos.1 h1;grind
 ·exact h1
section
variable{e:Evid}{qs:List (List (Int×Int))}{k:Nat}{x:Stp}{q:List (Int×Int)}{p p':Rat×Option Rat}
theorem js0(h:jh1 e x=true):x.kind=1->∀c∈e.certs,c.scale≠x.c.scale:=fun h1 c hc he=>by
 unfold jh1 at h;rw[ze h1,qg,qZ.2 ⟨c,hc,ze he⟩]at h;cases h
theorem say0(h:AskOk e qs):BSay e [] (bO e []):=b_say h.small (zI _)
theorem pos_get(h:posF e=true):∃p,bO e []=some p:=zh.1 h
theorem nar_pos_out(h:Good e qs k)(hk:k<=4)(hc:jar (jah e x)=0)(h2:x.kind=2)(hp:posF e=true):posF (jah e x)=true:=by
 obtain⟨⟨lo,hi⟩,hp⟩:=pos_get hp;obtain⟨lo',hi',h1,_⟩:=jr4 hc h2 (say0 (h.ask (by omega))) (say0 (do_ok h hk hc)) hp;unfold posF;rw[h1];rfl
theorem nar_pos_in(h:Good e qs k)(hk:k<=4)(hc:jar (jah e x)=0)(h2:x.kind≠2)(hf:jh1 e x=true)(hp:posF (jah e x)=true):posF e=true:=by
 obtain⟨⟨lo,hi⟩,hp⟩:=pos_get hp;obtain⟨lo',hi',h1,_⟩:=step_in h.right h2 (js0 hf) (by rw[jkw h.right];rfl) (say0 (h.ask (by omega))) (say0 (do_ok h hk hc)) hp;unfold posF;rw[h1];rfl
theorem nar_out(h:Good e qs k)(hk:k<=4)(hc:jar (jah e x)=0)(h2:x.kind=2)(hq:q∈qs)(hp:bO e q=some p)(hp':bO (jah e x) q=some p'):inF p p'=true:=by
 obtain⟨lo,hi⟩:=p;obtain⟨lo',hi',h1,h3,h4⟩:=jr4 hc h2 (h.say (by omega) hq) ((h.aft hc).say (by omega) hq) hp;rw[hp']at h1;cases h1;unfold inF;dsimp only;rw[jnv h3,qg];cases hi' with
 | none=>rfl
 | some w=>
  obtain⟨w',rfl,hw⟩:=h4 w rfl;exact jnv hw
theorem nar_in(h:Good e qs k)(hk:k<=4)(hc:jar (jah e x)=0)(h2:x.kind≠2)(hf:jh1 e x=true)(hq:q∈qs)(hp:bO e q=some p)(hp':bO (jah e x) q=some p'):inF p' p=true:=by
 obtain⟨lo',hi'⟩:=p';obtain⟨lo,hi,h1,h3,h4⟩:=step_in h.right h2 (js0 hf) (by rw[jkw h.right];exact h.ok q hq) (h.say (by omega) hq) ((h.aft hc).say (by omega) hq) hp';rw[hp]at h1;cases h1;unfold inF;dsimp only;rw[jnv h3,qg];cases hi with
 | none=>rfl
 | some w=>
  obtain⟨w',rfl,hw⟩:=h4 w rfl;exact jnv hw
theorem chg_tt{e':Evid}(h:posF e=true)(h':posF e'=true):chg e e' q= !decide (bO e' q=bO e q):=by unfold chg;rw[h,h'];rfl
theorem chg_ne{e':Evid}(h:posF e≠posF e'):chg e e' q=true:=by
 unfold chg;cases h1:posF e<;>cases h2:posF e'<;>simp_all
theorem chg_ff{e':Evid}(h:posF e=false)(h':posF e'=false):chg e e' q=false:=by unfold chg;rw[h,h'];rfl
theorem nar_changes{e':Evid}(h:AskOk e qs)(h':AskOk e' qs)(hp:posF e=true)(hp':posF e'=true):Ctr G.P 20 [.sl ((outF (chg e e') qs).map nC),.sl (bL e qs),.sl (bL e' qs)] (· = .bool true):=by
 unfold bL;rw[zm hp,zm hp'];refine u_changes h.few (jcw e) (jcw e') fun q hq=> ?_;obtain⟨p1,e1,f1⟩:=h.some hq hp;obtain⟨p2,e2,f2⟩:=h'.some hq hp';rw[chg_tt hp hp',Bool.not_not];unfold fB;rw[e1,e2,show decide (some p2=some p1)=decide (p1=p2)by simp[eq_comm]];exact jqw f1 f2
end
end
end Go.Proofs.YtdhlmmoicchgpaaGreat
namespace Go.Abs
section
section
variable{G:Ctx}{N:Nat}
theorem SemC.loop{α:Type}{c:Code}{Q:Exit->St->Prop}{st:St}(S:α->St)(P:α->Prop)(μ:α->Nat)(x:α)(hle:St.Le st (S x))(hP:P x)
  (h:∀x,P x->SemC G N c (fun e s=>match e with | .normal=>∃y,(P y/\μ y<μ x)/\St.Le s (S y) | e=>Q e s) (S x)):SemC G N (.loop c) Q st:=fun w0 M0 β a w hs=>by
 obtain⟨β0,hs0⟩:=hle N w0 M0 β a w hs;refine wp_loop_ghost (fun n a w=>∃β y,μ y=n/\P y/\Sim N w0 M0 β (S y) a w) (μ x) ⟨β0,x,rfl,hP,hs0⟩ fun n a w ⟨β,y,hn,hy,hs⟩=> ?_;refine wp_mono (h y hy w0 M0 β a w hs) fun e a' w' hq=> ?_;obtain⟨β',st',hq,hs'⟩:=hq;cases e with
 | normal=>
  obtain⟨z,⟨h1,h2⟩,h3⟩:=hq;obtain⟨β1,h4⟩:=h3 N w0 M0 β' a' w' hs';exact⟨μ z,by omega,β1,z,rfl,h1,h4⟩
 | _=>exact⟨β',st',hq,hs'⟩
theorem SemC.block{id:Nat}{c:Code}{Q:Exit->St->Prop}{st:St}(h:SemC G N c (fun e s=>match e with | .exit k=>if k=id then Q .normal s else Q (.exit k) s | e=>Q e s) st):SemC G N (.block id c) Q st:=fun w0 M0 β a w hs=>by
 refine wp_block (wp_mono (h w0 M0 β a w hs) fun e a' w' hq=> ?_);obtain⟨β',st',hq,hs'⟩:=hq;cases e with
 | exit k=>
  dsimp only at hq;show(if k=id then liftQ N w0 M0 Q .normal a' w' else liftQ N w0 M0 Q (.exit k) a' w');by_cases hk:k=id
  ·rw[zm hk]at hq⊢;exact⟨β',st',hq,hs'⟩
  ·rw[zr hk]at hq⊢;exact⟨β',st',hq,hs'⟩
 | _=>exact⟨β',st',hq,hs'⟩
end
def inL:Code->Code
 | .seq x _=>x
 | c=>c
def inR:Code->Code
 | .seq _ y=>y
 | c=>c
def inB:Code->Code
 | .block _ c=>c
 | .loop c=>c
 | c=>c
theorem inL_seq(x y:Code):inL (.seq x y)=x:=rfl
theorem inR_seq(x y:Code):inR (.seq x y)=y:=rfl
theorem inB_block(k:Nat)(c:Code):inB (.block k c)=c:=rfl
theorem inB_loop(c:Code):inB (.loop c)=c:=rfl
attribute [go_sem] inL_seq inR_seq inB_block inB_loop
theorem jnc{G:Ctx}{fn:Func}{c:Code}(f:Code->Code)(hb:fn.body=some c){k j:Nat}{y:Code}{Q:Exit->St->Prop}{st:St}(h:awp G (putN k (tailN j (f c)) y) Q st):awp G (putN k (tailN j (f (jcf fn))) y) Q st:=by
 unfold jcf;rw[hb];exact h
end
end Go.Abs
namespace Go.Proofs.YtdhlmmoicchgpaaGreat
section
open Go.Abs
attribute [local go_sem] Evid.iv Evid.c ints ic
section
variable{e:Evid}{qs:List (List (Int×Int))}{xs:List Stp}
def NS(qs:List (List (Int×Int)))(xs:List Stp)(i:Nat×Abs.Rows):St:=
 ⟨[(1,.im (.sl (qs.map qC))),(2,.im (.sl (xs.map Stp.cl))),(7,.im (.bool true)),(8,.im (.pr i.1 11 0 0))],i.2,[]⟩
def NP(e:Evid)(qs:List (List (Int×Int)))(xs:List Stp)(i:Nat×Abs.Rows):Prop:=HasW i.2 i.1 e qs/\Good e qs 0/\xs.length<=2/\qs.length<=2
theorem nr_1{P:Exit->St->Prop}(hN:∀i s,NP e qs xs i->St.Le s (NS qs xs i)->P .normal s)(hR:∀s,s.get 6= .im (.bool true)->P .ret s):awp (GH [] []) (putN 5 (tailN 0 (jcf Tryz.f4)) .skip) P (jc0 [.im e.iv,.im (.sl (qs.map qC)),.im (.sl (xs.map Stp.cl))] []):=by
 have k0:=u_small;have kF:=u_few e qs (xs.map Stp.cl);have kK:=c21 e;refine jhr rfl ?_
 as_aux_lemma=>
  simp only[go_sem];refine ja2 k0 ?_;simp only[go_sem];refine jhe kF ?_;rintro _ ⟨b,rfl,hb⟩;rcases b with _ | _
  ·simp only[go_sem];exact hR _ rfl
  rcases d2:decide ((2:Int)<qs.length)with _ | _
  case true=>
   simp only[d2,zq,go_sem];exact hR _ rfl
  have hfew:=hb rfl;rw[zq]at hfew;have l2:=zJ d2;have hsh:=hfew.short (by omega);simp only[d2,zq,go_sem];rcases hc:decide (jar e=0)with _ | _
  ·have kN:=ji6 (qs:=qs) (zJ hc) kK;refine jbn kN (by decide) rfl jak jad ?_;rintro _ L1 ⟨rfl,rfl⟩-;refine⟨_,jbh,?_⟩;simp only[go_sem];exact hR _ rfl
  ·have h0:=zK hc;rw[h0]at kK;have hsm:SmallE e:=by
    have h:=hfew.few;unfold few17 jic at h;simp only[zC,q6,zO,zT]at h;exact jhq (by omega) (by omega) (by have:=hfew.purs;omega)
   have kN:=u_new (e:=e) (qs:=qs) (f:=fB e) (p:=posF e) (jf3 h0) kK (by omega) (fun q hq=>by have:=hsh q hq;omega) (jcw e) (u_pos hsm) (fun q hq=>u_bd hsm (by have:=hsh q hq;omega));refine jbn kN (by decide) rfl jak jad ?_;rintro _ L1 (⟨_,rfl,rfl⟩ | ⟨hr,A,Q,B,rfl,hRW⟩)-
   ·refine⟨_,jbh,?_⟩;simp only[go_sem];exact hR _ rfl
   ·refine⟨_,jap,?_⟩;simp only[go_sem];refine hN (A,L1) _ ⟨⟨Q,B,hRW⟩,jnn hfew h0 hr (by omega),hfew.steps,by omega⟩ (jc7 [1,2,7,8] ?_ (SubR.refl _) rfl);simp only[go_sem];rfl
end
end
section
open Go.Abs
attribute [local go_sem] Evid.iv Evid.c Stp.cl Move.c Cert.c Recall.c Purity.c ints ic
def nPath(c:Code):Code:=inB (inL (tailN 1 (inB (inB (inR (inL (tailN 5 c)))))))
section
variable{e:Evid}{qs:List (List (Int×Int))}{xs:List Stp}{x:Stp}
def NH(A:Nat)(qs:List (List (Int×Int)))(xs:List Stp)(i:Nat×Abs.Rows):St:=
 ⟨[(1,.im (.sl (qs.map qC))),(2,.im (.sl (xs.map Stp.cl))),(7,.im (.bool true)),(8,.im (.pr A 11 0 0)),(10,.im (.int i.1))],i.2,[]⟩
noncomputable def NA(A:Nat)(qs:List (List (Int×Int)))(xs:List Stp)(i:Nat)(x:Stp)(e e':Evid)(L:Abs.Rows):St:=
 ⟨[(1,.im (.sl (qs.map qC))),(2,.im (.sl (xs.map Stp.cl))),(7,.im (.bool true)),(8,.im (.pr A 11 0 0)),(10,.im (.int i)),(11,.loc 11 19 0 0),(12,.loc 12 8 0 0),(13,.im (.sl (bL e qs))),(14,.im (.int (bE e))),
  (15,.im (.sl (stepL e (jah e x) qs))),(16,.im (.int (jar (jah e x)))),(17,.im (.sl (bL e' qs))),(18,.im (.int (bE e')))],(12,8,[e.c])::(11,19,[x.cl])::L,[]⟩
theorem nb_1{P:Exit->St->Prop}{A i:Nat}{L:Abs.Rows}(hW:HasW L A e qs)(hG:Good e qs i)(hi:i<=2)(hx:xs[i]? =some x)(hN:∀L' s,HasW L' A (putF e x) qs->St.Le s (NA A qs xs i x e (putF e x) L')->P .normal s):
  awp (GH [] []) (putN 5 (tailN 0 (nPath (jcf Tryz.f4))) .skip) P (NH A qs xs (i,L)):=by
 have hA:=hG.ask (by omega);have kE:=CtrH.pr (u_evid hW (jf3 hG.right));have kR:=CtrH.pr (jf5 hW hA);have hkl:i<xs.length:=(zt.1 hx).1;have hki:(i:Int)<xs.length:=by omega
 have hi0:(0:Int)<=i:=by omega
 have F1:=bF hW.blk;have K1:=bK hW.blk;have G1:=bN hW.blk;refine jnc nPath rfl ?_
 as_aux_lemma=>
  unfold nPath NH;dsimp only;simp only[hki,hi0,hkl,zq,za,hx,List.cons_append,List.nil_append,F1,K1,G1,go_sem];refine ja9 kE (by decide) rfl hW.blk (ja3 (by decide) hW.blk (SubR.refl L)) ?_;rintro _ L0 ⟨rfl,hL0⟩-;obtain rfl:=hL0.symm;refine⟨_,jb3 [_] (fun p hp=>by rw[zp.1 hp];exact G1 11 (by decide)),?_⟩;simp only[List.cons_append,List.nil_append,F1,K1,G1,go_sem];refine ja9 kR (by decide) rfl hW.blk (ja3 (by decide) hW.blk (ja3 (by decide) hW.blk (SubR.refl L))) ?_;rintro _ L1 ⟨rfl,hW1⟩-;refine⟨_,jb3 [_,_] (fun p hp=>by
   rcases zN.1 hp with rfl | hp
   ·exact G1 12 (by decide)
   ·rw[zp.1 hp];exact G1 11 (by decide)),?_⟩
  have F2:=bF hW1.blk;have K2:=bK hW1.blk;have G2:=bN hW1.blk;have kD:=CtrH.pr (u_do hW1 x (jf3 hG.right) hA (do_ok hG (by omega)));simp only[Stp.cl,Move.c,Cert.c,Recall.c,Purity.c,List.cons_append,List.nil_append]at kD;simp only[List.cons_append,List.nil_append,F2,K2,G2,go_sem];refine ja9 kD (by decide) rfl hW1.blk (ja3 (by decide) hW1.blk (ja3 (by decide) hW1.blk (SubR.refl L1))) ?_;rintro _ L2 ⟨rfl,hW2⟩-;refine⟨_,jb3 [_,_] (fun p hp=>by
   rcases zN.1 hp with rfl | hp
   ·exact G2 12 (by decide)
   ·rw[zp.1 hp];exact G2 11 (by decide)),?_⟩
  have F3:=bF hW2.blk;have K3:=bK hW2.blk;have G3:=bN hW2.blk;have kR2:=CtrH.pr (jf5 hW2 ((hG.put (x:=x)).ask (by omega)));simp only[List.cons_append,List.nil_append,F3,K3,G3,go_sem];refine ja9 kR2 (by decide) rfl hW2.blk (ja3 (by decide) hW2.blk (ja3 (by decide) hW2.blk (SubR.refl L2))) ?_;rintro _ L3 ⟨rfl,hW3⟩-;refine⟨_,jb3 [_,_] (fun p hp=>by
   rcases zN.1 hp with rfl | hp
   ·exact G3 12 (by decide)
   ·rw[zp.1 hp];exact G3 11 (by decide)),?_⟩
  simp only[List.cons_append,List.nil_append,go_sem];refine hN L3 _ hW3 (jc7 [1,2,7,8,10,11,12,13,14,15,16,17,18] ?_ (SubR.refl _) rfl);simp only[go_sem];rfl
end
end
section
open Go.Abs
attribute [local go_sem] Evid.iv Evid.c Place.c Move.c Cert.c Recall.c Purity.c Sample.c Recipe.c ints ic
theorem c15(e:Evid)(h3:e.places.length<=100000)(h4:e.moves.length<=100000)(h5:e.certs.length<=100000)(h6:e.recalls.length<=100000)(h7:e.purs.length<=100000):Ctr G.P 19 [e.iv,e.iv] (· = .bool true):=by
 refine ja5 [.tmp 4] Tryz.func19 ?_;simp only[yx,go_sem];refine jaw [2,3,5] [2,3] (fun i:Nat=>⟨[(2,.loc 2 8 0 0),(3,.loc 3 8 0 0),(5,.im (.int i))],[(3,8,[e.c]),(2,8,[e.c])],[]⟩) (fun i=>i<=e.places.length) (fun i=>e.places.length-i) 0 ?_ (zI _) ?_
 ·simp only[Int.natCast_zero,go_sem]
 ·intro i hi;by_cases hp:(i:Int)<e.places.length
  ·have hd:decide ((i:Int)<e.places.length)=true:=ze hp;obtain⟨x,hx⟩:=jby hp;have h1:=jaa (n:=(i:Int)+1) (by omega);simp only[hd,za,hx,go_sem];refine jaf 11 ?_;simp only[hd,za,hx,yx,go_sem];refine jai (i+1) ?_ (by omega) (by omega);simp only[h1,Int.natCast_add,go_sem]
  ·have hd:decide ((i:Int)<e.places.length)=false:=zw hp;simp only[hd,go_sem];clear hd hp hi;refine jaw [2,3,6] [2,3] (fun i:Nat=>⟨[(2,.loc 2 8 0 0),(3,.loc 3 8 0 0),(6,.im (.int i))],[(3,8,[e.c]),(2,8,[e.c])],[]⟩) (fun i=>i<=e.moves.length) (fun i=>e.moves.length-i) 0 ?_ (zI _) ?_
   ·simp only[Int.natCast_zero,go_sem]
   ·intro i hi;by_cases hp:(i:Int)<e.moves.length
    ·have hd:decide ((i:Int)<e.moves.length)=true:=ze hp;obtain⟨x,hx⟩:=jby hp;have h1:=jaa (n:=(i:Int)+1) (by omega);simp only[hd,za,hx,go_sem];refine jaf 11 ?_;simp only[hd,za,hx,yx,go_sem];refine jai (i+1) ?_ (by omega) (by omega);simp only[h1,Int.natCast_add,go_sem]
    ·have hd:decide ((i:Int)<e.moves.length)=false:=zw hp;simp only[hd,go_sem];clear hd hp hi;refine jaw [2,3,7] [2,3] (fun i:Nat=>⟨[(2,.loc 2 8 0 0),(3,.loc 3 8 0 0),(7,.im (.int i))],[(3,8,[e.c]),(2,8,[e.c])],[]⟩) (fun i=>i<=e.certs.length) (fun i=>e.certs.length-i) 0 ?_ (zI _) ?_
     ·simp only[Int.natCast_zero,go_sem]
     ·intro i hi;by_cases hp:(i:Int)<e.certs.length
      ·have hd:decide ((i:Int)<e.certs.length)=true:=ze hp;obtain⟨x,hx⟩:=jby hp;have h1:=jaa (n:=(i:Int)+1) (by omega);simp only[hd,za,hx,go_sem];refine jaf 11 ?_;simp only[hd,za,hx,yx,go_sem];refine jai (i+1) ?_ (by omega) (by omega);simp only[h1,Int.natCast_add,go_sem]
      ·have hd:decide ((i:Int)<e.certs.length)=false:=zw hp;simp only[hd,go_sem];clear hd hp hi;refine jaw [2,3,8] [2,3] (fun i:Nat=>⟨[(2,.loc 2 8 0 0),(3,.loc 3 8 0 0),(8,.im (.int i))],[(3,8,[e.c]),(2,8,[e.c])],[]⟩) (fun i=>i<=e.recalls.length) (fun i=>e.recalls.length-i) 0 ?_ (zI _) ?_
       ·simp only[Int.natCast_zero,go_sem]
       ·intro i hi;by_cases hp:(i:Int)<e.recalls.length
        ·have hd:decide ((i:Int)<e.recalls.length)=true:=ze hp;obtain⟨x,hx⟩:=jby hp;have h1:=jaa (n:=(i:Int)+1) (by omega);simp only[hd,za,hx,go_sem];refine jaf 11 ?_;simp only[hd,za,hx,yx,go_sem];refine jai (i+1) ?_ (by omega) (by omega);simp only[h1,Int.natCast_add,go_sem]
        ·have hd:decide ((i:Int)<e.recalls.length)=false:=zw hp;simp only[hd,go_sem];clear hd hp hi;refine jaw [2,3,9] [2,3] (fun i:Nat=>⟨[(2,.loc 2 8 0 0),(3,.loc 3 8 0 0),(9,.im (.int i))],[(3,8,[e.c]),(2,8,[e.c])],[]⟩) (fun i=>i<=e.purs.length) (fun i=>e.purs.length-i) 0 ?_ (zI _) ?_
         ·simp only[Int.natCast_zero,go_sem]
         ·intro i hi;by_cases hp:(i:Int)<e.purs.length
          ·have hd:decide ((i:Int)<e.purs.length)=true:=ze hp;obtain⟨x,hx⟩:=jby hp;have h1:=jaa (n:=(i:Int)+1) (by omega);simp only[hd,za,hx,go_sem];refine jaf 11 ?_;simp only[hd,za,hx,yx,go_sem];refine jai (i+1) ?_ (by omega) (by omega);simp only[h1,Int.natCast_add,go_sem]
          ·have hd:decide ((i:Int)<e.purs.length)=false:=zw hp;simp only[hd,go_sem]
end
section
open Go.Abs
attribute [local go_sem] Evid.iv Evid.c ints ic
section
variable{e:Evid}{qs:List (List (Int×Int))}{xs:List Stp}{x:Stp}
theorem put_no(h:jar (jah e x)≠0):putF e x=e:=zr h
theorem nb_2{P:Exit->St->Prop}{A i:Nat}{L:Abs.Rows}(hW:HasW L A (putF e x) qs)(hG:Good e qs i)(hi:i<=2)(hN:jar (jah e x)=0->∀s,St.Le s (NA A qs xs i x e (putF e x) L)->P .normal s)(hX:putF e x=e->∀s,St.Le s (NH A qs xs (i,L))->P (.exit 1) s):
  awp (GH [] []) (putN 1 (tailN 5 (nPath (jcf Tryz.f4))) .skip) P (NA A qs xs i x e (putF e x) L):=by
 have hA:=hG.ask (by omega);have hF:=jf3 hG.right;have kS:=u_sbl hA;have kM:=c15 e hF.places hF.moves hF.certs hF.recalls hF.purs;have G1:=bN hW.blk;refine jnc nPath rfl ?_
 as_aux_lemma=>
  unfold nPath NA;rcases hc:decide (jar (jah e x)=0)with _ | _
  ·have hp:=put_no (zJ hc);have hl:stepL e (jah e x) qs=[]:=zr (zJ hc);rw[hp]at hW;have kE:=CtrH.pr (u_evid hW hF);rw[hp,hl];obtain⟨xc,hxc⟩:∃xc,xc=x.cl:=⟨_,rfl⟩;rw[<-hxc];simp only[hc,go_sem];refine jci [false,false,false,false,false,false,false,false,false,false,false,false,false,false,false,false,false,true] (.alt 17 .fin .none) [(12,8,[e.c])] (by decide+kernel) (jau _ jad) ?_;simp only[yx,go_sem];refine ja4 kS (by decide) ?_;simp only[yx,go_sem];refine jb8 kE (by decide) rfl hW.blk (ja3 (by decide) hW.blk (ja3 (by decide) hW.blk (SubR.refl L))) ?_;rintro _ L0 ⟨rfl,hL0⟩ _;obtain rfl:=hL0.symm;refine⟨_,jb3 [_,_] (fun p hp=>by
    rcases zN.1 hp with rfl | hp
    ·exact G1 12 (by decide)
    ·rw[zp.1 hp];exact G1 11 (by decide)),?_⟩
   refine And.intro (jau _ jad) ?_;simp only[List.cons_append,List.nil_append,go_sem];refine ja2 kM ?_;simp only[go_sem];refine hX hp _ (jc7 [1,2,7,8,10] ?_ ?_ rfl)
   ·simp only[go_sem];rfl
   ·exact ja3 (by decide) hW.blk (ja3 (by decide) hW.blk (SubR.refl L))
  ·simp only[hc,go_sem];refine hN (zK hc) _ (jc7 [1,2,7,8,10,11,12,13,14,15,16,17,18] ?_ (SubR.refl _) rfl);simp only[go_sem];rfl
end
end
section
open Go.Abs
attribute [local go_sem] Evid.iv Evid.c ints ic
section
variable{e:Evid}{qs:List (List (Int×Int))}{xs:List Stp}{x:Stp}
theorem nb_3{P:Exit->St->Prop}{A i:Nat}{L:Abs.Rows}(hG:Good e qs i)(hi:i<=2)(hc:jar (jah e x)=0)(hN:∀s,St.Le s (NA A qs xs i x e (jah e x) L)->P .normal s):
  awp (GH [] []) (putN 1 (tailN 6 (nPath (jcf Tryz.f4))) .skip) P (NA A qs xs i x e (jah e x) L):=by
 have hA:=hG.ask (by omega);have hA':=do_ok hG (by omega) hc;have hl:stepL e (jah e x) qs=(outF (chg e (jah e x)) qs).map nC:=zm hc;refine jnc nPath rfl ?_
 as_aux_lemma=>
  unfold nPath NA;rw[hl];obtain⟨xc,hxc⟩:∃xc,xc=x.cl:=⟨_,rfl⟩;rw[<-hxc];have fin:∀s,St.Le s (⟨[(1,.im (.sl (qs.map qC))),(2,.im (.sl (xs.map Stp.cl))),(7,.im (.bool true)),(8,.im (.pr A 11 0 0)),(10,.im (.int i)),(11,.loc 11 19 0 0),(12,.loc 12 8 0 0),(13,.im (.sl (bL e qs))),(14,.im (.int (bE e))),
    (15,.im (.sl ((outF (chg e (jah e x)) qs).map nC))),(16,.im (.int (jar (jah e x)))),(17,.im (.sl (bL (jah e x) qs))),(18,.im (.int (bE (jah e x))))],(12,8,[e.c])::(11,19,[xc])::L,[]⟩:St)->P .normal s:=fun s h=>hN s (by unfold NA;rw[hl,<-hxc];exact h)
  rcases hp:posF e with _ | _
  ·rcases hp':posF (jah e x)with _ | _
   ·have ho:outF (chg e (jah e x)) qs=[]:=jmd (fun q _=>chg_ff hp hp') _;have be0:bE e=15:=by unfold bE;rw[hp];rfl
    have be1:bE (jah e x)=15:=by unfold bE;rw[hp'];rfl
    rw[ho,be0,be1]at fin⊢;simp only[go_sem];refine fin _ (jc7 [1,2,7,8,10,11,12,13,14,15,16,17,18] ?_ (SubR.refl _) rfl);simp only[go_sem]
   ·have ho:(outF (chg e (jah e x)) qs).length=qs.length:=jnd (fun q _=>chg_ne (by rw[hp,hp'];decide)) _ (zn _);have hd:decide (((outF (chg e (jah e x)) qs).length:Int)=qs.length)=true:=ze (by rw[ho]);have be0:bE e=15:=by unfold bE;rw[hp];rfl
    have be1:bE (jah e x)=0:=by unfold bE;rw[hp'];rfl
    rw[be0,be1]at fin⊢;simp only[hd,zq,go_sem];refine fin _ (jc7 [1,2,7,8,10,11,12,13,14,15,16,17,18] ?_ (SubR.refl _) rfl);simp only[go_sem]
  ·rcases hp':posF (jah e x)with _ | _
   ·have ho:(outF (chg e (jah e x)) qs).length=qs.length:=jnd (fun q _=>chg_ne (by rw[hp,hp'];decide)) _ (zn _);have hd:decide (((outF (chg e (jah e x)) qs).length:Int)=qs.length)=true:=ze (by rw[ho]);have be0:bE e=0:=by unfold bE;rw[hp];rfl
    have be1:bE (jah e x)=15:=by unfold bE;rw[hp'];rfl
    rw[be0,be1]at fin⊢;simp only[hd,zq,go_sem];refine fin _ (jc7 [1,2,7,8,10,11,12,13,14,15,16,17,18] ?_ (SubR.refl _) rfl);simp only[go_sem]
   ·have kC:=nar_changes hA hA' hp hp';have be0:bE e=0:=by unfold bE;rw[hp];rfl
    have be1:bE (jah e x)=0:=by unfold bE;rw[hp'];rfl
    rw[be0,be1]at fin⊢;simp only[go_sem];refine ja2 kC ?_;simp only[go_sem];refine fin _ (jc7 [1,2,7,8,10,11,12,13,14,15,16,17,18] ?_ (SubR.refl _) rfl);simp only[go_sem]
end
end
section
open Go.Abs
attribute [local go_sem] Evid.iv Evid.c Stp.cl Move.c Cert.c Recall.c Purity.c ints ic
section
variable{e:Evid}{qs:List (List (Int×Int))}{xs:List Stp}{x:Stp}
theorem nb_4{P:Exit->St->Prop}{A i:Nat}{L:Abs.Rows}(hG:Good e qs i)(hi:i<=2)(hc:jar (jah e x)=0)(hN:∀s,St.Le s (NA A qs xs i x e (jah e x) L)->P .normal s):
  awp (GH [] []) (putN 1 (tailN 7 (nPath (jcf Tryz.f4))) .skip) P (NA A qs xs i x e (jah e x) L):=by
 have kF:=jqx e x (jf3 hG.right).certs;have q1:=nar_pos_out (x:=x) hG (by omega) hc;have q2:=nar_pos_in (x:=x) hG (by omega) hc;simp only[Stp.cl,Move.c,Cert.c,Recall.c,Purity.c,List.cons_append,List.nil_append]at kF;have d0:decide (bE e=0)=posF e:=by unfold bE;cases posF e<;>simp
 have d1:decide (bE (jah e x)=0)=posF (jah e x):=by unfold bE;cases posF (jah e x)<;>simp
 refine jnc nPath rfl ?_
 as_aux_lemma=>
  unfold nPath NA;generalize e13:bL e qs=v13 at*;generalize e14:bE e=v14 at*;generalize e15:stepL e (jah e x) qs=v15 at*;generalize e16:jar (jah e x)=v16 at*;generalize e17:bL (jah e x) qs=v17 at*;generalize e18:bE (jah e x)=v18 at*;rcases d2:decide (x.kind=2)with _ | _
  ·have n2:=zJ d2;rcases hf:jh1 e x with _ | _
   ·rw[hf]at kF;simp only[d2,List.cons_append,List.nil_append,go_sem];refine ja2 kF ?_;simp only[d2,List.cons_append,List.nil_append,go_sem];refine hN _ (jc7 [1,2,7,8,10,11,12,13,14,15,16,17,18] ?_ (SubR.refl _) rfl);unfold NA;rw[<-e14,<-e15,<-e16,<-e13,<-e17,<-e18];simp only[go_sem]
   ·rw[hf]at kF;rcases hp:posF e with _ | _
    ·have hp':posF (jah e x)=false:=by
      cases h:posF (jah e x)with
      | false=>rfl
      | true=>have:=q2 n2 hf h;rw[hp]at this;cases this
     rw[hp]at d0;rw[hp']at d1;simp only[d2,List.cons_append,List.nil_append,go_sem];refine ja2 kF ?_;simp only[d2,d0,d1,List.cons_append,List.nil_append,go_sem];refine hN _ (jc7 [1,2,7,8,10,11,12,13,14,15,16,17,18] ?_ (SubR.refl _) rfl);unfold NA;rw[<-e14,<-e15,<-e16,<-e13,<-e17,<-e18];simp only[go_sem]
    ·rw[hp]at d0;simp only[d2,List.cons_append,List.nil_append,go_sem];refine ja2 kF ?_;simp only[d2,d0,List.cons_append,List.nil_append,go_sem];refine hN _ (jc7 [1,2,7,8,10,11,12,13,14,15,16,17,18] ?_ (SubR.refl _) rfl);unfold NA;rw[<-e14,<-e15,<-e16,<-e13,<-e17,<-e18];simp only[go_sem]
  ·have y2:=zK d2;rcases hp:posF e with _ | _
   ·rw[hp]at d0;simp only[d2,d0,List.cons_append,List.nil_append,go_sem];refine hN _ (jc7 [1,2,7,8,10,11,12,13,14,15,16,17,18] ?_ (SubR.refl _) rfl);unfold NA;rw[<-e14,<-e15,<-e16,<-e13,<-e17,<-e18];simp only[go_sem]
   ·have hp':=q1 y2 hp;rw[hp]at d0;rw[hp']at d1;simp only[d2,d0,d1,List.cons_append,List.nil_append,go_sem];refine hN _ (jc7 [1,2,7,8,10,11,12,13,14,15,16,17,18] ?_ (SubR.refl _) rfl);unfold NA;rw[<-e14,<-e15,<-e16,<-e13,<-e17,<-e18];simp only[go_sem]
end
end
section
open Go.Abs
attribute [local go_sem] Evid.iv Evid.c Stp.cl Move.c Cert.c Recall.c Purity.c ints ic
theorem tail_path{G:Ctx}{fn:Func}{c:Code}(f:Code->Code)(hb:fn.body=some c){j:Nat}{Q:Exit->St->Prop}{st:St}(h:awp G (tailN j (f c)) Q st):awp G (tailN j (f (jcf fn))) Q st:=by
 unfold jcf;rw[hb];exact h
section
variable{e:Evid}{qs:List (List (Int×Int))}{xs:List Stp}{x:Stp}
theorem nb_5{P:Exit->St->Prop}{A i:Nat}{L:Abs.Rows}(hb:blks L)(hG:Good e qs i)(hi:i<=2)(hc:jar (jah e x)=0)(hN:∀s,St.Le s (NH A qs xs (i,L))->P .normal s):
  awp (GH [] []) (tailN 8 (nPath (jcf Tryz.f4))) P (NA A qs xs i x e (jah e x) L):=by
 have kF:=jqx e x (jf3 hG.right).certs;have hA:=hG.ask (by omega);have hA':=do_ok hG (by omega) hc;have hfew:=hG.few;simp only[Stp.cl,Move.c,Cert.c,Recall.c,Purity.c,List.cons_append,List.nil_append]at kF;have la:=bl_len (e:=e) (qs:=qs);have lb:=bl_len (e:=jah e x) (qs:=qs);have key:posF e=true->posF (jah e x)=true->∀q∈qs,∃p p',bO e q=some p/\bO (jah e x) q=some p'/\FLB p/\FLB p':=fun h1 h2 q hq=>by
  obtain⟨p,g1,g2⟩:=hA.some hq h1;obtain⟨p',g3,g4⟩:=hA'.some hq h2;exact⟨p,p',g1,g3,g2,g4⟩
 refine tail_path nPath rfl ?_
 as_aux_lemma=>
  unfold nPath NA;have fin:∀s,St.Le s (NH A qs xs (i,L))->P .normal s:=hN;unfold NH at fin;dsimp only at fin;rcases hp:posF e with _ | _
  ·have ha:bL e qs=[]:=by unfold bL;rw[hp];rfl
   rw[ha];generalize bL (jah e x) qs=v17;generalize stepL e (jah e x) qs=v15;simp only[go_sem];refine jb1 [1,2,7,8,10,13,17,19] (fun g:Unit=>⟨[(1,.im (.sl (qs.map qC))),(2,.im (.sl (xs.map Stp.cl))),(7,.im (.bool true)),(8,.im (.pr A 11 0 0)),(10,.im (.int i)),(13,.im (.sl [])),(17,.im (.sl v17)),(19,.im (.int 0))],L,[]⟩) (fun _=>True) (fun _=>0) () ?_ (ja3 (by decide) hb (ja3 (by decide) hb (SubR.refl L))) rfl trivial ?_
   ·simp only[go_sem]
   rintro _ _;simp only[go_sem];refine fin _ (jc7 [1,2,7,8,10] ?_ (SubR.refl L) rfl);simp only[go_sem]
  rcases hp':posF (jah e x)with _ | _
  ·have ha:bL (jah e x) qs=[]:=by unfold bL;rw[hp'];rfl
   rw[ha];generalize bL e qs=v13;generalize stepL e (jah e x) qs=v15;simp only[go_sem];refine jb1 [1,2,7,8,10,13,17,19] (fun g:Unit=>⟨[(1,.im (.sl (qs.map qC))),(2,.im (.sl (xs.map Stp.cl))),(7,.im (.bool true)),(8,.im (.pr A 11 0 0)),(10,.im (.int i)),(13,.im (.sl v13)),(17,.im (.sl [])),(19,.im (.int 0))],L,[]⟩) (fun _=>True) (fun _=>0) () ?_ (ja3 (by decide) hb (ja3 (by decide) hb (SubR.refl L))) rfl trivial ?_
   ·simp only[go_sem]
   rintro _ _;rcases dn:decide ((0:Int)<v13.length)with _ | _
   ·simp only[dn,go_sem];refine fin _ (jc7 [1,2,7,8,10] ?_ (SubR.refl L) rfl);simp only[go_sem]
   ·simp only[dn,go_sem];refine fin _ (jc7 [1,2,7,8,10] ?_ (SubR.refl L) rfl);simp only[go_sem]
  have ha:bL e qs=qs.map (fB e):=by unfold bL;rw[hp];rfl
  have ha':bL (jah e x) qs=qs.map (fB (jah e x)):=by unfold bL;rw[hp'];rfl
  rw[ha,ha'];generalize stepL e (jah e x) qs=v15;simp only[go_sem];refine jb1 [1,2,7,8,10,11,12,13,17,19] (fun k:Nat=>⟨[(1,.im (.sl (qs.map qC))),(2,.im (.sl (xs.map Stp.cl))),(7,.im (.bool true)),(8,.im (.pr A 11 0 0)),(10,.im (.int i)),(11,.loc 11 19 0 0),(12,.loc 12 8 0 0),(13,.im (.sl (qs.map (fB e)))),(17,.im (.sl (qs.map (fB (jah e x))))),(19,.im (.int k))],(12,8,[e.c])::(11,19,[x.cl])::L,[]⟩) (fun k=>k<=qs.length) (fun k=>qs.length-k) 0 ?_ (SubR.of_eq ?_) rfl (zI _) ?_
  ·simp only[Int.natCast_zero,go_sem]
  ·simp only[List.cons_append,List.nil_append,go_sem]
  intro k hk;by_cases hkl:(k:Int)<qs.length
  ·have hd:decide ((k:Int)<qs.length)=true:=ze hkl;obtain⟨q,hq⟩:=jby hkl;have hqm:=zE hq;have h1:=jaa (n:=(k:Int)+1) (by omega);obtain⟨p,p',g1,g2,g3,g4⟩:=key hp hp' q hqm;have hfb:fB e q=bB (some p):=by unfold fB;rw[g1]
   have hfb':fB (jah e x) q=bB (some p'):=by unfold fB;rw[g2]
   rcases d2:decide (x.kind=2)with _ | _
   ·have n2:=zJ d2;rcases hf:jh1 e x with _ | _
    ·rw[hf]at kF;obtain⟨a1,v1,b1,d1,a2,v2,b3,d3,l1,l2,e1⟩:=jcw e q;obtain⟨a3,v3,b4,d4,a4,v4,b5,d5,l3,l4,e2⟩:=jcw (jah e x) q;simp only[hd,zq,go_sem];refine jaf 37 ?_;simp only[d2,List.cons_append,List.nil_append,go_sem];refine ja4 kF (by decide) ?_;simp only[d2,go_sem];refine ja8 (k+1) ?_ (SubR.refl _) rfl (by show qs.length-(k+1)<qs.length-k;omega) (by show k+1<=qs.length;omega);simp only[h1,Int.natCast_add,go_sem]
    ·rw[hf]at kF;have kI:=jqv g4 g3;rw[nar_in hG (by omega) hc n2 hf hqm g1 g2,<-hfb,<-hfb']at kI;obtain⟨a1,v1,b1,d1,a2,v2,b3,d3,l1,l2,e1⟩:=jcw e q;obtain⟨a3,v3,b4,d4,a4,v4,b5,d5,l3,l4,e2⟩:=jcw (jah e x) q;rw[e1,e2]at kI;simp only[hd,zq,go_sem];refine jaf 37 ?_;simp only[d2,List.cons_append,List.nil_append,go_sem];refine ja4 kF (by decide) ?_;simp only[d2,hkl,zq,za,hq,e1,e2,go_sem];refine ja4 kI (by decide) ?_;simp only[d2,go_sem];refine ja8 (k+1) ?_ (SubR.refl _) rfl (by show qs.length-(k+1)<qs.length-k;omega) (by show k+1<=qs.length;omega);simp only[h1,Int.natCast_add,go_sem]
   ·have y2:=zK d2;have kI:=jqv g3 g4;rw[nar_out hG (by omega) hc y2 hqm g1 g2,<-hfb,<-hfb']at kI;obtain⟨a1,v1,b1,d1,a2,v2,b3,d3,l1,l2,e1⟩:=jcw e q;obtain⟨a3,v3,b4,d4,a4,v4,b5,d5,l3,l4,e2⟩:=jcw (jah e x) q;rw[e1,e2]at kI;simp only[hd,zq,go_sem];refine jaf 37 ?_;simp only[d2,hkl,zq,za,hq,e1,e2,List.cons_append,List.nil_append,go_sem];refine ja4 kI (by decide) ?_;simp only[d2,go_sem];refine ja8 (k+1) ?_ (SubR.refl _) rfl (by show qs.length-(k+1)<qs.length-k;omega) (by show k+1<=qs.length;omega);simp only[h1,Int.natCast_add,go_sem]
  ·have hd:decide ((k:Int)<qs.length)=false:=zw hkl;simp only[hd,zq,go_sem];refine fin _ (jc7 [1,2,7,8,10] ?_ (ja3 (by decide) hb (ja3 (by decide) hb (SubR.refl L))) rfl);simp only[go_sem]
end
end
section
open Go.Abs
attribute [local go_sem] Evid.iv Evid.c ints ic
section
variable{e:Evid}{qs:List (List (Int×Int))}{xs:List Stp}{a:List (Int×Int)}
def P1(e:Evid)(qs:List (List (Int×Int)))(xs:List Stp)(a:List (Int×Int))(i:Nat×Abs.Rows):Prop:=HasW i.2 i.1 e qs/\Good e qs 0/\xs.length<=2/\a.length<=12/\qs.length<=2
end
end
section
open Go.Abs
attribute [local go_sem] ints ic
section
variable{e:Evid}{qs:List (List (Int×Int))}{xs:List Stp}{a:List (Int×Int)}
