/- A part of the proof. No further condition. -/
import Derived.Test.YtjcjcpebocbonaaGreatKZ46
import Derived.ChangeArms
import Derived.DataReads
import Derived.Deep.Slices
import Derived.ProofKit
import Derived.Carry
set_option linter.all false
set_option maxRecDepth 10000000
set_option maxHeartbeats 16000000
namespace Go.Proofs.YtjcjcpebocbonaaGreat
section
set_option maxRecDepth 1000000
open Go.Abs
open Go.LP (Rw RT tsum Sol Bds)
attribute [local go_sem] ints ic Evid.c Evid.iv Recall.c frac
theorem pickC_eq(ps:List (Int×Int)):(ps.map fun p=>[IV.int p.1,IV.int p.2])=ps.map pickC:=rfl
theorem q_blaw(k0:Ctr G.P 5 [] (· = .bool true))(e:Evid)(h:List (List Raw))(pl day:Int)(r:Recall):Ctr G.P 4 [e.iv,hist h,.int pl,.int day,.agg r.c] (· = .bool true):=by
 have kL:=pb_light e;rcases hl:jsp e with _ | _
 ·rw[hl]at kL;simp only[Evid.iv,Evid.c,hist]at kL⊢;refine ja4 [.tmp 10] Tryz.func4 ?_;simp only[go_sem];refine ja0 k0 ?_;simp only[go_sem];refine ja0 kL ?_;simp only[go_sem]
 rw[hl]at kL;simp only[jsp,zn,qt,zO]at hl;obtain⟨m6,_,_,r4,p4,b9⟩:=hl;have kF:=t_few15 h;simp only[hist]at kF;by_cases b0:FewH h
 case neg=>
  simp only[Evid.iv,Evid.c,hist]at kL⊢;refine ja4 [.tmp 10] Tryz.func4 ?_;simp only[go_sem];refine ja0 k0 ?_;simp only[go_sem];refine ja0 kL ?_;simp only[go_sem];refine jhm kF ?_;rintro _ ⟨z,rfl,hz⟩;rcases z with _ | _
  ·simp only[go_sem]
  ·exact absurd (hz rfl) b0
 obtain⟨c,kH,hc⟩:=h_says e h b0;rcases dc:decide (c=0)with _ | _
 ·simp only[Evid.iv,Evid.c,hist]at kL kH⊢;refine ja4 [.tmp 10] Tryz.func4 ?_;simp only[go_sem];refine ja0 k0 ?_;simp only[go_sem];refine ja0 kL ?_;simp only[go_sem];refine jhm kF ?_;rintro _ ⟨z,rfl,hz⟩;rcases z with _ | _
  ·simp only[go_sem]
  ·simp only[go_sem];refine ja0 kH ?_;simp only[dc,go_sem]
 obtain⟨h0,H,hH,hx⟩:=hc (zI dc);have a8:e.mats<=3:=by have:=jes (jay h0).1;omega
 obtain⟨n,f,q1,kB⟩:=jq5 (e:=e) pl day (small3 (by omega) a8 (by omega));rcases df:decide (f=0)with _ | _
 ·have b6:n=0/\f=1:=by
   rcases ha:argQ e pl day with _ | _
   ·exact q1.bad ha
   ·exact absurd (jez q1 ha (by omega) a8 hH hx).1 (zJ df)
  obtain⟨rfl,rfl⟩:=b6;simp only[Evid.iv,Evid.c,hist]at kL kH kB⊢;refine ja4 [.tmp 10] Tryz.func4 ?_;simp only[go_sem];refine ja0 k0 ?_;simp only[go_sem];refine ja0 kL ?_;simp only[go_sem];refine jhm kF ?_;rintro _ ⟨z,rfl,hz⟩;rcases z with _ | _
  ·simp only[go_sem]
  ·simp only[go_sem];refine ja0 kH ?_;simp only[dc,go_sem];refine ja0 kB ?_;simp only[go_sem]
 have f0:=zI df;subst f0;obtain⟨g1,⟨n0,n1⟩,g3,g4⟩:=jke q1 h0 (by omega) a8 hH hx rfl;have b8:(jdh e pl day).length<=1000:=by
  have h1:=jhu (l:=e.moves) (k:=e.mats.toNat) (pl:=pl) (day:=day) e.moves.length;have h2:e.moves.length*e.mats.toNat<=6*3:=yl (by omega) (by omega);have:(jdh e pl day).length<=e.moves.length*e.mats.toNat:=h1;omega
 have kP:=q_picks e h0 pl day;have kM:=h_mass hH (jdh e pl day) b8 (by have:=hH.len;omega);rw[g1,pickC_eq]at kM;have a6:=jqj (fun l hl=>(hH.row l hl).2) _ _ _ 4 (jbn (by omega)) g1;have a6:=a6.mono (m:=5000) (by omega);have sM:SmallE {e with recalls:=e.recalls++[r]}:=small3 (by show e.moves.length<=6;omega) (by show e.mats<=3;omega) (by show e.purs.length<=40;omega);obtain⟨m,g,q2,b3⟩:=jq5 pl day sM;have less:g=0->m<=n:=fun hg=>brought_less q1 q2 (by omega) a8 hH hx h0 rfl hg;generalize wgt e (jdh e pl day) (ptH e.mats.toNat H)=a1 at*;have b4:=FL_k a6;have a7:FL 19000000000 ((1000:Int):Rat):=(jbn (n:=1000) (by omega)).mono (by omega);have kI:=t_intf 1000 (by omega);rw[div_one]at kI;have kD:=f_div (a:=a1) (b:=((1000:Int):Rat)) (by decide) (a6.mono (by omega)) a7;have kN:=t_intf n (by omega);have kC:=f_cmp (a:=Rat.divInt n 1) (b:=a1/((1000:Int):Rat)) (by rw[div_one];exact(jbn (by omega)).mono (by omega)) (b4.mono (by omega));have b1:=brought_cmp g3;generalize cmpR (Rat.divInt n 1) (a1/((1000:Int):Rat))=cc at*;generalize a1/((1000:Int):Rat)=b2 at*;generalize Rat.divInt n 1=nr at*;have b5:decide (0<=n)=true:=zp n0;clear a6 b4 a7 q1 q2 g1 g3 g4 hc sM hx hH;simp only[Evid.iv,Evid.c,hist]at kL kH kB kP kM b3⊢
 refine ctrX_of (c:=tailN 0 (jcu Tryz.f4)) (t:=10) (goodH [74,77] []) Tryz.func4 rfl (by decide+kernel) (ye rfl) rfl ?_;refine SemC.cuts (goodH [74,77] []) ⟨[(1,.im (.sl (h.map rowC))),(2,.im (.int pl)),(3,.im (.int day)),(5,.loc 5 8 0 0),(9,.loc 9 2 0 0),(11,.im (.bool true)),(12,.im (.int n))],[(9,2,[r.c]),(5,8,[e.c])],[]⟩ 5 rfl (by decide+kernel) ?_ ?_
 ·refine ji4 rfl ?_
  as_aux_lemma=>
   simp only[go_sem];refine ja0 k0 ?_;simp only[go_sem];refine ja0 kL ?_;simp only[go_sem];refine jhm kF ?_;rintro _ ⟨z,rfl,hz⟩;rcases z with _ | _
   ·simp only[go_sem]
   ·simp only[go_sem];refine ja0 kH ?_;simp only[dc,go_sem];refine ja0 kB ?_;simp only[go_sem];refine jkj [1,2,3,5,9,11,12] ?_ (SubR.of_eq ?_) rfl
    ·simp only[go_sem]
    ·simp only[go_sem]
 rw[jdg];refine SemC.cuts (goodH [74,77] []) ⟨[(2,.im (.int pl)),(3,.im (.int day)),(5,.loc 5 8 0 0),(9,.loc 9 2 0 0),(11,.im (.bool true)),(12,.im (.int n)),(15,.im (.bool true)),(16,.loc 16 4 0 0),(18,.loc 18 8 0 0)],[(18,8,[e.c]),(16,4,[fc b2]),(9,2,[r.c]),(5,8,[e.c])],[]⟩ 3 rfl (by decide+kernel) ?_ ?_
 ·unfold jlk at kM;unfold fc;simp only[frac]at kM kI kD;refine ji4 rfl ?_
  as_aux_lemma=>
   simp only[go_sem];refine ja0 kP ?_;simp only[go_sem];refine ja0 kM ?_;simp only[go_sem];refine jah ?_;simp only[go_sem];refine ja3 kI (by decide) ?_;simp only[go_sem];refine ja3 kD (by decide) ?_;simp only[go_sem];refine jkj [2,3,5,9,11,12,15,16,18] ?_ (jd9 rfl (jd9 rfl (jd9 rfl (jd9 rfl jba)))) rfl;simp only[go_sem]
 rw[jdg];refine SemC.cuts (goodH [74,77] []) ⟨[(2,.im (.int pl)),(3,.im (.int day)),(11,.im (.bool true)),(12,.im (.int n)),(15,.im (.bool true)),(16,.loc 16 4 0 0),(18,.loc 18 8 0 0)],[(18,8,[Evid.c {e with recalls:=e.recalls++[r]}]),(16,4,[fc b2]),(9,2,[r.c]),(5,8,[e.c])],[]⟩ 1 rfl (by decide+kernel) (qb_A e r pl day n (by omega) fun s hs=>hs) ?_;rw[jdg];refine SemC.awp (goodH [74,77] []) (by decide+kernel) ?_;unfold fc;simp only[frac]at kC kN;refine jo1 rfl ?_;simp only[go_sem];refine ja0 b3 ?_;simp only[go_sem];rcases dg:decide (g=0)with _ | _
 ·refine jaf 25 ?_;simp only[b5,go_sem];refine ja3 kN (by decide) ?_;simp only[go_sem];refine ja3 kC (by decide) ?_;simp only[b1,dg,go_sem]
 ·have b7:decide (m<=n)=true:=zp (less (zI dg));refine jaf 25 ?_;simp only[b5,go_sem];refine ja3 kN (by decide) ?_;simp only[go_sem];refine ja3 kC (by decide) ?_;simp only[b1,dg,b7,go_sem]
end
end Go.Proofs.YtjcjcpebocbonaaGreat
namespace Go.Abs
section
open Go.RowKit (Below)
def tileB(G:Ctx):Nat->List (Nat×TypeId)->Nat->Bool
 | k,[],n=>k==n
 | k,(o,t)::r,n=>o==k&&tileB G (k+(G.ti t).size) r n
def opens(G:Ctx):Nat->TypeId->Bool
 | 0,_=>false
 | n+1,t=>(G.ti t).size !=0&&match(G.ti t).kind with
  | .it _ | .bl | .str=>(G.ti t).size==1
  | .sl e=>(G.ti t).size==1&&opens G n e
  | .st fs=>tileB G 0 fs (G.ti t).size&&fs.all fun p=>opens G n p.2
  | _=>false
def Fits(G:Ctx):Nat->TypeId->List IV->Prop
 | 0,_,_=>False
 | n+1,t,xs=>match(G.ti t).kind with
  | .it k=>∃i,xs=[.sc (.int k i)]/\(Lit.int k i).wf=true
  | .bl=>∃b,xs=[.sc (.bool b)]
  | .str=>∃s:ByteArray,xs=[.sc (.string s)]/\s.size<=maxLen
  | .sl e=>∃es,xs=[.sl es]/\es.length<=maxLen/\∀c∈es,Fits G n e c
  | .st fs=>xs.length=(G.ti t).size/\∀p∈fs,Fits G n p.2 ((xs.drop p.1).take (G.ti p.2).size)
  | _=>False
theorem jq9{α:Type}{R:Nat->α->Prop}:∀n,(∀i,i<n->∃x,R i x)->∃l:List α,l.length=n/\∀i x,l[i]? =some x->R i x
 | 0,_=>⟨[],rfl,fun i x h=>by simp at h⟩
 | n+1,h=>by
  obtain⟨l,hl,hR⟩:=jq9 n fun i hi=>h i (by omega);obtain⟨x,hx⟩:=h n (by omega);refine⟨l++[x],by simp[hl],fun i y hy=> ?_⟩;rcases zT i l.length with hi | hi
  ·rw[zK hi]at hy;exact hR i y hy
  ·rw[zP hi]at hy;have a1:i=l.length:=by
    have:=(zr.1 hy).1;simp at this;omega
   subst a1;simp at hy;subst hy;rw[hl];exact hx
theorem RepL.append{w:World}{M:Nat->Nat->Prop}{xs ys:List IV}{us vs:List Value}(h:RepL w M xs us)(h':RepL w M ys vs):RepL w M (xs++ys) (us++vs):=by
 refine⟨by simp[h.1,h'.1],fun k x v hx hv=> ?_⟩;rcases zT k xs.length with hk | hk
 ·rw[zK hk]at hx;rw[zK (by rw[<-h.1];exact hk)]at hv;exact h.2 k x v hx hv
 ·rw[zP hk]at hx;rw[zP (by rw[<-h.1];exact hk),<-h.1]at hv;exact h'.2 _ x v hx hv
section
variable{G:Ctx}{H:Type}{enc:TypeId×Value->H}{w:World}{base:Nat}{spare:Nat->Bool}{held:Bool}
abbrev NoM:Nat->Nat->Prop:=fun _ _=>False
theorem jjt(hG:G.Ok){t:TypeId}(h:(G.ti t).size≠0):G.P.cellsOf t=(G.ti t).size:=by
 obtain⟨i,z,hi,hs,_⟩:=hG.info h;simp[Program.cellsOf,hi,hs]
theorem jof(hG:G.Ok):∀(n m:Nat) (t:TypeId) (cs:List Value) (x:DataW H×List MemPlace),opens G n t=true->DataW.trod enc G.P w base spare held m t cs=some x->
  ∃xs,RepL w NoM xs cs/\(∀y∈xs,y.one=true)/\xs.length=(G.ti t).size/\Fits G n t xs
 | 0,_,_,_,_,ho,_=>by simp[opens]at ho
 | n+1,m,t,cs,x,ho,h=>by
  unfold opens at ho;simp only[zn,qh,ne_eq]at ho;obtain⟨h0,ho⟩:=ho;have one:∀{v:Value} {y:IV},Rep w NoM y v->y.one=true->Fits G (n+1) t [y]->(G.ti t).size=1->cs=[v]->
    ∃xs,RepL w NoM xs cs/\(∀y∈xs,y.one=true)/\xs.length=(G.ti t).size/\Fits G (n+1) t xs:=by
   intro v y h1 h2 h3 h4 h5;subst h5;exact⟨[y],RepL.cons h1 RepL.nil,by simpa using h2,h4.symm,h3⟩
  split at ho
  ·rename_i k hk;obtain⟨i,rfl,_,b2⟩:=DataW.trod_int (hG.it h0 hk) h;exact one (.sc _ rfl) rfl (by unfold Fits;rw[hk];exact⟨i,rfl,b2⟩) (by simpa using ho) rfl
  ·rename_i hk;obtain⟨b,rfl,rfl⟩:=DataW.trod_bool (hG.bl h0 hk) h;exact one (.sc _ rfl) rfl (by unfold Fits;rw[hk];exact⟨b,rfl⟩) (by simpa using ho) rfl
  ·rename_i hk;obtain⟨s,rfl,_,b2⟩:=DataW.trod_string (hG.str h0 hk) h;exact one (.sc _ rfl) rfl (by unfold Fits;rw[hk];exact⟨s,rfl,b2⟩) (by simpa using ho) rfl
  ·rename_i e hk;simp only[zn,yB]at ho;obtain⟨h1,ho⟩:=ho;rcases DataW.trod_slice (hG.sl h0 hk) h with ⟨rfl,_⟩ | ⟨a,len,cap,elems,rest,m',rfl,rfl,_,_,c9,e4,e3,b1,_⟩
   ·exact one (.nil _ _) rfl (by unfold Fits;rw[hk];exact⟨[],rfl,zG _,by simp⟩) h1 rfl
   ·have c6:(G.ti e).size≠0:=by
     cases n with
     | zero=>simp[opens]at ho
     | succ n=>
      unfold opens at ho;simp only[zn,qh,ne_eq]at ho;exact ho.1
    rw[jjt hG c6]at b1;have hex:∀i,i<len->∃p:List IV×List Value,w.cells? base (a.add (i*(G.ti e).size)) (G.ti e).size=some p.2/\RepL w NoM p.1 p.2/\(∀y∈p.1,y.one=true)/\p.1.length=(G.ti e).size/\Fits G n e p.1:=by
     intro i hi;have h3:=b1 i hi;rw[zw (by omega)]at h3;obtain⟨b9,h4,h5⟩:=Option.bind_eq_some_iff.1 h3;obtain⟨xs,h6,h7,h8,h9⟩:=jof hG n _ e b9 _ ho h5;exact⟨⟨xs,b9⟩,h4,h6,h7,h8,h9⟩
    obtain⟨l,hl,hR⟩:=jq9 len hex;have a1:∀(i:Nat) c,(l.map (·.1))[i]? =some c->∃us,w.cells? base (a.add (i*(G.ti e).size)) (G.ti e).size=some us/\RepL w NoM c us/\(∀y∈c,y.one=true)/\c.length=(G.ti e).size/\Fits G n e c:=by
     intro i c hc;rw[zq]at hc;obtain⟨p,hp,rfl⟩:=qz.1 hc;obtain⟨h3,h4,h5,h6,h7⟩:=hR i p hp;exact⟨p.2,h3,h4,h5,h6,h7⟩
    have hlen:(l.map (·.1)).length=len:=by simpa using hl
    have b6:Fits G (n+1) t [.sl (l.map (·.1))]:=by
     unfold Fits;rw[hk];refine⟨_,rfl,by omega,fun c hc=> ?_⟩;obtain⟨i,hi⟩:=yP hc;obtain⟨_,_,_,_,_,h7⟩:=a1 i c hi;exact h7
    refine one (y:= .sl (l.map (·.1))) ?_ rfl b6 h1 rfl;by_cases hz:len=0
    ·subst hz;have:l=[]:=zV hl;subst this;exact .nil _ _
    ·have a8:∀i c j y,(l.map (·.1))[i]? =some c->c[j]? =some y->∃u,w.cell? (a.add (i*(G.ti e).size+j))=some u/\Rep w NoM y u/\y.one=true:=by
      intro i c j y hi hj;obtain⟨us,h3,h4,h5,h6,_⟩:=a1 i c hi;have e1:=(zr.1 hj).1;obtain⟨_,h7,h8⟩:=World.cells?_some h3;have hu:us[j]? =some (us[j]'(by omega)):=zw (by omega);refine⟨_,?_,h4.2 j y _ hj hu,h5 y (zk hj)⟩;have:=h8 j (by omega);rw[Go.Deep.add_add]at this;rw[this,hu]
     have b5:a=⟨a.block,a.off,none⟩:=by
      have hg:(l.map (·.1))[0]? =some ((l.map (·.1))[0]'(by omega)):=zw (by omega);obtain⟨us,_,_,_,h6,_⟩:=a1 0 _ hg;have c5:((l.map (·.1))[0]'(by omega))[0]? =some (((l.map (·.1))[0]'(by omega))[0]'(by omega)):=zw (by omega);obtain⟨u,h3,_⟩:=a8 0 _ 0 _ hg c5;simp[Addr.add]at h3;have:=World.cell?_spot h3;cases a;simp_all
     have b8:∀k,a.add k=⟨a.block,a.off+k,none⟩:=fun k=>by
      obtain⟨b,o,sp⟩:=a;cases b5;unfold Addr.add;split
      ·rename_i c3;subst c3;rfl
      ·rfl
     have b3:∀(i:Nat) c (j:Nat) y,(l.map (·.1))[i]? =some c->c[j]? =some y->w.cell? ⟨a.block,a.off+i*(G.ti e).size+j,none⟩=some ((w.cell? ⟨a.block,a.off+i*(G.ti e).size+j,none⟩).getD undef)/\
       y.one=true/\Rep w NoM y ((w.cell? ⟨a.block,a.off+i*(G.ti e).size+j,none⟩).getD undef):=by
      intro i c j y hi hj;obtain⟨u,h3,h4,h5⟩:=a8 i c j y hi hj;rw[b8,<-jH]at h3;rw[h3];exact⟨rfl,h5,h4⟩
     have:=Rep.sl (w:=w) (M:=NoM) (l.map (·.1)) (G.ti e).size a.block a.off cap (fun i j=>(w.cell? ⟨a.block,a.off+i*(G.ti e).size+j,none⟩).getD undef)
      (by intro hn;rw[hn]at hlen;simp at hlen;omega)
      (fun c hc=>by obtain⟨i,hi⟩:=yP hc;obtain⟨_,_,_,_,h6,_⟩:=a1 i c hi;exact h6)
      (by omega)
      (fun i c j y hi hj=>⟨(b3 i c j y hi hj).2.1,(b3 i c j y hi hj).1,fun h=>h⟩)
      (fun i c j y hi hj=>(b3 i c j y hi hj).2.2)
     rw[hlen,<-b5]at this;exact this
  ·rename_i fs hk;simp only[zn]at ho;obtain⟨ht,ho⟩:=ho;obtain⟨gs,hu,c4⟩:=hG.st h0 hk;obtain⟨xs,m',rfl,_,b4,c8,b1⟩:=DataW.trod_struct hu h;rw[jjt hG h0]at b4;have b0:∀p∈fs,∃ys,RepL w NoM ys ((cs.drop p.1).take (G.ti p.2).size)/\(∀y∈ys,y.one=true)/\ys.length=(G.ti p.2).size/\Fits G n p.2 ys:=by
    intro p hp;obtain⟨i,hi⟩:=yP hp;rw[<-c4,zq]at hi;obtain⟨f,hf,rfl⟩:=qz.1 hi;have b7:gs[i]? =some f:=by simpa using hf
    have h3:=b1 i f b7;have e2:i<gs.size:=(zm.1 b7).1;rw[zw (by omega)]at h3;have a7:=List.all_eq_true.1 ho _ hp;have c0:(G.ti f.type).size≠0:=by
     cases n with
     | zero=>simp[opens]at a7
     | succ n=>
      simp only[]at a7;unfold opens at a7;simp only[zn,qh,ne_eq]at a7;exact a7.1
    rw[jjt hG c0]at h3;exact jof hG n _ _ _ _ a7 h3
   have build:∀(r:List (Nat×TypeId)) (k:Nat),(∀p∈r,p∈fs)->tileB G k r (G.ti t).size=true->k<=cs.length->∃zs,RepL w NoM zs (cs.drop k)/\(∀y∈zs,y.one=true)/\
     ∀p∈r,k<=p.1/\Fits G n p.2 ((zs.drop (p.1-k)).take (G.ti p.2).size):=by
    intro r
    induction r with
    | nil=>
     intro k _ a6 _;simp only[tileB,yB]at a6;refine⟨[],?_,by simp,by simp⟩;rw[zZ (by omega)];exact RepL.nil
    | cons p r ih=>
     obtain⟨o,u⟩:=p;intro k hm a6 e0;simp only[tileB,zn,yB]at a6;obtain⟨rfl,a6⟩:=a6;obtain⟨ys,h3,h4,h5,h6⟩:=b0 (o,u) (hm _ (zU ..));have hle:o+(G.ti u).size<=cs.length:=by
      have:=h3.1;simp at this h5;omega
     obtain⟨zs,h7,h8,h9⟩:=ih _ (fun p hp=>hm p (zW _ hp)) a6 hle;refine⟨ys++zs,?_,?_,?_⟩
     ·have:=h3.append h7;rw[<-vF,y7]at this;exact this
     ·intro y hy;rcases qk.1 hy with h | h
      ·exact h4 y h
      ·exact h8 y h
     ·intro p hp;rcases zL.1 hp with rfl | hp
      ·refine⟨zu _,?_⟩;simp only[vY,yG];rw[<-h5]
       simpa using h6
      ·obtain⟨e5,c7⟩:=h9 p hp;refine⟨by omega,?_⟩;rw[List.drop_append,zZ (by simp at h5;omega),List.nil_append];have e:p.1-o-ys.length=p.1-(o+(G.ti u).size):=by simp at h5;omega
       rw[e];exact c7
   obtain⟨zs,h7,h8,h9⟩:=build fs 0 (fun _ h=>h) ht (zG _);rw[yG]at h7;refine⟨zs,h7,h8,by rw[h7.1,b4],?_⟩;unfold Fits;rw[hk];exact⟨by rw[h7.1,b4],fun p hp=>by simpa using (h9 p hp).2⟩
  ·cases ho
end
end
section
open Go.RowKit (Below)
open Go.ChangeShapes Go.WideShapes
def FitsA(G:Ctx)(n:Nat)(t:TypeId)(y:IV):Prop:=
 if aggK (G.ti t).kind=true then ∃xs,y= .agg xs/\Fits G n t xs else Fits G n t [y]
def FitsL(G:Ctx)(n:Nat):List TypeId->List IV->Prop
 | [],[]=>True
 | t::ts,y::ys=>FitsA G n t y/\FitsL G n ts ys
 | _,_=>False
section
variable{G:Ctx}{H:Type}{enc:TypeId×Value->H}{w:World}{base:Nat}{spare:Nat->Bool}{held:Bool}{r:Reach}{b0 n:Nat}
theorem opens_ne{t:TypeId}(h:opens G n t=true):(G.ti t).size≠0:=by
 cases n with
 | zero=>simp[opens]at h
 | succ n=>
  unfold opens at h;simp only[zn,qh,ne_eq]at h;exact h.1
theorem open_arg(hG:G.Ok){t:TypeId}{v:Value}{d:DataW H}{p:List MemPlace}(ho:opens G n t=true)(hv:Value.okWide G.P w r b0 t v)(h:DataW.Trod enc G.P w base spare held t v d p):
  ∃y,Rep w NoM y v/\FitsA G n t y:=by
 obtain⟨m,hm⟩:=h;have h0:=opens_ne ho;obtain⟨xs,h1,h2,h3,h4⟩:=jof hG n m t _ _ ho hm;have single:v.cells= #[v]->aggK (G.ti t).kind=false->∃y,Rep w NoM y v/\FitsA G n t y:=by
  intro hc hk;rw[hc]at h1;obtain⟨hl,hr⟩:=h1
  match xs,hl with
  | [y],_=>
   refine⟨y,hr 0 y v rfl rfl,?_⟩;unfold FitsA;rw[hk];exact h4
 have a1:=ho;cases n with
 | zero=>simp[opens]at ho
 | succ n=>
  unfold opens at a1;simp only[zn]at a1;obtain⟨_,a1⟩:=a1;split at a1
  ·rename_i k hk;obtain⟨i,rfl⟩:=okWide_int (hG.it h0 hk) hv;exact single rfl (by rw[hk];rfl)
  ·rename_i hk;obtain⟨i,rfl⟩:=okWide_bool (hG.bl h0 hk) hv;exact single rfl (by rw[hk];rfl)
  ·rename_i hk;obtain⟨i,rfl⟩:=okWide_string (hG.str h0 hk) hv;exact single rfl (by rw[hk];rfl)
  ·rename_i e hk;obtain⟨a,l,c,rfl⟩:=okWide_slice (hG.sl h0 hk) hv;exact single rfl (by rw[hk];rfl)
  ·rename_i fs hk;obtain⟨gs,hu,_⟩:=hG.st h0 hk;obtain⟨cs,rfl,_⟩:=okWide_struct hu hv;refine⟨.agg xs,RepL.agg (by simpa [Value.cells]using h1) h2,?_⟩;unfold FitsA;rw[zh (by rw[hk];rfl)];exact⟨xs,rfl,h4⟩
  ·cases a1
theorem jqc(hG:G.Ok):∀{ts:List TypeId} {vs:List Value} {ds:List (DataW H)} {p:List MemPlace},(∀t∈ts,opens G n t=true)->
  (∀(j:Nat) t v,ts[j]? =some t->vs[j]? =some v->Value.okWide G.P w r b0 t v)->DataW.TrodAll enc G.P w base spare held ts vs ds p->∃ys,RepL w NoM ys vs/\FitsL G n ts ys
 | [],[],[],_,_,_,_=>⟨[],RepL.nil,trivial⟩
 | t::ts,v::vs,d::ds,_,ho,hv,⟨_,_,h1,h2,_⟩=>by
  obtain⟨y,h3,h4⟩:=open_arg hG (ho t (zU ..)) (hv 0 t v rfl rfl) h1;obtain⟨ys,h5,h6⟩:=jqc hG (fun t ht=>ho t (zW _ ht)) (fun j t v hj hk=>hv (j+1) t v (by simpa using hj) (by simpa using hk)) h2;exact⟨y::ys,RepL.cons h3 h5,h4,h6⟩
theorem jqx{P:Program}(hl:laidOutB P=true){W W':World}(hb:Below W.heap.size W W'):∀{ts:List TypeId} {vs:List Value} {ds:List (DataW H)} {ps:List MemPlace},
  (∀t∈ts,P.readableRec t=true/\t<P.types.size)->DataW.TrodAll enc P W 0 (fun _=>true) true ts vs ds ps->(∀x∈ps,x.block<W.heap.size)->
  DataW.TrodAll enc P W' 0 (fun b=>decide (b<W.heap.size)) true ts vs ds ps
 | [],[],[],_,_,h,_=>h
 | t::ts,v::vs,d::ds,_,ht,⟨p,q,h1,h2,e⟩,hlt=>by
  subst e;obtain⟨h3,h4⟩:=ht t (zU ..);exact⟨p,q,Go.RowKit.Below.trod hl h3 h4 h1 hb (fun x hx=>hlt x (jA _ hx)),
   jqx hl hb (fun t h=>ht t (zW _ h)) h2 (fun x hx=>hlt x (vA _ hx)),rfl⟩
theorem jky{P:Program}:∀{ts:List TypeId} {vs:List Value} {ds:List (DataW H)} {ps:List MemPlace},DataW.TrodAll enc P w base spare held ts vs ds ps->ds.length=ts.length
 | [],[],[],_,_=>rfl
 | _::_,_::_,_::_,_,⟨_,_,_,h2,_⟩=>by simp[jky h2]
theorem law_calls(hG:G.Good)(hl:laidOutB G.P=true){f:FuncId}{fn:Func}{s:ChangeSpec}{tb:TypeId}(n:Nat)(ts:List TypeId)
  (hp:fn.params.toList=ts) (b8:fn.resultTypes.toList=[tb]) (b7:fn.resultTypes.size=1) (b6:G.P.underlying tb=some .bool)
  (b5:(ts.all fun t=>opens G n t&&G.P.readableRec t&&decide (t<G.P.types.size))=true)
  (a1:s.vars=[]) (a8:∀ds:List (DataW H),ds.length=ts.length->s.fn H ds={results:=[.lit (.bool true)],args:=ds})
  (hc:∀ys,FitsL G n ts ys->Ctr G.P f ys (· = .bool true)) {W:World} {args:Array Value} {ds gs:List (DataW H)} {before:List MemPlace}
  (b2:∀(j:Nat) t v,fn.params[j]? =some t->args[j]? =some v->Value.okWide G.P W .any b0 t v) (hW:DataW.Whole enc G.P fn.params.toList s.vars false W args.toList ds gs before):
  Calls G.P f args W fun e W'=>∃v,e= .returned v/\s.post enc G.P fn false true false false W args v W':=by
 have a7:∀t∈ts,opens G n t=true/\G.P.readableRec t=true/\t<G.P.types.size:=fun t ht=>by
  have:=List.all_eq_true.1 b5 t ht;simp only[zn,zO]at this;exact⟨this.1.1,this.1.2,this.2⟩
 have b4:=hW;obtain⟨p,q,hA,hV,b3,c3,c0⟩:=hW;rw[a1]at hV;obtain⟨rfl,rfl⟩:=trodVars_none hV;rw[hp]at hA;obtain⟨ys,h1,h2⟩:=jqc hG.ok (fun t ht=>(a7 t ht).1) (fun j t v hj hk=>b2 j t v (by rw[<-zR,hp];exact hj) (by rw[<-zR];exact hk)) hA;have a6:=hc ys h2 W NoM args.toList (fun b o h=>h.elim) h1;rw[Array.toArray_toList]at a6;refine a6.mono fun e W' ⟨r,v,hr,he,hv,hb⟩=> ?_;subst hr;obtain rfl:=Rep.sc_inv hv;refine⟨_,he,?_⟩;have b1:=a8 ds (jky hA);have b9:∀x∈before,x.block<W.heap.size:=fun x hx=>b4.lt x hx;refine⟨ds,[],before,[],p,[],b4,?_,?_,?_,World.keptBut_mono (fun p hp=>⟨hp,?_⟩) (hb.frame (· ∈before)),fun h=>by cases h⟩
 ·rw[b8,b7,qr,b1];exact trodAll_mk1 (Go.RowKit.shut_bool b6 _)
 ·rw[qr,b1,hp];exact jqx hl hb (fun t ht=>(a7 t ht).2) hA (fun x hx=>b9 x (by rw[b3];simpa using hx))
 ·rw[qr,b1,a1];rfl
 ·rw[b3,qr]at hp;exact .inr (.inl hp)
end
end
end Go.Abs
namespace Go.Proofs.YtjcjcpebocbonaaGreat
section
set_option maxRecDepth 1000000
open Go.Abs
theorem jbl{t:TypeId}(hk:(G.ti t).kind= .it .i64):∀{n:Nat} {xs:List IV},Fits G n t xs->∃i,xs=[.int i]
 | 0,_,h=>h.elim
 | n+1,xs,h=>by
  unfold Fits at h;rw[hk]at h;obtain⟨i,rfl,_⟩:=h;exact⟨i,rfl⟩
theorem fits_bool{t:TypeId}(hk:(G.ti t).kind= .bl):∀{n:Nat} {xs:List IV},Fits G n t xs->∃i,xs=[.bool i]
 | 0,_,h=>h.elim
 | n+1,xs,h=>by
  unfold Fits at h;rw[hk]at h;exact h
theorem list_of{α:Type}{f:α->List IV}:∀{es:List (List IV)},(∀c∈es,∃p,c=f p)->∃l:List α,es=l.map f
 | [],_=>⟨[],rfl⟩
 | c::es,h=>by
  obtain⟨p,rfl⟩:=h c (zU ..);obtain⟨l,rfl⟩:=list_of fun c hc=>h c (zW _ hc);exact⟨p::l,rfl⟩
theorem jem{α:Type}(f:α->List IV){t e:TypeId}(hk:(G.ti t).kind= .sl e)(hf:∀{n:Nat} (c:List IV),Fits G n e c->∃p,c=f p):∀{n:Nat} {xs:List IV},Fits G n t xs->∃l:List α,xs=[.sl (l.map f)]
 | 0,_,h=>h.elim
 | n+1,xs,h=>by
  unfold Fits at h;rw[hk]at h;obtain⟨es,rfl,_,h⟩:=h;obtain⟨l,rfl⟩:=list_of fun c hc=>hf c (h c hc);exact⟨l,rfl⟩
theorem fits_ints{t e:TypeId}(hk:(G.ti t).kind= .sl e)(he:(G.ti e).kind= .it .i64){n:Nat}{xs:List IV}(h:Fits G n t xs):∃l:List Int,xs=[ints l]:=
 jem ic hk (fun _ hc=>jbl he hc) h
theorem fits_st{t:TypeId}{fs:List (Nat×TypeId)}(hk:(G.ti t).kind= .st fs):∀{n:Nat} {xs:List IV},Fits G n t xs->xs.length=(G.ti t).size/\∃m,∀p∈fs,Fits G m p.2 ((xs.drop p.1).take (G.ti p.2).size)
 | 0,_,h=>h.elim
 | n+1,xs,h=>by
  unfold Fits at h;rw[hk]at h;exact⟨h.1,n,h.2⟩
theorem jkd{t:TypeId}{n:Nat}{y:IV}(hk:aggK (G.ti t).kind=true)(h:FitsA G n t y):∃xs,y= .agg xs/\Fits G n t xs:=by
 unfold FitsA at h
 rwa [zh hk]at h
theorem jqq{t:TypeId}{n:Nat}{y:IV}(hk:aggK (G.ti t).kind=false)(h:FitsA G n t y):Fits G n t [y]:=by
 unfold FitsA at h
 rwa [zl (by rw[hk];simp)]at h
theorem of_len2{α:Type}:∀{l:List α},l.length=2->∃x0 x1,l=[x0,x1]
 | [x0,x1],_=>⟨x0,x1,rfl⟩
theorem of_len3{α:Type}:∀{l:List α},l.length=3->∃x0 x1 x2,l=[x0,x1,x2]
 | [x0,x1,x2],_=>⟨x0,x1,x2,rfl⟩
theorem of_len4{α:Type}:∀{l:List α},l.length=4->∃x0 x1 x2 x3,l=[x0,x1,x2,x3]
 | [x0,x1,x2,x3],_=>⟨x0,x1,x2,x3,rfl⟩
theorem jg8{n:Nat}{t:TypeId}{ts:List TypeId}:∀{ys:List IV},FitsL G n (t::ts) ys->∃y a1,ys=y::a1/\FitsA G n t y/\FitsL G n ts a1
 | y::a1,h=>⟨y,a1,rfl,h⟩
theorem fitsL_nil{n:Nat}:∀{ys:List IV},FitsL G n [] ys->ys=[]
 | [],_=>rfl
theorem jt5{n:Nat}{xs:List IV}(h:Fits G n 46 xs):∃s l,xs=[.int s,ints l]:=by
 obtain⟨hl,m,hf⟩:=fits_st (t:=46) (fs:=[(0,3),(1,22)]) rfl h;obtain⟨x0,x1,rfl⟩:=of_len2 (show xs.length=2 from hl);have h0:Fits G m 3 [x0]:=hf (0,3) (by simp);obtain⟨i0,e0⟩:=jbl rfl h0;cases e0;have h1:Fits G m 22 [x1]:=hf (1,22) (by simp);obtain⟨i1,e1⟩:=fits_ints rfl rfl h1;cases e1;exact⟨i0,i1,rfl⟩
theorem fits_Frac{n:Nat}{xs:List IV}(h:Fits G n 48 xs):∃s l t m,xs=[.int s,ints l,.int t,ints m]:=by
 obtain⟨hl,m,hf⟩:=fits_st (t:=48) (fs:=[(0,46),(2,46)]) rfl h;obtain⟨x0,x1,x2,x3,rfl⟩:=of_len4 (show xs.length=4 from hl);have h0:Fits G m 46 [x0,x1]:=hf (0,46) (by simp);obtain⟨s,l,e0⟩:=jt5 h0;cases e0;have h1:Fits G m 46 [x2,x3]:=hf (2,46) (by simp);obtain⟨t,l',e1⟩:=jt5 h1;cases e1;exact⟨s,l,t,l',rfl⟩
end
section
set_option maxRecDepth 1000000
open Go.Abs
attribute [local go_sem] ints ic Bat.c Pap.c Led.c bl
