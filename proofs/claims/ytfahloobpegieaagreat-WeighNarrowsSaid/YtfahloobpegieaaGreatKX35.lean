/- A part of the proof. No further condition. -/
import Derived.Test.YtfahloobpegieaaGreatKX34
import Derived.Test.YtfahloobpegieaaGreatKX9
import Derived.Test.YtfahloobpegieaaGreatKX10
import Derived.Test.YtfahloobpegieaaGreatKX31
import Derived.ChangeArms
import Derived.DataReads
import Derived.Deep.Slices
import Derived.ProofKit
import Derived.Carry
set_option linter.all false
set_option maxRecDepth 100000
namespace Go.Proofs.YtfahloobpegieaaGreat
section
open Go.Abs
open Go.LP (Dic Rw RT Ov OvRw tsum Sol IsMin NoMin Bds)
attribute [local go_sem] ints ic big frac fc zc Evid.c Evid.iv Purity.c Cert.c Recall.c
set_option maxHeartbeats 8000000 in
theorem w_narrows0(e:Evid)(ps:List (Int×Int))(p:Purity)(c:Cert)(x:Recall)(h:¬(few17 e ps.length 4=true/\decide (2<(e.purs.length:Int))=false/\decide (9<(e.certs.length:Int))=false/\decide (3<(e.recalls.length:Int))=false/\jbr e=0)):
  Ctr G.P 3 [e.iv,.sl (ps.map pickC),.agg p.c,.agg c.c,.agg x.c] (· = .bool true):=by
 have k0:=w_small;have kF:=jp9 e (ps.map pickC) 4;have kck:=c21 e;rw[List.length_map]at kF;have l1:(e.purs.map Purity.c).length=e.purs.length:=List.length_map _;have l2:(e.certs.map Cert.c).length=e.certs.length:=List.length_map _;have l3:(e.recalls.map Recall.c).length=e.recalls.length:=List.length_map _;unfold zo at kF;generalize jbr e=ck at*;generalize ps.map pickC=pl at*;simp only[Evid.iv,Evid.c]at kF kck⊢;generalize e.purs.map Purity.c=C1 at*;generalize e.certs.map Cert.c=C2 at*;generalize e.recalls.map Recall.c=C3 at*;rcases hf:few17 e ps.length 4 with _ | _
 ·rw[hf]at kF;clear h kck;refine jae good _ _ [.tmp 10] Tryz.func3 rfl rfl (by decide+kernel) rfl ?_;simp only[go_sem];refine ja1 k0 (by decide) ?_;simp only[go_sem];refine ja1 kF (by decide) ?_;simp only[*,go_sem]
 rw[hf]at kF;rcases d1:decide (2<(e.purs.length:Int))with _ | _
 case true=>
  clear h kck;refine jae good _ _ [.tmp 10] Tryz.func3 rfl rfl (by decide+kernel) rfl ?_;simp only[go_sem];refine ja1 k0 (by decide) ?_;simp only[go_sem];refine ja1 kF (by decide) ?_;simp only[*,go_sem]
 rcases d2:decide (9<(e.certs.length:Int))with _ | _
 case true=>
  clear h kck;refine jae good _ _ [.tmp 10] Tryz.func3 rfl rfl (by decide+kernel) rfl ?_;simp only[go_sem];refine ja1 k0 (by decide) ?_;simp only[go_sem];refine ja1 kF (by decide) ?_;simp only[*,go_sem]
 rcases d3:decide (3<(e.recalls.length:Int))with _ | _
 case true=>
  clear h kck;refine jae good _ _ [.tmp 10] Tryz.func3 rfl rfl (by decide+kernel) rfl ?_;simp only[go_sem];refine ja1 k0 (by decide) ?_;simp only[go_sem];refine ja1 kF (by decide) ?_;simp only[*,go_sem]
 have hck:¬ck=0:=fun hc=>h ⟨hf,d1,d2,d3,hc⟩;have hckd:decide (ck=0)=false:=decide_eq_false hck;clear h;refine jae good _ _ [.tmp 10] Tryz.func3 rfl rfl (by decide+kernel) rfl ?_;simp only[go_sem];refine ja1 k0 (by decide) ?_;simp only[go_sem];refine ja1 kF (by decide) ?_;simp only[*,go_sem];refine ja1 kck (by decide) ?_;simp only[*,go_sem]
theorem jgq(b:Option (Rat×Option Rat)):∃(m o:Int) (n q:List (List IV)) (u v:Int) (r t:List (List IV)) (l h:Bool),bB b=bX m o u v n q r t l h:=jqa b
theorem seg_joins{G:Ctx}{c:Code}{k j:Nat}{Q:Exit->St->Prop}{st:St}{A:Type}{C:A->Prop}{S:A->St}(h1:∀y,(∀g,C g->awp G y Q (S g))->awp G (putN k (tailN j c) y) Q st)(h2:∀g,C g->awp G (tailN (j+k) c) Q (S g)):awp G (tailN j c) Q st:=by
 have:=h1 (tailN k (tailN j c)) (fun g hg=>by rw[jjj];exact h2 g hg);rw[jm1]at this;exact this
set_option maxRecDepth 2000000 in
set_option maxHeartbeats 16000000 in
theorem w_narrows1(e:Evid)(ps:List (Int×Int))(p:Purity)(c:Cert)(x:Recall)(hf:few17 e ps.length 4=true)(d1:decide (2<(e.purs.length:Int))=false)(d2:decide (9<(e.certs.length:Int))=false)(d3:decide (3<(e.recalls.length:Int))=false)(hc:jbr e=0):
  Ctr G.P 3 [e.iv,.sl (ps.map pickC),.agg p.c,.agg c.c,.agg x.c] (· = .bool true):=by
 have lp:=of_decide_eq_false d1;have lc:=of_decide_eq_false d2;have lr:=of_decide_eq_false d3;obtain⟨hs,hn,hmv,_,_,hsc⟩:=few_small hf (by omega);have hs0:=hs;obtain⟨sm1,sm2,_⟩:=hs0;have hpl':(e.purs++[p]).length=e.purs.length+1:=by rw[List.length_append];rfl
 obtain⟨r1,f1,b1,s1,kR1⟩:=jee (e:=e) (ps:=ps) hs (by omega);obtain⟨r2,f2,b2,s2,kR2⟩:=jee (e:={e with purs:=e.purs++[p]}) (ps:=ps) ⟨sm1,sm2,by dsimp only;omega⟩ (by omega);obtain⟨r3,f3,b3,s3,kR3⟩:=jee (e:={e with certs:=e.certs++[c]}) (ps:=ps) ⟨sm1,sm2,by dsimp only;omega⟩ (by omega);obtain⟨r4,f4,b4,s4,kR4⟩:=jee (e:={e with recalls:=e.recalls++[x]}) (ps:=ps) ⟨sm1,sm2,by dsimp only;omega⟩ (by omega);obtain⟨r5,f5,b5,s5,kR5⟩:=jee (e:=bareE e) (ps:=ps) ⟨sm1,sm2,by show e.purs.length<=40;omega⟩ (by omega);obtain⟨r6,f6,b6,s6,kR6⟩:=jee (e:=allE e) (ps:=ps) ⟨sm1,sm2,by show e.purs.length<=40;omega⟩ (by omega);have kb1:=jgv s1 kR1;have kb2:=jgv s2 kR2;have kb3:=jgv s3 kR3;have kb4:=jgv s4 kR4;have kb5:=jgv s5 kR5;have kb6:=jgv s6 kR6;have i2:b2.isSome=true->b1.isSome=true/\Ctr G.P 13 [.agg (bB b2),.agg (bB b1)] (· = .bool true):=fun h=>by
  obtain⟨⟨lo,hi⟩,rfl⟩:=Option.isSome_iff_exists.1 h;obtain⟨lo1,hi1,rfl,g1,g2,g3,g4,g5,g6⟩:=s1.say.wider s2.say rfl hc rfl rfl (rows_pure e p);exact⟨rfl,jj3 g5 g3 g6 g4 g1 g2⟩
 have i3:b3.isSome=true->jf0 e c e.certs.length=true->b1.isSome=true/\Ctr G.P 13 [.agg (bB b3),.agg (bB b1)] (· = .bool true):=fun h hfr=>by
  obtain⟨⟨lo,hi⟩,rfl⟩:=Option.isSome_iff_exists.1 h;obtain⟨lo1,hi1,rfl,g1,g2,g3,g4,g5,g6⟩:=s1.say.wider s3.say rfl hc rfl rfl (rows_sure e c (freshG_all hfr));exact⟨rfl,jj3 g5 g3 g6 g4 g1 g2⟩
 have kw:=c21 {e with recalls:=e.recalls++[x]};obtain⟨cw,hcw⟩:∃cw,jbr {e with recalls:=e.recalls++[x]}=cw:=⟨_,rfl⟩;rw[hcw]at kw;have i4:b1.isSome=true->cw=0->b4.isSome=true/\Ctr G.P 13 [.agg (bB b1),.agg (bB b4)] (· = .bool true):=fun h h0=>by
  obtain⟨⟨lo,hi⟩,rfl⟩:=Option.isSome_iff_exists.1 h;obtain⟨lo1,hi1,rfl,g1,g2,g3,g4,g5,g6⟩:=s4.say.wider s1.say rfl (hcw.trans h0) rfl rfl (rows_wrong e x);exact⟨rfl,jj3 g5 g3 g6 g4 g1 g2⟩
 have i5:b1.isSome=true->b5.isSome=true/\Ctr G.P 13 [.agg (bB b1),.agg (bB b5)] (· = .bool true):=fun h=>by
  obtain⟨⟨lo,hi⟩,rfl⟩:=Option.isSome_iff_exists.1 h;obtain⟨lo1,hi1,rfl,g1,g2,g3,g4,g5,g6⟩:=s5.say.wider s1.say rfl (jli hc) rfl rfl (rows_bare e);exact⟨rfl,jj3 g5 g3 g6 g4 g1 g2⟩
 have i6:b5=b6:=s5.say.same s6.say (jli hc) (check_all hc hsc) rfl rfl (rows_bare_all hc);have kS:=w_selfB b5 (fun lo hi h=>by subst h;exact⟨s5.say.inv.2.2.1,s5.say.inv.2.2.2⟩);subst i6;obtain⟨m1,o1,n1,q1,u1,v1,r1,t1,l1,h1,e1⟩:=jgq b1;obtain⟨m2,o2,n2,q2,u2,v2,r2,t2,l2,h2,e2⟩:=jgq b2;obtain⟨m3,o3,n3,q3,u3,v3,r3,t3,l3,h3,e3⟩:=jgq b3;obtain⟨m4,o4,n4,q4,u4,v4,r4,t4,l4,h4,e4⟩:=jgq b4;obtain⟨m5,o5,n5,q5,u5,v5,r5,t5,l5,h5,e5⟩:=jgq b5;rw[e1]at kb1 i2 i3 i4 i5;rw[e2]at kb2 i2;rw[e3]at kb3 i3;rw[e4]at kb4 i4;rw[e5]at kb5 kb6 i5 kS;generalize b1.isSome=z1 at*;generalize b2.isSome=z2 at*;generalize b3.isSome=z3 at*;generalize b4.isSome=z4 at*;generalize b5.isSome=z5 at*;clear e1 e2 e3 e4 e5 s1 s2 s3 s4 s5 s6 kR1 kR2 kR3 kR4 kR5 kR6;have kb6:Ctr G.P 12 [.agg (evC e (e.certs.map Cert.c) (recs e.scales.toNat) (e.purs.map Purity.c)),.sl (ps.map pickC)] (· = .tup [.agg (bX m5 o5 u5 v5 n5 q5 r5 t5 l5 h5),.bool z5]):=by rw[<-recs_all e];exact kb6
 refine ctrf_seg (goodH [65,68,74,77,83,86,187] [999999]) _ _ [.tmp 10] Tryz.func3 rfl rfl (by decide+kernel) rfl ?_;refine jj5 (fun y hy=>n_A e ps p c x hf d1 d2 d3 hc y hy) ?_;refine jj5 (fun y hy=>n_B e ps p c x lc y hy) ?_;refine jj5 (fun y hy=>n_C e ps p c x lr y hy) ?_;refine jj5 (fun y hy=>n_D e ps p c x lc _ _ _ _ _ _ _ _ _ _ z1 _ _ _ _ _ _ _ _ _ _ z2 kb1 kb2 i2 y hy) ?_;refine seg_joins (fun y hy=>n_E e ps p c x hsc cw _ _ _ _ _ _ _ _ _ _ z1 _ _ _ _ _ _ _ _ _ _ z2 _ _ _ _ _ _ _ _ _ _ z3 _ _ _ _ _ _ _ _ _ _ z4 kb3 kb4 kw i3 i4 y hy) ?_;exact fun g hg=>n_F e ps _ _ _ _ _ _ _ _ _ _ z1 _ _ _ _ _ _ _ _ _ _ z5 kb5 kb6 kS i5 g hg
theorem w_narrows(e:Evid)(ps:List (Int×Int))(p:Purity)(c:Cert)(x:Recall):Ctr G.P 3 [e.iv,.sl (ps.map pickC),.agg p.c,.agg c.c,.agg x.c] (· = .bool true):=by
 by_cases h:few17 e ps.length 4=true/\decide (2<(e.purs.length:Int))=false/\decide (9<(e.certs.length:Int))=false/\decide (3<(e.recalls.length:Int))=false/\jbr e=0
 ·obtain⟨h1,h2,h3,h4,h5⟩:=h;exact w_narrows1 e ps p c x h1 h2 h3 h4 h5
 ·exact w_narrows0 e ps p c x h
end
end Go.Proofs.YtfahloobpegieaaGreat
namespace Go.Abs
section
open Go.RowKit (Below)
def tileB(G:Ctx):Nat->List (Nat×TypeId)->Nat->Bool
 | k,[],n=>k==n
 | k,(o,t)::r,n=>o==k&&tileB G (k+(G.ti t).size) r n
def opens(G:Ctx):Nat->TypeId->Bool
 | 0,_=>false
 | n+1,t=>(G.ti t).size !=0&&match(G.ti t).kind with
  | .it _ | .bl | .str=>(G.ti t).size==1
  | .sl e=>(G.ti t).size==1&&opens G n e
  | .st fs=>tileB G 0 fs (G.ti t).size&&fs.all fun p=>opens G n p.2
  | _=>false
def Fits(G:Ctx):Nat->TypeId->List IV->Prop
 | 0,_,_=>False
 | n+1,t,xs=>match(G.ti t).kind with
  | .it k=>∃i,xs=[.sc (.int k i)]/\(Lit.int k i).wf=true
  | .bl=>∃b,xs=[.sc (.bool b)]
  | .str=>∃s:ByteArray,xs=[.sc (.string s)]/\s.size<=maxLen
  | .sl e=>∃es,xs=[.sl es]/\es.length<=maxLen/\∀c∈es,Fits G n e c
  | .st fs=>xs.length=(G.ti t).size/\∀p∈fs,Fits G n p.2 ((xs.drop p.1).take (G.ti p.2).size)
  | _=>False
theorem jnl{α:Type}{R:Nat->α->Prop}:∀n,(∀i,i<n->∃x,R i x)->∃l:List α,l.length=n/\∀i x,l[i]? =some x->R i x
 | 0,_=>⟨[],rfl,fun i x h=>by simp at h⟩
 | n+1,h=>by
  obtain⟨l,hl,hR⟩:=jnl n fun i hi=>h i (by omega);obtain⟨x,hx⟩:=h n (by omega);refine⟨l++[x],by simp[hl],fun i y hy=> ?_⟩;rcases Nat.lt_or_ge i l.length with hi | hi
  ·rw[List.getElem?_append_left hi]at hy;exact hR i y hy
  ·rw[List.getElem?_append_right hi]at hy;have hi':i=l.length:=by
    have:=(List.getElem?_eq_some_iff.1 hy).1;simp at this;omega
   subst hi';simp at hy;subst hy;rw[hl];exact hx
theorem RepL.append{w:World}{M:Nat->Nat->Prop}{xs ys:List IV}{us vs:List Value}(h:RepL w M xs us)(h':RepL w M ys vs):RepL w M (xs++ys) (us++vs):=by
 refine⟨by simp[h.1,h'.1],fun k x v hx hv=> ?_⟩;rcases Nat.lt_or_ge k xs.length with hk | hk
 ·rw[List.getElem?_append_left hk]at hx;rw[List.getElem?_append_left (by rw[<-h.1];exact hk)]at hv;exact h.2 k x v hx hv
 ·rw[List.getElem?_append_right hk]at hx;rw[List.getElem?_append_right (by rw[<-h.1];exact hk),<-h.1]at hv;exact h'.2 _ x v hx hv
section
variable{G:Ctx}{H:Type}{enc:TypeId×Value->H}{w:World}{base:Nat}{spare:Nat->Bool}{held:Bool}
abbrev NoM:Nat->Nat->Prop:=fun _ _=>False
theorem jik(hG:G.Ok){t:TypeId}(h:(G.ti t).size≠0):G.P.cellsOf t=(G.ti t).size:=by
 obtain⟨i,z,hi,hs,_⟩:=hG.info h;simp[Program.cellsOf,hi,hs]
theorem jm4(hG:G.Ok):∀(n m:Nat) (t:TypeId) (cs:List Value) (x:DataW H×List MemPlace),opens G n t=true->DataW.trod enc G.P w base spare held m t cs=some x->
  ∃xs,RepL w NoM xs cs/\(∀y∈xs,y.one=true)/\xs.length=(G.ti t).size/\Fits G n t xs
 | 0,_,_,_,_,ho,_=>by simp[opens]at ho
 | n+1,m,t,cs,x,ho,h=>by
  unfold opens at ho;simp only[Bool.and_eq_true,bne_iff_ne,ne_eq]at ho;obtain⟨h0,ho⟩:=ho;have one:∀{v:Value} {y:IV},Rep w NoM y v->y.one=true->Fits G (n+1) t [y]->(G.ti t).size=1->cs=[v]->
    ∃xs,RepL w NoM xs cs/\(∀y∈xs,y.one=true)/\xs.length=(G.ti t).size/\Fits G (n+1) t xs:=by
   intro v y h1 h2 h3 h4 h5;subst h5;exact⟨[y],RepL.cons h1 RepL.nil,by simpa using h2,h4.symm,h3⟩
  split at ho
  ·rename_i k hk;obtain⟨i,rfl,_,hwf⟩:=DataW.trod_int (hG.it h0 hk) h;exact one (.sc _ rfl) rfl (by unfold Fits;rw[hk];exact⟨i,rfl,hwf⟩) (by simpa using ho) rfl
  ·rename_i hk;obtain⟨b,rfl,rfl⟩:=DataW.trod_bool (hG.bl h0 hk) h;exact one (.sc _ rfl) rfl (by unfold Fits;rw[hk];exact⟨b,rfl⟩) (by simpa using ho) rfl
  ·rename_i hk;obtain⟨s,rfl,_,hwf⟩:=DataW.trod_string (hG.str h0 hk) h;exact one (.sc _ rfl) rfl (by unfold Fits;rw[hk];exact⟨s,rfl,hwf⟩) (by simpa using ho) rfl
  ·rename_i e hk;simp only[Bool.and_eq_true,beq_iff_eq]at ho;obtain⟨h1,ho⟩:=ho;rcases DataW.trod_slice (hG.sl h0 hk) h with ⟨rfl,_⟩ | ⟨a,len,cap,elems,rest,m',rfl,rfl,_,_,hlc,hcm,hel,hat,_⟩
   ·exact one (.nil _ _) rfl (by unfold Fits;rw[hk];exact⟨[],rfl,Nat.zero_le _,by simp⟩) h1 rfl
   ·have he0:(G.ti e).size≠0:=by
     cases n with
     | zero=>simp[opens]at ho
     | succ n=>
      unfold opens at ho;simp only[Bool.and_eq_true,bne_iff_ne,ne_eq]at ho;exact ho.1
    rw[jik hG he0]at hat;have hex:∀i,i<len->∃p:List IV×List Value,w.cells? base (a.add (i*(G.ti e).size)) (G.ti e).size=some p.2/\RepL w NoM p.1 p.2/\(∀y∈p.1,y.one=true)/\p.1.length=(G.ti e).size/\Fits G n e p.1:=by
     intro i hi;have h3:=hat i hi;rw[List.getElem?_eq_getElem (by omega)]at h3;obtain⟨cs',h4,h5⟩:=Option.bind_eq_some_iff.1 h3;obtain⟨xs,h6,h7,h8,h9⟩:=jm4 hG n _ e cs' _ ho h5;exact⟨⟨xs,cs'⟩,h4,h6,h7,h8,h9⟩
    obtain⟨l,hl,hR⟩:=jnl len hex;have hmap:∀(i:Nat) c,(l.map (·.1))[i]? =some c->∃us,w.cells? base (a.add (i*(G.ti e).size)) (G.ti e).size=some us/\RepL w NoM c us/\(∀y∈c,y.one=true)/\c.length=(G.ti e).size/\Fits G n e c:=by
     intro i c hc;rw[List.getElem?_map]at hc;obtain⟨p,hp,rfl⟩:=Option.map_eq_some_iff.1 hc;obtain⟨h3,h4,h5,h6,h7⟩:=hR i p hp;exact⟨p.2,h3,h4,h5,h6,h7⟩
    have hlen:(l.map (·.1)).length=len:=by simpa using hl
    have hfit:Fits G (n+1) t [.sl (l.map (·.1))]:=by
     unfold Fits;rw[hk];refine⟨_,rfl,by omega,fun c hc=> ?_⟩;obtain⟨i,hi⟩:=List.getElem?_of_mem hc;obtain⟨_,_,_,_,_,h7⟩:=hmap i c hi;exact h7
    refine one (y:= .sl (l.map (·.1))) ?_ rfl hfit h1 rfl;by_cases hz:len=0
    ·subst hz;have:l=[]:=List.eq_nil_of_length_eq_zero hl;subst this;exact .nil _ _
    ·have hlist:∀i c j y,(l.map (·.1))[i]? =some c->c[j]? =some y->∃u,w.cell? (a.add (i*(G.ti e).size+j))=some u/\Rep w NoM y u/\y.one=true:=by
      intro i c j y hi hj;obtain⟨us,h3,h4,h5,h6,_⟩:=hmap i c hi;have hjl:=(List.getElem?_eq_some_iff.1 hj).1;obtain⟨_,h7,h8⟩:=World.cells?_some h3;have hu:us[j]? =some (us[j]'(by omega)):=List.getElem?_eq_getElem (by omega);refine⟨_,?_,h4.2 j y _ hj hu,h5 y (List.mem_of_getElem? hj)⟩;have:=h8 j (by omega);rw[Go.Deep.add_add]at this;rw[this,hu]
     have hsp:a=⟨a.block,a.off,none⟩:=by
      have hg:(l.map (·.1))[0]? =some ((l.map (·.1))[0]'(by omega)):=List.getElem?_eq_getElem (by omega);obtain⟨us,_,_,_,h6,_⟩:=hmap 0 _ hg;have hg2:((l.map (·.1))[0]'(by omega))[0]? =some (((l.map (·.1))[0]'(by omega))[0]'(by omega)):=List.getElem?_eq_getElem (by omega);obtain⟨u,h3,_⟩:=hlist 0 _ 0 _ hg hg2;simp[Addr.add]at h3;have:=World.cell?_spot h3;cases a;simp_all
     have hadd:∀k,a.add k=⟨a.block,a.off+k,none⟩:=fun k=>by
      obtain⟨b,o,sp⟩:=a;cases hsp;unfold Addr.add;split
      ·rename_i hk0;subst hk0;rfl
      ·rfl
     have hgo:∀(i:Nat) c (j:Nat) y,(l.map (·.1))[i]? =some c->c[j]? =some y->w.cell? ⟨a.block,a.off+i*(G.ti e).size+j,none⟩=some ((w.cell? ⟨a.block,a.off+i*(G.ti e).size+j,none⟩).getD undef)/\
       y.one=true/\Rep w NoM y ((w.cell? ⟨a.block,a.off+i*(G.ti e).size+j,none⟩).getD undef):=by
      intro i c j y hi hj;obtain⟨u,h3,h4,h5⟩:=hlist i c j y hi hj;rw[hadd,<-Nat.add_assoc]at h3;rw[h3];exact⟨rfl,h5,h4⟩
     have:=Rep.sl (w:=w) (M:=NoM) (l.map (·.1)) (G.ti e).size a.block a.off cap (fun i j=>(w.cell? ⟨a.block,a.off+i*(G.ti e).size+j,none⟩).getD undef)
      (by intro hn;rw[hn]at hlen;simp at hlen;omega)
      (fun c hc=>by obtain⟨i,hi⟩:=List.getElem?_of_mem hc;obtain⟨_,_,_,_,h6,_⟩:=hmap i c hi;exact h6)
      (by omega)
      (fun i c j y hi hj=>⟨(hgo i c j y hi hj).2.1,(hgo i c j y hi hj).1,fun h=>h⟩)
      (fun i c j y hi hj=>(hgo i c j y hi hj).2.2)
     rw[hlen,<-hsp]at this;exact this
  ·rename_i fs hk;simp only[Bool.and_eq_true]at ho;obtain⟨ht,ho⟩:=ho;obtain⟨gs,hu,hgs⟩:=hG.st h0 hk;obtain⟨xs,m',rfl,_,hcl,hxl,hat⟩:=DataW.trod_struct hu h;rw[jik hG h0]at hcl;have hfield:∀p∈fs,∃ys,RepL w NoM ys ((cs.drop p.1).take (G.ti p.2).size)/\(∀y∈ys,y.one=true)/\ys.length=(G.ti p.2).size/\Fits G n p.2 ys:=by
    intro p hp;obtain⟨i,hi⟩:=List.getElem?_of_mem hp;rw[<-hgs,List.getElem?_map]at hi;obtain⟨f,hf,rfl⟩:=Option.map_eq_some_iff.1 hi;have hf':gs[i]? =some f:=by simpa using hf
    have h3:=hat i f hf';have hil:i<gs.size:=(Array.getElem?_eq_some_iff.1 hf').1;rw[List.getElem?_eq_getElem (by omega)]at h3;have hof:=List.all_eq_true.1 ho _ hp;have hs0:(G.ti f.type).size≠0:=by
     cases n with
     | zero=>simp[opens]at hof
     | succ n=>
      simp only[]at hof;unfold opens at hof;simp only[Bool.and_eq_true,bne_iff_ne,ne_eq]at hof;exact hof.1
    rw[jik hG hs0]at h3;exact jm4 hG n _ _ _ _ hof h3
   have build:∀(r:List (Nat×TypeId)) (k:Nat),(∀p∈r,p∈fs)->tileB G k r (G.ti t).size=true->k<=cs.length->∃zs,RepL w NoM zs (cs.drop k)/\(∀y∈zs,y.one=true)/\
     ∀p∈r,k<=p.1/\Fits G n p.2 ((zs.drop (p.1-k)).take (G.ti p.2).size):=by
    intro r
    induction r with
    | nil=>
     intro k _ htl _;simp only[tileB,beq_iff_eq]at htl;refine⟨[],?_,by simp,by simp⟩;rw[List.drop_of_length_le (by omega)];exact RepL.nil
    | cons p r ih=>
     obtain⟨o,u⟩:=p;intro k hm htl hkl;simp only[tileB,Bool.and_eq_true,beq_iff_eq]at htl;obtain⟨rfl,htl⟩:=htl;obtain⟨ys,h3,h4,h5,h6⟩:=hfield (o,u) (hm _ (List.mem_cons_self ..));have hle:o+(G.ti u).size<=cs.length:=by
      have:=h3.1;simp at this h5;omega
     obtain⟨zs,h7,h8,h9⟩:=ih _ (fun p hp=>hm p (List.mem_cons_of_mem _ hp)) htl hle;refine⟨ys++zs,?_,?_,?_⟩
     ·have:=h3.append h7;rw[<-List.drop_drop,List.take_append_drop]at this;exact this
     ·intro y hy;rcases List.mem_append.1 hy with h | h
      ·exact h4 y h
      ·exact h8 y h
     ·intro p hp;rcases List.mem_cons.1 hp with rfl | hp
      ·refine⟨Nat.le_refl _,?_⟩;simp only[Nat.sub_self,List.drop_zero];rw[<-h5]
       simpa using h6
      ·obtain⟨h10,h11⟩:=h9 p hp;refine⟨by omega,?_⟩;rw[List.drop_append,List.drop_of_length_le (by simp at h5;omega),List.nil_append];have e:p.1-o-ys.length=p.1-(o+(G.ti u).size):=by simp at h5;omega
       rw[e];exact h11
   obtain⟨zs,h7,h8,h9⟩:=build fs 0 (fun _ h=>h) ht (Nat.zero_le _);rw[List.drop_zero]at h7;refine⟨zs,h7,h8,by rw[h7.1,hcl],?_⟩;unfold Fits;rw[hk];exact⟨by rw[h7.1,hcl],fun p hp=>by simpa using (h9 p hp).2⟩
  ·cases ho
end
end
section
open Go.RowKit (Below)
open Go.ChangeShapes Go.WideShapes
def FitsA(G:Ctx)(n:Nat)(t:TypeId)(y:IV):Prop:=
 if aggK (G.ti t).kind=true then ∃xs,y= .agg xs/\Fits G n t xs else Fits G n t [y]
def FitsL(G:Ctx)(n:Nat):List TypeId->List IV->Prop
 | [],[]=>True
 | t::ts,y::ys=>FitsA G n t y/\FitsL G n ts ys
 | _,_=>False
section
variable{G:Ctx}{H:Type}{enc:TypeId×Value->H}{w:World}{base:Nat}{spare:Nat->Bool}{held:Bool}{r:Reach}{b0 n:Nat}
theorem opens_ne{t:TypeId}(h:opens G n t=true):(G.ti t).size≠0:=by
 cases n with
 | zero=>simp[opens]at h
 | succ n=>
  unfold opens at h;simp only[Bool.and_eq_true,bne_iff_ne,ne_eq]at h;exact h.1
theorem open_arg(hG:G.Ok){t:TypeId}{v:Value}{d:DataW H}{p:List MemPlace}(ho:opens G n t=true)(hv:Value.okWide G.P w r b0 t v)(h:DataW.Trod enc G.P w base spare held t v d p):
  ∃y,Rep w NoM y v/\FitsA G n t y:=by
 obtain⟨m,hm⟩:=h;have h0:=opens_ne ho;obtain⟨xs,h1,h2,h3,h4⟩:=jm4 hG n m t _ _ ho hm;have single:v.cells= #[v]->aggK (G.ti t).kind=false->∃y,Rep w NoM y v/\FitsA G n t y:=by
  intro hc hk;rw[hc]at h1;obtain⟨hl,hr⟩:=h1
  match xs,hl with
  | [y],_=>
   refine⟨y,hr 0 y v rfl rfl,?_⟩;unfold FitsA;rw[hk];exact h4
 have ho':=ho;cases n with
 | zero=>simp[opens]at ho
 | succ n=>
  unfold opens at ho';simp only[Bool.and_eq_true]at ho';obtain⟨_,ho'⟩:=ho';split at ho'
  ·rename_i k hk;obtain⟨i,rfl⟩:=okWide_int (hG.it h0 hk) hv;exact single rfl (by rw[hk];rfl)
  ·rename_i hk;obtain⟨i,rfl⟩:=okWide_bool (hG.bl h0 hk) hv;exact single rfl (by rw[hk];rfl)
  ·rename_i hk;obtain⟨i,rfl⟩:=okWide_string (hG.str h0 hk) hv;exact single rfl (by rw[hk];rfl)
  ·rename_i e hk;obtain⟨a,l,c,rfl⟩:=okWide_slice (hG.sl h0 hk) hv;exact single rfl (by rw[hk];rfl)
  ·rename_i fs hk;obtain⟨gs,hu,_⟩:=hG.st h0 hk;obtain⟨cs,rfl,_⟩:=okWide_struct hu hv;refine⟨.agg xs,RepL.agg (by simpa [Value.cells]using h1) h2,?_⟩;unfold FitsA;rw[if_pos (by rw[hk];rfl)];exact⟨xs,rfl,h4⟩
  ·cases ho'
theorem jno(hG:G.Ok):∀{ts:List TypeId} {vs:List Value} {ds:List (DataW H)} {p:List MemPlace},(∀t∈ts,opens G n t=true)->
  (∀(j:Nat) t v,ts[j]? =some t->vs[j]? =some v->Value.okWide G.P w r b0 t v)->DataW.TrodAll enc G.P w base spare held ts vs ds p->∃ys,RepL w NoM ys vs/\FitsL G n ts ys
 | [],[],[],_,_,_,_=>⟨[],RepL.nil,trivial⟩
 | t::ts,v::vs,d::ds,_,ho,hv,⟨_,_,h1,h2,_⟩=>by
  obtain⟨y,h3,h4⟩:=open_arg hG (ho t (List.mem_cons_self ..)) (hv 0 t v rfl rfl) h1;obtain⟨ys,h5,h6⟩:=jno hG (fun t ht=>ho t (List.mem_cons_of_mem _ ht)) (fun j t v hj hk=>hv (j+1) t v (by simpa using hj) (by simpa using hk)) h2;exact⟨y::ys,RepL.cons h3 h5,h4,h6⟩
theorem jo4{P:Program}(hl:laidOutB P=true){W W':World}(hb:Below W.heap.size W W'):∀{ts:List TypeId} {vs:List Value} {ds:List (DataW H)} {ps:List MemPlace},
  (∀t∈ts,P.readableRec t=true/\t<P.types.size)->DataW.TrodAll enc P W 0 (fun _=>true) true ts vs ds ps->(∀x∈ps,x.block<W.heap.size)->
  DataW.TrodAll enc P W' 0 (fun b=>decide (b<W.heap.size)) true ts vs ds ps
 | [],[],[],_,_,h,_=>h
 | t::ts,v::vs,d::ds,_,ht,⟨p,q,h1,h2,e⟩,hlt=>by
  subst e;obtain⟨h3,h4⟩:=ht t (List.mem_cons_self ..);exact⟨p,q,Go.RowKit.Below.trod hl h3 h4 h1 hb (fun x hx=>hlt x (List.mem_append_left _ hx)),
   jo4 hl hb (fun t h=>ht t (List.mem_cons_of_mem _ h)) h2 (fun x hx=>hlt x (List.mem_append_right _ hx)),rfl⟩
theorem jji{P:Program}:∀{ts:List TypeId} {vs:List Value} {ds:List (DataW H)} {ps:List MemPlace},DataW.TrodAll enc P w base spare held ts vs ds ps->ds.length=ts.length
 | [],[],[],_,_=>rfl
 | _::_,_::_,_::_,_,⟨_,_,_,h2,_⟩=>by simp[jji h2]
theorem law_calls(hG:G.Good)(hl:laidOutB G.P=true){f:FuncId}{fn:Func}{s:ChangeSpec}{tb:TypeId}(n:Nat)(ts:List TypeId)
  (hp:fn.params.toList=ts) (hrt:fn.resultTypes.toList=[tb]) (hsz:fn.resultTypes.size=1) (htb:G.P.underlying tb=some .bool)
  (hts:(ts.all fun t=>opens G n t&&G.P.readableRec t&&decide (t<G.P.types.size))=true)
  (hvars:s.vars=[]) (hspec:∀ds:List (DataW H),ds.length=ts.length->s.fn H ds={results:=[.lit (.bool true)],args:=ds})
  (hc:∀ys,FitsL G n ts ys->Ctr G.P f ys (· = .bool true)) {W:World} {args:Array Value} {ds gs:List (DataW H)} {before:List MemPlace}
  (hval:∀(j:Nat) t v,fn.params[j]? =some t->args[j]? =some v->Value.okWide G.P W .any b0 t v) (hW:DataW.Whole enc G.P fn.params.toList s.vars false W args.toList ds gs before):
  Calls G.P f args W fun e W'=>∃v,e= .returned v/\s.post enc G.P fn false true false false W args v W':=by
 have hts':∀t∈ts,opens G n t=true/\G.P.readableRec t=true/\t<G.P.types.size:=fun t ht=>by
  have:=List.all_eq_true.1 hts t ht;simp only[Bool.and_eq_true,decide_eq_true_eq]at this;exact⟨this.1.1,this.1.2,this.2⟩
 have hW0:=hW;obtain⟨p,q,hA,hV,hpq,hfz,hnd⟩:=hW;rw[hvars]at hV;obtain⟨rfl,rfl⟩:=trodVars_none hV;rw[hp]at hA;obtain⟨ys,h1,h2⟩:=jno hG.ok (fun t ht=>(hts' t ht).1) (fun j t v hj hk=>hval j t v (by rw[<-Array.getElem?_toList,hp];exact hj) (by rw[<-Array.getElem?_toList];exact hk)) hA;have hcall:=hc ys h2 W NoM args.toList (fun b o h=>h.elim) h1;rw[Array.toArray_toList]at hcall;refine hcall.mono fun e W' ⟨r,v,hr,he,hv,hb⟩=> ?_;subst hr;obtain rfl:=Rep.sc_inv hv;refine⟨_,he,?_⟩;have hsp:=hspec ds (jji hA);have hlt:∀x∈before,x.block<W.heap.size:=fun x hx=>hW0.lt x hx;refine⟨ds,[],before,[],p,[],hW0,?_,?_,?_,World.keptBut_mono (fun p hp=>⟨hp,?_⟩) (hb.frame (· ∈before)),fun h=>by cases h⟩
 ·rw[hrt,hsz,List.append_nil,hsp];exact trodAll_mk1 (Go.RowKit.shut_bool htb _)
 ·rw[List.append_nil,hsp,hp];exact jo4 hl hb (fun t ht=>(hts' t ht).2) hA (fun x hx=>hlt x (by rw[hpq];simpa using hx))
 ·rw[List.append_nil,hsp,hvars];rfl
 ·rw[hpq,List.append_nil]at hp;exact .inr (.inl hp)
end
end
end Go.Abs
namespace Go.Proofs.YtfahloobpegieaaGreat
section
open Go.Abs
theorem jbk{t:TypeId}(hk:(G.ti t).kind= .it .i64):∀{n:Nat} {xs:List IV},Fits G n t xs->∃i,xs=[.int i]
 | 0,_,h=>h.elim
 | n+1,xs,h=>by
  unfold Fits at h;rw[hk]at h;obtain⟨i,rfl,_⟩:=h;exact⟨i,rfl⟩
theorem fits_bool{t:TypeId}(hk:(G.ti t).kind= .bl):∀{n:Nat} {xs:List IV},Fits G n t xs->∃i,xs=[.bool i]
 | 0,_,h=>h.elim
 | n+1,xs,h=>by
  unfold Fits at h;rw[hk]at h;exact h
theorem list_of{α:Type}{f:α->List IV}:∀{es:List (List IV)},(∀c∈es,∃p,c=f p)->∃l:List α,es=l.map f
 | [],_=>⟨[],rfl⟩
 | c::es,h=>by
  obtain⟨p,rfl⟩:=h c (List.mem_cons_self ..);obtain⟨l,rfl⟩:=list_of fun c hc=>h c (List.mem_cons_of_mem _ hc);exact⟨p::l,rfl⟩
theorem jff{α:Type}(f:α->List IV){t e:TypeId}(hk:(G.ti t).kind= .sl e)(hf:∀{n:Nat} (c:List IV),Fits G n e c->∃p,c=f p):∀{n:Nat} {xs:List IV},Fits G n t xs->∃l:List α,xs=[.sl (l.map f)]
 | 0,_,h=>h.elim
 | n+1,xs,h=>by
  unfold Fits at h;rw[hk]at h;obtain⟨es,rfl,_,h⟩:=h;obtain⟨l,rfl⟩:=list_of fun c hc=>hf c (h c hc);exact⟨l,rfl⟩
theorem jf1{t:TypeId}{n:Nat}{y:IV}(hk:aggK (G.ti t).kind=true)(h:FitsA G n t y):∃xs,y= .agg xs/\Fits G n t xs:=by
 unfold FitsA at h
 rwa [if_pos hk]at h
theorem fitsA_one{t:TypeId}{n:Nat}{y:IV}(hk:aggK (G.ti t).kind=false)(h:FitsA G n t y):Fits G n t [y]:=by
 unfold FitsA at h
 rwa [if_neg (by rw[hk];simp)]at h
theorem of_len2{α:Type}:∀{l:List α},l.length=2->∃x0 x1,l=[x0,x1]
 | [x0,x1],_=>⟨x0,x1,rfl⟩
theorem of_len3{α:Type}:∀{l:List α},l.length=3->∃x0 x1 x2,l=[x0,x1,x2]
 | [x0,x1,x2],_=>⟨x0,x1,x2,rfl⟩
theorem of_len4{α:Type}:∀{l:List α},l.length=4->∃x0 x1 x2 x3,l=[x0,x1,x2,x3]
 | [x0,x1,x2,x3],_=>⟨x0,x1,x2,x3,rfl⟩
theorem jfg{n:Nat}{t:TypeId}{ts:List TypeId}:∀{ys:List IV},FitsL G n (t::ts) ys->∃y ys',ys=y::ys'/\FitsA G n t y/\FitsL G n ts ys'
 | y::ys',h=>⟨y,ys',rfl,h⟩
theorem fitsL_nil{n:Nat}:∀{ys:List IV},FitsL G n [] ys->ys=[]
 | [],_=>rfl
end
section
open Go.Abs
theorem of_len6{α:Type}:∀{l:List α},l.length=6->∃x0 x1 x2 x3 x4 x5,l=[x0,x1,x2,x3,x4,x5]
 | [x0,x1,x2,x3,x4,x5],_=>⟨x0,x1,x2,x3,x4,x5,rfl⟩
theorem of_len8{α:Type}:∀{l:List α},l.length=8->∃x0 x1 x2 x3 x4 x5 x6 x7,l=[x0,x1,x2,x3,x4,x5,x6,x7]
 | [x0,x1,x2,x3,x4,x5,x6,x7],_=>⟨x0,x1,x2,x3,x4,x5,x6,x7,rfl⟩
theorem fits_Place:∀{n:Nat} {xs:List IV},Fits G n 86 xs->∃p:Place,xs=p.c
 | 0,_,h=>h.elim
 | n+1,xs,h=>by
  unfold Fits at h;have hk:(G.ti 86).kind= .st [(0,3),(1,3),(2,3)]:=rfl;rw[hk]at h;obtain⟨hl,hf⟩:=h;have hl:xs.length=3:=hl;obtain⟨x0,x1,x2,rfl⟩:=of_len3 hl;have h0:Fits G n 3 [x0]:=hf (0,3) (by simp);obtain⟨i0,e0⟩:=jbk rfl h0;cases e0;have h1:Fits G n 3 [x1]:=hf (1,3) (by simp);obtain⟨i1,e1⟩:=jbk rfl h1;cases e1;have h2:Fits G n 3 [x2]:=hf (2,3) (by simp);obtain⟨i2,e2⟩:=jbk rfl h2;cases e2;exact⟨⟨i0,i1,i2⟩,rfl⟩
theorem fits_Move:∀{n:Nat} {xs:List IV},Fits G n 110 xs->∃p:Move,xs=p.c
 | 0,_,h=>h.elim
 | n+1,xs,h=>by
  unfold Fits at h;have hk:(G.ti 110).kind= .st [(0,3),(1,3),(2,3),(3,3),(4,3),(5,4)]:=rfl;rw[hk]at h;obtain⟨hl,hf⟩:=h;have hl:xs.length=6:=hl;obtain⟨x0,x1,x2,x3,x4,x5,rfl⟩:=of_len6 hl;have h0:Fits G n 3 [x0]:=hf (0,3) (by simp);obtain⟨i0,e0⟩:=jbk rfl h0;cases e0;have h1:Fits G n 3 [x1]:=hf (1,3) (by simp);obtain⟨i1,e1⟩:=jbk rfl h1;cases e1;have h2:Fits G n 3 [x2]:=hf (2,3) (by simp);obtain⟨i2,e2⟩:=jbk rfl h2;cases e2;have h3:Fits G n 3 [x3]:=hf (3,3) (by simp);obtain⟨i3,e3⟩:=jbk rfl h3;cases e3;have h4:Fits G n 3 [x4]:=hf (4,3) (by simp);obtain⟨i4,e4⟩:=jbk rfl h4;cases e4;have h5:Fits G n 4 [x5]:=hf (5,4) (by simp);obtain⟨i5,e5⟩:=fits_bool rfl h5;cases e5;exact⟨⟨i0,i1,i2,i3,i4,i5⟩,rfl⟩
theorem jnv:∀{n:Nat} {xs:List IV},Fits G n 33 xs->∃p:Cert,xs=p.c
 | 0,_,h=>h.elim
 | n+1,xs,h=>by
  unfold Fits at h;have hk:(G.ti 33).kind= .st [(0,3),(1,3),(2,3),(3,3),(4,3),(5,3)]:=rfl;rw[hk]at h;obtain⟨hl,hf⟩:=h;have hl:xs.length=6:=hl;obtain⟨x0,x1,x2,x3,x4,x5,rfl⟩:=of_len6 hl;have h0:Fits G n 3 [x0]:=hf (0,3) (by simp);obtain⟨i0,e0⟩:=jbk rfl h0;cases e0;have h1:Fits G n 3 [x1]:=hf (1,3) (by simp);obtain⟨i1,e1⟩:=jbk rfl h1;cases e1;have h2:Fits G n 3 [x2]:=hf (2,3) (by simp);obtain⟨i2,e2⟩:=jbk rfl h2;cases e2;have h3:Fits G n 3 [x3]:=hf (3,3) (by simp);obtain⟨i3,e3⟩:=jbk rfl h3;cases e3;have h4:Fits G n 3 [x4]:=hf (4,3) (by simp);obtain⟨i4,e4⟩:=jbk rfl h4;cases e4;have h5:Fits G n 3 [x5]:=hf (5,3) (by simp);obtain⟨i5,e5⟩:=jbk rfl h5;cases e5;exact⟨⟨i0,i1,i2,i3,i4,i5⟩,rfl⟩
theorem jk8:∀{n:Nat} {xs:List IV},Fits G n 35 xs->∃p:Recall,xs=p.c
 | 0,_,h=>h.elim
 | n+1,xs,h=>by
  unfold Fits at h;have hk:(G.ti 35).kind= .st [(0,3),(1,3)]:=rfl;rw[hk]at h;obtain⟨hl,hf⟩:=h;have hl:xs.length=2:=hl;obtain⟨x0,x1,rfl⟩:=of_len2 hl;have h0:Fits G n 3 [x0]:=hf (0,3) (by simp);obtain⟨i0,e0⟩:=jbk rfl h0;cases e0;have h1:Fits G n 3 [x1]:=hf (1,3) (by simp);obtain⟨i1,e1⟩:=jbk rfl h1;cases e1;exact⟨⟨i0,i1⟩,rfl⟩
theorem jk9:∀{n:Nat} {xs:List IV},Fits G n 31 xs->∃p:Purity,xs=p.c
 | 0,_,h=>h.elim
 | n+1,xs,h=>by
  unfold Fits at h;have hk:(G.ti 31).kind= .st [(0,3),(1,3),(2,3),(3,3)]:=rfl;rw[hk]at h;obtain⟨hl,hf⟩:=h;have hl:xs.length=4:=hl;obtain⟨x0,x1,x2,x3,rfl⟩:=of_len4 hl;have h0:Fits G n 3 [x0]:=hf (0,3) (by simp);obtain⟨i0,e0⟩:=jbk rfl h0;cases e0;have h1:Fits G n 3 [x1]:=hf (1,3) (by simp);obtain⟨i1,e1⟩:=jbk rfl h1;cases e1;have h2:Fits G n 3 [x2]:=hf (2,3) (by simp);obtain⟨i2,e2⟩:=jbk rfl h2;cases e2;have h3:Fits G n 3 [x3]:=hf (3,3) (by simp);obtain⟨i3,e3⟩:=jbk rfl h3;cases e3;exact⟨⟨i0,i1,i2,i3⟩,rfl⟩
theorem fits_Evid:∀{n:Nat} {xs:List IV},Fits G n 28 xs->∃p:Evid,xs=p.c
 | 0,_,h=>h.elim
 | n+1,xs,h=>by
  unfold Fits at h;have hk:(G.ti 28).kind= .st [(0,3),(1,3),(2,3),(3,22),(4,23),(5,24),(6,25),(7,26)]:=rfl;rw[hk]at h;obtain⟨hl,hf⟩:=h;have hl:xs.length=8:=hl;obtain⟨x0,x1,x2,x3,x4,x5,x6,x7,rfl⟩:=of_len8 hl;have h0:Fits G n 3 [x0]:=hf (0,3) (by simp);obtain⟨i0,e0⟩:=jbk rfl h0;cases e0;have h1:Fits G n 3 [x1]:=hf (1,3) (by simp);obtain⟨i1,e1⟩:=jbk rfl h1;cases e1;have h2:Fits G n 3 [x2]:=hf (2,3) (by simp);obtain⟨i2,e2⟩:=jbk rfl h2;cases e2;have h3:Fits G n 22 [x3]:=hf (3,22) (by simp);obtain⟨i3,e3⟩:=jff Place.c rfl (fun c hc=>fits_Place hc) h3;cases e3;have h4:Fits G n 23 [x4]:=hf (4,23) (by simp);obtain⟨i4,e4⟩:=jff Move.c rfl (fun c hc=>fits_Move hc) h4;cases e4;have h5:Fits G n 24 [x5]:=hf (5,24) (by simp);obtain⟨i5,e5⟩:=jff Cert.c rfl (fun c hc=>jnv hc) h5;cases e5;have h6:Fits G n 25 [x6]:=hf (6,25) (by simp);obtain⟨i6,e6⟩:=jff Recall.c rfl (fun c hc=>jk8 hc) h6;cases e6;have h7:Fits G n 26 [x7]:=hf (7,26) (by simp);obtain⟨i7,e7⟩:=jff Purity.c rfl (fun c hc=>jk9 hc) h7;cases e7;exact⟨⟨i0,i1,i2,i3,i4,i5,i6,i7⟩,rfl⟩
theorem fitsA_Evid{n:Nat}{y:IV}(h:FitsA G n 28 y):∃e:Evid,y=e.iv:=by
 obtain⟨_,rfl,g⟩:=jf1 rfl h;obtain⟨e,rfl⟩:=fits_Evid g;exact⟨e,rfl⟩
end
section
open Go.Abs
theorem fits_Pick:∀{n:Nat} {xs:List IV},Fits G n 105 xs->∃p:Int×Int,xs=pickC p
 | 0,_,h=>h.elim
 | n+1,xs,h=>by
  unfold Fits at h;have hk:(G.ti 105).kind= .st [(0,3),(1,3)]:=rfl;rw[hk]at h;obtain⟨hl,hf⟩:=h;have hl:xs.length=2:=hl
  match xs,hl with
  | [x0,x1],_=>
   have h0:Fits G n 3 [x0]:=hf (0,3) (by simp);obtain⟨i0,e0⟩:=jbk rfl h0;cases e0;have h1:Fits G n 3 [x1]:=hf (1,3) (by simp);obtain⟨i1,e1⟩:=jbk rfl h1;cases e1;exact⟨(i0,i1),rfl⟩
theorem fitsA_picks{n:Nat}{y:IV}(h:FitsA G n 29 y):∃l:List (Int×Int),y= .sl (l.map pickC):=by
 obtain⟨l,e⟩:=jff pickC rfl (fun _ hc=>fits_Pick hc) (fitsA_one rfl h);cases e;exact⟨l,rfl⟩
end
end Go.Proofs.YtfahloobpegieaaGreat
