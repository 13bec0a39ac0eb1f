/- A part of the proof. No further condition. -/
import Derived.Test.YthahgoopboilkaaGreatKE11
set_option linter.all false
set_option maxRecDepth 10000000
set_option maxHeartbeats 16000000
namespace Go.Abs
section
open Go.RowKit (Below)
def jgp(G:Ctx)(t:TypeId)(p x:AV)(R:Rows)(T:AV->Rows->Prop):Prop:=
 match x,p.dp with
 | .im y,.loc d s i j=>match look R d with
  | some (s',es)=>match es[i]? with
   | some c=>s'=s/\(G.ti t).size≠0/\(cellsOf y).length=(G.ti t).size/\(cellsOf y).all IV.one=true/\j+(G.ti t).size<=c.length/\
     T jcs (setRow R d s (es.set i (jbp c j (cellsOf y))))
   | none=>False
  | none=>False
 | _,_=>False
def spZ(G:Ctx)(st:St)(o:Oper)(T:AV->Rows->Prop):Prop:=
 match o.op with
 | .store t p x=>jgp G t (evO st p) (evO st x) st.rows T
 | _=>if isSp o=true then sp G st o T else aq G st o fun av=>T av st.rows
def spZ1(G:Ctx)(st:St)(o:Oper)(T:AV->Rows->Prop):Prop:=
 match o.op with
 | .store t p x=>jgp G t (evO st p) (evO st x) st.rows T
 | _=>if isSp o=true then sp G st o T else ∃av,qVal G st o av/\T av st.rows
def jjn(ops:Array Oper):Nat->Nat->Nat->Bool
 | 0,j,i=>Region.waitsFor .any ops j i
 | f+1,j,i=>Region.waitsFor .any ops j i || (List.range j).any fun l=>Region.waitsFor .any ops j l&&jjn ops f l i
theorem waitsT_listed{ops:Array Oper}{n:Nat}{listed:Array Bool}(inv:HeadInv .any ops n listed)(hw:∀j i,Region.waitsFor .any ops j i=true->listed.getD j false=true->listed.getD i false=true):
  ∀(f j i:Nat),jjn ops f j i=true->listed.getD j false=true->listed.getD i false=true:=by
 intro f
 induction f with
 | zero=>exact fun j i h hl=>hw j i h hl
 | succ f ih=>
  intro j i h hl;rw[jjn,qX]at h;rcases h with h | h
  ·exact hw j i h hl
  ·obtain⟨l,_,h2⟩:=jw.1 h;rw[zr]at h2;exact ih l i h2.2 (hw j l h2.1 hl)
theorem spZ_1{G:Ctx}{st:St}{o:Oper}{T:AV->Rows->Prop}(h:spZ G st o T):spZ1 G st o T:=by
 unfold spZ at h;unfold spZ1;split at h
 ·exact h
 ·by_cases hs:isSp o=true
  ·rw[zm hs]at h⊢;exact h
  ·rw[zn hs]at h⊢;obtain⟨av,h1,h2⟩:=jhu h;exact⟨av,h1,h2⟩
def isStZ(o:Oper):Bool:=
 match o.op with
 | .store _ _ _=>true
 | _=>false
def stZ(ops:Array Oper)(m:List Bool):Bool:=(List.range m.length).all fun i=>(List.range m.length).all fun j=> !(m.getD i false) || m.getD j false || (match ops[i]?,ops[j]? with
 | some oi,some oj=> !isStZ oi || !jfw oj || Region.waitsFor .any ops i j
 | _,_=>true)
section
variable{G:Ctx}{N:Nat}{w0:Base}{w w':World}{M0:Nat->Nat->Prop}{β:Nat->Option Nat}{st st':St}{a:Act}{ops:List Oper}
theorem spZ_congr{o:Oper}{T:AV->Rows->Prop}(h:∀t∈o.looksAt ops.toArray,st.get t=st'.get t)(hr:st.rows=st'.rows)(ht:st.toks=st'.toks)(hs:spZ1 G st o T):spZ1 G st' o T:=by
 have hx:∀x∈o.op.operands,evO st x=evO st' x:=fun x hx=>jgt fun t ht=>h t (jdi hx ht);unfold spZ1 at hs⊢;split at hs
 ·rename_i t p x ho;rw[ho]at hx;rw[<-hx p (by simp[Op.operands]),<-hx x (by simp[Op.operands]),<-hr];exact hs
 ·by_cases hp:isSp o=true
  ·rw[zm hp]at hs⊢;exact sp_congr h hr hs
  ·rw[zn hp]at hs⊢;obtain⟨av,h1,h2⟩:=hs;exact⟨av,jj4 h hr ht h1,hr▸h2⟩
theorem spZ_sound(hG:G.Good)(h:Sim N w0 M0 β st a w){o:Oper}{T:AV->Rows->Prop}(hd:∀d,o.dst=some d->d<N)(hA:spZ1 G st o T){K':Act->World->Prop}{Q':Exit->Act->World->Prop}
  (hK:∀av R' β' a' w',T av R'->Sim N w0 M0 β' ((⟨st.fr,R',st.toks⟩:St).put o.dst av) a' w'->K' a' w'):o.wp G.P a w K' Q':=by
 unfold spZ1 at hA;split at hA
 ·rename_i t p x ho;have haop:aop G o (fun st'=>∃av R',st'=(⟨st.fr,R',st.toks⟩:St).put o.dst av/\T av R') st:=by
   unfold aop;rw[ho];dsimp only;unfold jgp at hA;split at hA
   ·rename_i y d s i j hx hp;have hl:st.lendO x=st:=by
     unfold St.lendO;rw[hx]
    rw[hl];unfold jn6;rw[hx,hp];dsimp only[ivE,ivOf];split at hA
    ·rename_i s' es hlk;rw[hlk];dsimp only;split at hA
     ·rename_i c hc;rw[hc];obtain⟨h1,h2,h3,h4,h5,h6⟩:=hA;exact⟨h1,h2,h3,h4,h5,_,_,rfl,h6⟩
     ·exact hA.elim
    ·exact hA.elim
   ·exact hA.elim
  refine jen hG h hd haop ?_;rintro st' β' a' w' ⟨av,R',rfl,hT⟩ hs;exact hK av R' β' a' w' hT hs
 ·by_cases hp:isSp o=true
  ·rw[zm hp]at hA;exact sp_sound hG h hd hA hK
  ·rw[zn hp]at hA;obtain⟨av,h1,h2⟩:=hA;refine je5 hG h h1 fun v w2 hb hv=>hK av st.rows β _ w2 h2 ?_;exact(h.ext hb).put (dst:=o.dst) hd hv
end
section
variable{G:Ctx}
def joa(G:Ctx)(t:TypeId)(p x:AV)(R:Rows)[T:Hold (Rows->Prop)]:Prop:=jgp G t p x R fun _ R'=>T.val R'
theorem jfd{t:TypeId}{p x:AV}{R:Rows}{T T':AV->Rows->Prop}(h:jgp G t p x R T)(hT:∀av R',T av R'->T' av R'):jgp G t p x R T':=by
 unfold jgp at h⊢;split at h
 ·split at h
  ·split at h
   ·obtain⟨h1,h2,h3,h4,h5,h6⟩:=h;exact⟨h1,h2,h3,h4,h5,hT _ _ h6⟩
   ·exact h.elim
  ·exact h.elim
 ·exact h.elim
theorem SpStore_loc(t:TypeId)(d s i j:Nat)(y:IV)(R:Rows)(T:Rows->Prop): @joa G t (.loc d s i j) (.im y) R ⟨T⟩=Opt (look R d) (K:=⟨fun p=>Opt p.2[i]? (K:=⟨fun c=>p.1=s/\(G.ti t).size≠0/\(cellsOf y).length=(G.ti t).size/\(cellsOf y).all IV.one=true/\j+(G.ti t).size<=c.length/\
  T (setRow R d s (p.2.set i (jbp c j (cellsOf y))))⟩)⟩):=by
 unfold joa jgp Opt AV.dp;dsimp only;cases h:look R d with
 | none=>rfl
 | some p=>
  obtain⟨s',es⟩:=p;dsimp only;cases es[i]? <;>rfl
end
attribute [go_sem ↓] SpStore_loc
end
section
open Go.RowKit (Below)
inductive OT where
 | fin:OT
 | none:OT
 | alt:Nat->OT->OT->OT
def OT.heads:OT->List Nat
 | .alt i _ r=>i::r.heads
 | _=>[]
def OT.emp:OT->Bool
 | .fin=>true
 | _=>false
def OT.cov(ops:Array Oper)(t:OT)(rem:List Nat):Bool:=(t.emp==rem.isEmpty)&&rem.all fun i=>t.heads.contains i || rem.any fun j=>jjn ops 3 i j
def OT.ok(ops:Array Oper):OT->List Nat->Bool
 | .alt i s r,rem=>s.cov ops (rem.filter (· !=i))&&s.ok ops (rem.filter (· !=i))&&r.ok ops rem
 | _,_=>true
def okT(ops:Array Oper)(t:OT)(rem:List Nat):Bool:=t.cov ops rem&&t.ok ops rem
def drawN(ops:Array Oper)(m:List Bool):Bool:=
 drawB ops m.length&&(List.range m.length).all (fun j=>(List.range j).all fun i=>
  (!(m.getD i false&& !(m.getD j false)) || (match ops[i]?,ops[j]? with
   | some oi,some oj=>oi.apart ops oj
   | _,_=>false)))
def spMk(G:Ctx)(d:Nat)(t:TypeId)(l c:AV)(R:Rows)(T:AV->Rows->Prop):Prop:=
 match l,c with
 | .im (.sc (.int _ n)),.im (.sc (.int _ m))=>match(G.ti t).kind with
  | .sl e=>match jcz G e with
   | some z=>G.perm.contains d=true/\(G.ti t).size≠0/\n=m/\0<=n/\n*(G.ti e).bytes<=140737488355328/\(G.ti e).bytes≠0/\
     ∀b,look R (hp b)=none->T (.im (.ref b e (G.ti e).size (List.replicate n.toNat z).length)) ((hp b,(G.ti e).size,List.replicate n.toNat z)::R)
   | none=>False
  | _=>False
 | _,_=>False
def spN(G:Ctx)(st:St)(o:Oper)(T:AV->Rows->Prop):Prop:=
 match o.op with
 | .alloc t=>match o.dst,jcz G t with
  | some d,some z=>G.perm.contains d=true/\∀b,look st.rows (hp b)=none->T (.loc (hp b) z.length 0 0) ((hp b,z.length,[z])::st.rows)
  | _,_=>False
 | .makeSlice t l c=>match o.dst with
  | some d=>spMk G d t (evO st l) (evO st c) st.rows T
  | none=>False
 | _=>spZ G st o T
def spN1(G:Ctx)(st:St)(o:Oper)(T:AV->Rows->Prop):Prop:=
 match o.op with
 | .alloc t=>match o.dst,jcz G t with
  | some d,some z=>G.perm.contains d=true/\∀b,look st.rows (hp b)=none->T (.loc (hp b) z.length 0 0) ((hp b,z.length,[z])::st.rows)
  | _,_=>False
 | .makeSlice t l c=>match o.dst with
  | some d=>spMk G d t (evO st l) (evO st c) st.rows T
  | none=>False
 | _=>spZ1 G st o T
def gOk(ops:List Oper)(st:St)(o:Oper):Prop:=match o.guard with
 | none=>True
 | some (j,want)=>jd5 st ops j=some (some want)
theorem gOk_congr{ops:List Oper}{st st':St}{o:Oper}(h:∀t∈o.looksAt ops.toArray,st.get t=st'.get t)(hg:gOk ops st o):gOk ops st' o:=by
 unfold gOk at hg⊢;cases hgd:o.guard with
 | none=>trivial
 | some p=>
  obtain⟨j,want⟩:=p;rw[hgd]at hg;dsimp only at hg⊢;rw[<-hg];unfold jd5;cases ho:ops[j]? with
  | none=>rfl
  | some oj=>
   cases hd:oj.dst with
   | none=>simp only[hd]
   | some t=>
    have:t∈o.looksAt ops.toArray:=by
     have ho':ops.toArray[j]? =some oj:=by simpa using ho
     simp[Oper.looksAt,hgd,ho',ho,hd]
    simp only[hd,h t this]
theorem gOk_wanted{N:Nat}{w0:Base}{M0:Nat->Nat->Prop}{β:Nat->Option Nat}{st:St}{a:Act}{w:World}{ops:List Oper}{o:Oper}(h:Sim N w0 M0 β st a w)(hg:gOk ops st o):Region.wanted o (yielded ops.toArray a.tmps)=true:=by
 unfold gOk at hg;cases hgd:o.guard with
 | none=>simp[Region.wanted,hgd]
 | some p=>
  obtain⟨j,want⟩:=p;rw[hgd]at hg;simp[Region.wanted,hgd,je2 h hg]
def spO(G:Ctx)(kp:Bool)(ops:List Oper)(K:St->Prop):OT->Rows->St->Prop
 | .fin,_,st=>K st
 | .none,_,_=>True
 | .alt i s r,Rs,st=>(match ops[i]? with
  | some o=>gOk ops st o/\spN G st o fun av R'=>(∀k x,look (if(isStZ o&& !kp)=true then []else Rs) k=some x->look R' k=some x)/\spO G kp ops K s (if(isStZ o&& !kp)=true then []else Rs) ((⟨st.fr,R',st.toks⟩:St).put o.dst av)
  | none=>False)/\spO G kp ops K r Rs st
theorem okT_nil{ops:Array Oper}{t:OT}(h:okT ops t []=true):t= .fin:=by
 cases t with
 | fin=>rfl
 | none=>cases h
 | alt i s r=>cases h
theorem okT_head{ops:Array Oper}{t:OT}{rem:List Nat}{i:Nat}(h:okT ops t rem=true)(hi:i∈rem)(hw:∀j∈rem,jjn ops 3 i j=false):i∈t.heads:=by
 unfold okT OT.cov at h;rw[zr,zr]at h;have:=List.all_eq_true.1 h.1.2 i hi;rw[qX]at this;rcases this with h | h
 ·simpa using h
 ·obtain⟨j,hj,e⟩:=jw.1 h;rw[hw j hj]at e;cases e
theorem jp2{G:Ctx}{kp:Bool}{ops:List Oper}{K:St->Prop}{Rs:Rows}{st:St}{rem:List Nat}{i:Nat}:∀{t:OT},t.ok ops.toArray rem=true->i∈t.heads->spO G kp ops K t Rs st->
  ∃t2:OT,okT ops.toArray t2 (rem.filter (· !=i))=true/\match ops[i]? with
  | some o=>gOk ops st o/\spN G st o fun av R'=>(∀k x,look (if(isStZ o&& !kp)=true then []else Rs) k=some x->look R' k=some x)/\spO G kp ops K t2 (if(isStZ o&& !kp)=true then []else Rs) ((⟨st.fr,R',st.toks⟩:St).put o.dst av)
  | none=>False
 | .fin,_,hi,_=>by cases hi
 | .none,_,hi,_=>by cases hi
 | .alt j s r,h,hi,hs=>by
  rw[OT.ok,zr,zr]at h;rcases zS.1 hi with e | hi
  ·subst e;exact⟨s,by unfold okT;rw[h.1.1,h.1.2];rfl,hs.1⟩
  ·exact jp2 h.2 hi hs.2
theorem spO_head{G:Ctx}{kp:Bool}{ops:List Oper}{K:St->Prop}{Rs:Rows}{st:St}{rem:List Nat}{i:Nat}{t:OT}(h:okT ops.toArray t rem=true)(hi:i∈t.heads)(hs:spO G kp ops K t Rs st):
  ∃t2:OT,okT ops.toArray t2 (rem.filter (· !=i))=true/\match ops[i]? with
  | some o=>gOk ops st o/\spN G st o fun av R'=>(∀k x,look (if(isStZ o&& !kp)=true then []else Rs) k=some x->look R' k=some x)/\spO G kp ops K t2 (if(isStZ o&& !kp)=true then []else Rs) ((⟨st.fr,R',st.toks⟩:St).put o.dst av)
  | none=>False:=jp2 (by unfold okT at h;rw[zr]at h;exact h.2) hi hs
theorem spN_1{G:Ctx}{st:St}{o:Oper}{T:AV->Rows->Prop}(h:spN G st o T):spN1 G st o T:=by
 unfold spN at h;unfold spN1;split at h
 ·exact h
 ·exact h
 ·exact spZ_1 h
section
variable{G:Ctx}{kp:Bool}{N:Nat}{w0:Base}{w w':World}{M0:Nat->Nat->Prop}{β:Nat->Option Nat}{st st':St}{a:Act}{ops:List Oper}
theorem spN_congr{o:Oper}{T:AV->Rows->Prop}(h:∀t∈o.looksAt ops.toArray,st.get t=st'.get t)(hr:st.rows=st'.rows)(ht:st.toks=st'.toks)(hs:spN1 G st o T):spN1 G st' o T:=by
 have hx:∀x∈o.op.operands,evO st x=evO st' x:=fun x hx=>jgt fun t ht=>h t (jdi hx ht);unfold spN1 at hs⊢;split at hs
 ·rw[<-hr];exact hs
 ·rename_i t l c ho;rw[ho]at hx;rw[<-hx l (by simp[Op.operands]),<-hx c (by simp[Op.operands]),<-hr];exact hs
 ·exact spZ_congr h hr ht hs
theorem spN_sound(hG:G.Good)(h:Sim N w0 M0 β st a w){o:Oper}{T:AV->Rows->Prop}(hd:∀d,o.dst=some d->d<N)(hA:spN1 G st o T){K':Act->World->Prop}{Q':Exit->Act->World->Prop}
  (hK:∀av R' β' a' w',T av R'->Sim N w0 M0 β' ((⟨st.fr,R',st.toks⟩:St).put o.dst av) a' w'->K' a' w'):o.wp G.P a w K' Q':=by
 unfold spN1 at hA;split at hA
 ·rename_i t ho;have haop:aop G o (fun st'=>∃av R',st'=(⟨st.fr,R',st.toks⟩:St).put o.dst av/\T av R') st:=by
   unfold aop;rw[ho];dsimp only;split at hA
   ·rename_i d z h1 h2;rw[h1,h2];dsimp only;rw[zm hA.1];exact fun b hb=>⟨_,_,rfl,hA.2 b hb⟩
   ·exact hA.elim
  refine jen hG h hd haop ?_;rintro st' β' a' w' ⟨av,R',rfl,hT⟩ hs;exact hK av R' β' a' w' hT hs
 ·rename_i t l c ho;have haop:aop G o (fun st'=>∃av R',st'=(⟨st.fr,R',st.toks⟩:St).put o.dst av/\T av R') st:=by
   unfold aop;rw[ho];dsimp only;split at hA
   ·rename_i d h1;rw[h1];unfold spMk at hA;unfold aMake;split at hA
    ·rename_i k n k' m h2 h3;rw[h2,h3];dsimp only;split at hA
     ·rename_i e h4;rw[h4];dsimp only;split at hA
      ·rename_i z h5;rw[h5];obtain⟨a1,a2,a3,a4,a5,a6,a7⟩:=hA;refine⟨a2,a3,a4,a5,a6,?_⟩;rw[zm a1];exact fun b hb=>⟨_,_,rfl,a7 b hb⟩
      ·exact hA.elim
     ·exact hA.elim
    ·exact hA.elim
   ·exact hA.elim
  refine jen hG h hd haop ?_;rintro st' β' a' w' ⟨av,R',rfl,hT⟩ hs;exact hK av R' β' a' w' hT hs
 ·exact spZ_sound hG h hd hA hK
theorem jll(hG:G.Good)(id:Nat)(m:List Bool)(t0:OT)(Rs:Rows)(hX:drawN ops.toArray m=true)(hZ:(kp || stZ ops.toArray m)=true)(hT0:okT ops.toArray t0 ((List.range m.length).filter fun i=>m.getD i false)=true)(hd0:∀o∈ops,∀d,o.dst=some d->d<N){K:St->Prop}{Q':Exit->Act->World->Prop}
  (hK:∀st' β' a' w',K st'->Sim N w0 M0 β' st' a' w'->Q' .normal a' w') (h:Sim N w0 M0 β st a w) (hRs:∀k x,look Rs k=some x->look st.rows k=some x)
  (hA:jg0 G ops (fun s=>spO G kp ops (fun s'=>alist G ops K (ops.drop m.length) s') t0 Rs ⟨s.fr,st.rows,s.toks⟩) m ops ⟨st.fr,Rs,st.toks⟩):(Code.region id ops.toArray true).wp G.P Q' a w:=by
 rw[drawN,zr]at hX;obtain⟨hB,hS⟩:=hX;simp only[drawB,zr,zK,qX,jz]at hB;obtain⟨⟨⟨⟨hn,hafter⟩,hpair⟩,htail⟩,hseq⟩:=hB;have hsz:ops.toArray.size=ops.length:=by simp
 have hnl:m.length<=ops.length:=by rw[<-hsz];exact hn
 obtain⟨res0,hres,hfin⟩:=jje m ops _ hnl hA;generalize hmn:m.length=n at*;have htake:∀i,i<n->(ops.take n)[i]? =ops[i]? :=fun i hi=>by rw[qa,zm hi]
 have hlt:∀i o,(ops.take n)[i]? =some o->i<n/\ops[i]? =some o:=fun i o hi=>by
  rw[qa]at hi;split at hi
  ·exact⟨‹_›,hi⟩
  ·cases hi
 have arr:∀(i:Nat) (o:Oper),ops[i]? =some o->ops.toArray[i]? =some o:=fun i o h=>by simpa using h
 have hpair':∀i j oi oj,i<j->j<n->ops[i]? =some oi->ops[j]? =some oj->Region.waitsFor .any ops.toArray j i=true\/oi.apart ops.toArray oj=true:=by
  intro i j oi oj hij hj h1 h2;have:=List.all_eq_true.1 (List.all_eq_true.1 hpair j (qh.2 hj)) i (qh.2 hij);rw[arr i oi h1,arr j oj h2]at this
  simpa using this
 have hfree:∀i j oi oj,i<j->j<n->m.getD i false=true->m.getD j false=false->ops[i]? =some oi->ops[j]? =some oj->oi.apart ops.toArray oj=true:=by
  intro i j oi oj hij hj h1 h2 h3 h4;have:=List.all_eq_true.1 (List.all_eq_true.1 hS j (qh.2 hj)) i (qh.2 hij);rw[h1,h2,arr i oi h3,arr j oj h4]at this
  simpa using this
 have hstZ:∀(i j:Nat) oi oj,i<n->j<n->m.getD i false=true->m.getD j false=false->ops[i]? =some oi->ops[j]? =some oj->kp=false->isStZ oi=true->jfw oj=true->Region.waitsFor .any ops.toArray i j=true:=by
  intro i j oi oj hi hj h1 h2 h3 h4 hkp h5 h6;rw[hkp,yk]at hZ;unfold stZ at hZ;rw[hmn]at hZ;have:=List.all_eq_true.1 (List.all_eq_true.1 hZ i (qh.2 hi)) j (qh.2 hj);rw[h1,h2,arr i oi h3,arr j oj h4]at this
  simpa [h5,h6]using this
 have hafter':∀(j:Nat) oj,ops[j]? =some oj->∀e∈oj.after,Region.binds .any e=true->e.on<j:=by
  intro j oj hj e he hb;have hjl:j<ops.toArray.size:=by rw[hsz];exact(zu.1 hj).1
  have:=List.all_eq_true.1 hafter j (qh.2 hjl);rw[arr j oj hj]at this;have:=vA.1 this e he
  simpa [hb]using this
 have main:∀c (listed:Array Bool) (a:Act) (w:World),cntB listed n=c->HeadInv .any ops.toArray n listed->
   (∃(res:Nat->AV) (β:Nat->Option Nat) (R Rs1:Rows) (s:St),(∀i,i<n->m.getD i false=false->res i=res0 i)/\Sim N w0 M0 β (stUp res (fun i=>listed.getD i false) (ops.take n) ⟨st.fr,R,st.toks⟩) a w/\
    ((∀k x,look Rs1 k=some x->look R k=some x)/\(Rs1=Rs\/∀(j:Nat) oj,j<n->m.getD j false=false->listed.getD j false=false->ops[j]? =some oj->jfw oj=false))/\(∃t1:OT,okT ops.toArray t1 ((List.range n).filter (fun i=>m.getD i false&& !(listed.getD i false)))=true/\spO G kp ops (fun s'=>alist G ops K (ops.drop n) s') t1 Rs1 s)/\s.rows=R/\s.toks=st.toks/\
    ∀t,s.get t=(stUp res (fun i=>hd m i || listed.getD i false) (ops.take n) ⟨st.fr,R,st.toks⟩).get t)->wpAny G.P .any ops.toArray Q' (c+(ops.toArray.size-n)) listed a w:=by
  intro c
  induction c with
  | zero=>
   rintro listed a w hc inv ⟨res,β,R,Rs1,s,hr0,hs,⟨hsub,hnl⟩,hsp,hsr,hst,hsg⟩;rw[qH];have hall:=jgz hc;have hcan:listed=jim n ops.toArray.size:=by
    apply Array.ext
    ·rw[inv.size];simp[jim]
    ·intro i h1 h2;have hil:i<ops.length:=by rw[inv.size]at h1;simpa using h1
     by_cases hin:i<n
     ·have:=hall i hin;have e1:listed[i]=true:=by simpa [h1]using this
      rw[e1];simp[jim,hin]
     ·have:=inv.tail i (by omega) (by rw[inv.size]at h1;exact h1);have e1:listed[i]=false:=by simpa [h1]using this
      rw[e1];simp[jim,hin]
   have hrem:(List.range n).filter (fun i=>m.getD i false&& !(listed.getD i false))=[]:=List.filter_eq_nil_iff.2 fun k hk=>by
    rw[hall k (qh.1 hk)];simp
   obtain⟨t1,ht1,hsp⟩:=hsp;rw[hrem]at ht1;have:=okT_nil ht1;subst this;have hs':Sim N w0 M0 β s a w:=by
    refine hs.congr (fun t=> ?_) ?_ ?_
    ·rw[hsg];exact jcr _ _ _ _ _ _ rfl fun i o hi _=>by rw[hall i (hlt i o hi).1];simp
    ·rw[(jai _ _ _ _).1,hsr]
    ·rw[(jai _ _ _ _).2,hst]
   have hlist:=jge hG hK (ops.drop n) _ β a w (fun o ho=>hd0 o (yf ho)) hsp hs';have hdl:(ops.drop n).length=ops.toArray.size-n:=by simp
   have:=wpAny_of_seq (P:=G.P) (md:= .any) (Q':=Q') (ops.drop n) n listed a w (fun j=>by simp[qM]) (by rw[hcan,hdl];exact hseq) hlist
   rwa [hdl]at this
  | succ c ih=>
   rintro listed a w hc inv ⟨res,β,R,Rs1,s,hr0,hs,⟨hsub,hnl⟩,hsp,hsr,hst,hsg⟩;obtain⟨i0,hi0,hun0,hmin⟩:=jk8 (by omega:cntB listed n≠0);have hL:∀i,i<n->(listed.getD i true=false↔listed.getD i false=false):=fun i hi=>by
    have:i<listed.size:=by rw[inv.size];omega
    simp[this]
   have hready0:i0∈Region.ready .any ops.toArray listed:=by
    have hil:i0<ops.length:=by rw[<-hsz];omega
    refine mem_ready.2 ⟨(hL i0 hi0).2 hun0,ops[i0],arr i0 _ (zh hil),fun e he hb=>hmin _ (hafter' i0 _ (zh hil) e he hb)⟩
   have hgoal:(Region.ready .any ops.toArray listed=[]->Q' .normal a w)/\∀i∈Region.ready .any ops.toArray listed,wpOp G.P ops.toArray Q' i (wpAny G.P .any ops.toArray Q' (c+(ops.toArray.size-n)) (listed.setIfInBounds i true)) a w:=by
    refine⟨fun hr=>(by rw[hr]at hready0;cases hready0),fun i hi=> ?_⟩;obtain⟨hun,oi,hoi,hall⟩:=mem_ready.1 hi;have hoi':ops[i]? =some oi:=by simpa using hoi
    have hisz:i<ops.toArray.size:=(zG.1 hoi).1;have hin:i<n:=by
     rcases zT i n with h' | h'
     ·exact h'
     ·rcases htail with e | ⟨hsink,hchain⟩
      ·omega
      ·exact absurd hi (tail_waits hsink hchain (by omega) inv _ i0 rfl hi0 ((hL i0 hi0).2 hun0) i h')
    have hunf:listed.getD i false=false:=(hL i hin).1 hun;have hwait:∀k,Region.waitsFor .any ops.toArray i k=true->listed.getD k false=true:=fun k hk=>by
     obtain⟨oj,hoj,e,he,hb,hon⟩:=Region.waitsFor_spec hk;rw[hoi]at hoj;cases hoj;rw[<-hon];exact hall e he hb
    have hwaitT:∀k,jjn ops.toArray 3 i k=true->listed.getD k false=true:=fun k hk=>by
     rw[jjn,qX]at hk;rcases hk with h | h
     ·exact hwait k h
     ·obtain⟨l,_,h2⟩:=jw.1 h;rw[zr]at h2;refine waitsT_listed inv (fun j i hw hl=> ?_) 2 l k h2.2 (hwait l h2.1);obtain⟨oj,hoj,e,he,hb,hon⟩:=Region.waitsFor_spec hw;rw[<-hon];exact inv.closed j oj hoj hl e he hb
    have hlate:∀k,Region.waitsFor .any ops.toArray k i=true->listed.getD k false=false:=fun k hk=>by
     obtain⟨ok,hok,e,he,hb,hon⟩:=Region.waitsFor_spec hk;cases hl:listed.getD k false with
     | false=>rfl
     | true=>
      have:=inv.closed k ok hok hl e he hb;rw[hon,hunf]at this;cases this
    have hisL:i<listed.size:=by rw[inv.size];exact hisz
    have hcnt:cntB (listed.setIfInBounds i true) n=c:=by
     have:=jk7 hisL hunf n;rw[zm hin]at this;omega
    have hset:∀k,k≠i->(listed.setIfInBounds i true).getD k false=listed.getD k false:=fun k hk=>getD_set_ne false (zD hk);have hseti:(listed.setIfInBounds i true).getD i false=true:=by simp[hisL]
    have hlast:∀(t:Nat),oi.dst=some t->∀k ok,i<k->(ops.take n)[k]? =some ok->listed.getD k false=true->ok.dst≠some t:=by
     intro t hdt k ok hik hk hLk hdk;obtain⟨hkn,hok⟩:=hlt k ok hk;rcases hpair' i k oi ok hik hkn hoi' hok with hw | hap
     ·rw[hlate k hw]at hLk;cases hLk
     ·exact(Oper.apart_spec hap).2.1 t hdt hdk
    cases hmi:m.getD i false with
    | false=>
     have hhd:hd m i=true:=by unfold hd;rw[hmi];rfl
     have hagree:∀t∈oi.looksAt ops.toArray,(stUp res0 (fun k=>hd m k&&decide (k<i)) ops ⟨st.fr,R,st.toks⟩).get t=(stUp res (fun k=>listed.getD k false) (ops.take n) ⟨st.fr,R,st.toks⟩).get t:=by
      intro t ht;have e1:(stUp res0 (fun k=>hd m k&&decide (k<i)) ops ⟨st.fr,R,st.toks⟩).get t=(stUp res0 (fun k=>hd m k&&decide (k<i)) (ops.take n) ⟨st.fr,R,st.toks⟩).get t:=by
       have:∀(l:List Oper) (r:Nat->AV) (L:Nat->Bool) (n:Nat) (s:St),(∀k,n<=k->L k=false)->(stUp r L l s).get t=(stUp r L (l.take n) s).get t:=by
        intro l
        induction l with
        | nil=>intros;simp
        | cons o l ih=>
         intro r L n s hk;cases n with
         | zero=>
          have hf:∀(l:List Oper) (res:Nat->AV) (L:Nat->Bool) (st:St),(∀i,L i=false)->stUp res L l st=st:=by
           intro l
           induction l with
           | nil=>intros;rfl
           | cons o l ih=>
            intro res L st hL;simp only[stUp,hL 0];exact ih _ _ _ fun i=>hL (i+1)
          rw[hf _ _ _ _ fun i=>hk i (zE _)];rfl
         | succ n=>exact ih _ _ n _ fun k hk'=>hk (k+1) (by omega)
       exact this _ _ _ _ _ fun k hk=>by simp;omega
      rw[e1];refine ji4 _ _ _ _ _ _ _ rfl fun k ok hk hdk=> ?_;obtain⟨hkn,hok⟩:=hlt k ok hk;cases hmk:m.getD k false with
      | true=>
       have hap:ok.apart ops.toArray oi=true\/oi.apart ops.toArray ok=true\/listed.getD k false=false:=by
        rcases yx k i with hki | hki | hki
        ·exact .inl (hfree k i ok oi hki hin hmk hmi hok hoi')
        ·subst hki;rw[hmi]at hmk;cases hmk
        ·rcases hpair' i k oi ok hki hkn hoi' hok with hw | hap
         ·exact .inr (.inr (hlate k hw))
         ·exact .inr (.inl hap)
       have hh:hd m k=false:=by unfold hd;rw[hmk];rfl
       rcases hap with hap | hap | hap
       ·exact absurd ht ((Oper.apart_spec hap).1 t hdk)
       ·exact absurd ht ((Oper.apart_spec hap).2.2 t hdk)
       ·rw[hh,hap];simp
      | false=>
       have hh:hd m k=true:=by unfold hd;rw[hmk];rfl
       refine⟨?_,fun _=>(hr0 k hkn hmk).symm⟩;rw[hh];rcases yx k i with hki | hki | hki
       ·rcases hpair' k i ok oi hki hin hok hoi' with hw | hap
        ·rw[hwait k hw];simp[hki]
        ·exact absurd ht ((Oper.apart_spec hap).1 t hdk)
       ·subst hki;rw[hunf];simp
       ·rcases hpair' i k oi ok hki hkn hoi' hok with hw | hap
        ·rw[hlate k hw];simp;omega
        ·exact absurd ht ((Oper.apart_spec hap).2.2 t hdk)
     have hq0:=hres i oi (by omega) hmi hoi';have hq1:qStep G ops (stUp res0 (fun k=>hd m k&&decide (k<i)) ops ⟨st.fr,R,st.toks⟩) oi (res0 i):=by
      have:=jml (r:=R) (hnl.elim (fun e=> .inr fun d x hx=>hsub d x (by rw[e];rwa [(jai _ _ _ _).1]at hx)) (fun hh=> .inl (hh i oi hin hmi hunf hoi'))) hq0;refine jg8 (fun t _=> ?_) ?_ ?_ this
      ·show(stUp res0 (fun k=>hd m k&&decide (k<i)) ops ⟨st.fr,Rs,st.toks⟩).get t=_;exact jcr _ _ _ _ _ _ rfl fun _ _ _ _=>rfl
      ·show R=_;rw[(jai _ _ _ _).1]
      ·show(stUp res0 (fun k=>hd m k&&decide (k<i)) ops ⟨st.fr,Rs,st.toks⟩).toks=_;rw[(jai _ _ _ _).2,(jai _ _ _ _).2]
     have hq:qStep G ops (stUp res (fun k=>listed.getD k false) (ops.take n) ⟨st.fr,R,st.toks⟩) oi (res i):=by
      rw[hr0 i hin hmi];exact jg8 hagree (by rw[(jai _ _ _ _).1,(jai _ _ _ _).1]) (by rw[(jai _ _ _ _).2,(jai _ _ _ _).2]) hq1
     have next:∀v w2,Below w.heap.size w w2->RepA w2 (Mo M0 β (stUp res (fun k=>listed.getD k false) (ops.take n) ⟨st.fr,R,st.toks⟩)) β (stUp res (fun k=>listed.getD k false) (ops.take n) ⟨st.fr,R,st.toks⟩).toks (res i) v->
       wpAny G.P .any ops.toArray Q' (c+(ops.toArray.size-n)) (listed.setIfInBounds i true) (a.put oi.dst v) w2:=by
      intro v w2 hb hv;have hs2:=(hs.ext hb).put (dst:=oi.dst) (hd0 oi (zk hoi')) hv;refine ih _ _ _ hcnt (inv.set hi hin) ⟨res,β,R,Rs1,s,hr0,hs2.congr (fun t=> ?_) ?_ ?_,⟨hsub,hnl.imp (fun e=>e) fun hh j oj hj hmj hlj hoj=>hh j oj hj hmj (by
       by_cases e:j=i
       ·subst e;exact hunf
       ·rw[hset j e]at hlj;exact hlj) hoj⟩,?_,hsr,hst,fun t=> ?_⟩
      ·by_cases hdt:oi.dst=some t
       ·rw[hdt,jca];refine(jft (ops.take n) res _ _ i oi (by rw[htake i hin];exact hoi') hdt hseti fun k ok hik hk hLk=> ?_).symm;rw[hset k (by omega)]at hLk;exact hlast t hdt k ok hik hk hLk
       ·rw[je6 hdt];refine jcr _ _ _ _ _ _ rfl fun k ok hk hdk=> ?_;have:k≠i:=fun e=>by
         subst e;obtain⟨_,hok⟩:=hlt k ok hk;rw[hoi']at hok;cases hok;exact hdt hdk
        exact(hset k this).symm
      ·rw[show((stUp res (fun k=>listed.getD k false) (ops.take n) ⟨st.fr,R,st.toks⟩).put oi.dst (res i)).rows=(stUp res (fun k=>listed.getD k false) (ops.take n) ⟨st.fr,R,st.toks⟩).rows by unfold St.put;split<;>rfl,(jai _ _ _ _).1,(jai _ _ _ _).1]
      ·rw[show((stUp res (fun k=>listed.getD k false) (ops.take n) ⟨st.fr,R,st.toks⟩).put oi.dst (res i)).toks=(stUp res (fun k=>listed.getD k false) (ops.take n) ⟨st.fr,R,st.toks⟩).toks by unfold St.put;split<;>rfl,(jai _ _ _ _).2,(jai _ _ _ _).2]
      ·have e:(fun k=>m.getD k false&& !((listed.setIfInBounds i true).getD k false))=fun k=>m.getD k false&& !(listed.getD k false):=by
        funext k;by_cases hk:k=i
        ·subst hk;rw[hmi];rfl
        ·rw[hset k hk]
       rw[e];exact hsp
      ·rw[hsg];refine jcr _ _ _ _ _ _ rfl fun k ok hk hdk=> ?_;by_cases hk:k=i
       ·subst hk;rw[hhd];rfl
       ·rw[hset k hk]
     unfold wpOp;rw[hoi];dsimp only;unfold qStep at hq;cases hg:oi.guard with
     | none=>
      rw[hg]at hq;rw[zm (by simp[Region.wanted,hg])];exact .inl (je5 hG hs hq next)
     | some p=>
      obtain⟨j,want⟩:=p;rw[hg]at hq;dsimp only at hq;split at hq
      ·rename_i b hy;have hyc:=je2 hs hy;by_cases hb:b=want
       ·rw[zm hb]at hq;rw[zm (by simp[Region.wanted,hg,hyc,hb])];exact .inl (je5 hG hs hq next)
       ·rw[zn hb]at hq;rw[zn (by simp[Region.wanted,hg,hyc,hb])];exact next _ w (Below.refl _ _) (by rw[hq];exact Rep.sc _ rfl)
      ·rename_i hy;have hyc:=jf3 hs hy;rw[zn (by simp[Region.wanted,hg,hyc])];exact next _ w (Below.refl _ _) (by rw[hq];exact Rep.sc _ rfl)
      ·exact hq.elim
    | true=>
     obtain⟨t1,ht1,hsp⟩:=hsp;have hmem:i∈(List.range n).filter (fun k=>m.getD k false&& !(listed.getD k false)):=List.mem_filter.2 ⟨qh.2 hin,by rw[hmi,hunf];rfl⟩;obtain⟨t2,ht2,hsp⟩:=spO_head ht1 (okT_head ht1 hmem fun j hj=>by
      have:=(List.mem_filter.1 hj).2;cases hw:jjn ops.toArray 3 i j with
      | false=>rfl
      | true=>rw[hwaitT j hw]at this;simp at this) hsp
     rw[hoi']at hsp;obtain⟨hg,hsp⟩:=hsp;have ht2':okT ops.toArray t2 ((List.range n).filter (fun k=>m.getD k false&& !((listed.setIfInBounds i true).getD k false)))=true:=by
      refine Eq.trans ?_ ht2;rw[List.filter_filter];congr 1;refine List.filter_congr fun k _=> ?_;by_cases hk:k=i
      ·subst hk;rw[hseti];simp
      ·rw[hset k hk];simp[hk]
     have hagree:∀t∈oi.looksAt ops.toArray,s.get t=(stUp res (fun k=>listed.getD k false) (ops.take n) ⟨st.fr,R,st.toks⟩).get t:=by
      intro t ht;rw[hsg];refine jcr _ _ _ _ _ _ rfl fun k ok hk hdk=> ?_;obtain⟨hkn,hok⟩:=hlt k ok hk;cases hmk:m.getD k false with
      | true=>
       have hh:hd m k=false:=by unfold hd;rw[hmk];rfl
       rw[hh];rfl
      | false=>
       rcases yx k i with hki | hki | hki
       ·rcases hpair' k i ok oi hki hin hok hoi' with hw | hap
        ·rw[hwait k hw];simp
        ·exact absurd ht ((Oper.apart_spec hap).1 t hdk)
       ·subst hki;rw[hmi]at hmk;cases hmk
       ·exact absurd ht ((Oper.apart_spec (hfree i k oi ok hki hkn hmi hmk hoi' hok)).2.2 t hdk)
     have hsp':=spN_congr hagree (by rw[hsr,(jai _ _ _ _).1]) (by rw[hst,(jai _ _ _ _).2]) (spN_1 hsp);have hgw:=gOk_wanted hs (gOk_congr hagree hg);unfold wpOp;rw[hoi];dsimp only;rw[zm hgw];refine .inl (spN_sound hG hs (hd0 oi (zk hoi')) hsp' fun av R' β' a' w' ⟨hT1,hT2⟩ hs2=> ?_);refine ih _ _ _ hcnt (inv.set hi hin) ⟨fun k=>if k=i then av else res k,β',R',_,_,fun k hk hmk=> ?_,hs2.congr (fun t=> ?_) ?_ ?_,⟨hT1,?_⟩,⟨t2,ht2',hT2⟩,?_,?_,fun t=> ?_⟩
     ·show(if k=i then av else res k)=res0 k;rw[zn (fun e=>by subst e;rw[hmi]at hmk;cases hmk)];exact hr0 k hk hmk
     ·by_cases hdt:oi.dst=some t
      ·rw[hdt,jca];have:=jft (ops.take n) (fun k=>if k=i then av else res k) (fun k=>(listed.setIfInBounds i true).getD k false) ⟨st.fr,R',st.toks⟩ i oi (by rw[htake i hin];exact hoi') hdt hseti fun k ok hik hk hLk=>by
        rw[hset k (by omega)]at hLk;exact hlast t hdt k ok hik hk hLk
       rw[this,zm rfl]
      ·rw[je6 hdt];have e1:(⟨(stUp res (fun k=>listed.getD k false) (ops.take n) ⟨st.fr,R,st.toks⟩).fr,R',(stUp res (fun k=>listed.getD k false) (ops.take n) ⟨st.fr,R,st.toks⟩).toks⟩:St).get t=(stUp res (fun k=>listed.getD k false) (ops.take n) ⟨st.fr,R,st.toks⟩).get t:=rfl;rw[e1];refine ji4 _ _ _ _ _ _ _ rfl fun k ok hk hdk=> ?_;have hki:k≠i:=fun e=>by
        subst e;obtain⟨_,hok⟩:=hlt k ok hk;rw[hoi']at hok;cases hok;exact hdt hdk
       exact⟨(hset k hki).symm,fun _=>(zn hki).symm⟩
     ·rw[show ∀(x:St),(x.put oi.dst av).rows=x.rows from fun x=>by unfold St.put;split<;>rfl,(jai _ _ _ _).1]
     ·rw[show ∀(x:St),(x.put oi.dst av).toks=x.toks from fun x=>by unfold St.put;split<;>rfl];show(stUp _ _ _ _).toks=(stUp _ _ _ _).toks;rw[(jai _ _ _ _).2,(jai _ _ _ _).2]
     ·cases hio:(isStZ oi&& !kp)with
      | false=>
       rw[zn (by decide)];exact hnl.imp (fun e=>e) fun hh j oj hj hmj hlj hoj=>hh j oj hj hmj (by
        by_cases e:j=i
        ·subst e;exact hunf
        ·rw[hset j e]at hlj;exact hlj) hoj
      | true=>
       rw[zr,yL]at hio;refine .inr fun j oj hj hmj hlj hoj=> ?_;cases hld:jfw oj with
       | false=>rfl
       | true=>
        have hji:j≠i:=fun e=>by subst e;rw[hmi]at hmj;cases hmj
        have:=hwait j (hstZ i j oi oj hin hj hmi hmj hoi' hoj hio.2 hio.1 hld);rw[hset j hji,this]at hlj;cases hlj
     ·unfold St.put;split<;>rfl
     ·rw[show ∀(x:St),(x.put oi.dst av).toks=x.toks from fun x=>by unfold St.put;split<;>rfl];exact hst
     ·by_cases hdt:oi.dst=some t
      ·rw[hdt,jca];have:=jft (ops.take n) (fun k=>if k=i then av else res k) (fun k=>hd m k || (listed.setIfInBounds i true).getD k false) ⟨st.fr,R',st.toks⟩ i oi (by rw[htake i hin];exact hoi') hdt (by rw[hseti];simp) fun k ok hik hk hLk hdk=>by
        obtain⟨hkn,hok⟩:=hlt k ok hk;cases hmk:m.getD k false with
        | true=>
         have hh:hd m k=false:=by unfold hd;rw[hmk];rfl
         rw[hh,yk,hset k (by omega)]at hLk;exact hlast t hdt k ok hik hk hLk hdk
        | false=>exact(Oper.apart_spec (hfree i k oi ok hik hkn hmi hmk hoi' hok)).2.1 t hdt hdk
       rw[this,zm rfl]
      ·rw[je6 hdt];have e1:(⟨s.fr,R',s.toks⟩:St).get t=s.get t:=rfl;rw[e1,hsg];refine ji4 _ _ _ _ _ _ _ rfl fun k ok hk hdk=> ?_;have hki:k≠i:=fun e=>by
        subst e;obtain⟨_,hok⟩:=hlt k ok hk;rw[hoi']at hok;cases hok;exact hdt hdk
       exact⟨by rw[hset k hki],fun _=>(zn hki).symm⟩
   have:c+1+(ops.toArray.size-n)=(c+(ops.toArray.size-n))+1:=by omega
   rw[this];exact hgoal
 refine wp_region_any hG.mixed ?_;have inv0:HeadInv .any ops.toArray n (Array.replicate ops.toArray.size false):=
  ⟨by simp,fun j oj _ hl=>(by rw[getD_replicate_false]at hl;cases hl),fun t _ ht=>getD_in (by simpa using ht) (getD_replicate_false _ _)⟩
 have hc0:∀k,cntB (Array.replicate ops.toArray.size false) k=k:=fun k=>by
  induction k with
  | zero=>rfl
  | succ k ihk=>simp only[cntB,ihk,getD_replicate_false];simp
 have hf:∀(l:List Oper) (res:Nat->AV) (L:Nat->Bool) (st:St),(∀i,L i=false)->stUp res L l st=st:=by
  intro l
  induction l with
  | nil=>intros;rfl
  | cons o l ih=>
   intro res L st hL;simp only[stUp,hL 0];exact ih _ _ _ fun i=>hL (i+1)
 have:=main n (Array.replicate ops.toArray.size false) a _ (hc0 n) inv0 ⟨res0,β,st.rows,Rs,⟨(stUp res0 (hd m) (ops.take n) ⟨st.fr,Rs,st.toks⟩).fr,st.rows,(stUp res0 (hd m) (ops.take n) ⟨st.fr,Rs,st.toks⟩).toks⟩,fun _ _ _=>rfl,h.drew.congr (fun t=>by
  rw[hf _ _ _ _ fun i=>getD_replicate_false _ _]) (jai _ _ _ _).1.symm (jai _ _ _ _).2.symm,⟨hRs,.inl rfl⟩,(by
   refine⟨t0,?_,hfin⟩;have e:(fun i=>m.getD i false&& !((Array.replicate ops.toArray.size false).getD i false))=fun i=>m.getD i false:=by
    funext i;rw[getD_replicate_false];simp
   rw[e];exact hT0),rfl,(jai _ _ _ _).2,fun t=>by
   show(stUp res0 (hd m) (ops.take n) ⟨st.fr,Rs,st.toks⟩).get t=_;exact jcr _ _ _ _ _ _ rfl fun k _ _ _=>by rw[getD_replicate_false];simp⟩
 rwa [show n+(ops.toArray.size-n)=ops.toArray.size by omega]at this
end
section
variable{G:Ctx}{kp:Bool}
def spOL(G:Ctx)(kp:Bool)(ops:List Oper)(K:St->Prop)(l:List Oper)(t:OT)(Rs:Rows)(st:St):Prop:=spO G kp ops (fun s=>alist G ops K l s) t Rs st
def jet(G:Ctx)(kp:Bool)(ops:List Oper)(K:St->Prop)(R0 Rs:Rows)(t:OT)(m:List Bool)(l:List Oper)(st:St):Prop:=
 jg0 G ops (fun s=>spOL G kp ops K (l.drop m.length) t Rs ⟨s.fr,R0,s.toks⟩) m l st
theorem jt1{ops:List Oper}{Q:Exit->St->Prop}{st:St}(m:List Bool)(t:OT)(Rs:Rows)(h:(drawN ops.toArray m&&stZ ops.toArray m&&okT ops.toArray t ((List.range m.length).filter fun i=>m.getD i false))=true)(hs:SubR Rs st.rows)
  (hA:jet G false ops (Q .normal) st.rows Rs t m ops ⟨st.fr,Rs,st.toks⟩): @DrawP G ⟨ops⟩ ⟨Q⟩ st:=by
 rw[zr,zr]at h;exact jn9 fun N w0 M0 β a w id Q' hG hd hK hsim=>jll (kp:=false) hG id m t Rs h.1.1 h.1.2 h.2 hd hK hsim hs hA
theorem jiu{ops:List Oper}{Q:Exit->St->Prop}{st:St}(m:List Bool)(t:OT)(Rs:Rows)(h:(drawN ops.toArray m&&okT ops.toArray t ((List.range m.length).filter fun i=>m.getD i false))=true)(hs:SubR Rs st.rows)
  (hA:jet G true ops (Q .normal) st.rows Rs t m ops ⟨st.fr,Rs,st.toks⟩): @DrawP G ⟨ops⟩ ⟨Q⟩ st:=by
 rw[zr]at h;exact jn9 fun N w0 M0 β a w id Q' hG hd hK hsim=>jll (kp:=true) hG id m t Rs h.1 rfl h.2 hd hK hsim hs hA
theorem aheadTN_nil(ops:List Oper)(K:St->Prop)(R0 Rs:Rows)(t:OT)(l:List Oper)(st:St):jet G kp ops K R0 Rs t [] l st=spOL G kp ops K l t Rs ⟨st.fr,R0,st.toks⟩:=by
 unfold jet jg0;simp
theorem aheadTN_true(ops:List Oper)(K:St->Prop)(R0 Rs:Rows)(t:OT)(m:List Bool)(o:Oper)(l:List Oper)(st:St):
  jet G kp ops K R0 Rs t (true::m) (o::l) st=jet G kp ops K R0 Rs t m l st:=by
 simp only[jet,List.length_cons,zO]
 conv=>lhs;unfold jg0
theorem aheadTN_free(ops:List Oper)(K:St->Prop)(R0 Rs:Rows)(t:OT)(m:List Bool)(dst:Option Tmp)(op:Op)(ty:TypeId)(pos:String)(af:Array Edge)(r:List Oper)(st:St):
  jet G kp ops K R0 Rs t (false::m) (⟨dst,op,ty,pos,af,.none⟩::r) st=aq G st ⟨dst,op,ty,pos,af,.none⟩ (fun av=>jet G kp ops K R0 Rs t m r (st.put dst av)):=by
 simp only[jet,List.length_cons,zO]
 conv=>lhs;unfold jg0
def SpOne(G:Ctx)(kp:Bool)(ops:List Oper)(K:St->Prop)(l:List Oper)(o:Option Oper)(s:OT)(Rs:Rows)(st:St):Prop:=match o with
 | some o=>gOk ops st o/\spN G st o fun av R'=>(∀k x,look (if(isStZ o&& !kp)=true then []else Rs) k=some x->look R' k=some x)/\spOL G kp ops K l s (if(isStZ o&& !kp)=true then []else Rs) ((⟨st.fr,R',st.toks⟩:St).put o.dst av)
 | .none=>False
theorem spOL_fin(ops:List Oper)(K:St->Prop)(l:List Oper)(Rs:Rows)(st:St):spOL G kp ops K l .fin Rs st=alist G ops K l st:=propext ⟨fun h=>h,fun h=>h⟩
theorem spOL_one(ops:List Oper)(K:St->Prop)(l:List Oper)(i:Nat)(s:OT)(Rs:Rows)(st:St):spOL G kp ops K l (.alt i s .none) Rs st=SpOne G kp ops K l ops[i]? s Rs st:=propext ⟨fun h=>h.1,fun h=>⟨h,trivial⟩⟩
theorem spOL_alt(ops:List Oper)(K:St->Prop)(l:List Oper)(i j:Nat)(s r r':OT)(Rs:Rows)(st:St):spOL G kp ops K l (.alt i s (.alt j r r')) Rs st=(SpOne G kp ops K l ops[i]? s Rs st/\spOL G kp ops K l (.alt j r r') Rs st):=propext ⟨fun h=>h,fun h=>h⟩
def NewT(R:Rows)[T:Hold (Nat->Prop)]:Prop:=∀b,look R (hp b)=none->T.val b
theorem jce{R:Rows}{T:Nat->Prop}(h:∀b,look R (hp b)=none->T b): @NewT R ⟨T⟩:=h
theorem SpOne_alloc(ops:List Oper)(K:St->Prop)(l:List Oper)(d:Tmp)(t:TypeId)(ty:TypeId)(pos:String)(af:Array Edge)(s:OT)(Rs:Rows)(st:St):
  SpOne G kp ops K l (some ⟨some d,.alloc t,ty,pos,af,.none⟩) s Rs st=Opt (jcz G t) (K:=⟨fun z=>G.perm.contains d=true/\NewT st.rows (T:=⟨fun b=>SubR Rs ((hp b,z.length,[z])::st.rows)/\spOL G kp ops K l s Rs ((⟨st.fr,(hp b,z.length,[z])::st.rows,st.toks⟩:St).put (some d) (.loc (hp b) z.length 0 0))⟩)⟩):=by
 unfold SpOne spN Opt;dsimp only;cases jcz G t with
 | none=>exact propext ⟨fun h=>h.2,fun h=>h.elim⟩
 | some z=>exact propext ⟨fun h=>h.2,fun h=>⟨trivial,h⟩⟩
theorem SpOne_call(ops:List Oper)(K:St->Prop)(l:List Oper)(dst:Option Tmp)(f:Operand)(azz:Array Operand)(ts:Array TypeId)(ty:TypeId)(pos:String)(af:Array Edge)(s:OT)(Rs:Rows)(st:St):
  SpOne G kp ops K l (some ⟨dst,.call ⟨.value f,azz,ts⟩,ty,pos,af,.none⟩) s Rs st=SpCall G (evO st f) (azz.toList.map (evO st)) st.rows (T:=⟨fun av R'=>SubR Rs R'/\spOL G kp ops K l s Rs ((⟨st.fr,R',st.toks⟩:St).put dst av)⟩):=
 propext ⟨fun h=>h.2,fun h=>⟨trivial,h⟩⟩
theorem SpOne_build(ops:List Oper)(K:St->Prop)(l:List Oper)(dst:Option Tmp)(t:TypeId)(fs:Array (Nat×Operand))(ty:TypeId)(pos:String)(af:Array Edge)(s:OT)(Rs:Rows)(st:St):
  SpOne G kp ops K l (some ⟨dst,.build t fs,ty,pos,af,.none⟩) s Rs st=aq G st ⟨dst,.build t fs,ty,pos,af,.none⟩ (fun av=>SubR Rs st.rows/\spOL G kp ops K l s Rs ((⟨st.fr,st.rows,st.toks⟩:St).put dst av)):=
 propext ⟨fun h=>h.2,fun h=>⟨trivial,h⟩⟩
def LeF(ι:Type)(s:St)[S:Hold (ι->St)][P:Hold (ι->Prop)]:Prop:=∃i,P.val i/\St.Le s (S.val i)
theorem jiv{ι:Type}{ops:List Oper}{Q:Exit->St->Prop}{st:St}(S:ι->St)(P:ι->Prop)(h1: @DrawP G ⟨ops⟩ ⟨fun _ s=> @LeF ι s ⟨S⟩ ⟨P⟩⟩ st)(h2:∀i,P i->Q .normal (S i)): @DrawP G ⟨ops⟩ ⟨Q⟩ st:=
 fun N w0 M0 β a w id Q' hG hd hK hsim=>h1 N w0 M0 β a w id Q' hG hd (fun st' β' a' w' (hle:∃i,P i/\St.Le st' (S i)) hs=>let⟨i,hP,hl⟩:=hle;let⟨β2,h3⟩:=hl N w0 M0 β' a' w' hs;hK (S i) β2 a' w' (h2 i hP) h3) hsim
theorem jef{ι:Type}{s:St}{S:ι->St}{P:ι->Prop}(i:ι)(hP:P i)(hf:(S i).fr.map (fun t=>(t.1,s.get t.1))=(S i).fr)(hr:SubR (S i).rows s.rows)(ht:(S i).toks=[]): @LeF ι s ⟨S⟩ ⟨P⟩:=
 ⟨i,hP,(St.sub_of ((S i).fr.map Prod.fst) (by rw[ya];exact hf) hr ht).le⟩
end
theorem jag{L R:Rows}{d:Nat}{v:Nat×List (List IV)}(h:look R d=some v)(hs:SubR L R):SubR ((d,v)::L) R:=fun k x hk=>by
 by_cases e:k=d
 ·subst e;rw[ja2]at hk;cases hk;exact h
 ·rw[ja0 _ _ e]at hk;exact hs k x hk
attribute [go_sem ↓] aheadTN_nil aheadTN_true aheadTN_free spOL_fin spOL_one spOL_alt SpOne_alloc SpOne_call SpOne_build
end
section
section
variable{G:Ctx}{kp:Bool}
theorem SpOne_load(ops:List Oper)(K:St->Prop)(l:List Oper)(dst:Option Tmp)(t:TypeId)(p:Operand)(ty:TypeId)(pos:String)(af:Array Edge)(s:OT)(Rs:Rows)(st:St):
  SpOne G kp ops K l (some ⟨dst,.load t p,ty,pos,af,.none⟩) s Rs st=aq G st ⟨dst,.load t p,ty,pos,af,.none⟩ (fun av=>SubR Rs st.rows/\spOL G kp ops K l s Rs ((⟨st.fr,st.rows,st.toks⟩:St).put dst av)):=
 propext ⟨fun h=>h.2,fun h=>⟨trivial,h⟩⟩
theorem SpOne_fieldAddr(ops:List Oper)(K:St->Prop)(l:List Oper)(dst:Option Tmp)(t:TypeId)(p:Operand)(k:Nat)(ty:TypeId)(pos:String)(af:Array Edge)(s:OT)(Rs:Rows)(st:St):
  SpOne G kp ops K l (some ⟨dst,.fieldAddr t p k,ty,pos,af,.none⟩) s Rs st=aq G st ⟨dst,.fieldAddr t p k,ty,pos,af,.none⟩ (fun av=>SubR Rs st.rows/\spOL G kp ops K l s Rs ((⟨st.fr,st.rows,st.toks⟩:St).put dst av)):=
 propext ⟨fun h=>h.2,fun h=>⟨trivial,h⟩⟩
theorem SpOne_nilCheck(ops:List Oper)(K:St->Prop)(l:List Oper)(dst:Option Tmp)(p:Operand)(ty:TypeId)(pos:String)(af:Array Edge)(s:OT)(Rs:Rows)(st:St):
  SpOne G kp ops K l (some ⟨dst,.nilCheck p,ty,pos,af,.none⟩) s Rs st=aq G st ⟨dst,.nilCheck p,ty,pos,af,.none⟩ (fun av=>SubR Rs st.rows/\spOL G kp ops K l s Rs ((⟨st.fr,st.rows,st.toks⟩:St).put dst av)):=
 propext ⟨fun h=>h.2,fun h=>⟨trivial,h⟩⟩
theorem SpOne_store(ops:List Oper)(K:St->Prop)(l:List Oper)(t:TypeId)(p x:Operand)(ty:TypeId)(pos:String)(af:Array Edge)(s:OT)(Rs:Rows)(st:St):
  SpOne G false ops K l (some ⟨none,.store t p x,ty,pos,af,.none⟩) s Rs st=joa G t (evO st p) (evO st x) st.rows (T:=⟨fun R'=>spOL G false ops K l s [] ⟨st.fr,R',st.toks⟩⟩):=by
 apply propext;constructor
 ·intro h;have h2:=h.2;unfold spN spZ at h2;dsimp only at h2;exact jfd h2 fun _ _ h=>h.2
 ·intro h;refine⟨trivial,?_⟩;unfold spN spZ;dsimp only;exact jfd h fun _ _ h=>⟨(fun k x hk=>by cases hk),h⟩
theorem SpOne_storeK(ops:List Oper)(K:St->Prop)(l:List Oper)(t:TypeId)(p x:Operand)(ty:TypeId)(pos:String)(af:Array Edge)(s:OT)(Rs:Rows)(st:St):
  SpOne G true ops K l (some ⟨none,.store t p x,ty,pos,af,.none⟩) s Rs st=joa G t (evO st p) (evO st x) st.rows (T:=⟨fun R'=>SubR Rs R'/\spOL G true ops K l s Rs ⟨st.fr,R',st.toks⟩⟩):=by
 apply propext;constructor
 ·intro h;have h2:=h.2;unfold spN spZ at h2;dsimp only at h2;exact jfd h2 fun _ _ h=>h
 ·intro h;refine⟨trivial,?_⟩;unfold spN spZ;dsimp only;exact jfd h fun _ _ h=>h
end
attribute [go_sem ↓] SpOne_load SpOne_fieldAddr SpOne_nilCheck SpOne_store SpOne_storeK
end
section
def mIx:Nat->List Bool->List Nat
 | _,[]=>[]
 | k,true::m=>k::mIx (k+1) m
 | k,false::m=>mIx (k+1) m
def pathT:List Nat->OT
 | []=> .fin
 | i::r=> .alt i (pathT r) .none
def drawZ(ops:Array Oper)(m:List Bool):Bool:=drawN ops m&&okT ops (pathT (mIx 0 m)) ((List.range m.length).filter fun i=>m.getD i false)
section
variable{G:Ctx}{kp:Bool}
theorem jkb{ops:List Oper}{Q:Exit->St->Prop}{st:St}(m:List Bool)(Rs:Rows)(h:drawZ ops.toArray m=true)(hz:stZ ops.toArray m=true)(hs:SubR Rs st.rows)
  (hA:jet G false ops (Q .normal) st.rows Rs (pathT (mIx 0 m)) m ops ⟨st.fr,Rs,st.toks⟩): @DrawP G ⟨ops⟩ ⟨Q⟩ st:=by
 unfold drawZ at h;rw[zr]at h;exact jt1 m _ Rs (by rw[h.1,h.2,hz];rfl) hs hA
theorem jcf{ops:List Oper}{Q:Exit->St->Prop}{st:St}(m:List Bool)(Rs:Rows)(h:(drawZ ops.toArray m&&stZ ops.toArray m)=true)(hs:SubR Rs st.rows)
  (hA:jet G false ops (Q .normal) st.rows Rs (pathT (mIx 0 m)) m ops ⟨st.fr,Rs,st.toks⟩): @DrawP G ⟨ops⟩ ⟨Q⟩ st:=by
 rw[zr]at h;exact jkb m Rs h.1 h.2 hs hA
theorem mIx_nil(k:Nat):mIx k []=[]:=rfl
theorem mIx_true(k:Nat)(m:List Bool):mIx k (true::m)=k::mIx (k+1) m:=rfl
theorem mIx_false(k:Nat)(m:List Bool):mIx k (false::m)=mIx (k+1) m:=rfl
theorem pathT_nil:pathT []= .fin:=rfl
theorem pathT_cons(i:Nat)(r:List Nat):pathT (i::r)= .alt i (pathT r) .none:=rfl
variable(dst:Option Tmp)(ty:TypeId)(pos:String)(af:Array Edge)(gd:Option (Nat×Bool))(st:St)(ops:List Oper)(r:List Oper)
theorem SpOne_append(K:St->Prop)(l:List Oper)(d:Tmp)(azz:Array Operand)(ts:Array TypeId)(s2:OT)(Rs:Rows):
  SpOne G kp ops K l (some ⟨some d,.call ⟨.builtin .append,azz,ts⟩,ty,pos,af,.none⟩) s2 Rs st=match ts.toList,azz.toList with
   | [t,t'],[s,x]=>match(G.ti t).kind with
    | .sl e=>t=t'/\SpApp G d t e (evO st s) (jcm (evO st x)) st.rows (T:=⟨fun av R'=>SubR Rs R'/\spOL G kp ops K l s2 Rs ((⟨st.fr,R',st.toks⟩:St).put (some d) av)⟩)
    | _=>False
   | _,_=>False:=by
 apply propext;constructor
 ·intro h;have h:=h.2;unfold spN spZ at h;dsimp only at h;rw[zm (by rfl)]at h;unfold sp at h;dsimp only at h;split at h
  ·rename_i h1 h2 h3;cases h1;rw[h2,h3];exact h
  ·exact h.elim
 ·intro h;refine⟨trivial,?_⟩;unfold spN spZ;dsimp only;rw[zm (by rfl)];unfold sp;dsimp only;split at h
  ·rename_i h2 h3;rw[h2,h3];exact h
  ·exact h.elim
end
attribute [go_sem ↓] mIx_nil mIx_true mIx_false pathT_nil pathT_cons SpOne_append
end
section
open Go.RowKit (Below)
def frzL:List Nat->IV->Rows->IV
 | [],y,_=>y
 | b::bs,y,L=>match look L (hp b)with
  | some (s,es)=>frzL bs (frz3 b s es y) (del L (hp b))
  | none=>frzL bs y L
theorem jgb(y:IV)(L:Rows):frzL [] y L=y:=rfl
theorem jdx{b s:Nat}{es:List (List IV)}{bs:List Nat}{y:IV}{L:Rows}(h:look L (hp b)=some (s,es)):frzL (b::bs) y L=frzL bs (frz3 b s es y) (del L (hp b)):=by rw[frzL,h]
theorem jnh{w':World}{M:Nat->Nat->Prop}{v:Value}:∀(bs:List Nat) (y:IV) (L:Rows),(∀k s es,look L k=some (s,es)->∃b,k=hp b/\(∀o,¬M b o)/\RowRep w' (MoH M L) b s es)->Rep w' (MoH M L) y v->Rep w' M (frzL bs y L) v
 | [],y,L,_,hy=>hy.kept (Kept.less w' fun b o h=> .inl h)
 | b::bs,y,L,hL,hy=>by
  cases hl:look L (hp b)with
  | none=>
   rw[show frzL (b::bs) y L=frzL bs y L by rw[frzL,hl]];exact jnh bs y L hL hy
  | some p=>
   obtain⟨s,es⟩:=p;rw[jdx hl];have hless:∀b' o,MoH M (del L (hp b)) b' o->MoH M L b' o:=fun b' o h=>by
    rcases h with h | h
    ·exact .inl h
    ·by_cases e:hp b'=hp b
     ·rw[e,ja8]at h;cases h
     ·rw[ja7 _ e]at h;exact .inr h
   have hk:=Kept.less w' hless;obtain⟨b',e,hn,hrow⟩:=hL _ _ _ hl;have hbb:=hp_inj.1 e;subst hbb;have hnm:∀o,¬MoH M (del L (hp b)) b o:=fun o h=>by
    rcases h with h | h
    ·exact hn o h
    ·rw[ja8]at h;cases h
   refine jnh bs _ _ (fun k s' es' hk'=> ?_) (js6 (hrow.move hk rfl) hnm (hy.kept hk));by_cases e:k=hp b
   ·subst e;rw[ja8]at hk';cases hk'
   ·rw[ja7 _ e]at hk';obtain⟨b2,h1,h2,h3⟩:=hL k s' es' hk';exact⟨b2,h1,h2,h3.move hk rfl⟩
theorem jk6{P:Program}{f:FuncId}{xs:List IV}{φ:AV->Rows->Prop}{ψ:IV->Prop}(h:CtrH P f (xs.map AV.im) [] φ)(hφ:∀r L',φ r L'->∃y bs,r= .im y/\ψ (frzL bs y L')):Ctr P f xs ψ:=fun w M vs hM hr=>by
 have hr':=hr;refine(h w M vs hM (fun k s es hk=>by cases hk) (by rw[zw];exact hr.1.symm) (fun i av v hi hv=> ?_)).mono ?_
 ·rw[ze]at hi;obtain⟨x,hx,rfl⟩:=zZ.1 hi;exact(hr.2 i x v hx hv).kept (Kept.less w fun b o h=>h.elim id fun h=>by cases h)
 ·rintro en w' ⟨r,v,L',g1,g2,g3,g4,g5,g6⟩;obtain⟨y,bs,rfl,hψ⟩:=hφ r L' g1;refine⟨_,v,hψ,g2,jnh bs y L' (fun k s es hk=> ?_) g6,?_⟩
  ·obtain⟨b,h1,h2,h3⟩:=g5 k s es hk;refine⟨b,h1,fun o hm=> ?_,h3⟩;rcases h2 with h2 | h2
   ·cases h2
   ·have:=hM b o hm;omega
  ·exact⟨g4.os,g4.tape,g4.output,g4.size,fun k hk=>g4.block k ⟨hk,rfl⟩⟩
end
section
open Go.RowKit (Below)
section
variable{G:Ctx}
end
section
variable{G:Ctx}{N:Nat}{w0:Base}{w:World}{M0:Nat->Nat->Prop}{β:Nat->Option Nat}{st:St}{a:Act}
def frzC(b s:Nat)(es:List (List IV))(c:List IV):List IV:=c.map (frz1 b s es)
def St.frzR(st:St)(b:Nat):St:=
 match look st.rows (hp b)with
 | some (s,es)=>⟨(st.frz b).fr,(st.frz b).rows.map fun p=>(p.1,p.2.1,p.2.2.map (frzC b s es)),(st.frz b).toks⟩
 | none=>st
end
section
variable{G:Ctx}
end
def tailN:Nat->Code->Code
 | 0,c=>c
 | n+1,.seq _ y=>tailN n y
 | _+1,c=>c
def putN:Nat->Code->Code->Code
 | 0,_,y=>y
 | n+1,.seq x c,y=> .seq x (putN n c y)
 | _+1,c,_=>c
theorem jgn:∀(j k:Nat) (c:Code),tailN k (tailN j c)=tailN (j+k) c
 | 0,k,c=>by rw[qH];rfl
 | j+1,k,c=>by
  cases c with
  | seq x y=>rw[show j+1+k=(j+k)+1 by omega];exact jgn j k y
  | _=>cases k<;>first | rfl | (rw[show j+1+(_+1)=(j+_+1)+1 by omega];rfl)
def jbm(fn:Func):Code:=match fn.body with
 | some c=>c
 | none=> .skip
section
variable{G:Ctx}
theorem tail_go{fn:Func}{c:Code}(hb:fn.body=some c){k:Nat}{Q:Exit->St->Prop}{st:St}(h:awp G (tailN k c) Q st):awp G (tailN k (jbm fn)) Q st:=by
 unfold jbm;rw[hb];exact h
theorem jp5{fn:Func}{c:Code}(hb:fn.body=some c){k j:Nat}{y:Code}{Q:Exit->St->Prop}{st:St}(h:awp G (putN k (tailN j c) y) Q st):awp G (putN k (tailN j (jbm fn)) y) Q st:=by
 unfold jbm;rw[hb];exact h
end
attribute [go_sem] St.frzR frzC tailN putN
