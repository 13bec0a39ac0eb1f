/- A part of the proof. No further condition. -/
import Derived.Test.YtgnflpkmpoghbaaKU11
import Derived.RangeFuncWrites
import Derived.Maps.AppendAt
set_option linter.all false
set_option maxRecDepth 10000000
set_option maxHeartbeats 16000000
namespace Go.Proofs.Ytgnflpkmpoghbaa
section
open Go.RowKit Go.Shelf Go.Maps
attribute [local go_sem] Oper.semAt_some
theorem infoK:(Try.prog.info? 49).map (fun i=>(i.zero,i.size,i.bytes))=some (some (.agg #[.int .i64 0,.int .i64 0,.int .i64 0]),3,24):=by kernel_rfl
theorem keepsW_of{W W':World}(h:KeepsOthers W W'):KeepsWalks W W':=⟨h.size,fun k o hk hw=>h.same k o hk (by cases o<;>first | rfl | cases hw)⟩
theorem jei(w:World)(a b c:Value)(t:TypeId):∀j u,[a,b,c][j]? =some u->(w.alloc (.cells #[a,b,c] t)).cell? ((⟨w.heap.size,0,none⟩:Addr).add j)=some u:=by
 intro j u hj;have h:=heap_alloc_new w (.cells #[a,b,c] t);generalize w.alloc (.cells #[a,b,c] t)=w' at h⊢
 match j,hj with
 | 0,hj=>cases hj;simp[World.cell?,Addr.add,h]
 | 1,hj=>cases hj;simp[World.cell?,Addr.add,h]
 | 2,hj=>cases hj;simp[World.cell?,Addr.add,h]
 | j+3,hj=>simp at hj
def encs(xs:List KeyV):List Value:=xs.flatMap KeyV.enc
theorem encs_snoc(xs:List KeyV)(x:KeyV):encs (xs++[x])=encs xs++x.enc:=by unfold encs;rw[List.flatMap_append];simp
theorem keys1_nil(F:Fence)(n:Nat)(hf:F.fn 32)(hro:F.round=none)(hn:1<=n)(l Bm om:Nat)
  (J Jx:List KeyV->World->Prop) (W:World) (hJ:AbidesFrom W.heap.size J) (hm:W.cell? ⟨Bm,om,none⟩=some (.map none)) (h0:J [] W):
  CallsIn F n Try.prog 32 #[.func (.yield l) #[] #[],.pointer (some ⟨Bm,om,none⟩)] W fun e W'=>(∃v,e= .returned v)/\
   ((∃xs,(xs.map (fun x:KeyV=>Value.agg x.enc.toArray)).Perm []/\J xs W')\/(∃pre,True/\Jx pre W')):=by
 have hu:Try.prog.underlying 45=some (.map 49 3):=Try.underlying45;have hrange:=Go.run_range_nilMap (P:=Try.prog) W 45 49 3 hu;have hnx:∀ty,(Instr.next (.pointer (some ⟨W.heap.size,0,none⟩)) false ty).run Try.prog (W.alloc (.mapIter none 0 #[] 0))=_:=fun ty=>Go.run_next_nilMap _ ty 0 0 #[];refine callsIn_of_wp Try.func32 rfl hf ?_ hro;simp only[Try.ntmps32,List.size_toArray,List.length_cons,List.length_nil,Nat.reduceAdd,Nat.reduceSub,Array.replicate_succ,Array.replicate_zero,List.push_toArray,List.append_toArray,List.nil_append,List.cons_append]
 gi_wp2
 obtain⟨w0,hw0⟩:∃w0,w0=W.alloc (.mapIter none 0 #[] 0):=⟨_,rfl⟩;have hJ0:J [] w0:=hJ [] W w0 none h0 (by rw[hw0];exact World.grownBy_alloc W _ none) (fun r e=>by cases e);rw[<-hw0]at hnx⊢;clear hrange hw0
 gi_loopw [3] (fun _ wr=>wr=w0) (fun _ _=>0)
 case atStart=>rfl
 case round=>
  subst hrel
  gi_wp2
  go_end0
  exact⟨⟨_,rfl⟩,.inl ⟨[],List.Perm.refl _,hJ0⟩⟩
structure KeySeq(w:World)(Bm om:Nat)(ks:List Value):Prop where
 stops:SeqStopsK Fence.wide 9 Try.prog 32 #[.pointer (some ⟨Bm,om,none⟩)] (fun x:KeyV=> #[.agg x.enc.toArray]) KeepsWalks (fun xs=>(xs.map (fun x:KeyV=>Value.agg x.enc.toArray)).Perm ks) (fun _=>True) ks.length w
 len:ks.length<=1000000
theorem keySeq_nil{w:World}{Bm om:Nat}(hBm:Bm<w.heap.size)(hm:w.cell? ⟨Bm,om,none⟩=some (.map none)):KeySeq w Bm om []:=
 ⟨fun l J Jx W hW hJ _ hY h0=>keys1_nil Fence.wide 9 trivial rfl (by decide) l Bm om J Jx W hJ ((hW.cell (p:=⟨Bm,om,none⟩) hBm).trans hm) h0,by decide⟩
theorem keySeq_map{w:World}{Bm om b clock:Nat}{es:Array MapEntry}(hbn:(es.toList.map (·.born)).Nodup)(hbl:∀e∈es.toList,e.born<clock)(hkey:∀e∈es.toList,∃x:KeyV,e.key= .agg x.enc.toArray)(hN:es.size<=1000000)
  (hBm:Bm<w.heap.size) (hm:w.cell? ⟨Bm,om,none⟩=some (.map (some b))) (hb:w.heap[b]? =some (.map es clock)):KeySeq w Bm om (es.toList.map (·.key)):=by
 have hl:(es.toList.map (·.key)).length=es.size:=by simp
 refine⟨?_,by rw[hl];exact hN⟩;rw[hl];exact keys_stops Fence.wide 9 trivial rfl (by decide) Bm om b clock es hbn hbl hkey w hBm hm hb
theorem appendSeq_in(Bm om:Nat)(ks:List Value)(w:World)(hq:KeySeq w Bm om ks):
  CallsIn Fence.wide 10 Try.prog 34 #[.slice none 0 0,.func (.func 32) #[] #[.pointer (some ⟨Bm,om,none⟩)]] w fun e w'=>∃(v:Value) (xs:List KeyV),e= .returned v/\
   (xs.map (fun x:KeyV=>Value.agg x.enc.toArray)).Perm ks/\w'.ownsRow w.heap.size 49 3 v xs.length (encs xs)/\Below w.heap.size w w':=by
 obtain⟨hseq,hN⟩:=hq;have hmx:maxLen=9223372036854775807:=rfl;obtain⟨i0,hi,hz0,hz1,hz2⟩:=info_parts infoK;refine callsIn_of_wp_marks (c:=_) Try.func34 rfl trivial ?_ rfl;simp only[Try.ntmps34,List.size_toArray,List.length_cons,List.length_nil,Nat.reduceAdd,Nat.reduceSub,Array.replicate_succ,Array.replicate_zero,List.push_toArray,List.append_toArray,List.nil_append,List.cons_append]
 gi_wp2
 obtain⟨W0,hW0⟩:∃W0,w.alloc (.cells #[.slice none 0 0] 59)=W0:=⟨_,rfl⟩;rw[hW0];have hs0:W0.heap.size=w.heap.size+1:=by rw[<-hW0];simp
 have hv0:Boxed W0 w.heap.size 59 (.slice none 0 0):=by rw[<-hW0];exact Boxed.new w _ _
 have hb0:Below w.heap.size w W0:=by rw[<-hW0];exact(Below.refl _ w).alloc (Nat.le_refl _) _
 clear hW0;refine wpIn_rangeFunc_ownH (F:=Fence.wide) (n:=10) rfl (by decide) (gf:=32) (lb:= #[.pointer (some ⟨Bm,om,none⟩)]) rfl trivial (enters_of Try.func32 (by kernel_rfl) rfl)
  hseq (fun h k=>walksK_t h k) (fun W l o o' _ h1 _ h3=>KeepsWalks.putObj _ h1 h3) hb0 (fun _=>rfl)
  (fun(pre:List KeyV) W=>(∃v,Boxed W w.heap.size 59 v/\W.ownsRow w.heap.size 49 3 v pre.length (encs pre)/\True)/\Below w.heap.size w W)
  (fun _ _ _=>False)
  (OwnFrom.and (Own.from (holdsRow_own w.heap.size w.heap.size 59 49 3 (fun pre:List KeyV=>pre.length) encs (fun _ _=>True)) _) (ownFrom_below (Nat.le_refl _) (by omega)))
  (fun _ _ _ _ _ hs _ _=>hs)
  ⟨⟨_,hv0,World.ownsRow_nil _ _ _ _,trivial⟩,hb0⟩
  (fun x a' W=>∃vb,W.heap[vb]? =some (.cells #[.int .i64 x.a,.int .i64 x.b,.int .i64 x.c] 49 (0,0))/\
   a'={tmps:= #[.slice none 0 0,.func (.func 32) #[] #[.pointer (some ⟨Bm,om,none⟩)],.pointer (some ⟨w.heap.size,0,none⟩),undef,.slice none 0 0,.pointer (some ⟨vb,0,none⟩),.func (.func 32) #[] #[.pointer (some ⟨Bm,om,none⟩)],.agg x.enc.toArray,undef,undef,undef,undef,undef],defers:=[]})
  (fun x a' _ W W' row hs hg hr=>by
   obtain⟨vb,h1,h2⟩:=hs;refine⟨vb,(hg.block vb (Array.getElem?_eq_some_iff.1 h1).1 fun e=> ?_).trans h1,h2⟩;obtain⟨_,o,ho,hc⟩:=hr vb e.symm;rw[h1]at ho;cases ho;cases hc) ?assign ?body ?done ?stop
 case assign=>
  rintro l pre x W K ⟨⟨v,hv,hrow,_⟩,hB⟩ hK;have hK2:=hK {tmps:= #[.slice none 0 0,.func (.func 32) #[] #[.pointer (some ⟨Bm,om,none⟩)],.pointer (some ⟨w.heap.size,0,none⟩),undef,.slice none 0 0,.pointer (some ⟨W.heap.size,0,none⟩),.func (.func 32) #[] #[.pointer (some ⟨Bm,om,none⟩)],.agg x.enc.toArray,undef,undef,undef,undef,undef],defers:=[]}
   (W.alloc (.cells #[.int .i64 x.a,.int .i64 x.b,.int .i64 x.c] 49)) ((KeepsOthers.alloc W _).from _) (KeepsWalks.alloc W _) ⟨⟨v,hv.alloc _,hrow.alloc _,trivial⟩,hB.alloc hB.size _⟩ ⟨_,heap_alloc_new W _,rfl⟩
  unfold KeyV.enc at hK2⊢
  gi_wp2
  exact hK2
 case body=>
  rintro l pre x a' W hlw _ ⟨⟨v,hv,hrow,_⟩,hB⟩ ⟨vb,hvb,rfl⟩ hlt;have hc:=hv.cell;have hsz:=hB.size;have hc0:W.cell? ⟨vb,0,none⟩=some (.int .i64 x.a):=by simp[World.cell?,hvb]
  have hc1:W.cell? ⟨vb,1,none⟩=some (.int .i64 x.b):=by simp[World.cell?,hvb]
  have hc2:W.cell? ⟨vb,2,none⟩=some (.int .i64 x.c):=by simp[World.cell?,hvb]
  have hrow':=hrow;unfold KeyV.enc
  gi_wp2_with (gi_at_builtin;refine wpListIn_append_own _ rfl _ _ 59 rfl w.heap.size 49 i0 (.agg #[.int .i64 0,.int .i64 0,.int .i64 0]) 3 24 Try.underlying59 hi hz0 hz1 hz2 rfl (by decide) _ _ _ rfl (hrow.alloc _) ⟨W.heap.size,0,none⟩ 1 1 [.int .i64 x.a,.int .i64 x.b,.int .i64 x.c] rfl rfl (jei _ _ _ _ _) (by simp[Value.oneCell']) (by omega) (by omega) (by simp;omega) ?_;intro v' w1 hown' hgrow _;obtain⟨g',cap',rfl⟩:=ownsRow_succ hown';obtain⟨hv1,hv2,hr2,hk2,hb2⟩:=hv.appended (by decide) hrow hsz (Nat.le_refl _) hown' hgrow;have hc1':=hv1.cell;have hf1:=hv1.frozen)
  refine⟨hk2.from _,keepsW_of hk2,⟨_,hv2,?_,trivial⟩,hB.trans hb2⟩;rw[encs_snoc,List.length_append];exact hr2
 case done=>
  rintro D xs W hD hS ⟨⟨v,hv,hrow,_⟩,hB⟩ hK;have hc:=hv.cell
  gi_wp2
  refine⟨by simp,.inl ⟨_,_,rfl,run_takeDeferred hK,?_⟩⟩;exact⟨_,results_tmp rfl _ _ _,v,xs,rfl,hS,ownsRow_putObj hrow _ hK rfl,hB.trans (belowK_b (w:=w) (Nat.le_refl _) W D _ _ (by omega) hK rfl rfl)⟩
 case stop=>
  rintro D c pre W _ _ h _;exact h.elim
end
section
open Go.Abs Go.Sort
section
variable{α:Type}[Inhabited α]{enc:α->List Value}{k:Nat}{w:World}{b n:Nat}{d:Array α}{os:Array Obj}
theorem sw_heap{cur:Array Value}{T:TypeId}{z:Nat×Nat}(h:w.heap[b]? =some (.cells cur T z)):(sortWorldK enc k w b 0 n d os).heap[b]? =some (.cells (putCells id 0 (flatK enc k d) cur) T z):=by
 have hb:b<w.heap.size:=(Array.getElem?_eq_some_iff.1 h).1;unfold sortWorldK grow putRowK putRow mapBlock Go.Sort.ahead;dsimp only;rw[Array.getElem?_append_left (by rw[Array.size_modify];exact hb),Array.getElem?_modify,if_pos rfl,h];rfl
theorem sw_other{b':Nat}(h:b'≠b)(hb:b'<w.heap.size):(sortWorldK enc k w b 0 n d os).heap[b']? =w.heap[b']? :=by
 unfold sortWorldK grow putRowK putRow mapBlock Go.Sort.ahead;dsimp only;rw[Array.getElem?_append_left (by rw[Array.size_modify];exact hb),Array.getElem?_modify,if_neg (Ne.symm h)]
theorem sw_size:w.heap.size<=(sortWorldK enc k w b 0 n d os).heap.size:=by
 unfold sortWorldK grow putRowK putRow mapBlock Go.Sort.ahead;dsimp only;rw[Array.size_append,Array.size_modify];omega
theorem sw_cell{cur:Array Value}(hk:∀x,(enc x).length=k){i j:Nat}{x:α}{u:Value}(hi:d[i]? =some x)(hj:(enc x)[j]? =some u)(hc:i*k+j<cur.size):(putCells id 0 (flatK enc k d) cur)[i*k+j]? =some u:=by
 have hjk:j<k:=by rw[<-hk x];exact(List.getElem?_eq_some_iff.1 hj).1
 have hid:i<d.size:=(Array.getElem?_eq_some_iff.1 hi).1;have hlt:i*k+j<d.size*k:=by
  have:=Nat.mul_le_mul_right k (show i+1<=d.size from hid);rw[Nat.add_mul,Nat.one_mul]at this;omega
 have e1:(i*k+j)/k=i:=by rw[Nat.mul_comm,Nat.mul_add_div (by omega),Nat.div_eq_of_lt hjk,Nat.add_zero]
 have e2:(i*k+j) % k=j:=by rw[Nat.mul_comm,Nat.mul_add_mod,Nat.mod_eq_of_lt hjk]
 unfold putCells;rw[Array.getElem?_mapIdx,Array.getElem?_eq_getElem hc,Option.map_some,if_pos ⟨Nat.zero_le _,by rw[size_flatK];omega⟩,Nat.sub_zero,get_flatK _ _ _ _ hlt,e1,e2];rw[getElem!_pos d i hid,(Array.getElem?_eq_some_iff.1 hi).2];rw[id,List.getElem!_eq_getElem?_getD,hj];rfl
end
inductive F2{α β:Type}(R:α->β->Prop):List α->List β->Prop
 | nil:F2 R [] []
 | cons {x y l m}:R x y->F2 R l m->F2 R (x::l) (y::m)
theorem frozen0{w:World}{b o:Nat}{cur:Array Value}{T:TypeId}(h:w.heap[b]? =some (.cells cur T (0,0))):w.frozen? ⟨b,o,none⟩=false:=by
 simp[World.frozen?,h]
theorem cell0{w:World}{b o:Nat}{cur:Array Value}{T:TypeId}{u:Value}(h:w.heap[b]? =some (.cells cur T (0,0)))(hc:cur[o]? =some u):w.cell? ⟨b,o,none⟩=some u:=by
 simp[World.cell?,h,hc]
end
section
open Go.RowKit Go.Shelf Go.Sort
attribute [local go_sem] Oper.semAt_some
abbrev seqV(Bm om:Nat):Value:= .func (.func 32) #[] #[.pointer (some ⟨Bm,om,none⟩)]
def KeysOut(w w':World)(ks:List Value)(v:Value)(xs:List KeyV):Prop:=
 (xs.map (fun x:KeyV=>Value.agg x.enc.toArray)).Perm ks/\w'.ownsRow w.heap.size 49 3 v xs.length (encs xs)/\Below w.heap.size w w'
theorem collect_calls{w:World}{Bm om:Nat}{ks:List Value}(h:KeySeq w Bm om ks):Calls Try.prog 30 #[seqV Bm om] w fun e w'=>∃v xs,e= .returned v/\KeysOut w w' ks v xs:=by
 have hA:=(callsIn_wide (n:=10)).1 (appendSeq_in Bm om ks w h)
 go_enter Try.func30,Try.ntmps30
 go_wp2_with (go_at_call 34;refine hA.mono ?_;rintro e w' ⟨v,xs,rfl,hS,hrow,hb⟩)
 go_ret
 exact⟨v,xs,rfl,hS,hrow,hb⟩
theorem sort0Q(p:Option Addr)(c:Nat)(v:Value)(w:World):Calls Try.prog 31 #[.slice p 0 c,v] w fun e w'=>e= .returned (.tuple #[])/\w'=w:=AnyF.slices_SortFunc_none jk3 p c v w
theorem jih:∀xs:List KeyV,(encs xs).length=xs.length*3
 | []=>rfl
 | x::xs=>by
  have:=jih xs;unfold encs at*;rw[List.flatMap_cons,List.length_append,this,List.length_cons];show 3+_=_;omega
theorem jfa:∀{xs:List KeyV} {i j:Nat} {x:KeyV},xs[i]? =some x->j<3->(encs xs)[i*3+j]? =x.enc[j]?
 | [],_,_,_,h,_=>by simp at h
 | y::xs,0,j,x,h,hj=>by
  cases h;unfold encs;rw[List.flatMap_cons,Nat.zero_mul,Nat.zero_add,List.getElem?_append_left (by show j<3;exact hj)]
 | y::xs,i+1,j,x,h,hj=>by
  have:=jfa (xs:=xs) (i:=i) (j:=j) (x:=x) (by simpa using h) hj;unfold encs at*;rw[List.flatMap_cons,List.getElem?_append_right (by show 3<=_;omega),<-this];congr 1;show _-3=_;omega
theorem sortK_calls{w:World}{n₀:Nat}{v:Value}{xs:List KeyV}(hrow:w.ownsRow n₀ 49 3 v xs.length (encs xs))(hl:xs.length<=1000000):
  Calls Try.prog 31 #[v,.func (.func 28) #[] #[]] w fun e w'=>e= .returned (.tuple #[])/\∃ys:List KeyV,ys.Perm xs/\(∀(i j:Nat) (x y:KeyV),i<j->ys[i]? =some x->ys[j]? =some y->¬LQ.cmpL y.l x.l<0)/\w'.ownsRow n₀ 49 3 v ys.length (encs ys)/\Below n₀ w w':=by
 rcases hrow.2 with ⟨rfl,h0⟩ | ⟨g,cap,cur,rfl,hg,hcur,hk1,hk2,hcs,htake⟩
 ·have hx:xs=[]:=List.length_eq_zero_iff.1 h0;subst hx;refine(sort0Q none 0 _ w).mono ?_;rintro e w' ⟨rfl,rfl⟩;exact⟨rfl,[],List.Perm.refl _,fun i j x y _ h=>by simp at h,hrow,Below.refl _ _⟩
 have hat:∀i j x,xs[i]? =some x->j<3->cur[i*3+j]? =x.enc[j]? :=fun i j x hi hj=>by
  have hil:=(List.getElem?_eq_some_iff.1 hi).1;have h1:=jfa hi hj;rw[<-htake,List.getElem?_take_of_lt (by omega),Array.getElem?_toList]at h1;exact h1
 have hH:HoldsK KeyV.enc 3 w g 0 xs.toArray:=by
  unfold HoldsK Holds;intro t ht;rw[size_flatK,List.size_toArray]at ht;have hi:t/3<xs.length:=by omega
  have hj:t % 3<3:=by omega
  have ht3:t/3*3+t % 3=t:=by omega
  have g2:=hat (t/3) (t % 3) _ (List.getElem?_eq_getElem hi) hj;have hel:(xs[t/3]).enc.length=3:=rfl;rw[ht3,List.getElem?_eq_getElem (by rw[hel];exact hj)]at g2;refine⟨?_,frozen0 hcur⟩;rw[Nat.zero_add,cell0 hcur g2,get_flatK _ _ _ _ (by rw[List.size_toArray];exact ht),getElem!_pos xs.toArray _ (by simpa using hi)];have e1:xs.toArray[t/3]'(by simpa using hi)=xs[t/3]:=by simp
  rw[e1,getElem!_pos _ _ (by rw[hel];exact hj)];rfl
 have hblk:g<w.heap.size:=(Array.getElem?_eq_some_iff.1 hcur).1;have hcall:=sort_callsQ g 0 cap xs.toArray w hH hblk (by simp;omega);rw[List.size_toArray]at hcall;refine hcall.mono ?_;rintro e w' ⟨rfl,d',n,os,⟨hp1,_,hp2⟩,hsorted,rfl⟩;have hp1:d'.size=xs.length:=by simpa using hp1
 have hpl:d'.toList.Perm xs:=by
  have e1:(d'.extract 0 xs.length)=d':=by rw[<-hp1];simp
  have e2:(xs.toArray.extract 0 xs.length)=xs.toArray:=by simp
  rw[e1,e2]at hp2
  simpa using hp2
 have hdl:d'.toList.length=xs.length:=by rw[Array.length_toList];exact hp1
 refine⟨rfl,d'.toList,hpl,fun i j x y hij h1 h2=> ?_,⟨?_,.inr ⟨g,cap,_,by rw[hdl],hg,sw_heap hcur,by rw[hdl];exact hk1,hk2,?_,?_⟩⟩,⟨rfl,rfl,rfl,sw_size,fun k hk=>sw_other (by omega) ?_⟩⟩
 ·have hi:=(List.getElem?_eq_some_iff.1 h1).1;have hj:=(List.getElem?_eq_some_iff.1 h2).1;rw[Array.length_toList]at hi hj;have:=hsorted i j (Nat.zero_le _) hij (by omega);rw[KeyV.lt]at this;have:=of_decide_eq_false this;rw[getElem!_pos d' i hi,getElem!_pos d' j hj]at this;rw[Array.getElem?_toList,Array.getElem?_eq_getElem hi]at h1;rw[Array.getElem?_toList,Array.getElem?_eq_getElem hj]at h2;cases h1;cases h2;exact this
 ·exact jih _
 ·unfold putCells;rw[Array.size_mapIdx];exact hcs
 ·rw[hdl];refine List.ext_getElem? fun t=> ?_;by_cases ht:t<xs.length*3
  ·have hi:t/3<d'.size:=by omega
   have hj:t % 3<3:=by omega
   have ht3:t/3*3+t % 3=t:=by omega
   have h1:d'[t/3]? =some d'[t/3]:=Array.getElem?_eq_getElem hi;have hel:(d'[t/3]).enc.length=3:=rfl;have h2:(d'[t/3]).enc[t % 3]? =some ((d'[t/3]).enc[t % 3]'(by rw[hel];exact hj)):=List.getElem?_eq_getElem _;have h3:=sw_cell (cur:=cur) (enc:=KeyV.enc) (k:=3) (fun x=>rfl) h1 h2 (by
    have:=Nat.mul_le_mul_right 3 hk1;omega)
   have h4:=jfa (xs:=d'.toList) (i:=t/3) (j:=t % 3) (by rw[Array.getElem?_toList];exact h1) hj;rw[ht3]at h3 h4;rw[List.getElem?_take_of_lt ht,Array.getElem?_toList,h3,h4,h2]
  ·rw[List.getElem?_eq_none (by rw[List.length_take];omega),List.getElem?_eq_none (by rw[jih,hdl];omega)]
 ·omega
theorem sorted_calls{w:World}{Bm om:Nat}{ks:List Value}(h:KeySeq w Bm om ks):
  Calls Try.prog 26 #[seqV Bm om,.func (.func 28) #[] #[]] w fun e w'=>∃v xs,e= .returned v/\KeysOut w w' ks v xs/\(∀(i j:Nat) (x y:KeyV),i<j->xs[i]? =some x->xs[j]? =some y->¬LQ.cmpL y.l x.l<0):=by
 have hC:=collect_calls h;have hlen:=h.len;have hS:=fun(w1:World) (v:Value) (xs:List KeyV) (h1:w1.ownsRow w.heap.size 49 3 v xs.length (encs xs)) (h2:xs.length<=1000000)=>sortK_calls h1 h2;clear h
 go_enter Try.func26,Try.ntmps26
 go_wp2_with (first
  | (go_at_call 30;refine hC.mono ?_;rintro e w1 ⟨v,xs,rfl,hp,hrow,hb⟩)
  | (go_at_call 31;refine(hS _ _ xs hrow (by have:=hp.length_eq;simp at this;omega)).mono ?_;rintro e w2 ⟨rfl,ys,hpy,hsy,hrow2,hb2⟩))
 go_ret
 exact⟨v,rfl,ys,⟨(hpy.map _).trans hp,hrow2,hb.trans hb2⟩,fun i j x y a b c=>hsy i j x y a b c⟩
end
end Go.Proofs.Ytgnflpkmpoghbaa
namespace Go.LQ
section
open Go.Abs (mget mput)
def jc4(f:Nat->Int):Nat->Option Nat
 | 0=>none
 | n+1=>match jc4 f n with
  | some i=>some i
  | none=>if f n=0 then none else some n
theorem jf9{f:Nat->Int}:∀{n i:Nat},(∀j,j<i->f j=0)->i<n->f i≠0->jc4 f n=some i
 | 0,i,_,h,_=>absurd h (by omega)
 | n+1,i,h0,hn,h1=>by
  rw[jc4];by_cases hi:i=n
  ·subst hi;have:jc4 f i=none:=by
    have:∀m,m<=i->jc4 f m=none:=fun m=>by
     induction m with
     | zero=>intro _;rfl
     | succ m ih=>
      intro hm;rw[jc4,ih (by omega)];exact if_pos (h0 m (by omega))
    exact this i (Nat.le_refl _)
   rw[this];exact if_neg h1
  ·rw[jf9 h0 (by omega) h1]
theorem jbv{f:Nat->Int}:∀{n:Nat},(∀j,j<n->f j=0)->jc4 f n=none
 | 0,_=>rfl
 | n+1,h=>by
  rw[jc4,jbv fun j hj=>h j (by omega)];exact if_pos (h n (by omega))
theorem jds{f:Nat->Int}:∀{n:Nat},jc4 f n=none->∀j,j<n->f j=0
 | 0,_,j,hj=>absurd hj (by omega)
 | n+1,h,j,hj=>by
  rw[jc4]at h;split at h
  ·cases h
  ·rename_i h0;split at h
   ·rename_i hn;by_cases e:j=n
    ·rw[e];exact hn
    ·exact jds h0 j (by omega)
   ·cases h
theorem jc8{f:Nat->Int}:∀{n i:Nat},jc4 f n=some i->i<n/\f i≠0/\∀j,j<i->f j=0
 | 0,_,h=>by cases h
 | n+1,i,h=>by
  rw[jc4]at h;split at h
  ·rename_i k hk;cases h;obtain⟨h1,h2,h3⟩:=jc8 hk;exact⟨by omega,h2,h3⟩
  ·rename_i h0;split at h
   ·cases h
   ·rename_i hn;cases h;exact⟨by omega,hn,jds h0⟩
def jba(f:Nat->Int)(n:Nat):Int:=match jc4 f n with
 | some i=>f i
 | none=>0
theorem jgy{f:Nat->Int}{n i:Nat}(h0:∀j,j<i->f j=0)(hn:i<n)(h1:f i≠0):jba f n=f i:=by unfold jba;rw[jf9 h0 hn h1]
theorem jcy{f:Nat->Int}{n:Nat}(h0:∀j,j<n->f j=0):jba f n=0:=by unfold jba;rw[jbv h0]
theorem firstE_zero{f:Nat->Int}{n:Nat}:jba f n=0↔∀j,j<n->f j=0:=by
 constructor
 ·intro h;unfold jba at h;split at h
  ·rename_i i hi;exact absurd h (jc8 hi).2.1
  ·rename_i hi;exact jds hi
 ·exact jcy
structure Rts where
 n:Int
 cap:List Int
 held:List Quo
 used:List Quo
structure Trn where
 fr:Int
 to:Int
 dep:Int
 day:Int
 kg:Int
def Rts.zero:Rts:=⟨0,[],[],[]⟩
def inR(x a b:Int):Bool:=decide (a<=x)&&decide (x<=b)
theorem inR_iff{x a b:Int}:inR x a b=true↔a<=x/\x<=b:=by simp[inR]
def Rts.there(r:Rts)(c d y:Int):Bool:=inR c 0 (r.n-1)&&(inR d 0 (r.cap.length-1)&&inR y 0 100000)
theorem there_iff{r:Rts}{c d y:Int}:r.there c d y=true↔(0<=c/\c<r.n)/\(0<=d/\d<r.cap.length)/\(0<=y/\y<=100000):=by
 rw[Rts.there,Bool.and_eq_true,Bool.and_eq_true,inR_iff,inR_iff,inR_iff];omega
def z0:Quo:=⟨0,0,0,0⟩
def errQ(r:Rts)(l:List Quo)(i:Nat):Int:=
 let q:=l.getD i z0
 if r.there q.com q.dep q.day=false then 1 else if inR q.kg 1 1000000=false then 3 else
 if 0<i/\0<=cmpL (l.getD (i-1) z0).k q.k then 2 else 0
def listE(r:Rts)(l:List Quo):Int:=jba (errQ r l) l.length
def psum:List Quo->Int->Int->Int
 | [],_,_=>0
 | q::l,d,y=>(if q.dep=d/\q.day=y then q.kg else 0)+psum l d y
theorem jek(d y:Int):∀(l m:List Quo),psum (l++m) d y=psum l d y+psum m d y
 | [],m=>by rw[List.nil_append,psum];omega
 | q::l,m=>by rw[List.cons_append,psum,psum,jek d y l m];omega
def capE(r:Rts)(i:Nat):Int:=if inR (r.cap.getD i 0) 0 1000000=false then 20 else 0
def dayE(r:Rts)(i:Nat):Int:=let q:=r.held.getD i z0
 if r.cap.getD q.dep.toNat 0<psum (r.held.take (i+1)) q.dep q.day then 20 else 0
def useE(r:Rts)(i:Nat):Int:=let q:=r.used.getD i z0
 if vof (tabL r.held) q.k<q.kg then 7 else 0
def jao(r:Rts):Int:=
 if inR r.n 0 20=false then 1 else
 if 20<(r.cap.length:Int)\/300<(r.held.length:Int)\/300<(r.used.length:Int)then 6 else
 if jba (capE r) r.cap.length≠0 then 20 else
 if listE r r.held≠0 then listE r r.held else
 if listE r r.used≠0 then listE r r.used else
 if jba (dayE r) r.held.length≠0 then 20 else jba (useE r) r.used.length
structure ListOk(r:Rts)(l:List Quo):Prop where
 there:∀q∈l,r.there q.com q.dep q.day=true
 kg:∀q∈l,1<=q.kg/\q.kg<=1000000
 asc:Asc l
structure RightQ(r:Rts):Prop where
 n:0<=r.n/\r.n<=20
 lens:r.cap.length<=20/\r.held.length<=300/\r.used.length<=300
 cap:∀c∈r.cap,0<=c/\c<=1000000
 held:ListOk r r.held
 used:ListOk r r.used
 day:∀q∈r.held,psum r.held q.dep q.day<=r.cap.getD q.dep.toNat 0
 use:∀q∈r.used,q.kg<=vof (tabL r.held) q.k
theorem jf7{l:List Quo}{i:Nat}(h:i<l.length):l.getD i z0∈l:=by rw[gD _ h];exact List.getElem_mem h
theorem jic{l:List Quo}{q:Quo}(h:q∈l):∃i,i<l.length/\l.getD i z0=q:=by
 obtain⟨i,hi,rfl⟩:=List.mem_iff_getElem.1 h;exact⟨i,hi,gD _ hi⟩
theorem jht:∀{l:List Quo},(∀i,0<i->i<l.length->cmpL (l.getD (i-1) z0).k (l.getD i z0).k<0)->Asc l
 | [],_=>List.Pairwise.nil
 | [a],_=>List.pairwise_singleton _ _
 | a::b::l,h=>by
  have ih:Asc (b::l):=jht fun i h0 hi=>by
   have:=h (i+1) (by omega) (by simp only[List.length_cons]at*;omega);obtain⟨j,rfl⟩:∃j,i=j+1:=⟨i-1,by omega⟩;exact this
  have hab:cmpL a.k b.k<0:=h 1 (by omega) (by simp);refine List.pairwise_cons.2 ⟨fun x hx=> ?_,ih⟩;rcases List.mem_cons.1 hx with rfl | hx
  ·exact hab
  ·exact cmpL_trans hab ((List.pairwise_cons.1 ih).1 x hx)
theorem adj_of_asc{l:List Quo}(h:Asc l){i:Nat}(h0:0<i)(hi:i<l.length):cmpL (l.getD (i-1) z0).k (l.getD i z0).k<0:=by
 rw[gD _ (by omega),gD _ hi];exact List.pairwise_iff_getElem.1 h (i-1) i (by omega) hi (by omega)
theorem listE_zero{r:Rts}{l:List Quo}:listE r l=0↔ListOk r l:=by
 rw[listE,firstE_zero];constructor
 ·intro h;have h1:∀i,i<l.length->r.there (l.getD i z0).com (l.getD i z0).dep (l.getD i z0).day=true/\(1<=(l.getD i z0).kg/\(l.getD i z0).kg<=1000000)/\(0<i->cmpL (l.getD (i-1) z0).k (l.getD i z0).k<0):=fun i hi=>by
   have:=h i hi;unfold errQ at this;dsimp only at this;split at this
   ·cases this
   ·rename_i ht;split at this
    ·cases this
    ·rename_i hk;split at this
     ·cases this
     ·rename_i ha;refine⟨by simpa using ht,inR_iff.1 (by simpa using hk),fun h0=> ?_⟩;rw[not_and]at ha;have:=ha h0;omega
  refine⟨fun q hq=> ?_,fun q hq=> ?_,jht fun i h0 hi=>(h1 i hi).2.2 h0⟩
  ·obtain⟨i,hi,rfl⟩:=jic hq;exact(h1 i hi).1
  ·obtain⟨i,hi,rfl⟩:=jic hq;exact(h1 i hi).2.1
 ·intro h i hi;have hm:=jf7 hi;unfold errQ;dsimp only;rw[if_neg (by rw[h.there _ hm];decide),if_neg (by rw[inR_iff.2 (h.kg _ hm)];decide),if_neg];rintro⟨h0,h1⟩;have:=adj_of_asc h.asc h0 hi;omega
theorem psum_nonneg{l:List Quo}(h:∀q∈l,0<=q.kg)(d y:Int):0<=psum l d y:=by
 induction l with
 | nil=>exact Int.le_refl _
 | cons q l ih=>
  have h1:=ih fun q hq=>h q (List.mem_cons_of_mem _ hq);have h2:=h q List.mem_cons_self;rw[psum];split<;>omega
theorem psum_take_le{l:List Quo}(h:∀q∈l,0<=q.kg)(d y:Int)(i:Nat):psum (l.take i) d y<=psum l d y:=by
 have:=jek d y (l.take i) (l.drop i);rw[List.take_append_drop]at this;have:=psum_nonneg (l:=l.drop i) (fun q hq=>h q (List.mem_of_mem_drop hq)) d y;omega
theorem jix:∀{l:List Quo} {d y:Int},(∃q∈l,q.dep=d/\q.day=y)->∃i,i<l.length/\(l.getD i z0).dep=d/\(l.getD i z0).day=y/\psum (l.take (i+1)) d y=psum l d y
 | [],_,_,⟨q,hq,_⟩=>by cases hq
 | a::l,d,y,⟨q,hq,h1,h2⟩=>by
  by_cases h:∃q∈l,q.dep=d/\q.day=y
  ·obtain⟨i,hi,e1,e2,e3⟩:=jix h;refine⟨i+1,by simp;omega,e1,e2,?_⟩;rw[List.take_succ_cons,psum,psum,e3]
  ·rcases List.mem_cons.1 hq with rfl | hq
   ·refine⟨0,by simp,h1,h2,?_⟩;rw[List.take_succ_cons,List.take_zero,psum,psum,psum];have:∀{l:List Quo},(¬∃q∈l,q.dep=d/\q.day=y)->psum l d y=0:=fun{l}=>by
     induction l with
     | nil=>intro _;rfl
     | cons b l ih=>
      intro h;rw[psum,if_neg fun e=>h ⟨b,List.mem_cons_self,e⟩,ih fun⟨q,hq,e⟩=>h ⟨q,List.mem_cons_of_mem _ hq,e⟩];rfl
    rw[this h]
   ·exact absurd ⟨q,hq,h1,h2⟩ h
theorem checkQ_zero{r:Rts}:jao r=0↔RightQ r:=by
 have hcapE:jba (capE r) r.cap.length=0↔∀c∈r.cap,0<=c/\c<=1000000:=by
  rw[firstE_zero];constructor
  ·intro h c hc;obtain⟨i,hi,rfl⟩:=List.mem_iff_getElem.1 hc;have:=h i hi;unfold capE at this;rw[gD _ hi]at this;split at this
   ·cases this
   ·rename_i ht;exact inR_iff.1 (by simpa using ht)
  ·intro h i hi;unfold capE;rw[gD _ hi,if_neg (by rw[inR_iff.2 (h _ (List.getElem_mem hi))];decide)]
 have huseE:jba (useE r) r.used.length=0↔∀q∈r.used,q.kg<=vof (tabL r.held) q.k:=by
  rw[firstE_zero];constructor
  ·intro h q hq;obtain⟨i,hi,rfl⟩:=jic hq;have:=h i hi;unfold useE at this;dsimp only at this;split at this
   ·cases this
   ·omega
  ·intro h i hi;have:=h _ (jf7 hi);unfold useE;dsimp only;rw[if_neg (by omega)]
 have hdayE:ListOk r r.held->(jba (dayE r) r.held.length=0↔∀q∈r.held,psum r.held q.dep q.day<=r.cap.getD q.dep.toNat 0):=fun hl=>by
  have hp:∀q∈r.held,0<=q.kg:=fun q hq=>by have:=(hl.kg q hq).1;omega
  rw[firstE_zero];constructor
  ·intro h q hq;obtain⟨i,hi,e1,e2,e3⟩:=jix ⟨q,hq,rfl,rfl⟩;have:=h i hi;unfold dayE at this;dsimp only at this;rw[e1,e2,e3]at this;split at this
   ·cases this
   ·omega
  ·intro h i hi;have h1:=h _ (jf7 hi);have h2:=psum_take_le hp (r.held.getD i z0).dep (r.held.getD i z0).day (i+1);unfold dayE;dsimp only;rw[if_neg (by omega)]
 unfold jao;constructor
 ·intro h;split at h
  ·cases h
  rename_i h1;split at h
  ·cases h
  rename_i h2;split at h
  ·cases h
  rename_i h3;split at h
  ·rename_i h4;exact absurd h h4
  rename_i h4;split at h
  ·rename_i h5;exact absurd h h5
  rename_i h5;split at h
  ·cases h
  rename_i h6;have h4:=listE_zero.1 (Decidable.not_not.1 h4);exact⟨inR_iff.1 (by simpa using h1),by omega,hcapE.1 (Decidable.not_not.1 h3),h4,listE_zero.1 (Decidable.not_not.1 h5),(hdayE h4).1 (Decidable.not_not.1 h6),huseE.1 h⟩
 ·intro h;have hl:=h.lens;rw[if_neg (by rw[inR_iff.2 h.n];decide),if_neg (by omega),if_neg (not_not_intro (hcapE.2 h.cap)),if_neg (not_not_intro (listE_zero.2 h.held)),if_neg (not_not_intro (listE_zero.2 h.used)),if_neg (not_not_intro ((hdayE h.held).2 h.day))];exact huseE.2 h.use
def stepT(t:Tab)(x:Trn):Tab:=
 let t1:=mput t [x.dep,x.day,x.fr] [vof t [x.dep,x.day,x.fr]-x.kg]
 mput t1 [x.dep,x.day,x.to] [vof t1 [x.dep,x.day,x.to]+x.kg]
def movT(t:Tab)(l:List Trn):Tab:=l.foldl stepT t
def x0:Trn:=⟨0,0,0,0,0⟩
def err1(r:Rts)(l:List Trn)(i:Nat):Int:=let x:=l.getD i x0
 if r.there x.fr x.dep x.day=false\/r.there x.to x.dep x.day=false\/x.fr=x.to then 1 else if inR x.kg 1 1000000=false then 3 else 0
def err2(r:Rts)(l:List Trn)(i:Nat):Int:=let x:=l.getD i x0
 if vof (movT (tabL r.held) l) [x.dep,x.day,x.fr]<vof (tabL r.used) [x.dep,x.day,x.fr]then 7 else 0
def Rts.after(r:Rts)(l:List Trn):Rts:=⟨r.n,r.cap,quoL (nz (movT (tabL r.held) l)),r.used⟩
def ja7(r:Rts)(l:List Trn):Rts×Int×Int:=
 if jao r≠0 then(.zero,1,0)else if 40<(l.length:Int)then(.zero,6,0)else
 match jc4 (err1 r l) l.length with
 | some i=>(.zero,err1 r l i,i)
 | none=>match jc4 (err2 r l) l.length with
  | some i=>(.zero,7,i)
  | none=>if 300<((nz (movT (tabL r.held) l)).length:Int)then(.zero,6,l.length)else(r.after l,0,l.length)
def Rts.useT(r:Rts)(c d y k:Int):Tab:=mput (tabL r.used) [d,y,c] [vof (tabL r.used) [d,y,c]+k]
def heldQ(r:Rts)(c d y:Int):Int:=if jao r≠0 then 0 else vof (tabL r.held) [d,y,c]
def leftQ(r:Rts)(c d y:Int):Int:=if jao r≠0 then 0 else vof (tabL r.held) [d,y,c]-vof (tabL r.used) [d,y,c]
def Rts.spent(r:Rts)(c d y k:Int):Rts:=⟨r.n,r.cap,r.held,quoL (r.useT c d y k)⟩
def useQ(r:Rts)(c d y k:Int):Rts×Int:=
 if jao r≠0\/r.there c d y=false then(.zero,1)else if inR k 1 1000000=false then(.zero,3)else if leftQ r c d y<k then(.zero,20)else
 if 300<((r.useT c d y k).length:Int)then(.zero,6)else(r.spent c d y k,0)
end
section
open Go.Abs (mget mput)
def csum(f:Int->Int):Nat->Int
 | 0=>0
 | n+1=>csum f n+f n
theorem jfd(f g:Int->Int):∀n,csum (fun c=>f c+g c) n=csum f n+csum g n
 | 0=>rfl
 | n+1=>by rw[csum,csum,csum,jfd f g n];omega
theorem jfn{f g:Int->Int}:∀{n:Nat},(∀c:Int,0<=c->c<n->f c=g c)->csum f n=csum g n
 | 0,_=>rfl
 | n+1,h=>by rw[csum,csum,jfn fun c h0 h1=>h c h0 (by omega),h n (by omega) (by omega)]
theorem jfc:∀n,csum (fun _=>0) n=0
 | 0=>rfl
 | n+1=>by rw[csum,jfc n];rfl
theorem jgb(c0 v:Int):∀n:Nat,csum (fun c=>if c=c0 then v else 0) n=if 0<=c0/\c0<n then v else 0
 | 0=>by rw[csum,if_neg (by omega)]
 | n+1=>by
  rw[csum,jgb c0 v n];by_cases h:(n:Int)=c0
  ·rw[if_pos h,if_neg (by omega),if_pos (by omega)];omega
  ·rw[if_neg h];by_cases h2:0<=c0/\c0<n
   ·rw[if_pos h2,if_pos (by omega)];omega
   ·rw[if_neg h2,if_neg (by omega)];rfl
theorem jh4{f:Int->Int}:∀{n:Nat},(∀c:Int,0<=c->c<n->0<=f c)->0<=csum f n
 | 0,_=>Int.le_refl _
 | n+1,h=>by
  have h1:=jh4 (f:=f) (n:=n) fun c h0 h1=>h c h0 (by omega);have h2:=h n (by omega) (by omega);rw[csum];omega
theorem csum_le{f:Int->Int}:∀{n:Nat} {c:Int},(∀c:Int,0<=c->c<n->0<=f c)->0<=c->c<n->f c<=csum f n
 | 0,c,_,h0,h1=>by omega
 | n+1,c,h,h0,h1=>by
  have hn:=jh4 (f:=f) (n:=n) fun c h0 h1=>h c h0 (by omega);rw[csum];by_cases e:c=n
  ·subst e;omega
  ·have:=csum_le (f:=f) (n:=n) (c:=c) (fun c h0 h1=>h c h0 (by omega)) h0 (by omega);have:=h n (by omega) (by omega);omega
theorem jk0(q:Quo)(l:List Quo)(k:List Int):vof (tabL (q::l)) k=if k=q.k then q.kg else vof (tabL l) k:=by
 unfold vof;show(match mget ((q.k,[q.kg])::tabL l) k with | some v=>v.headD 0 | none=>0)=_;rw[mget];by_cases h:k=q.k
 ·rw[if_pos h,if_pos h];rfl
 ·rw[if_neg h,if_neg h];rfl
theorem jg8{n:Nat}(d y:Int):∀{l:List Quo},Asc l->(∀q∈l,0<=q.com/\q.com<n)->psum l d y=csum (fun c=>vof (tabL l) [d,y,c]) n
 | [],_,_=>by
  rw[psum];exact(jfc n).symm
 | q::l,ha,hc=>by
  have ha':=List.pairwise_cons.1 ha;have ih:=jg8 (n:=n) d y ha'.2 fun q hq=>hc q (List.mem_cons_of_mem _ hq);have hq:=hc q List.mem_cons_self;have hnot:vof (tabL l) q.k=0:=jcc (by
   rw[jbx];intro hm;have:=ha.nodup;rw[List.map_cons,List.nodup_cons]at this;exact this.1 hm)
  by_cases h:q.dep=d/\q.day=y
  ·rw[psum,if_pos h,ih];obtain⟨rfl,rfl⟩:=h;have e:csum (fun c=>vof (tabL (q::l)) [q.dep,q.day,c]) n=csum (fun c=>(if c=q.com then q.kg else 0)+vof (tabL l) [q.dep,q.day,c]) n:=by
    refine jfn fun c _ _=> ?_;rw[jk0];by_cases hcq:c=q.com
    ·subst hcq;rw[if_pos (show [q.dep,q.day,q.com]=q.k from rfl),if_pos rfl,show [q.dep,q.day,q.com]=q.k from rfl,hnot];omega
    ·rw[if_neg hcq,if_neg (fun e=>hcq (by simp only[Quo.k,List.cons.injEq,and_true,true_and]at e;exact e))];omega
   rw[e,jfd,jgb,if_pos hq]
  ·rw[psum,if_neg h,ih,Int.zero_add];refine jfn fun c _ _=> ?_;rw[jk0,if_neg];intro e;simp only[Quo.k,List.cons.injEq,and_true]at e;exact h ⟨e.1.symm,e.2.1.symm⟩
def Trn.kf(x:Trn):List Int:=[x.dep,x.day,x.fr]
def Trn.kt(x:Trn):List Int:=[x.dep,x.day,x.to]
def dlt(x:Trn)(k:List Int):Int:=(if k=x.kt then x.kg else 0)-(if k=x.kf then x.kg else 0)
def got:List Trn->List Int->Int
 | [],_=>0
 | x::l,k=>dlt x k+got l k
theorem jfm(k:List Int):∀(l m:List Trn),got (l++m) k=got l k+got m k
 | [],m=>by rw[List.nil_append,got];omega
 | x::l,m=>by rw[List.cons_append,got,got,jfm k l m];omega
theorem vof_step(t:Tab)(x:Trn)(k:List Int):vof (stepT t x) k=vof t k+dlt x k:=by
 unfold stepT dlt;dsimp only;rw[jfi,jfi,jfi];show(if k=x.kt then(if x.kt=x.kf then vof t x.kf-x.kg else vof t x.kt)+x.kg else if k=x.kf then vof t x.kf-x.kg else vof t k)=_;by_cases h1:k=x.kt
 ·rw[if_pos h1,if_pos h1];subst h1;by_cases h2:x.kt=x.kf
  ·rw[if_pos h2,if_pos h2,h2];omega
  ·rw[if_neg h2,if_neg h2];omega
 ·rw[if_neg h1,if_neg h1];by_cases h2:k=x.kf
  ·rw[if_pos h2,if_pos h2,h2];omega
  ·rw[if_neg h2,if_neg h2];omega
theorem jhz(k:List Int):∀(l:List Trn) (t:Tab),vof (movT t l) k=vof t k+got l k
 | [],t=>by rw[got];show vof t k=_;omega
 | x::l,t=>by
  show vof (movT (stepT t x) l) k=_;rw[jhz k l,vof_step,got];omega
theorem step_dist{t:Tab}(h:Dist t)(x:Trn):Dist (stepT t x):=jgp (jgp h _ _) _ _
theorem jf2:∀(l:List Trn) {t:Tab},Dist t->Dist (movT t l)
 | [],_,h=>h
 | x::l,_,h=>jf2 l (step_dist h x)
theorem step_shape{t:Tab}(h:Shape 3 t)(x:Trn):Shape 3 (stepT t x):=jde (jde h rfl rfl) rfl rfl
theorem jc0:∀(l:List Trn) {t:Tab},Shape 3 t->Shape 3 (movT t l)
 | [],_,h=>h
 | x::l,_,h=>jc0 l (step_shape h x)
theorem step_len(t:Tab)(x:Trn):(stepT t x).length<=t.length+2:=by
 have h1:=jia t [x.dep,x.day,x.fr] [vof t [x.dep,x.day,x.fr]-x.kg];have h2:=jia (mput t [x.dep,x.day,x.fr] [vof t [x.dep,x.day,x.fr]-x.kg]) [x.dep,x.day,x.to] [vof (mput t [x.dep,x.day,x.fr] [vof t [x.dep,x.day,x.fr]-x.kg]) [x.dep,x.day,x.to]+x.kg];unfold stepT;dsimp only;omega
theorem mov_len:∀(l:List Trn) (t:Tab),(movT t l).length<=t.length+2*l.length
 | [],t=>by show t.length<=_;omega
 | x::l,t=>by
  have h1:=mov_len l (stepT t x);have h2:=step_len t x;show(movT (stepT t x) l).length<=_;rw[List.length_cons];omega
theorem mov_take_succ{l:List Trn}(t:Tab){i:Nat}(h:i<l.length):movT t (l.take (i+1))=stepT (movT t (l.take i)) (l.getD i x0):=by
 rw[List.take_add_one,List.getElem?_eq_getElem h,gD _ h];unfold movT;rw[List.foldl_append];rfl
theorem jka{t:Tab}{k:List Int}{v:List Int}{k':List Int}(h:k'∈(mput t k v).map (·.1)):k'=k\/k'∈t.map (·.1):=by
 rw[jf1]at h;split at h
 ·exact .inr h
 ·rcases List.mem_append.1 h with h | h
  ·exact .inr h
  ·exact .inl (List.mem_singleton.1 h)
theorem jkb:∀(l:List Trn) (t:Tab) {k:List Int},k∈(movT t l).map (·.1)->k∈t.map (·.1)\/∃x∈l,k=x.kf\/k=x.kt
 | [],t,k,h=> .inl h
 | x::l,t,k,h=>by
  rcases jkb l (stepT t x) h with h | ⟨y,hy,e⟩
  ·rcases jka h with e | h
   ·exact .inr ⟨x,List.mem_cons_self,.inr e⟩
   ·rcases jka h with e | h
    ·exact .inr ⟨x,List.mem_cons_self,.inl e⟩
    ·exact .inl h
  ·exact .inr ⟨y,List.mem_cons_of_mem _ hy,e⟩
theorem jko{n:Nat}(d y:Int):∀(l:List Trn),(∀x∈l,(0<=x.fr/\x.fr<n)/\(0<=x.to/\x.to<n))->csum (fun c=>got l [d,y,c]) n=0
 | [],_=>jfc n
 | x::l,h=>by
  have ih:=jko (n:=n) d y l fun x hx=>h x (List.mem_cons_of_mem _ hx);obtain⟨h1,h2⟩:=h x List.mem_cons_self;have e:∀c,got (x::l) [d,y,c]=dlt x [d,y,c]+got l [d,y,c]:=fun c=>rfl;rw[show(fun c=>got (x::l) [d,y,c])=fun c=>dlt x [d,y,c]+got l [d,y,c]from rfl,jfd,ih];by_cases hd:d=x.dep/\y=x.day
  ·obtain⟨rfl,rfl⟩:=hd;have e1:∀c:Int,dlt x [x.dep,x.day,c]=(if c=x.to then x.kg else 0)+(if c=x.fr then-x.kg else 0):=fun c=>by
    unfold dlt Trn.kt Trn.kf;simp only[List.cons.injEq,and_true,true_and];by_cases a1:c=x.to<;>by_cases a2:c=x.fr<;>simp only[a1,a2,if_true,if_false]<;>omega
   rw[show(fun c=>dlt x [x.dep,x.day,c])=fun c=>(if c=x.to then x.kg else 0)+(if c=x.fr then-x.kg else 0)from funext e1,jfd,jgb,jgb,if_pos h2,if_pos h1];omega
  ·rw[show(fun c=>dlt x [d,y,c])=fun _=>0 from funext fun c=> ?_,jfc]
   ·rfl
   ·unfold dlt Trn.kt Trn.kf;have hn:∀z:Int,¬ [d,y,c]=[x.dep,x.day,z]:=fun z e=>by
     simp only[List.cons.injEq,and_true]at e;exact hd ⟨e.1,e.2.1⟩
    rw[if_neg (hn _),if_neg (hn _)];rfl
theorem jhn{k:List Int}:∀{l:List Trn},(∀x∈l,0<=x.kg/\x.kf≠k)->0<=got l k
 | [],_=>Int.le_refl _
 | x::l,h=>by
  have ih:=jhn (k:=k) (l:=l) fun x hx=>h x (List.mem_cons_of_mem _ hx);have h1:=h x List.mem_cons_self;have e:(if k=x.kf then x.kg else 0)=0:=if_neg fun e=>h1.2 e.symm;rw[got,dlt,e];split<;>omega
theorem jcs{r:Rts}{l:List Quo}(h:ListOk r l){k:List Int}:0<=vof (tabL l) k:=by
 by_cases hk:k∈(tabL l).map (·.1)
 ·rw[jbx]at hk;obtain⟨q,hq,rfl⟩:=List.mem_map.1 hk;rw[jdi h.asc hq];have:=(h.kg q hq).1;omega
 ·rw[jcc hk];omega
theorem ListOk.com{r:Rts}{l:List Quo}(h:ListOk r l):∀q∈l,0<=q.com/\q.com<r.n.toNat:=fun q hq=>by
 have:=(there_iff.1 (h.there q hq)).1;omega
theorem ListOk.psum{r:Rts}{l:List Quo}(h:ListOk r l)(d y:Int):psum l d y=csum (fun c=>vof (tabL l) [d,y,c]) r.n.toNat:=jg8 d y h.asc h.com
theorem RightQ.use_le{r:Rts}(h:RightQ r)(k:List Int):vof (tabL r.used) k<=vof (tabL r.held) k:=by
 by_cases hk:k∈(tabL r.used).map (·.1)
 ·rw[jbx]at hk;obtain⟨q,hq,rfl⟩:=List.mem_map.1 hk;rw[jdi h.used.asc hq];exact h.use q hq
 ·rw[jcc hk];exact jcs h.held
theorem RightQ.psum_le{r:Rts}(h:RightQ r){d y:Int}(hd:0<=d/\d<r.cap.length):LQ.psum r.held d y<=r.cap.getD d.toNat 0:=by
 by_cases he:∃q∈r.held,q.dep=d/\q.day=y
 ·obtain⟨q,hq,rfl,rfl⟩:=he;exact h.day q hq
 ·have h0:∀{l:List Quo},(¬∃q∈l,q.dep=d/\q.day=y)->LQ.psum l d y=0:=fun{l}=>by
   induction l with
   | nil=>intro _;rfl
   | cons b l ih=>
    intro h;rw[LQ.psum,if_neg fun e=>h ⟨b,List.mem_cons_self,e⟩,ih fun⟨q,hq,e⟩=>h ⟨q,List.mem_cons_of_mem _ hq,e⟩];rfl
  rw[h0 he];have hlt:d.toNat<r.cap.length:=by omega
  rw[gD _ hlt];exact(h.cap _ (List.getElem_mem hlt)).1
theorem RightQ.vof_cap{r:Rts}(h:RightQ r)(k:List Int):vof (tabL r.held) k<=1000000:=by
 by_cases hk:k∈(tabL r.held).map (·.1)
 ·rw[jbx]at hk;obtain⟨q,hq,rfl⟩:=List.mem_map.1 hk;rw[jdi h.held.asc hq];exact(h.held.kg q hq).2
 ·rw[jcc hk];omega
structure TrnOk(r:Rts)(x:Trn):Prop where
 fr:r.there x.fr x.dep x.day=true
 to:r.there x.to x.dep x.day=true
 ne:x.fr≠x.to
 kg:1<=x.kg/\x.kg<=1000000
theorem jg9{l:List Trn}{i:Nat}(h:i<l.length):l.getD i x0∈l:=by rw[gD _ h];exact List.getElem_mem h
theorem jke{l:List Trn}{q:Trn}(h:q∈l):∃i,i<l.length/\l.getD i x0=q:=by
 obtain⟨i,hi,rfl⟩:=List.mem_iff_getElem.1 h;exact⟨i,hi,gD _ hi⟩
theorem err1_zero{r:Rts}{l:List Trn}{i:Nat}:err1 r l i=0↔TrnOk r (l.getD i x0):=by
 unfold err1;dsimp only;constructor
 ·intro h;split at h
  ·cases h
  ·rename_i h1;split at h
   ·cases h
   ·rename_i h2;rw[not_or,not_or]at h1;exact⟨by simpa using h1.1,by simpa using h1.2.1,h1.2.2,inR_iff.1 (by simpa using h2)⟩
 ·intro h;rw[if_neg (by
   rintro(e | e | e)
   ·rw[h.fr]at e;cases e
   ·rw[h.to]at e;cases e
   ·exact h.ne e),if_neg (by rw[inR_iff.2 h.kg];decide)]
structure TradeOk(r:Rts)(l:List Trn):Prop where
 right:RightQ r
 len:l.length<=40
 ok:∀x∈l,TrnOk r x
 use:∀x∈l,vof (tabL r.used) x.kf<=vof (tabL r.held) x.kf+got l x.kf
 full:(nz (movT (tabL r.held) l)).length<=300
theorem err2_zero{r:Rts}{l:List Trn}{i:Nat}:err2 r l i=0↔vof (tabL r.used) (l.getD i x0).kf<=vof (tabL r.held) (l.getD i x0).kf+got l (l.getD i x0).kf:=by
 unfold err2;dsimp only;rw[jhz];show(if vof (tabL r.held) (l.getD i x0).kf+got l (l.getD i x0).kf<vof (tabL r.used) (l.getD i x0).kf then(7:Int)else 0)=0↔_;split<;>omega
theorem je3{r:Rts}{l:List Trn}(h:TradeOk r l):ja7 r l=(r.after l,0,(l.length:Int)):=by
 have:=h.len;unfold ja7;rw[if_neg (not_not_intro (checkQ_zero.2 h.right)),if_neg (by omega),jbv fun j hj=>err1_zero.2 (h.ok _ (jg9 hj))];dsimp only;rw[jbv fun j hj=>err2_zero.2 (h.use _ (jg9 hj))];dsimp only;rw[if_neg (by have:=h.full;omega)]
theorem jdj{r:Rts}{l:List Trn}(h:RightQ r)(hl:l.length<=40):(∃i,jc4 (err1 r l) l.length=some i/\ja7 r l=(Rts.zero,err1 r l i,(i:Int)))\/
  ((∀x∈l,TrnOk r x)/\((∃i,jc4 (err2 r l) l.length=some i/\ja7 r l=(Rts.zero,7,(i:Int)))\/
   (∀x∈l,vof (tabL r.used) x.kf<=vof (tabL r.held) x.kf+got l x.kf)/\((300<(nz (movT (tabL r.held) l)).length/\ja7 r l=(Rts.zero,6,(l.length:Int)))\/TradeOk r l))):=by
 unfold ja7;rw[if_neg (not_not_intro (checkQ_zero.2 h)),if_neg (by omega)];cases h1:jc4 (err1 r l) l.length with
 | some i=>exact .inl ⟨i,rfl,rfl⟩
 | none=>
  have hk:∀x∈l,TrnOk r x:=fun x hx=>by
   obtain⟨i,hi,rfl⟩:=jke hx;exact err1_zero.1 (jds h1 i hi)
  refine .inr ⟨hk,?_⟩;dsimp only;cases h2:jc4 (err2 r l) l.length with
  | some i=>exact .inl ⟨i,rfl,rfl⟩
  | none=>
   have hu:∀x∈l,vof (tabL r.used) x.kf<=vof (tabL r.held) x.kf+got l x.kf:=fun x hx=>by
    obtain⟨i,hi,rfl⟩:=jke hx;exact err2_zero.1 (jds h2 i hi)
   refine .inr ⟨hu,?_⟩;dsimp only;by_cases hf:300<(nz (movT (tabL r.held) l)).length
   ·exact .inl ⟨hf,by rw[if_pos (by omega)]⟩
   ·exact .inr ⟨h,hl,hk,hu,by omega⟩
section
variable{r:Rts}{l:List Trn}
theorem jbb(h:RightQ r)(k:List Int):vof (tabL (r.after l).held) k=vof (tabL r.held) k+got l k:=by
 have hd:=jf2 l h.held.asc.dist;have hs:=jc0 l (jaq r.held);show vof (tabL (quoL (nz (movT (tabL r.held) l)))) k=_;rw[quoL_vof (jf0 hs) (ji8 hd),nz_vof hd,jhz]
theorem jbs(h:RightQ r):Asc (r.after l).held:=ji3 (jf0 (jc0 l (jaq r.held))) (ji8 (jf2 l h.held.asc.dist))
theorem jee(h:RightQ r):∀q∈(r.after l).held,q.kg≠0:=fun q hq=>by
 have:=(ji1 (jf0 (jc0 l (jaq r.held)))).1 hq;rw[nz,List.mem_filter]at this
 simpa using this.2
theorem jh8(h:RightQ r)(ho:∀x∈l,TrnOk r x):∀q∈(r.after l).held,r.there q.com q.dep q.day=true:=fun q hq=>by
 have:=(ji1 (jf0 (jc0 l (jaq r.held)))).1 hq;rw[nz,List.mem_filter]at this;rcases jkb l (tabL r.held) (List.mem_map.2 ⟨_,this.1,rfl⟩)with hk | ⟨x,hx,e | e⟩
 ·rw[jbx]at hk;obtain⟨p,hp,e⟩:=List.mem_map.1 hk;have e:p.k=q.k:=e;simp only[Quo.k,List.cons.injEq,and_true]at e;rw[<-e.1,<-e.2.1,<-e.2.2];exact h.held.there p hp
 ·have e:q.k=x.kf:=e;simp only[Quo.k,Trn.kf,List.cons.injEq,and_true]at e;rw[e.1,e.2.1,e.2.2];exact(ho x hx).fr
 ·have e:q.k=x.kt:=e;simp only[Quo.k,Trn.kt,List.cons.injEq,and_true]at e;rw[e.1,e.2.1,e.2.2];exact(ho x hx).to
theorem jeu(h:TradeOk r l)(k:List Int):vof (tabL r.used) k<=vof (tabL r.held) k+got l k:=by
 by_cases hk:∃x∈l,x.kf=k
 ·obtain⟨x,hx,rfl⟩:=hk;exact h.use x hx
 ·have h1:=h.right.use_le k;have h2:=jhn (k:=k) (l:=l) fun x hx=>⟨by have:=(h.ok x hx).kg;omega,fun e=>hk ⟨x,hx,e⟩⟩;omega
theorem after_psum(h:TradeOk r l)(d y:Int):psum (r.after l).held d y=psum r.held d y:=by
 rw[h.right.held.psum d y,jg8 (n:=r.n.toNat) d y (jbs h.right) fun q hq=>by
  have:=(there_iff.1 (jh8 h.right h.ok q hq)).1;have:=h.right.n;omega]
 rw[show(fun c=>vof (tabL (r.after l).held) [d,y,c])=fun c=>vof (tabL r.held) [d,y,c]+got l [d,y,c]from funext fun c=>jbb h.right _,jfd,jko d y l fun x hx=>by
  have h1:=(there_iff.1 (h.ok x hx).fr).1;have h2:=(there_iff.1 (h.ok x hx).to).1;have:=h.right.n;omega]
 omega
theorem jes(h:TradeOk r l):RightQ (r.after l):=by
 have hr:=h.right;have hq:∀q∈(r.after l).held,1<=q.kg:=fun q hq=>by
  have h1:=jeu h q.k;have h2:=jdi (jbs hr) hq;rw[jbb hr]at h2;have h3:=jcs (r:=r) hr.used (k:=q.k);have h4:=jee hr q hq;omega
 have hth:∀q∈(r.after l).held,(r.after l).there q.com q.dep q.day=true:=jh8 hr h.ok;have hday:∀q∈(r.after l).held,psum (r.after l).held q.dep q.day<=(r.after l).cap.getD q.dep.toNat 0:=fun q hq=>by
  rw[after_psum h];exact hr.psum_le (there_iff.1 (hth q hq)).2.1
 have hcap:∀q∈(r.after l).held,q.kg<=1000000:=fun q hq'=>by
  have h1:=hday q hq';have hd:=(there_iff.1 (hth q hq')).2.1;have hlt:q.dep.toNat<r.cap.length:=by
   have h5:=hd.2;have h6:((r.after l).cap.length:Int)=r.cap.length:=rfl;have h7:=hd.1;omega
  have h2:(r.after l).cap.getD q.dep.toNat 0<=1000000:=by
   show r.cap.getD q.dep.toNat 0<=_;rw[gD _ hlt];exact(hr.cap _ (List.getElem_mem hlt)).2
  have h3:q.kg<=psum (r.after l).held q.dep q.day:=by
   have hc:=(there_iff.1 (hth q hq')).1;rw[jg8 (n:=r.n.toNat) q.dep q.day (jbs hr) fun q hq=>by
    have:=(there_iff.1 (jh8 hr h.ok q hq)).1;have:=hr.n;omega]
   have hle:=csum_le (f:=fun c=>vof (tabL (r.after l).held) [q.dep,q.day,c]) (n:=r.n.toNat) (c:=q.com) (fun c _ _=>by
    show 0<=vof (tabL (r.after l).held) _;rw[jbb hr];have h1:=jeu h [q.dep,q.day,c];have h3:=jcs (r:=r) hr.used (k:=[q.dep,q.day,c]);omega) hc.1 (by
    have h5:=hc.2;have h6:(r.after l).n=r.n:=rfl;have h7:=hr.n;omega)
   have e:vof (tabL (r.after l).held) q.k=q.kg:=jdi (jbs hr) hq';have hle:vof (tabL (r.after l).held) q.k<=_:=hle;omega
  omega
 refine⟨hr.n,⟨hr.lens.1,?_,hr.lens.2.2⟩,hr.cap,⟨hth,fun q hq'=>⟨hq q hq',hcap q hq'⟩,jbs hr⟩,⟨hr.used.there,hr.used.kg,hr.used.asc⟩,hday,fun q hq'=> ?_⟩
 ·show(quoL _).length<=300;rw[ji2];exact h.full
 ·rw[jbb hr];have:=jeu h q.k;have e:=jdi hr.used.asc hq';omega
theorem after_ext{r':Rts}{l':List Trn}(h:RightQ r)(h':RightQ r')(e:∀k,vof (tabL r.held) k+got l k=vof (tabL r'.held) k+got l' k):(r.after l).held=(r'.after l').held:=
 jju (jbs h) (jbs h') (jee h) (jee h') fun q _=>by rw[jbb h,jbb h'];exact e q.k
end
section
variable{r:Rts}{c d y k:Int}
structure UseOk(r:Rts)(c d y k:Int):Prop where
 right:RightQ r
 there:r.there c d y=true
 kg:1<=k/\k<=1000000
 left:k<=vof (tabL r.held) [d,y,c]-vof (tabL r.used) [d,y,c]
 full:(r.useT c d y k).length<=300
end
end
end Go.LQ
namespace Go.Proofs.Ytgnflpkmpoghbaa
section
open Go.Abs Go.LQ
attribute [local go_sem] ints ic
def qC(q:Quo):List IV:=[.int q.com,.int q.dep,.int q.day,.int q.kg]
def rtC(r:Rts):List IV:=[.int r.n,ints r.cap,.sl (r.held.map qC),.sl (r.used.map qC)]
theorem q_in(n lo hi:Int):Ctr G.P 15 [.int n,.int lo,.int hi] (· = .bool (inR n lo hi)):=by
 refine jag good _ _ [.tmp 6] Try.func15 rfl rfl (by decide+kernel) rfl ?_;simp only[go_sem];refine Two_of (fun d=> ?_) (fun d=> ?_)
 ·simp only[d,go_sem];rw[inR,d];rfl
 ·simp only[d,go_sem];rw[inR,d];rfl
theorem q_of(q:Quo):Ctr G.P 18 [.agg (qC q)] (· = .agg [.int q.dep,.int q.day,.int q.com]):=by
 unfold qC;refine jag good _ _ [.cell 2 49] Try.func18 rfl rfl (by decide+kernel) rfl ?_;simp only[go_sem]
theorem q_nan(n:Int):Ctr G.P 33 [.int n] (· = .bool false):=by
 have hd:decide (n=n)=true:=decide_eq_true rfl;refine jag good _ _ [.tmp 2] Try.func33 rfl rfl (by decide+kernel) rfl ?_;simp only[hd,go_sem]
theorem q_cmp(x y:Int):Ctr G.P 29 [.int x,.int y] (· = .int (if x<y then-1 else if y<x then 1 else 0)):=by
 have kx:=q_nan x;have ky:=q_nan y;refine jag good _ _ [.tmp 4] Try.func29 rfl rfl (by decide+kernel) rfl ?_;simp only[go_sem];refine ja5 kx (by decide) ?_;simp only[go_sem];refine ja5 ky (by decide) ?_;simp only[go_sem];refine jd3 (fun d1 h1=> ?_) (fun d1 h1=> ?_)
 ·rw[if_pos h1];simp only[go_sem]
 simp only[d1,go_sem];refine jd3 (fun d2 h2=> ?_) (fun d2 h2=> ?_)
 ·rw[if_neg h1,if_pos h2];simp only[go_sem]
 ·rw[if_neg h1,if_neg h2];simp only[go_sem]
theorem get_i{l:List Int}{i:Nat}(h:i<l.length):l[i]? =some (l.getD i 0):=by rw[gD _ h];exact List.getElem?_eq_getElem h
theorem cmpL_drop{a b:List Int}{i:Nat}(ha:i<a.length)(hb:i<b.length):cmpL (a.drop i) (b.drop i)=if a.getD i 0<b.getD i 0 then-1 else if b.getD i 0<a.getD i 0 then 1 else cmpL (a.drop (i+1)) (b.drop (i+1)):=by
 rw[List.drop_eq_getElem_cons ha,List.drop_eq_getElem_cons hb,cmpL,gD _ ha,gD _ hb]
theorem q_compare(a b:List Int)(hl:a.length=b.length)(hL:a.length<=100000):Ctr G.P 23 [ints a,ints b] (· = .int (cmpL a b)):=by
 refine jag good _ _ [.tmp 4] Try.func23 rfl rfl (by decide+kernel) rfl ?_;simp only[List.length_map,go_sem];refine jbo [0,1,9,10,11] [] (fun i:Nat=>⟨[(0,.im (ints a)),(1,.im (ints b)),(9,.im (ints a)),(10,.im (.int a.length)),(11,.im (.int i))],[],[]⟩)
  (fun i=>i<=a.length/\cmpL a b=cmpL (a.drop i) (b.drop i)) (fun i=>a.length-i) 0 ?_ ⟨Nat.zero_le _,rfl⟩ ?_
 ·simp only[Int.natCast_zero,go_sem]
 intro i ⟨hi,hc⟩;by_cases hp:(i:Int)<a.length
 ·have hd:decide ((i:Int)<a.length)=true:=decide_eq_true hp;have hi0:(0:Int)<=i:=by omega
  have hpb:(i:Int)<b.length:=by omega
  have hb2:decide ((b.length:Int)<=i)=false:=decide_eq_false (by omega);have hn:((i:Nat):Int).toNat=i:=Int.toNat_natCast i;have ha:=get_i (l:=a) (i:=i) (by omega);have hb:=get_i (l:=b) (i:=i) (by omega);have hw:=jb2 (n:=(i:Int)+1) (by omega);have hdr:=cmpL_drop (a:=a) (b:=b) (i:=i) (by omega) (by omega);have kC:=q_cmp (a.getD i 0) (b.getD i 0);generalize a.getD i 0=x at*;generalize b.getD i 0=y at*;simp only[hd,hb2,hi0,hp,hpb,hn,List.getElem?_map,ha,hb,List.length_map,go_sem];refine ja5 kC (by decide) ?_;rw[hdr]at hc;by_cases h1:x<y
  ·rw[if_pos h1]at hc⊢;rw[hc];simp only[go_sem]
  rw[if_neg h1]at hc⊢;by_cases h2:y<x
  ·rw[if_pos h2]at hc⊢;rw[hc];simp only[go_sem]
  rw[if_neg h2]at hc⊢;simp only[go_sem];refine jae (i+1) ?_ (by omega) ⟨by omega,hc⟩;simp only[hw,Int.natCast_add,go_sem]
 ·have hd:decide ((i:Int)<a.length)=false:=decide_eq_false hp;have hlt:decide ((a.length:Int)<b.length)=false:=decide_eq_false (by omega);have h0:cmpL a b=0:=by rw[hc,List.drop_of_length_le (by omega),List.drop_of_length_le (by omega)];rfl
  rw[h0];simp only[hd,hlt,List.length_map,go_sem]
theorem q_cmpK(a b:Quo):Ctr G.P 23 [.sl [[.int a.dep],[.int a.day],[.int a.com]],.sl [[.int b.dep],[.int b.day],[.int b.com]]] (· = .int (cmpL a.k b.k)):=q_compare a.k b.k rfl (by simp[Quo.k])
theorem jjp(r:Rts)(c d y:Int)(hn:0<=r.n/\r.n<=1000000)(hl:r.cap.length<=100000):Ctr G.P 19 [.agg (rtC r),.int c,.int d,.int y] (· = .bool (r.there c d y)):=by
 have k1:=q_in c 0 (r.n-1);have k2:=q_in d 0 (r.cap.length-1);have k3:=q_in y 0 100000;have w1:=jb2 (n:=r.n-1) (by omega);have w2:=jb2 (n:=(r.cap.length:Int)-1) (by omega);rw[Rts.there];generalize inR c 0 (r.n-1)=b1 at*;generalize inR d 0 (r.cap.length-1)=b2 at*;generalize inR y 0 100000=b3 at*;unfold rtC;generalize r.held.map qC=h at*;generalize r.used.map qC=u at*;cases b1
 ·refine jag good _ _ [.tmp 8] Try.func19 rfl rfl (by decide+kernel) rfl ?_;simp only[w1,w2,List.length_map,go_sem];refine ja5 k1 (by decide) ?_;simp only[go_sem]
 cases b2
 ·refine jag good _ _ [.tmp 8] Try.func19 rfl rfl (by decide+kernel) rfl ?_;simp only[w1,w2,List.length_map,go_sem];refine ja5 k1 (by decide) ?_;simp only[w2,List.length_map,go_sem];refine ja5 k2 (by decide) ?_;simp only[go_sem]
 ·refine jag good _ _ [.tmp 8] Try.func19 rfl rfl (by decide+kernel) rfl ?_;simp only[w1,w2,List.length_map,go_sem];refine ja5 k1 (by decide) ?_;simp only[w2,List.length_map,go_sem];refine ja5 k2 (by decide) ?_;simp only[go_sem];refine ja5 k3 (by decide) ?_;simp only[go_sem]
