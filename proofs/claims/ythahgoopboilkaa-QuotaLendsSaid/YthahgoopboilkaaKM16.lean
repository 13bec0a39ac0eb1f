/- A part of the proof. No further condition. -/
import Derived.Test.YthahgoopboilkaaKM15
set_option linter.all false
set_option maxRecDepth 10000000
set_option maxHeartbeats 16000000
namespace Go.Proofs.Ythahgoopboilkaa
section
open Go.RowKit Go.Shelf Go.LQ Go.Maps
open Go.Abs (IV AV Rep RepL Ctr St Sim Base SemC liftQ tailN jbd inL keyV elemV Ents Born Mo)
attribute [local go_sem] Oper.semAt_some
structure KX(b:Nat)(w w':World):Prop where
 g:w.grownBy w' (some b)
theorem KX.trans{b:Nat}{w1 w2 w3:World}(h:KX b w1 w2)(h':KX b w2 w3):KX b w1 w3:=
 let⟨⟨a1,a2,a3,a4,a5⟩⟩:=h
 let⟨⟨b1,b2,b3,b4,b5⟩⟩:=h'
 ⟨⟨b1.trans a1,b2.trans a2,b3.trans a3,Nat.le_trans a4 b4,fun k hk hne=>(b5 k (Nat.lt_of_lt_of_le hk a4) hne).trans (a5 k hk hne)⟩⟩
theorem KX.blk{b:Nat}{w w':World}(h:KX b w w'){k:Nat}(hk:k<w.heap.size)(hne:k≠b):w'.heap[k]? =w.heap[k]? :=h.g.block k hk (fun e=>hne (by cases e;rfl))
theorem KX.set{b:Nat}(w:World)(o:Obj):KX b w (ChangeMaps.setBlock w b o):=⟨⟨rfl,rfl,rfl,by simp[ChangeMaps.setBlock],fun k hk hne=>by
 show(w.heap.setIfInBounds b o)[k]? =_;rw[Array.getElem?_setIfInBounds_ne (fun e=>hne (by rw[e]))]⟩⟩
theorem filter_all_eq{es:List MapEntry}(h:(es.map (·.born)).Nodup){cur:List MapEntry}(hs:cur.Sublist es)(h1:∀x∈es,x∈cur\/decV x.val=0)(h2:∀x∈cur,decV x.val≠0):cur=es.filter fun e=> !decide (decV e.val=0):=by
 refine jez hs (jir h) fun x hx=>⟨fun hm=>by rw[decide_eq_false (h2 x hm)];rfl,fun hd=>(h1 x hx).resolve_right fun e=> ?_⟩;rw[decide_eq_true e]at hd;exact absurd hd (by decide)
theorem list_fn(l:List Value)(n:Nat)(h:l.length=n):∃z:Nat->Value,l=(List.range n).map z:=⟨fun i=>l.getD i undef,List.ext_getElem? fun i=>by
 rw[List.getElem?_map];by_cases hi:i<n
 ·rw[List.getElem?_range hi,Option.map_some,List.getD_eq_getElem?_getD,List.getElem?_eq_getElem (by omega)];rfl
 ·rw[List.getElem?_eq_none (by omega),List.getElem?_eq_none (by rw[List.length_range];omega)];rfl⟩
theorem del_loop(tl:List Value)(hl:tl.length=155)(W:World)(b cl:Nat)(es:Array MapEntry)(h7:tl[7]? =some (.map (some b)))(hb:W.heap[b]? =some (.map es cl))(hE:EInt es.toList)(hbl:∀e∈es.toList,e.born<cl){Q:Exit->Act->World->Prop}
  (hQ:∀(tl':List Value) (W':World) (es':Array MapEntry),tl'.length=155->tl'[1]? =tl[1]? ->tl'[2]? =tl[2]? ->tl'[4]? =tl[4]? ->tl'[7]? =tl[7]? ->W'.heap[b]? =some (.map es' cl)->es'.toList=es.toList.filter (fun e=> !decide (decV e.val=0))->KX b W W'->Q .normal {tmps:=tl'.toArray,defers:=[]} W'):
  Code.wp Try.prog (inL (tailN 5 (jbd Try.f9))) Q {tmps:=tl.toArray,defers:=[]} W:=by
 have hu:Try.prog.underlying 64=some (.map 68 3):=Try.underlying64;have hrange:=run_range_map (P:=Try.prog) W 64 68 3 b es cl hu hb;obtain⟨z,hz⟩:=list_fn tl 155 hl;have hz:tl=[z 0,z 1,z 2,z 3,z 4,z 5,z 6,z 7,z 8,z 9,z 10,z 11,z 12,z 13,z 14,z 15,z 16,z 17,z 18,z 19,z 20,z 21,z 22,z 23,z 24,z 25,z 26,z 27,z 28,z 29,z 30,z 31,z 32,z 33,z 34,z 35,z 36,z 37,z 38,z 39,z 40,z 41,z 42,z 43,z 44,z 45,z 46,z 47,z 48,z 49,z 50,z 51,z 52,z 53,z 54,z 55,z 56,z 57,z 58,z 59,z 60,z 61,z 62,z 63,z 64,z 65,z 66,z 67,z 68,z 69,z 70,z 71,z 72,z 73,z 74,z 75,z 76,z 77,z 78,z 79,z 80,z 81,z 82,z 83,z 84,z 85,z 86,z 87,z 88,z 89,z 90,z 91,z 92,z 93,z 94,z 95,z 96,z 97,z 98,z 99,z 100,z 101,z 102,z 103,z 104,z 105,z 106,z 107,z 108,z 109,z 110,z 111,z 112,z 113,z 114,z 115,z 116,z 117,z 118,z 119,z 120,z 121,z 122,z 123,z 124,z 125,z 126,z 127,z 128,z 129,z 130,z 131,z 132,z 133,z 134,z 135,z 136,z 137,z 138,z 139,z 140,z 141,z 142,z 143,z 144,z 145,z 146,z 147,z 148,z 149,z 150,z 151,z 152,z 153,z 154]:=hz;have z7:z 7= .map (some b):=by rw[hz]at h7;simpa using h7
 rw[z7]at hz;subst hz;clear h7 hl hz;have hQ:∀(tl':List Value) (W':World) (es':Array MapEntry),tl'.length=155->tl'[1]? =some (z 1)->tl'[2]? =some (z 2)->tl'[4]? =some (z 4)->tl'[7]? =some (.map (some b))->W'.heap[b]? =some (.map es' cl)->es'.toList=es.toList.filter (fun e=> !decide (decV e.val=0))->KX b W W'->Q .normal {tmps:=tl'.toArray,defers:=[]} W':=hQ;refine(wpIn_wide (n:=10)).1 ?_;simp only[inL,Go.Abs.inR,tailN,jbd,Try.f9]
 gi_wp2
 obtain⟨w0,hw0⟩:∃w0,w0=W.alloc (.mapIter (some b) cl #[] cl):=⟨_,rfl⟩;have hg0:KX b W w0:=by
  rw[hw0];have hga:=World.grownBy_alloc W (.mapIter (some b) cl #[] cl) none;exact⟨⟨hga.1,hga.2,hga.3,hga.size,fun k hk _=>hga.block k hk (by simp)⟩⟩
 have hr0:w0.heap[W.heap.size]? =some (.mapIter (some b) cl #[] cl):=by rw[hw0];exact World.alloc_heap_new W _
 have hblt:b<W.heap.size:=(Array.getElem?_eq_some_iff.1 hb).1;have hb0:w0.heap[b]? =some (.map es cl):=by
  rw[hw0,(World.grownBy_alloc W (.mapIter (some b) cl #[] cl) none).block b hblt (by simp)];exact hb
 rw[<-hw0];clear hrange hw0
 gi_loopw [14] (fun _ wr=>∃(seen:Array Nat) (last:Nat) (cur:Array MapEntry),wr.heap[W.heap.size]? =some (.mapIter (some b) cl seen last)/\cl<=last/\wr.heap[b]? =some (.map cur cl)/\cur.toList.Sublist es.toList/\
   (∀x∈es.toList,x∈cur.toList\/decV x.val=0)/\(∀x∈cur.toList,seen.contains x.born=true->decV x.val≠0)/\KX b W wr)
  (fun _ wr=>leftN b W.heap.size wr)
 case atStart=>exact⟨#[],cl,es,hr0,Nat.le_refl _,hb0,List.Sublist.refl _,fun x hx=> .inl hx,fun x _ h=>by simp at h,hg0⟩
 case round=>
  obtain⟨seen,last,cur,hr,hlast,hbm,hsub,hgone,hseen,hkx⟩:=hrel;have hEc:EInt cur.toList:=hE.sub hsub;have hblc:∀e∈cur.toList,e.born<cl:=fun e he=>hbl e (hsub.subset he);rcases run_next_at (P:=Try.prog) wr 0 W.heap.size b cl last seen cur cl hr hbm hblc hlast with ⟨hl0,hrun⟩ | ⟨e,he,w1,hal,hrun⟩
  ·have hfin:cur.toList=es.toList.filter fun e=> !decide (decV e.val=0):=filter_all_eq hE.born hsub hgone fun x hx=>hseen x hx (by
    cases hc:seen.contains x.born with
    | true=>rfl
    | false=>
     have:x∈(leftOf cur seen).toList:=by
      unfold leftOf;rw[Array.toList_filter,List.mem_filter];exact⟨hx,by rw[hc];rfl⟩
     have:=List.length_pos_of_mem this;rw[Array.length_toList]at this;omega)
   clear hgone hseen
   gi_wp2
   exact hQ _ wr cur rfl rfl rfl rfl rfl hbm hfin hkx
  ·have hmem:e∈cur.toList:=(mem_left he).1;obtain⟨x,v,hx,hv⟩:=hEc.kv e hmem;have hnew:seen.contains e.born=false:=by
    have:=he;unfold leftOf at this;rw[Array.toList_filter,List.mem_filter]at this
    simpa using this.2
   have hsz1:w1.heap=wr.heap:=by rcases hal with rfl | rfl<;>rfl
   obtain⟨w2,hw2⟩:∃w2,w2=ChangeMaps.setBlock w1 W.heap.size (Obj.mapIter (some b) cl (seen.push e.born) cl):=⟨_,rfl⟩;have hrlt:W.heap.size<wr.heap.size:=(Array.getElem?_eq_some_iff.1 hr).1;have hrb:W.heap.size≠b:=fun e=>by rw[e,hbm]at hr;cases hr
   have hr2:w2.heap[W.heap.size]? =some (.mapIter (some b) cl (seen.push e.born) cl):=by
    rw[hw2];show(w1.heap.setIfInBounds _ _)[_]? =_;rw[hsz1];simp[hrlt]
   have hs2:w2.heap.size=wr.heap.size:=by
    rw[hw2];show(w1.heap.setIfInBounds _ _).size=_;rw[hsz1];simp
   have ho2:∀k,k≠W.heap.size->w2.heap[k]? =wr.heap[k]? :=fun k hne=>by
    rw[hw2];show(w1.heap.setIfInBounds _ _)[k]? =_;rw[hsz1,Array.getElem?_setIfInBounds_ne (fun e=>hne e.symm)]
   have hg2:KX b W w2:=by
    refine⟨⟨?_,?_,?_,by rw[hs2];exact hkx.g.size,fun k hk hne=> ?_⟩⟩
    ·rw[hw2];rcases hal with rfl | rfl<;>exact hkx.g.os
    ·rw[hw2];rcases hal with rfl | rfl<;>exact hkx.g.tape
    ·rw[hw2];rcases hal with rfl | rfl<;>exact hkx.g.output
    ·rw[ho2 k (by omega)];exact hkx.g.block k hk hne
   have hbm2:w2.heap[b]? =some (.map cur cl):=(ho2 b (fun e=>hrb e.symm)).trans hbm;have hen:=run_entry_at (P:=Try.prog) w2 W.heap.size b cl seen cur cl e hr2 hbm2 hmem hEc.born;rw[<-hw2,hx,hv]at hrun;rw[hx,hv]at hen;have hm0:leftN b W.heap.size wr=(leftOf cur seen).size:=jel hbm hr;have hsh:=left_shrinks cur seen e he;have hde:decV e.val=v:=by rw[hv];rfl
   have hcont:∀n,(seen.push e.born).contains n=true->seen.contains n=true\/n=e.born:=fun n h=>by
    rw[contains_push,Bool.or_eq_true]at h;exact h.imp id fun h=>by simpa using h
   have huniq:∀y∈cur.toList,y.born=e.born->y=e:=fun y hy h=>born_inj hEc.born hy hmem h;clear hw2 hal hr hbm ho2 hnew;obtain⟨w3,hw3⟩:∃w3,w3=w2.alloc (Obj.cells #[.int .i64 x.a,.int .i64 x.b,.int .i64 x.c] 68):=⟨_,rfl⟩;have hga:=World.grownBy_alloc w2 (Obj.cells #[.int .i64 x.a,.int .i64 x.b,.int .i64 x.c] 68) none;have hg3:KX b W w3:=hg2.trans (by rw[hw3];exact⟨⟨hga.os,hga.tape,hga.output,hga.size,fun k hk _=>hga.block k hk (by simp)⟩⟩);have hr3:w3.heap[W.heap.size]? =some (.mapIter (some b) cl (seen.push e.born) cl):=by
    rw[hw3];exact(hga.block _ (Array.getElem?_eq_some_iff.1 hr2).1 (by simp)).trans hr2
   have hb3:w3.heap[b]? =some (.map cur cl):=by
    rw[hw3];exact(hga.block b (Array.getElem?_eq_some_iff.1 hbm2).1 (by simp)).trans hbm2
   have hc0:∀j u,[Value.int .i64 x.a,.int .i64 x.b,.int .i64 x.c][j]? =some u->w3.cell? ((⟨w2.heap.size,0,none⟩:Addr).add j)=some u:=by
    rw[hw3];exact je5 w2 _ _ _ _
   have c0:w3.cell? ⟨w2.heap.size,0,none⟩=some (.int .i64 x.a):=hc0 0 _ rfl;have c1:w3.cell? ⟨w2.heap.size,1,none⟩=some (.int .i64 x.b):=hc0 1 _ rfl;have c2:w3.cell? ⟨w2.heap.size,2,none⟩=some (.int .i64 x.c):=hc0 2 _ rfl;clear hc0 hga;obtain⟨cur',hdel,hsub',hmem'⟩:=del_run hEc hb3 hmem hx 0;have hle:=jel (c:=cl) (c':=cl) hb3 hr3;have hkd:=KX.set (b:=b) w3 (.map cur' cl);have hrd:(ChangeMaps.setBlock w3 b (.map cur' cl)).heap[W.heap.size]? =some (.mapIter (some b) cl (seen.push e.born) cl):=by
    show(w3.heap.setIfInBounds b _)[_]? =_;rw[Array.getElem?_setIfInBounds_ne (fun e=>hrb e.symm)];exact hr3
   have hbd:(ChangeMaps.setBlock w3 b (.map cur' cl)).heap[b]? =some (.map cur' cl):=by
    show(w3.heap.setIfInBounds b _)[_]? =_;simp[(Array.getElem?_eq_some_iff.1 hb3).1]
   have hld:=jel (c:=cl) (c':=cl) hbd hrd;have hsmall:(leftOf cur' (seen.push e.born)).size<=(leftOf cur (seen.push e.born)).size:=by
    have hz:∀l:Array MapEntry,(leftOf l (seen.push e.born)).size=(l.toList.filter fun y=> !(seen.push e.born).contains y.born).length:=fun l=>by
     rw[<-Array.length_toList];unfold leftOf;rw[Array.toList_filter]
    rw[hz,hz];exact(hsub'.filter _).length_le
   have goalA:v≠0->(∃(seen:Array Nat) (last:Nat) (cur:Array MapEntry),w3.heap[W.heap.size]? =some (.mapIter (some b) cl seen last)/\cl<=last/\w3.heap[b]? =some (.map cur cl)/\cur.toList.Sublist es.toList/\
     (∀x∈es.toList,x∈cur.toList\/decV x.val=0)/\(∀x∈cur.toList,seen.contains x.born=true->decV x.val≠0)/\KX b W w3)/\leftN b W.heap.size w3<leftN b W.heap.size wr:=fun hv0=>
    ⟨⟨seen.push e.born,cl,cur,hr3,Nat.le_refl _,hb3,hsub,hgone,fun y hy h=>by
     rcases hcont _ h with h | h
     ·exact hseen y hy h
     ·rw[huniq y hy h,hde];exact hv0,hg3⟩,by rw[hle,hm0];exact hsh⟩
   have goalB:v=0->(∃(seen:Array Nat) (last:Nat) (cur:Array MapEntry),(ChangeMaps.setBlock w3 b (.map cur' cl)).heap[W.heap.size]? =some (.mapIter (some b) cl seen last)/\cl<=last/\(ChangeMaps.setBlock w3 b (.map cur' cl)).heap[b]? =some (.map cur cl)/\cur.toList.Sublist es.toList/\
     (∀x∈es.toList,x∈cur.toList\/decV x.val=0)/\(∀x∈cur.toList,seen.contains x.born=true->decV x.val≠0)/\KX b W (ChangeMaps.setBlock w3 b (.map cur' cl)))/\leftN b W.heap.size (ChangeMaps.setBlock w3 b (.map cur' cl))<leftN b W.heap.size wr:=fun hv0=>
    ⟨⟨seen.push e.born,cl,cur',hrd,Nat.le_refl _,hbd,hsub'.trans hsub,fun y hy=>by
     rcases hgone y hy with h | h
     ·by_cases e1:y=e
      ·right;rw[e1,hde];exact hv0
      ·exact .inl ((hmem' y h).2 e1)
     ·exact .inr h,fun y hy h=>by
     have hyc:=hsub'.subset hy;rcases hcont _ h with h | h
     ·exact hseen y hyc h
     ·exact absurd (huniq y hyc h) ((hmem' y hyc).1 hy),hg3.trans hkd⟩,by rw[hld,hm0];omega⟩
   unfold KeyV.enc at hrun hen hdel;rw[hw3]at hdel goalA goalB;clear hsub hgone hseen hkx hEc hblc he hmem hx hv hsz1 hr2 hs2 hg2 hbm2 hm0 hsh hde hcont huniq hw3 hg3 hr3 hb3 c0 c1 c2 hsub' hmem' hle hkd hrd hbd hld hsmall hE hbl hg0 hr0 hb0 hQ
   gi_wp2_with (gi_at_delete;refine wpListIn_delete_at rfl (.tmp 139) (.tmp 140) 64 68 rfl rfl rfl (fun _=>hdel) ?_)
   ·have hB:=goalB (by simp_all);exact⟨⟨_,_,_,_,_,_,_,_,_,_,_,hB.1,rfl⟩,hB.2⟩
   ·exact goalA (by simp_all)
end
section
open Go.RowKit Go.LQ
open Go.Abs (IV AV Rep RepA Ctr St Sim Base SemC tailN jbd inL keyV elemV Ents Born Mo look)
theorem sim_act{N:Nat}{w0:Base}{M0:Nat->Nat->Prop}{β:Nat->Option Nat}{st:St}{a a':Act}{w:World}(h:Sim N w0 M0 β st a w)(hN:a'.tmps.size=N)(hD:a'.defers=[])(he:∀t,st.get t≠ .und->a'.tmps.getD t undef=a.tmps.getD t undef):Sim N w0 M0 β st a' w:=
 ⟨hN,hD,h.below,h.m0,fun t=>by
  by_cases hu:st.get t= .und
  ·rw[hu];trivial
  ·rw[he t hu];exact h.fr t,h.rows,h.toks,h.inj,h.excl,h.nam,h.np,h.perm⟩
theorem ents_int{T:LQ.Tab}{es:Array MapEntry}{c:Nat}(hs:Shape 3 T)(hd:Dist T)(h:Ents (3,true) T es)(hb:Born es c):EInt es.toList:=by
 refine⟨fun e he=> ?_,?_,hb.1⟩
 ·have hm:(e.key,e.val)∈T.map fun p=>(keyV p.1,elemV true p.2):=by rw[<-h.2];exact List.mem_map.2 ⟨e,he,rfl⟩
  obtain⟨p,hp,e1⟩:=List.mem_map.1 hm;obtain⟨h1,h2⟩:=hs p hp;obtain⟨k,v⟩:=p
  match k,v,h1,h2 with
  | [a,b,c],[n],_,_=>
   exact⟨⟨a,b,c⟩,n,(congrArg Prod.fst e1).symm,(congrArg Prod.snd e1).symm⟩
 ·rw[jgl h];refine List.pairwise_map.2 ((List.pairwise_map.1 hd).imp fun{a b} hne e=>hne ?_);have:=congrArg decK e;rw[ji7,ji7]at this;exact this
theorem ents_nz{T:LQ.Tab}{es es':Array MapEntry}(hs:Shape 3 T)(h:Ents (3,true) T es)(he:es'.toList=es.toList.filter fun e=> !decide (decV e.val=0)):Ents (3,true) (nz T) es':=by
 refine⟨fun p hp=>h.1 p (List.mem_filter.1 hp).1,?_⟩;rw[he];have h2:=congrArg (List.filter fun q:Value×Value=> !decide (decV q.2=0)) h.2;rw[List.filter_map,List.filter_map]at h2;refine Eq.trans h2 ?_;unfold nz;refine congrArg (List.map _) (List.filter_congr fun p hp=> ?_);obtain⟨h3,h4⟩:=hs p hp;obtain⟨k,v⟩:=p
 match v,h4 with
 | [n],_=>rfl
theorem born_sub{es es':Array MapEntry}{c:Nat}(h:Born es c)(hs:es'.toList.Sublist es.toList):Born es' c:=⟨h.1.sublist (hs.map _),fun e he=>h.2 e (hs.subset he)⟩
def SD(lx:IV)(rc zc:List IV)(T:LQ.Tab):St:=⟨[(1,.im lx),(2,.loc 2 4 0 0),(4,.loc 4 4 0 0),(7,.mpo 29 (3,true) T)],[(4,4,[zc]),(2,4,[rc])],[(29,0,0)]⟩
theorem SD_get{lx:IV}{rc zc:List IV}{T:LQ.Tab}{t:Nat}(h:(SD lx rc zc T).get t≠ .und):t=1\/t=2\/t=4\/t=7:=by
 by_cases t1:t=1
 ·exact .inl t1
 by_cases t2:t=2
 ·exact .inr (.inl t2)
 by_cases t4:t=4
 ·exact .inr (.inr (.inl t4))
 by_cases t7:t=7
 ·exact .inr (.inr (.inr t7))
 exact absurd (by simp[SD,Go.Abs.St.get,Go.Abs.look,t1,t2,t4,t7]) h
theorem del_sem{lx:IV}{rc zc:List IV}{T:LQ.Tab}(hs:Shape 3 T)(hd:Dist T){Q:Exit->St->Prop}(hQ:Q .normal (SD lx rc zc (nz T))):SemC G 155 (inL (tailN 5 (jbd Try.f9))) Q (SD lx rc zc T):=fun w0 M0 β a w hsim=>by
 obtain⟨tm,df⟩:=a;obtain rfl:df=[]:=hsim.defers;have hsz:tm.size=155:=hsim.size;have h7:RepA w (Mo M0 β (SD lx rc zc T)) β (SD lx rc zc T).toks (.mpo 29 (3,true) T) (tm.getD 7 undef):=hsim.fr 7;obtain⟨b,hβ,hv,hmap⟩:=h7;obtain⟨es,cl,hh,hE,hB⟩:=hmap rfl;have hl:tm.toList.length=155:=by rw[Array.length_toList];exact hsz
 have hat:∀t,t<155->tm.toList[t]? =some (tm.getD t undef):=fun t ht=>by
  rw[Array.getElem?_toList,Array.getD_eq_getD_getElem?,Array.getElem?_eq_getElem (by omega)];rfl
 refine del_loop tm.toList hl w b cl es (by rw[hat 7 (by decide),hv]) hh (ents_int hs hd hE hB) hB.2 fun tl' W' es' h1 e1 e2 e4 e7 hm' he' hk=> ?_;have hlt:b<w.heap.size:=(Array.getElem?_eq_some_iff.1 hh).1;have hsub:es'.toList.Sublist es.toList:=by rw[he'];exact List.filter_sublist
 have s1:=hsim.setMap (d:=29) (b:=b) (sc:=(3,true)) (kvs:=nz T) (es:=es) (es':=es') (c:=cl) (c':=cl) rfl hβ hh (ents_nz hs hE he') (born_sub hB hsub);have hb:Below ({w with heap:=w.heap.setIfInBounds b (.map es' cl)}:World).heap.size {w with heap:=w.heap.setIfInBounds b (.map es' cl)} W':=by
  refine⟨hk.g.os,hk.g.tape,hk.g.output,?_,fun k hk'=> ?_⟩
  ·show(w.heap.setIfInBounds b _).size<=_;rw[Array.size_setIfInBounds];exact hk.g.size
  ·have hk':k<(w.heap.setIfInBounds b (.map es' cl)).size:=hk';rw[Array.size_setIfInBounds]at hk';show _=(w.heap.setIfInBounds b _)[k]?;by_cases e:k=b
   ·subst e;rw[hm'];simp[hlt]
   ·rw[Array.getElem?_setIfInBounds_ne (fun h=>e h.symm)];exact hk.blk hk' e
 have s2:=s1.ext hb;have s3:Sim 155 w0 M0 β (SD lx rc zc (nz T)) {tmps:=tm,defers:=[]} W':=s2;refine⟨β,_,hQ,sim_act s3 (by simpa using h1) rfl fun t ht=> ?_⟩;have key:∀t,t<155->tl'[t]? =tm.toList[t]? ->tl'.toArray.getD t undef=tm.getD t undef:=fun t ht h=>by
  rw[hat t ht]at h;rw[Array.getD_eq_getD_getElem?];simp[h]
 rcases SD_get ht with rfl | rfl | rfl | rfl
 ·exact key 1 (by decide) e1
 ·exact key 2 (by decide) e2
 ·exact key 4 (by decide) e4
 ·exact key 7 (by decide) e7
end
section
open Go.Abs Go.LQ
attribute [local go_sem] ints ic qC rtC kC
theorem q_cloneI(l:List Int)(hl:l.length<=100000):Ctr G.P 36 [.sl (l.map ic)] (· = .sl (l.map ic)):=by
 have h4:∀c∈l.map ic,c.length=1:=fun c hc=>by
  obtain⟨z,_,rfl⟩:=List.mem_map.1 hc;rfl
 have hl2:(l.map ic).length<=100000:=by rw[List.length_map];exact hl
 generalize l.map ic=es at*;refine ja8 good _ _ [.tmp 2] Try.func36 rfl rfl (by decide+kernel) rfl ?_;simp only[go_sem];refine jib (fun h=> ?_) ?_
 ·subst h;simp only[go_sem]
 ·simp only[go_sem];exact⟨by simp,h4,by omega⟩
theorem jk0(l:List Quo)(hl:l.length<=100000):Ctr G.P 37 [.sl (l.map qC)] (· = .sl (l.map qC)):=by
 have h4:∀c∈l.map qC,c.length=4:=fun c hc=>by
  obtain⟨z,_,rfl⟩:=List.mem_map.1 hc;rfl
 have hl2:(l.map qC).length<=100000:=by rw[List.length_map];exact hl
 generalize l.map qC=es at*;refine ja8 good _ _ [.tmp 2] Try.func37 rfl rfl (by decide+kernel) rfl ?_;simp only[go_sem];refine jib (fun h=> ?_) ?_
 ·subst h;simp only[go_sem]
 ·simp only[go_sem];exact⟨by simp,h4,by omega⟩
theorem jjz(r:Rts)(hc:r.cap.length<=100000)(hh:r.held.length<=100000)(hu:r.used.length<=100000):Ctr G.P 26 [.agg (rtC r)] (· = .agg (rtC r)):=by
 have k1:=q_cloneI r.cap hc;have k2:=jk0 r.held hh;have k3:=jk0 r.used hu;unfold rtC ints;generalize r.cap.map ic=c1 at*;generalize r.held.map qC=c2 at*;generalize r.used.map qC=c3 at*;refine ja8 good _ _ [.cell 2 25] Try.func26 rfl rfl (by decide+kernel) rfl ?_;simp only[go_sem];refine jb0 10 (by decide+kernel) ?_;simp only[go_sem];refine jal k1 (by decide) ?_;simp only[go_sem];refine jal k2 (by decide) ?_;simp only[go_sem];refine jal k3 (by decide) ?_;simp only[go_sem]
theorem right_sub{r:Rts}(h:RightQ r)(c d y:Int):IntKind.i64.wrap (vof (tabL r.held) [d,y,c]-vof (tabL r.used) [d,y,c])=vof (tabL r.held) [d,y,c]-vof (tabL r.used) [d,y,c]:=by
 have h1:=jbo h.held (k:=[d,y,c]);have h2:=h.vof_cap [d,y,c];have h3:=jbo h.used (k:=[d,y,c]);have h4:=h.use_le [d,y,c];exact jad (by omega)
theorem jjy(r:Rts)(c d y:Int)(hc:r.cap.length<=100000)(hh:r.held.length<=100000)(hu:r.used.length<=100000):Ctr G.P 11 [.agg (rtC r),.int c,.int d,.int y] (· = .int (heldQ r c d y)):=by
 have k:=jdk r hc hh hu;have kt:=fun h=>jg5 r.held h hh;have h0:jao r=0->Asc r.held:=fun h=>(checkQ_zero.1 h).held.asc;unfold heldQ;generalize jao r=e at*;unfold rtC at*;by_cases he:e=0
 ·subst he;have ka:=kt (h0 rfl);have hm:=jc5 (jat r.held) [d,y,c];rw[if_neg (by decide)];generalize vof (tabL r.held) [d,y,c]=v at*;refine ja8 good _ _ [.tmp 8] Try.func11 rfl rfl (by decide+kernel) rfl ?_;simp only[go_sem];refine ja0 k (by decide) ?_;simp only[go_sem];refine ja0 ka (by decide) ?_;rcases hm with hm | ⟨hm,rfl⟩
  ·simp only[hm,go_sem]
  ·simp only[hm,go_sem]
 ·have hd:decide (e=0)=false:=decide_eq_false he;rw[if_pos he];refine ja8 good _ _ [.tmp 8] Try.func11 rfl rfl (by decide+kernel) rfl ?_;simp only[go_sem];refine ja0 k (by decide) ?_;simp only[hd,go_sem]
theorem jim(r:Rts)(c d y:Int)(hc:r.cap.length<=100000)(hh:r.held.length<=100000)(hu:r.used.length<=100000):Ctr G.P 12 [.agg (rtC r),.int c,.int d,.int y] (· = .int (leftQ r c d y)):=by
 have k:=jdk r hc hh hu;have kt:=fun h=>jg5 r.held h hh;have ku:=fun h=>jg5 r.used h hu;have h0:jao r=0->RightQ r:=fun h=>checkQ_zero.1 h;unfold leftQ;generalize jao r=e at*;unfold rtC at*;by_cases he:e=0
 ·subst he;have hr:=h0 rfl;have ka:=kt hr.held.asc;have kb:=ku hr.used.asc;have hm:=jc5 (jat r.held) [d,y,c];have hn:=jc5 (jat r.used) [d,y,c];have hw:=right_sub hr c d y;rw[if_neg (by decide)];generalize vof (tabL r.held) [d,y,c]=v at*;generalize vof (tabL r.used) [d,y,c]=u at*;refine ja8 good _ _ [.tmp 8] Try.func12 rfl rfl (by decide+kernel) rfl ?_;simp only[go_sem];refine ja0 k (by decide) ?_;simp only[go_sem];refine jb0 12 (by decide+kernel) ?_;simp only[go_sem];refine jal ka (by decide) ?_;rcases hm with hm | ⟨hm,rfl⟩
  ·simp only[hm,go_sem];refine jal kb (by decide) ?_;rcases hn with hn | ⟨hn,rfl⟩
   ·simp only[hn,hw,go_sem]
   ·simp only[hn,hw,go_sem]
  ·simp only[hm,go_sem];refine jal kb (by decide) ?_;rcases hn with hn | ⟨hn,rfl⟩
   ·simp only[hn,hw,go_sem]
   ·simp only[hn,show IntKind.i64.wrap (0-0)=0 from rfl,show IntKind.i64.wrap 0=0 from rfl,show(0:Int)-0=0 from rfl,go_sem]
 ·have hd:decide (e=0)=false:=decide_eq_false he;rw[if_pos he];refine ja8 good _ _ [.tmp 8] Try.func12 rfl rfl (by decide+kernel) rfl ?_;simp only[go_sem];refine ja0 k (by decide) ?_;simp only[hd,go_sem]
end
end Go.Proofs.Ythahgoopboilkaa
namespace Go.LQ
section
theorem jiz(k:List Int):∀(l:List Trn),(∀x∈l,1<=x.kg/\x.kg<=1000000)-> -(1000000*(l.length:Int))<=got l k/\got l k<=1000000*(l.length:Int)
 | [],_=>by simp[got]
 | x::l,h=>by
  have ih:=jiz k l fun y hy=>h y (List.mem_cons_of_mem _ hy);have hx:=h x List.mem_cons_self;rw[got,List.length_cons];unfold dlt;split<;>split<;>omega
theorem mov_bound{r:Rts}(h:RightQ r){l:List Trn}(hl:l.length<=40)(hk:∀x∈l,1<=x.kg/\x.kg<=1000000)(k:List Int): -40000000<=vof (movT (tabL r.held) l) k/\vof (movT (tabL r.held) l) k<=41000000:=by
 rw[vof_mov];have h1:=jiz k l hk;have h2:=jbo h.held (k:=k);have h3:=h.vof_cap k;omega
structure TradeF(r:Rts)(l:List Trn)(R:Rts×Int×Int):Prop where
 f1:∀i,i<l.length->(∀j,j<i->err1 r l j=0)->err1 r l i≠0->R=(Rts.zero,err1 r l i,(i:Int))
 f2:(∀j,j<l.length->err1 r l j=0)->∀i,i<l.length->(∀j,j<i->err2 r l j=0)->err2 r l i≠0->R=(Rts.zero,7,(i:Int))
 f3:(∀j,j<l.length->err1 r l j=0)->(∀j,j<l.length->err2 r l j=0)->R=if 300<((nz (movT (tabL r.held) l)).length:Int)then(Rts.zero,6,(l.length:Int))else(r.after l,0,(l.length:Int))
theorem trade_f{r:Rts}{l:List Trn}(h:jao r=0)(hl:l.length<=40):TradeF r l (jav r l):=by
 have h0:¬jao r≠0:=fun e=>e h;have h1:¬40<(l.length:Int):=by omega
 refine⟨fun i hi hj he=> ?_,fun ha i hi hj he=> ?_,fun ha hb=> ?_⟩
 ·unfold jav;rw[if_neg h0,if_neg h1,jeq hj hi he]
 ·unfold jav;rw[if_neg h0,if_neg h1,jcn ha];dsimp only;rw[jeq hj hi he]
 ·unfold jav;rw[if_neg h0,if_neg h1,jcn ha];dsimp only;rw[jcn hb]
theorem trade_f1{r:Rts}{l:List Trn}(h:jao r≠0):jav r l=(Rts.zero,1,0):=by unfold jav;rw[if_pos h]
theorem trade_f2{r:Rts}{l:List Trn}(h:jao r=0)(hl:40<(l.length:Int)):jav r l=(Rts.zero,6,0):=by unfold jav;rw[if_neg (fun e=>e h),if_pos hl]
end
end Go.LQ
namespace Go.Proofs.Ythahgoopboilkaa
section
open Go.Abs Go.LQ
attribute [local go_sem] ints ic qC rtC kC
theorem ctr_sem{f:FuncId}{fn:Func}{c:Code}{xs:List IV}{x:IV}(rs:List ResultVar)(hf:G.P.funcs[f]? =some fn)(hb:fn.body=some c)(hr:fn.results.toList=rs)(hd:dstC fn.ntmps c=true)(hn:xs.length<=fn.ntmps)
  (h:SemC G fn.ntmps c (fun e s=>match e with | .normal=>je6 G rs (fun r=>r= .im x/\([]:Abs.Rows)=[]) s | .ret=>je6 G rs (fun r=>r= .im x/\([]:Abs.Rows)=[]) s | _=>False) (jbt (xs.map .im) [])):Ctr G.P f xs (· =x):=by
 subst hr;refine jki (φ:=fun r L'=>r= .im x/\L'=[]) (jee good hf hb hd (by rw[List.length_map];exact hn) (h.mono fun e s hq=> ?_)) (fun r L' ⟨h1,h2⟩=>⟨x,[],h1,rfl⟩);have key:je6 G fn.results.toList (fun r=>r= .im x/\([]:Abs.Rows)=[]) s->aRetH G fn.results.toList (fun r L'=>r= .im x/\L'=[]) s:=fun hq=>⟨[],fun k y hk=>(by cases hk),hq⟩;cases e with
 | normal=>exact key hq
 | ret=>exact key hq
 | _=>exact hq.elim
theorem le_of{s S:St}(L R:List Nat)(h:s.keep L R=S):St.Le s S:=h▸St.le_keep s L R
def xC(x:Trn):List IV:=[.int x.fr,.int x.to,.int x.dep,.int x.day,.int x.kg]
attribute [local go_sem] xC
def tR(R:Rts×Int×Int):IV:= .tup [.agg (rtC R.1),.int R.2.1,.int R.2.2]
abbrev QT(R:Rts×Int×Int):Exit->St->Prop:=fun e s=>match e with
 | .normal=>je6 G [.cell 4 25,.tmp 5,.tmp 6] (fun r=>r= .im (tR R)/\([]:Abs.Rows)=[]) s
 | .ret=>je6 G [.cell 4 25,.tmp 5,.tmp 6] (fun r=>r= .im (tR R)/\([]:Abs.Rows)=[]) s
 | _=>False
def zC:List IV:=[.int 0,.sl [],.sl [],.sl []]
theorem zero_c:rtC Rts.zero=zC:=rfl
def SB(lx:IV)(rc:List IV)(T U:LQ.Tab):St:=⟨[(1,.im lx),(2,.loc 2 4 0 0),(4,.loc 4 4 0 0),(7,.mpo 29 (3,true) T),(8,.im (.mp (3,true) U))],[(4,4,[zC]),(2,4,[rc])],[(29,0,0)]⟩
theorem q_trade0(r:Rts)(l:List Trn)(hc:r.cap.length<=100000)(hh:r.held.length<=100000)(hu:r.used.length<=100000)(h:jao r≠0):Ctr G.P 9 [.agg (rtC r),.sl (l.map xC)] (· =tR (Rts.zero,1,0)):=by
 have k1:=jdk r hc hh hu;have hd:decide (jao r=0)=false:=decide_eq_false h;unfold tR;rw[zero_c];unfold rtC ints at*;refine ja8 good _ _ [.cell 4 25,.tmp 5,.tmp 6] Try.func9 rfl rfl (by decide+kernel) rfl ?_;simp only[go_sem];refine ja0 k1 (by decide) ?_;simp only[hd,go_sem];rfl
theorem q_trade1(r:Rts)(l:List Trn)(hc:r.cap.length<=100000)(hh:r.held.length<=100000)(hu:r.used.length<=100000)(h:jao r=0)(hl:40<(l.length:Int)):Ctr G.P 9 [.agg (rtC r),.sl (l.map xC)] (· =tR (Rts.zero,6,0)):=by
 have k1:=jdk r hc hh hu;rw[h]at k1;have hd:decide (40<(l.length:Int))=true:=decide_eq_true hl;unfold tR;rw[zero_c];unfold rtC ints at*;refine ja8 good _ _ [.cell 4 25,.tmp 5,.tmp 6] Try.func9 rfl rfl (by decide+kernel) rfl ?_;simp only[go_sem];refine ja0 k1 (by decide) ?_;simp only[hd,List.length_map,go_sem];rfl
section
variable{r:Rts}{l:List Trn}{R:Rts×Int×Int}
theorem tr_A(h:RightQ r)(hl:l.length<=40){Q:Exit->St->Prop}(hQ:∀s,St.Le s (SB (.sl (l.map xC)) (rtC r) (tabL r.held) (tabL r.used))->Q .normal s):
  awp G (putN 3 (tailN 0 (jbd Try.f9)) .skip) Q (jbt ([.agg (rtC r),.sl (l.map xC)].map .im) []):=by
 obtain⟨l1,l2,l3⟩:=h.lens;have k1:=jdk r (by omega) (by omega) (by omega);rw[checkQ_zero.2 h]at k1;have kh:=jhq r.held h.held.asc (by omega);have ku:=jg5 r.used h.used.asc (by omega);have hd:decide (40<(l.length:Int))=false:=decide_eq_false (by omega);unfold SB at hQ;unfold rtC ints at*;generalize tabL r.held=T at*;generalize tabL r.used=U at*;generalize hlx:l.map xC=lx at*;have hll:lx.length=l.length:=by rw[<-hlx,List.length_map]
 refine jcs rfl ?_;simp only[go_sem];refine ja0 k1 (by decide) ?_;simp only[hd,hll,go_sem];refine DrawO_of 6 2 29 (by decide+kernel) ?_;simp only[go_sem];refine CallO_eq kh (by decide) rfl ?_;simp only[go_sem];refine jal ku (by decide) ?_;simp only[go_sem];refine hQ _ (le_of [1,2,4,7,8] [2,4,29] ?_);simp only[go_sem];rfl
theorem tr_B(h:RightQ r)(hl:l.length<=40)(hR:TradeF r l R){Q:Exit->St->Prop}(hret:∀s,QT R .ret s->Q .ret s)
  (hQ:(∀j,j<l.length->err1 r l j=0)->∀s,St.Le s (SB (.sl (l.map xC)) (rtC r) (movT (tabL r.held) l) (tabL r.used))->Q .normal s):
  awp G (putN 1 (tailN 3 (jbd Try.f9)) .skip) Q (SB (.sl (l.map xC)) (rtC r) (tabL r.held) (tabL r.used)):=by
 have hn:=h.n;have hc20:=h.lens.1;have kt:=fun c d y=>jjh r c d y (by omega) (by omega);have hf1:=hR.f1;have hbd:∀i,i<=l.length->(∀j,j<i->err1 r l j=0)->∀k,-40000000<=vof (movT (tabL r.held) (l.take i)) k/\vof (movT (tabL r.held) (l.take i)) k<=41000000:=fun i hi hj k=>by
  refine mov_bound h (by rw[List.length_take];omega) (fun x hx=> ?_) k;obtain⟨j,hj',hxj⟩:=List.mem_iff_getElem.1 hx;rw[List.length_take]at hj';have:=(err1_zero.1 (hj j (by omega))).kg;rw[gD _ (by omega)]at this;rw[List.getElem_take]at hxj;rw[<-hxj];exact this
 have hsh:∀i,Shape 3 (movT (tabL r.held) (l.take i)):=fun i=>jdm _ (jat _);have hst:∀i,i<l.length->movT (tabL r.held) (l.take (i+1))=LQ.stepT (movT (tabL r.held) (l.take i)) (l.getD i x0):=fun i hi=>mov_take_succ _ hi;have ht0:movT (tabL r.held) (l.take 0)=tabL r.held:=by rw[List.take_zero];rfl
 have htl:movT (tabL r.held) (l.take l.length)=movT (tabL r.held) l:=by rw[List.take_length]
 unfold SB zC at hQ⊢;have hRC:∃a b c d,rtC r=[.int a,.sl b,.sl c,.sl d]:=⟨_,_,_,_,rfl⟩;obtain⟨rn,rc,rh,ru,hRC⟩:=hRC;rw[hRC]at kt hQ⊢;rw[<-htl]at hQ;rw[<-ht0];generalize movT (tabL r.held)=MT at*;generalize tabL r.used=U at*;refine jcs rfl ?_;simp only[List.length_map,go_sem];refine jbb [1,2,4,7,8,33,34,35] [2,4,29] (fun i:Nat=>⟨[(1,.im (.sl (l.map xC))),(2,.loc 2 4 0 0),(4,.loc 4 4 0 0),(7,.mpo 29 (3,true) (MT (l.take i))),(8,.im (.mp (3,true) U)),(33,.im (.sl (l.map xC))),(34,.im (.int l.length)),(35,.im (.int i))],[(4,4,[[.int 0,.sl [],.sl [],.sl []]]),(2,4,[[.int rn,.sl rc,.sl rh,.sl ru]])],[(29,0,0)]⟩)
  (fun i=>i<=l.length/\∀j,j<i->err1 r l j=0) (fun i=>l.length-i) 0 ?_ ⟨Nat.zero_le _,fun j hj=>absurd hj (by omega)⟩ ?_
 ·simp only[Int.natCast_zero,go_sem]
 intro i ⟨hi,he⟩;by_cases hp:(i:Int)<l.length
 ·have hd:decide ((i:Int)<l.length)=true:=decide_eq_true hp;have hi0:(0:Int)<=i:=by omega
  have hn:((i:Nat):Int).toNat=i:=Int.toNat_natCast i;have hx:l[i]? =some (l.getD i x0):=by rw[gD _ (by omega)];exact List.getElem?_eq_getElem (by omega)
  have hw:=jad (n:=(i:Int)+1) (by omega);have hf:=hf1 i (by omega) he;have hE:err1 r l i=if r.there (l.getD i x0).fr (l.getD i x0).dep (l.getD i x0).day=false\/r.there (l.getD i x0).to (l.getD i x0).dep (l.getD i x0).day=false\/(l.getD i x0).fr=(l.getD i x0).to then 1 else if inR (l.getD i x0).kg 1 1000000=false then 3 else 0:=rfl
  have k1:=kt (l.getD i x0).fr (l.getD i x0).dep (l.getD i x0).day;have k2:=kt (l.getD i x0).to (l.getD i x0).dep (l.getD i x0).day;have k3:=q_in (l.getD i x0).kg 1 1000000;have hB:=hbd i hi he;have hS:=hsh i;have hT:=hst i (by omega);have hE0:err1 r l i=0->∀j,j<i+1->err1 r l j=0:=fun h j hj=>by
   by_cases e:j=i
   ·rw[e];exact h
   ·exact he j (by omega)
  generalize hxx:l.getD i x0=x at*;generalize r.there x.fr x.dep x.day=b1 at*;generalize r.there x.to x.dep x.day=b2 at*;simp only[hd,hi0,hp,hn,List.getElem?_map,hx,List.length_map,go_sem];refine ja0 k1 (by decide) ?_;cases b1
  ·simp only[go_sem];rw[if_pos (.inl rfl)]at hE;have hRe:=hf (by rw[hE];decide);rw[hE]at hRe;subst hRe;refine hret _ ?_;simp only[go_sem];rfl
  simp only[go_sem];refine ja0 k2 (by decide) ?_;cases b2
  ·simp only[go_sem];rw[if_pos (.inr (.inl rfl))]at hE;have hRe:=hf (by rw[hE];decide);rw[hE]at hRe;subst hRe;refine hret _ ?_;simp only[go_sem];rfl
  simp only[go_sem];refine jcr (fun d3 h3=> ?_) (fun d3 h3=> ?_)
  ·simp only[go_sem];rw[if_pos (.inr (.inr h3))]at hE;have hRe:=hf (by rw[hE];decide);rw[hE]at hRe;subst hRe;refine hret _ ?_;simp only[go_sem];rfl
  rw[if_neg (fun e=>e.elim (fun e=>by cases e) (fun e=>e.elim (fun e=>by cases e) h3))]at hE;simp only[go_sem];refine ja0 k3 (by decide) ?_;cases h4:inR x.kg 1 1000000
  ·rw[h4,if_pos rfl]at hE;have hRe:=hf (by rw[hE];decide);rw[hE]at hRe;subst hRe;simp only[go_sem];refine hret _ ?_;simp only[go_sem];rfl
  rw[h4,if_neg (by decide)]at hE;have hkg:=inR_iff.1 h4;have hm:=jc5 hS [x.dep,x.day,x.fr];have hT1:Shape 3 (mput (MT (l.take i)) [x.dep,x.day,x.fr] [vof (MT (l.take i)) [x.dep,x.day,x.fr]-x.kg]):=jc0 hS rfl rfl;have hm2:=jc5 hT1 [x.dep,x.day,x.to];have hT:MT (l.take (i+1))=mput (mput (MT (l.take i)) [x.dep,x.day,x.fr] [vof (MT (l.take i)) [x.dep,x.day,x.fr]-x.kg]) [x.dep,x.day,x.to] [vof (mput (MT (l.take i)) [x.dep,x.day,x.fr] [vof (MT (l.take i)) [x.dep,x.day,x.fr]-x.kg]) [x.dep,x.day,x.to]+x.kg]:=hT;have hne:[x.dep,x.day,x.to]≠[x.dep,x.day,x.fr]:=fun e=>by
   simp only[List.cons.injEq,and_true,true_and]at e;exact h3 e.symm
  have hv2:vof (mput (MT (l.take i)) [x.dep,x.day,x.fr] [vof (MT (l.take i)) [x.dep,x.day,x.fr]-x.kg]) [x.dep,x.day,x.to]=vof (MT (l.take i)) [x.dep,x.day,x.to]:=by rw[je7,if_neg hne]
  have hb1:=hB [x.dep,x.day,x.fr];have hb2:=hB [x.dep,x.day,x.to];rw[hv2]at hT hm2;generalize vof (MT (l.take i)) [x.dep,x.day,x.fr]=v1 at*;generalize vof (MT (l.take i)) [x.dep,x.day,x.to]=v2 at*;generalize hT2:MT (l.take (i+1))=T2 at*;generalize MT (l.take i)=T1 at*;have w1:=jad (n:=v1-x.kg) (by omega);have w2:=jad (n:=v2+x.kg) (by omega);generalize hT1':mput T1 [x.dep,x.day,x.fr] [v1-x.kg]=T1' at*;simp only[go_sem];refine jdx 14 12 13 29 T1 [x.dep,x.day,x.fr] rfl rfl rfl (by decide+kernel) (by decide) rfl rfl rfl (by decide+kernel) rfl ?_;rcases hm with hm | ⟨hm,rfl⟩
  ·simp only[hm,w1,hT1',go_sem];refine jdx 14 12 13 29 T1' [x.dep,x.day,x.to] rfl rfl rfl (by decide+kernel) (by decide) rfl rfl rfl (by decide+kernel) rfl ?_;rcases hm2 with hm2 | ⟨hm2,rfl⟩
   ·simp only[hm2,w2,hT.symm,go_sem];refine jaa (i+1) ?_ (by omega) ⟨by omega,hE0 hE⟩;simp only[hw,hT2,Int.natCast_add,go_sem]
   ·simp only[hm2,w2,hT.symm,go_sem];refine jaa (i+1) ?_ (by omega) ⟨by omega,hE0 hE⟩;simp only[hw,hT2,Int.natCast_add,go_sem]
  ·simp only[hm,w1,hT1',go_sem];refine jdx 14 12 13 29 T1' [x.dep,x.day,x.to] rfl rfl rfl (by decide+kernel) (by decide) rfl rfl rfl (by decide+kernel) rfl ?_;rcases hm2 with hm2 | ⟨hm2,rfl⟩
   ·simp only[hm2,w2,hT.symm,go_sem];refine jaa (i+1) ?_ (by omega) ⟨by omega,hE0 hE⟩;simp only[hw,hT2,Int.natCast_add,go_sem]
   ·simp only[hm2,w2,hT.symm,go_sem];refine jaa (i+1) ?_ (by omega) ⟨by omega,hE0 hE⟩;simp only[hw,hT2,Int.natCast_add,go_sem]
 ·have hd:decide ((i:Int)<l.length)=false:=decide_eq_false hp;obtain rfl:i=l.length:=by omega
  simp only[hd,go_sem];refine hQ he _ (le_of [1,2,4,7,8] [2,4,29] ?_);simp only[go_sem]
end
end
section
open Go.Abs Go.LQ
attribute [local go_sem] ints ic qC rtC kC xC
section
variable{r:Rts}{l:List Trn}{R:Rts×Int×Int}
theorem tr_C(hR:TradeF r l R)(h1:∀j,j<l.length->err1 r l j=0)(hl:l.length<=40){Q:Exit->St->Prop}(hret:∀s,QT R .ret s->Q .ret s)
  (hQ:(∀j,j<l.length->err2 r l j=0)->∀s,St.Le s (SD (.sl (l.map xC)) (rtC r) zC (movT (tabL r.held) l))->Q .normal s):
  awp G (putN 1 (tailN 4 (jbd Try.f9)) .skip) Q (SB (.sl (l.map xC)) (rtC r) (movT (tabL r.held) l) (tabL r.used)):=by
 have hf2:=hR.f2 h1;have hs1:Shape 3 (movT (tabL r.held) l):=jdm _ (jat _);have hs2:=jat r.used;have hE:∀i,err2 r l i=if vof (movT (tabL r.held) l) [(l.getD i x0).dep,(l.getD i x0).day,(l.getD i x0).fr]<vof (tabL r.used) [(l.getD i x0).dep,(l.getD i x0).day,(l.getD i x0).fr]then 7 else 0:=fun i=>rfl
 have hRC:∃a b c d,rtC r=[.int a,.sl b,.sl c,.sl d]:=⟨_,_,_,_,rfl⟩;obtain⟨rn,rc,rh,ru,hRC⟩:=hRC;unfold SD zC at hQ;unfold SB zC;rw[hRC]at hQ⊢;generalize movT (tabL r.held) l=T at*;generalize tabL r.used=U at*;refine jcs rfl ?_;simp only[List.length_map,go_sem];refine jbb [1,2,4,7,8,106,107,108] [2,4,29] (fun i:Nat=>⟨[(1,.im (.sl (l.map xC))),(2,.loc 2 4 0 0),(4,.loc 4 4 0 0),(7,.mpo 29 (3,true) T),(8,.im (.mp (3,true) U)),(106,.im (.sl (l.map xC))),(107,.im (.int l.length)),(108,.im (.int i))],[(4,4,[[.int 0,.sl [],.sl [],.sl []]]),(2,4,[[.int rn,.sl rc,.sl rh,.sl ru]])],[(29,0,0)]⟩)
  (fun i=>i<=l.length/\∀j,j<i->err2 r l j=0) (fun i=>l.length-i) 0 ?_ ⟨Nat.zero_le _,fun j hj=>absurd hj (by omega)⟩ ?_
 ·simp only[Int.natCast_zero,go_sem]
 intro i ⟨hi,he⟩;by_cases hp:(i:Int)<l.length
 ·have hd:decide ((i:Int)<l.length)=true:=decide_eq_true hp;have hi0:(0:Int)<=i:=by omega
  have hn:((i:Nat):Int).toNat=i:=Int.toNat_natCast i;have hx:l[i]? =some (l.getD i x0):=by rw[gD _ (by omega)];exact List.getElem?_eq_getElem (by omega)
  have hw:=jad (n:=(i:Int)+1) (by omega);have hf:=hf2 i (by omega) he;have hE:=hE i;have hE0:err2 r l i=0->∀j,j<i+1->err2 r l j=0:=fun h j hj=>by
   by_cases e:j=i
   ·rw[e];exact h
   ·exact he j (by omega)
  generalize l.getD i x0=x at*;have hm:=jc5 hs1 [x.dep,x.day,x.fr];have hm2:=jc5 hs2 [x.dep,x.day,x.fr];generalize vof T [x.dep,x.day,x.fr]=v1 at*;generalize vof U [x.dep,x.day,x.fr]=v2 at*;simp only[hd,hi0,hp,hn,List.getElem?_map,hx,List.length_map,go_sem];refine jb0 7 (by decide+kernel) ?_;rcases hm with hm | ⟨hm,rfl⟩
  ·rcases hm2 with hm2 | ⟨hm2,rfl⟩
   ·simp only[hm,hm2,go_sem];refine jcr (fun d3 h3=> ?_) (fun d3 h3=> ?_)
    ·simp only[go_sem];rw[if_pos h3]at hE;have hRe:=hf (by rw[hE];decide);subst hRe;refine hret _ ?_;simp only[go_sem];rfl
    ·simp only[go_sem];rw[if_neg h3]at hE;refine jaa (i+1) ?_ (by omega) ⟨by omega,hE0 hE⟩;simp only[hw,Int.natCast_add,go_sem]
   ·simp only[hm,hm2,go_sem];refine jcr (fun d3 h3=> ?_) (fun d3 h3=> ?_)
    ·simp only[go_sem];rw[if_pos h3]at hE;have hRe:=hf (by rw[hE];decide);subst hRe;refine hret _ ?_;simp only[go_sem];rfl
    ·simp only[go_sem];rw[if_neg h3]at hE;refine jaa (i+1) ?_ (by omega) ⟨by omega,hE0 hE⟩;simp only[hw,Int.natCast_add,go_sem]
  ·rcases hm2 with hm2 | ⟨hm2,rfl⟩
   ·simp only[hm,hm2,go_sem];refine jcr (fun d3 h3=> ?_) (fun d3 h3=> ?_)
    ·simp only[go_sem];rw[if_pos h3]at hE;have hRe:=hf (by rw[hE];decide);subst hRe;refine hret _ ?_;simp only[go_sem];rfl
    ·simp only[go_sem];rw[if_neg h3]at hE;refine jaa (i+1) ?_ (by omega) ⟨by omega,hE0 hE⟩;simp only[hw,Int.natCast_add,go_sem]
   ·simp only[hm,hm2,go_sem];rw[if_neg (by omega)]at hE;refine jaa (i+1) ?_ (by omega) ⟨by omega,hE0 hE⟩;simp only[hw,Int.natCast_add,go_sem]
 ·have hd:decide ((i:Int)<l.length)=false:=decide_eq_false hp;obtain rfl:i=l.length:=by omega
  simp only[hd,go_sem];refine hQ he _ (le_of [1,2,4,7] [2,4,29] ?_);simp only[go_sem]
theorem tr_E(h:RightQ r)(hR:R=if 300<((nz (movT (tabL r.held) l)).length:Int)then(Rts.zero,6,(l.length:Int))else(r.after l,0,(l.length:Int)))(hl:l.length<=40):
  awp G (tailN 6 (jbd Try.f9)) (QT R) (SD (.sl (l.map xC)) (rtC r) zC (nz (movT (tabL r.held) l))):=by
 obtain⟨l1,l2,l3⟩:=h.lens;have kc:=jjz r (by omega) (by omega) (by omega);have hlen:(nz (movT (tabL r.held) l)).length<=100000:=by
  have h1:=mov_len l (tabL r.held);have h2:(tabL r.held).length=r.held.length:=List.length_map ..;have h3:(nz (movT (tabL r.held) l)).length<=(movT (tabL r.held) l).length:=List.length_filter_le _ _;omega
 have kq:=jjx (nz (movT (tabL r.held) l)) (nz_shape (jdm _ (jat _))) (nz_dist (jhv _ h.held.asc.dist)) hlen;have hra:r.after l=⟨r.n,r.cap,quoL (nz (movT (tabL r.held) l)),r.used⟩:=rfl;rw[hra]at hR;unfold SD zC;generalize nz (movT (tabL r.held) l)=T at*;unfold rtC ints at*;unfold QT tR;refine tail_go rfl ?_;by_cases hf:300<(T.length:Int)
 ·have hd:decide (300<(T.length:Int))=true:=decide_eq_true hf;rw[if_pos hf]at hR;subst hR;simp only[hd,List.length_map,go_sem];rfl
 ·have hd:decide (300<(T.length:Int))=false:=decide_eq_false hf;rw[if_neg hf]at hR;subst hR;simp only[hd,List.length_map,go_sem];refine ja0 kc (by decide) ?_;simp only[go_sem];refine ja0 kq (by decide) ?_;simp only[List.length_map,go_sem]
end
theorem jjg(r:Rts)(l:List Trn)(hc:r.cap.length<=100000)(hh:r.held.length<=100000)(hu:r.used.length<=100000)(hll:l.length<=100000):Ctr G.P 9 [.agg (rtC r),.sl (l.map xC)] (· =tR (jav r l)):=by
 by_cases h:jao r=0
 case neg=>rw[trade_f1 h];exact q_trade0 r l hc hh hu h
 by_cases hl:40<(l.length:Int)
 ·rw[trade_f2 h hl];exact q_trade1 r l hc hh hu h hl
 have hl:l.length<=40:=by omega
 have hr:=checkQ_zero.1 h;have hR:=trade_f h hl;refine ctr_sem (c:=tailN 0 (jbd Try.f9)) [.cell 4 25,.tmp 5,.tmp 6] Try.func9 rfl rfl (by decide+kernel) (Nat.le_of_ble_eq_true rfl) ?_;refine SemC.cutsF good (fun _:Unit=>SB (.sl (l.map xC)) (rtC r) (tabL r.held) (tabL r.used)) (fun _=>True) 3 rfl (by decide+kernel) (tr_A hr hl fun s hs=>⟨(),trivial,hs⟩) fun _ _=> ?_;rw[jc6];refine SemC.cutsF good (fun _:Unit=>SB (.sl (l.map xC)) (rtC r) (movT (tabL r.held) l) (tabL r.used)) (fun _=>∀j,j<l.length->err1 r l j=0) 1 rfl (by decide+kernel) (tr_B hr hl hR (fun s hs=>hs) fun he s hs=>⟨(),he,hs⟩) fun _ he1=> ?_;rw[jc6];refine SemC.cutsF good (fun _:Unit=>SD (.sl (l.map xC)) (rtC r) zC (movT (tabL r.held) l)) (fun _=>∀j,j<l.length->err2 r l j=0) 1 rfl (by decide+kernel) (tr_C hR he1 hl (fun s hs=>hs) fun he s hs=>⟨(),he,hs⟩) fun _ he2=> ?_;rw[jc6];have hcode:tailN 5 (tailN 0 (jbd Try.f9))=Code.seq (inL (tailN 5 (jbd Try.f9))) (tailN 6 (jbd Try.f9)):=rfl;rw[show(0+3+1+1:Nat)=5 from rfl];refine(congrArg (fun c=>SemC G 155 c _ _) hcode).mpr ?_;refine SemC.seq (del_sem (jdm _ (jat _)) (jhv _ hr.held.asc.dist) ?_);exact SemC.awp good (by decide+kernel) (tr_E hr (hR.f3 he1 he2) hl)
end
end Go.Proofs.Ythahgoopboilkaa
namespace Go.LQ
section
theorem jf3{f:Int->Int}(h:∀c,0<=f c/\f c<=1000000):∀n:Nat,0<=csum f n/\csum f n<=1000000*(n:Int)
 | 0=>by simp[csum]
 | n+1=>by
  have h1:=jf3 h n;have h2:=h n;rw[csum];omega
def hvK(r:Rts)(d y c:Int):Int:=vof (tabL r.held) [d,y,c]
def lfK(r:Rts)(d y c:Int):Int:=vof (tabL r.held) [d,y,c]-vof (tabL r.used) [d,y,c]
theorem RightQ.hv{r:Rts}(h:RightQ r)(d y c:Int):0<=hvK r d y c/\hvK r d y c<=1000000:=⟨jbo h.held,h.vof_cap _⟩
theorem RightQ.lf{r:Rts}(h:RightQ r)(d y c:Int):0<=lfK r d y c/\lfK r d y c<=1000000:=by
 have h1:=h.use_le [d,y,c];have h2:=h.vof_cap [d,y,c];have h3:=jbo h.used (k:=[d,y,c]);unfold lfK;omega
theorem RightQ.heldE{r:Rts}(h:RightQ r)(c d y:Int):heldQ r c d y=hvK r d y c:=by unfold heldQ;rw[if_neg (fun e=>e (checkQ_zero.2 h))];rfl
theorem RightQ.leftE{r:Rts}(h:RightQ r)(c d y:Int):leftQ r c d y=lfK r d y c:=by unfold leftQ;rw[if_neg (fun e=>e (checkQ_zero.2 h))];rfl
def hvS(r:Rts)(d y:Int):Int:=csum (hvK r d y) r.n.toNat
def lfS(r:Rts)(d y:Int):Int:=csum (lfK r d y) r.n.toNat
theorem RightQ.hvS_psum{r:Rts}(h:RightQ r)(d y:Int):hvS r d y=psum r.held d y:=(h.held.psum d y).symm
theorem spent_lf{r:Rts}{c d y k:Int}(h:RightQ r)(d' y' c':Int):lfK (r.spent c d y k) d' y' c'=lfK r d' y' c'-if [d',y',c']=[d,y,c]then k else 0:=by
 unfold lfK;rw[jg1 h];show vof (tabL r.held) _-_=_;omega
end
section
structure Loan where
 dev:Int
 units:Int
 spent:Int
 back:Bool
structure Stk where
 total:Int
 spent:Int
 loans:List Loan
def fineL(n:Int):Bool:=decide (1<=n)&&decide (n<=1099511627776)
def jax(l:Loan):Bool:=decide (0<=l.dev)&&(decide (l.dev<8)&&(fineL l.units&&(decide (0<=l.spent)&&decide (l.spent<=l.units))))
theorem fineL_iff{n:Int}:fineL n=true↔1<=n/\n<=1099511627776:=by simp[fineL]
theorem rightL_iff{l:Loan}:jax l=true↔0<=l.dev/\l.dev<8/\(1<=l.units/\l.units<=1099511627776)/\0<=l.spent/\l.spent<=l.units:=by
 simp[jax,fineL]
def comL(l:Loan):Int:=if l.back=true then l.spent else l.units
def l0:Loan:=⟨0,0,0,false⟩
def leftL(s:Stk)(i:Nat):Int:=s.total-s.spent-((s.loans.take i).map comL).sum
def jgw(s:Stk):Bool:=decide (s.total<0) || (decide (1099511627776<s.total) || (decide (s.spent<0) || (decide (s.total<s.spent) || decide (100<(s.loans.length:Int)))))
structure StkOk(s:Stk):Prop where
 total:0<=s.total/\s.total<=1099511627776
 spent:0<=s.spent/\s.spent<=s.total
 len:s.loans.length<=100
 loans:∀l∈s.loans,jax l=true
 left:0<=leftL s s.loans.length
theorem jh7{s:Stk}{i:Nat}(h:i<s.loans.length):leftL s (i+1)=leftL s i-comL (s.loans.getD i l0):=by
 unfold leftL;have:s.loans.take (i+1)=s.loans.take i++[s.loans.getD i l0]:=by rw[List.take_add_one,gD _ h,List.getElem?_eq_getElem h];rfl
 rw[this,List.map_append,List.sum_append];simp;omega
theorem comL_bd{l:Loan}(h:jax l=true):0<=comL l/\comL l<=1099511627776:=by
 have:=rightL_iff.1 h;unfold comL;split<;>omega
theorem ji3{l:List Loan}{i:Nat}(h:i<l.length):l.getD i l0∈l:=by rw[gD _ h];exact List.getElem_mem h
theorem jk5{s:Stk}(h1:0<=s.total/\s.total<=1099511627776)(h2:0<=s.spent/\s.spent<=s.total)(h3:∀l∈s.loans,jax l=true):∀i:Nat,i<=s.loans.length->leftL s i<=1099511627776/\ -(1099511627776*(i:Int))<=leftL s i
 | 0,_=>by simp[leftL];omega
 | i+1,h=>by
  have ih:=jk5 h1 h2 h3 i (by omega);rw[jh7 (by omega)];have:=comL_bd (h3 _ (ji3 (l:=s.loans) (i:=i) (by omega)));omega
def freeL(s:Stk):Int×Bool:=if jgw s=true then(0,false)else if s.loans.all jax=true then(leftL s s.loans.length,decide (0<=leftL s s.loans.length))else(0,false)
theorem wrongS_no{s:Stk}:jgw s=false↔(0<=s.total/\s.total<=1099511627776)/\(0<=s.spent/\s.spent<=s.total)/\s.loans.length<=100:=by
 unfold jgw;simp only[Bool.or_eq_false_iff,decide_eq_false_iff_not];omega
theorem ji5{s:Stk}(h:StkOk s):freeL s=(leftL s s.loans.length,true):=by
 unfold freeL;rw[if_neg (by rw[wrongS_no.2 ⟨h.total,h.spent,h.len⟩];decide),if_pos (List.all_eq_true.2 h.loans),decide_eq_true h.left]
theorem freeL_iff{s:Stk}:(freeL s).2=true↔StkOk s:=by
 constructor
 ·intro h;unfold freeL at h;split at h
  ·cases h
  ·rename_i h1;split at h
   ·rename_i h2;obtain⟨a,b,c⟩:=wrongS_no.1 (by simpa using h1);exact⟨a,b,c,List.all_eq_true.1 h2,of_decide_eq_true h⟩
   ·cases h
 ·intro h;rw[ji5 h]
def jbq(l:Loan)(u:Int):Loan×Int:=if jax l=false\/fineL u=false then(l0,1)else if l.back=true then(l0,7)else if l.units-l.spent<u then(l0,6)else({l with spent:=l.spent+u},0)
def stk0:Stk:=⟨0,0,[]⟩
def newL(d u:Int):Loan:=⟨d,u,0,false⟩
def lendL(s:Stk)(d u:Int):Stk×Int:=if(freeL s).2=false\/jax (newL d u)=false then(stk0,1)else if(freeL s).1<u\/s.loans.length=100 then(stk0,6)else({s with loans:=s.loans++[newL d u]},0)
end
end Go.LQ
namespace Go.Proofs.Ythahgoopboilkaa
section
open Go.Abs Go.LQ
attribute [local go_sem] ints ic qC rtC kC xC
def loC(l:Loan):List IV:=[.int l.dev,.int l.units,.int l.spent,.bool l.back]
def skC(s:Stk):List IV:=[.int s.total,.int s.spent,.sl (s.loans.map loC)]
theorem l_fine(n:Int):Ctr G.P 32 [.int n] (· = .bool (fineL n)):=by
 refine ja8 good _ _ [.tmp 2] Try.func32 rfl rfl (by decide+kernel) rfl ?_;simp only[go_sem];refine Two_of (fun d=> ?_) (fun d=> ?_)
 ·simp only[d,go_sem];rw[fineL,d];rfl
 ·simp only[d,go_sem];rw[fineL,d];rfl
theorem l_committed(l:Loan):Ctr G.P 41 [.agg (loC l)] (· = .int (comL l)):=by
 unfold loC comL;cases l.back
 ·refine ja8 good _ _ [.tmp 2] Try.func41 rfl rfl (by decide+kernel) rfl ?_;simp only[go_sem]
 ·refine ja8 good _ _ [.tmp 2] Try.func41 rfl rfl (by decide+kernel) rfl ?_;simp only[go_sem]
theorem ji0(l:Loan):Ctr G.P 30 [.agg (loC l)] (· = .bool (jax l)):=by
 have kf:=l_fine l.units;unfold loC jax;cases h1:decide (0<=l.dev)
 ·refine ja8 good _ _ [.tmp 2] Try.func30 rfl rfl (by decide+kernel) rfl ?_;simp only[h1,go_sem]
 cases h2:decide (l.dev<8)
 ·refine ja8 good _ _ [.tmp 2] Try.func30 rfl rfl (by decide+kernel) rfl ?_;simp only[h1,h2,go_sem]
 cases h3:fineL l.units
 ·rw[h3]at kf;refine ja8 good _ _ [.tmp 2] Try.func30 rfl rfl (by decide+kernel) rfl ?_;simp only[h1,h2,go_sem];refine ja0 kf (by decide) ?_;simp only[go_sem]
 rw[h3]at kf;cases h4:decide (0<=l.spent)
 ·refine ja8 good _ _ [.tmp 2] Try.func30 rfl rfl (by decide+kernel) rfl ?_;simp only[h1,h2,go_sem];refine ja0 kf (by decide) ?_;simp only[h4,go_sem]
 ·refine ja8 good _ _ [.tmp 2] Try.func30 rfl rfl (by decide+kernel) rfl ?_;simp only[h1,h2,go_sem];refine ja0 kf (by decide) ?_;simp only[h4,go_sem]
end
section
open Go.Abs Go.LQ
attribute [local go_sem] ints ic qC rtC kC xC loC skC
theorem l_free0(s:Stk)(h:jgw s=true):Ctr G.P 29 [.agg (skC s)] (· = .tup [.int 0,.bool false]):=by
 have hw:(decide (s.total<0) || (decide (1099511627776<s.total) || (decide (s.spent<0) || (decide (s.total<s.spent) || decide (100<(s.loans.length:Int))))))=true:=h;unfold skC;have h1:True:=trivial;have h2:True:=trivial;have h3:True:=trivial;have h4:True:=trivial;have h5:True:=trivial;cases h1:decide (s.total<0)
 case true=>
  refine ja8 good _ _ [.tmp 2,.tmp 3] Try.func29 rfl rfl (by decide+kernel) rfl ?_;simp only[h1,h2,h3,h4,h5,List.length_map,go_sem]
 cases h2:decide (1099511627776<s.total)
 case true=>
  refine ja8 good _ _ [.tmp 2,.tmp 3] Try.func29 rfl rfl (by decide+kernel) rfl ?_;simp only[h1,h2,h3,h4,h5,List.length_map,go_sem]
 cases h3:decide (s.spent<0)
 case true=>
  refine ja8 good _ _ [.tmp 2,.tmp 3] Try.func29 rfl rfl (by decide+kernel) rfl ?_;simp only[h1,h2,h3,h4,h5,List.length_map,go_sem]
 cases h4:decide (s.total<s.spent)
 case true=>
  refine ja8 good _ _ [.tmp 2,.tmp 3] Try.func29 rfl rfl (by decide+kernel) rfl ?_;simp only[h1,h2,h3,h4,h5,List.length_map,go_sem]
 cases h5:decide (100<(s.loans.length:Int))
 case true=>
  refine ja8 good _ _ [.tmp 2,.tmp 3] Try.func29 rfl rfl (by decide+kernel) rfl ?_;simp only[h1,h2,h3,h4,h5,List.length_map,go_sem]
 rw[h1,h2,h3,h4,h5]at hw;cases hw
theorem l_free1(s:Stk)(h:jgw s=false):Ctr G.P 29 [.agg (skC s)] (· = .tup [.int (freeL s).1,.bool (freeL s).2]):=by
 obtain⟨ht,hs,hn⟩:=wrongS_no.1 h;have h1:decide (s.total<0)=false:=decide_eq_false (by omega);have h2:decide (1099511627776<s.total)=false:=decide_eq_false (by omega);have h3:decide (s.spent<0)=false:=decide_eq_false (by omega);have h4:decide (s.total<s.spent)=false:=decide_eq_false (by omega);have h5:decide (100<(s.loans.length:Int))=false:=decide_eq_false (by omega);have w0:=jad (n:=s.total-s.spent) (by omega);have hl0:s.total-s.spent=leftL s 0:=by simp[leftL]
 have hfree:∀i,i<s.loans.length->jax (s.loans.getD i l0)=false->freeL s=(0,false):=fun i hi hr=>by
  unfold freeL;rw[if_neg (by rw[h];decide),if_neg (fun e=>by
   have:=List.all_eq_true.1 e _ (ji3 hi);rw[hr]at this;cases this)]
 have hfull:(∀j,j<s.loans.length->jax (s.loans.getD j l0)=true)->freeL s=(leftL s s.loans.length,decide (0<=leftL s s.loans.length)):=fun hr=>by
  unfold freeL;rw[if_neg (by rw[h];decide),if_pos (List.all_eq_true.2 fun x hx=>by
   obtain⟨j,hj,rfl⟩:=List.mem_iff_getElem.1 hx;have:=hr j hj;rw[gD _ hj]at this;exact this)]
 have hbd:∀i,i<=s.loans.length->(∀j,j<i->jax (s.loans.getD j l0)=true)->leftL s i<=1099511627776/\ -(1099511627776*(i:Int))<=leftL s i:=fun i hi hr=>by
  have:=jk5 (s:=⟨s.total,s.spent,s.loans.take i⟩) ht hs (fun x hx=>by
   obtain⟨j,hj,rfl⟩:=List.mem_iff_getElem.1 hx;have hj':j<i:=by rw[List.length_take]at hj;omega
   have:=hr j hj';rw[gD _ (by omega)]at this;rw[List.getElem_take];exact this) i (by rw[List.length_take];omega)
  have e:leftL ⟨s.total,s.spent,s.loans.take i⟩ i=leftL s i:=by unfold leftL;rw[List.take_take,Nat.min_self]
  rw[e]at this;exact this
 have hsucc:∀i,i<s.loans.length->leftL s (i+1)=leftL s i-comL (s.loans.getD i l0):=fun i hi=>jh7 hi;generalize freeL s=R at*;unfold skC;generalize leftL s=lf at*;generalize hL:s.loans=L at*;generalize s.total=tot at*;generalize s.spent=spt at*;clear h hL;rw[hl0]at w0;refine ja8 good _ _ [.tmp 2,.tmp 3] Try.func29 rfl rfl (by decide+kernel) rfl ?_;simp only[h1,h2,h3,h4,h5,w0,hl0,List.length_map,go_sem];refine jbb [4,39,40,41] [] (fun i:Nat=>⟨[(4,.im (.int (lf i))),(39,.im (.sl (L.map loC))),(40,.im (.int L.length)),(41,.im (.int i))],[],[]⟩)
  (fun i=>i<=L.length/\∀j,j<i->jax (L.getD j l0)=true) (fun i=>L.length-i) 0 ?_ ⟨Nat.zero_le _,fun j hj=>absurd hj (by omega)⟩ ?_
 ·simp only[Int.natCast_zero,go_sem]
 intro i ⟨hi,hr⟩;by_cases hp:(i:Int)<L.length
 ·have hd:decide ((i:Int)<L.length)=true:=decide_eq_true hp;have hi0:(0:Int)<=i:=by omega
  have hn:((i:Nat):Int).toNat=i:=Int.toNat_natCast i;have hx:L[i]? =some (L.getD i l0):=by rw[gD _ (by omega)];exact List.getElem?_eq_getElem (by omega)
  have hw:=jad (n:=(i:Int)+1) (by omega);have hF:=hfree i (by omega);have hS:=hsucc i (by omega);have hB:=hbd i (by omega) hr;have kr:=ji0 (L.getD i l0);have kc:=l_committed (L.getD i l0);have hB2:=fun hr2=>hbd (i+1) (by omega) hr2;have hr2:jax (L.getD i l0)=true->∀j,j<i+1->jax (L.getD j l0)=true:=fun h j hj=>by
   by_cases e:j=i
   ·rw[e];exact h
   ·exact hr j (by omega)
  generalize L.getD i l0=x at*;cases hb:jax x
  ·rw[hb]at kr;have hRe:=hF hb;subst hRe;simp only[hd,hi0,hp,hn,List.getElem?_map,hx,List.length_map,go_sem];refine ja0 kr (by decide) ?_;simp only[go_sem]
  ·rw[hb]at kr;have hB3:=hB2 (hr2 hb);have w1:=jad (n:=lf i-comL x) (by omega);simp only[hd,hi0,hp,hn,List.getElem?_map,hx,List.length_map,go_sem];refine ja0 kr (by decide) ?_;simp only[go_sem];refine ja0 kc (by decide) ?_;simp only[w1,go_sem];refine jaa (i+1) ?_ (by omega) ⟨by omega,hr2 hb⟩;simp only[hw,hS,Int.natCast_add,go_sem]
 ·have hd:decide ((i:Int)<L.length)=false:=decide_eq_false hp;obtain rfl:i=L.length:=by omega
  rw[hfull hr];simp only[hd,go_sem]
theorem l_free(s:Stk):Ctr G.P 29 [.agg (skC s)] (· = .tup [.int (freeL s).1,.bool (freeL s).2]):=by
 cases h:jgw s with
 | false=>exact l_free1 s h
 | true=>
  have:freeL s=(0,false):=by unfold freeL;rw[if_pos h]
  rw[this];exact l_free0 s h
theorem l_Right(s:Stk):Ctr G.P 33 [.agg (skC s)] (· = .bool (freeL s).2):=by
 have k:=l_free s;unfold skC at*;generalize freeL s=R at*;refine ja8 good _ _ [.tmp 2] Try.func33 rfl rfl (by decide+kernel) rfl ?_;simp only[go_sem];refine ja0 k (by decide) ?_;simp only[go_sem]
