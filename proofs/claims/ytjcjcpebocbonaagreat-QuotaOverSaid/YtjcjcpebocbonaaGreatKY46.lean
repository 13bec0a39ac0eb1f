/- A part of the proof. No further condition. -/
import Derived.Test.YtjcjcpebocbonaaGreatKY45
set_option linter.all false
set_option maxRecDepth 10000000
set_option maxHeartbeats 16000000
namespace Go.Proofs.YtjcjcpebocbonaaGreat
section
set_option maxRecDepth 1000000
open Go.RowKit Go.Shelf Go.LQ Go.Maps
open Go.Abs (IV AV Rep RepL Ctr St Sim Base SemC liftQ tailN jd2 inL keyV elemV Ents Born Mo)
attribute [local go_sem] Oper.semAt_some
structure KX(b:Nat)(w w':World):Prop where
 g:w.grownBy w' (some b)
theorem KX.trans{b:Nat}{w1 w2 w3:World}(h:KX b w1 w2)(h':KX b w2 w3):KX b w1 w3:=
 let⟨⟨a1,a2,a3,a4,a5⟩⟩:=h
 let⟨⟨b1,b2,b3,b4,b5⟩⟩:=h'
 ⟨⟨b1.trans a1,b2.trans a2,b3.trans a3,qI a4 b4,fun k hk a6=>(b5 k (qv hk a4) a6).trans (a5 k hk a6)⟩⟩
theorem KX.blk{b:Nat}{w w':World}(h:KX b w w'){k:Nat}(hk:k<w.heap.size)(a1:k≠b):w'.heap[k]? =w.heap[k]? :=h.g.block k hk (fun e=>a1 (by cases e;rfl))
theorem KX.set{b:Nat}(w:World)(o:Obj):KX b w (ChangeMaps.setBlock w b o):=⟨⟨rfl,rfl,rfl,by simp[ChangeMaps.setBlock],fun k hk a1=>by
 show(w.heap.setIfInBounds b o)[k]? =_;rw[qk (fun e=>a1 (by rw[e]))]⟩⟩
theorem filter_all_eq{es:List MapEntry}(h:(es.map (·.born)).Nodup){cur:List MapEntry}(hs:cur.Sublist es)(h1:∀x∈es,x∈cur\/decV x.val=0)(h2:∀x∈cur,decV x.val≠0):cur=es.filter fun e=> !decide (decV e.val=0):=by
 refine jjf hs (jq6 h) fun x hx=>⟨fun hm=>by rw[zh (h2 x hm)];rfl,fun hd=>(h1 x hx).resolve_right fun e=> ?_⟩;rw[zp e]at hd;exact absurd hd (by decide)
theorem list_fn(l:List Value)(n:Nat)(h:l.length=n):∃z:Nat->Value,l=(List.range n).map z:=⟨fun i=>l.getD i undef,ju fun i=>by
 rw[zq];by_cases hi:i<n
 ·rw[je hi,Option.map_some,zW,za (by omega)];rfl
 ·rw[qo (by omega),qo (by rw[q9];omega)];rfl⟩
theorem del_loop(tl:List Value)(hl:tl.length=155)(W:World)(b cl:Nat)(es:Array MapEntry)(h7:tl[7]? =some (.map (some b)))(hb:W.heap[b]? =some (.map es cl))(hE:EInt es.toList)(l3:∀e∈es.toList,e.born<cl){Q:Exit->Act->World->Prop}
  (hQ:∀(a7:List Value) (W':World) (es':Array MapEntry),a7.length=155->a7[1]? =tl[1]? ->a7[2]? =tl[2]? ->a7[4]? =tl[4]? ->a7[7]? =tl[7]? ->W'.heap[b]? =some (.map es' cl)->es'.toList=es.toList.filter (fun e=> !decide (decV e.val=0))->KX b W W'->Q .normal {tmps:=a7.toArray,defers:=[]} W'):
  Code.wp Tryz.prog (inL (tailN 5 (jd2 Tryz.f20))) Q {tmps:=tl.toArray,defers:=[]} W:=by
 have hu:Tryz.prog.underlying 76=some (.map 80 3):=Tryz.underlying76;have e3:=run_range_map (P:=Tryz.prog) W 76 80 3 b es cl hu hb;obtain⟨z,hz⟩:=list_fn tl 155 hl;have hz:tl=[z 0,z 1,z 2,z 3,z 4,z 5,z 6,z 7,z 8,z 9,z 10,z 11,z 12,z 13,z 14,z 15,z 16,z 17,z 18,z 19,z 20,z 21,z 22,z 23,z 24,z 25,z 26,z 27,z 28,z 29,z 30,z 31,z 32,z 33,z 34,z 35,z 36,z 37,z 38,z 39,z 40,z 41,z 42,z 43,z 44,z 45,z 46,z 47,z 48,z 49,z 50,z 51,z 52,z 53,z 54,z 55,z 56,z 57,z 58,z 59,z 60,z 61,z 62,z 63,z 64,z 65,z 66,z 67,z 68,z 69,z 70,z 71,z 72,z 73,z 74,z 75,z 76,z 77,z 78,z 79,z 80,z 81,z 82,z 83,z 84,z 85,z 86,z 87,z 88,z 89,z 90,z 91,z 92,z 93,z 94,z 95,z 96,z 97,z 98,z 99,z 100,z 101,z 102,z 103,z 104,z 105,z 106,z 107,z 108,z 109,z 110,z 111,z 112,z 113,z 114,z 115,z 116,z 117,z 118,z 119,z 120,z 121,z 122,z 123,z 124,z 125,z 126,z 127,z 128,z 129,z 130,z 131,z 132,z 133,z 134,z 135,z 136,z 137,z 138,z 139,z 140,z 141,z 142,z 143,z 144,z 145,z 146,z 147,z 148,z 149,z 150,z 151,z 152,z 153,z 154]:=hz;have z7:z 7= .map (some b):=by rw[hz]at h7;simpa using h7
 rw[z7]at hz;subst hz;clear h7 hl hz;have hQ:∀(a7:List Value) (W':World) (es':Array MapEntry),a7.length=155->a7[1]? =some (z 1)->a7[2]? =some (z 2)->a7[4]? =some (z 4)->a7[7]? =some (.map (some b))->W'.heap[b]? =some (.map es' cl)->es'.toList=es.toList.filter (fun e=> !decide (decV e.val=0))->KX b W W'->Q .normal {tmps:=a7.toArray,defers:=[]} W':=hQ;refine(wpIn_wide (n:=10)).1 ?_;simp only[inL,Go.Abs.inR,tailN,jd2,Tryz.f20]
 gi_wp2
 obtain⟨w0,hw0⟩:∃w0,w0=W.alloc (.mapIter (some b) cl #[] cl):=⟨_,rfl⟩;have k9:KX b W w0:=by
  rw[hw0];have a6:=World.grownBy_alloc W (.mapIter (some b) cl #[] cl) none;exact⟨⟨a6.1,a6.2,a6.3,a6.size,fun k hk _=>a6.block k hk (by simp)⟩⟩
 have k4:w0.heap[W.heap.size]? =some (.mapIter (some b) cl #[] cl):=by rw[hw0];exact World.alloc_heap_new W _
 have l2:b<W.heap.size:=(zm.1 hb).1;have l4:w0.heap[b]? =some (.map es cl):=by
  rw[hw0,(World.grownBy_alloc W (.mapIter (some b) cl #[] cl) none).block b l2 (by simp)];exact hb
 rw[<-hw0];clear e3 hw0
 gi_loopw [14] (fun _ wr=>∃(seen:Array Nat) (last:Nat) (cur:Array MapEntry),wr.heap[W.heap.size]? =some (.mapIter (some b) cl seen last)/\cl<=last/\wr.heap[b]? =some (.map cur cl)/\cur.toList.Sublist es.toList/\
   (∀x∈es.toList,x∈cur.toList\/decV x.val=0)/\(∀x∈cur.toList,seen.contains x.born=true->decV x.val≠0)/\KX b W wr)
  (fun _ wr=>leftN b W.heap.size wr)
 case atStart=>exact⟨#[],cl,es,k4,zu _,l4,List.Sublist.refl _,fun x hx=> .inl hx,fun x _ h=>by simp at h,k9⟩
 case round=>
  obtain⟨seen,last,cur,hr,h5,c3,b1,b0,a8,b6⟩:=hrel;have c8:EInt cur.toList:=hE.sub b1;have e7:∀e∈cur.toList,e.born<cl:=fun e he=>l3 e (b1.subset he);rcases run_next_at (P:=Tryz.prog) wr 0 W.heap.size b cl last seen cur cl hr c3 e7 h5 with ⟨l5,c4⟩ | ⟨e,he,w1,c7,c4⟩
  ·have l0:cur.toList=es.toList.filter fun e=> !decide (decV e.val=0):=filter_all_eq hE.born b1 b0 fun x hx=>a8 x hx (by
    cases hc:seen.contains x.born with
    | true=>rfl
    | false=>
     have:x∈(leftOf cur seen).toList:=by
      unfold leftOf;rw[yT,jM];exact⟨hx,by rw[hc];rfl⟩
     have:=List.length_pos_of_mem this;rw[Array.length_toList]at this;omega)
   clear b0 a8
   gi_wp2
   exact hQ _ wr cur rfl rfl rfl rfl rfl c3 l0 b6
  ·have b3:e∈cur.toList:=(mem_left he).1;obtain⟨x,v,hx,hv⟩:=c8.kv e b3;have k5:seen.contains e.born=false:=by
    have:=he;unfold leftOf at this;rw[yT,jM]at this
    simpa using this.2
   have b8:w1.heap=wr.heap:=by rcases c7 with rfl | rfl<;>rfl
   obtain⟨w2,hw2⟩:∃w2,w2=ChangeMaps.setBlock w1 W.heap.size (Obj.mapIter (some b) cl (seen.push e.born) cl):=⟨_,rfl⟩;have k2:W.heap.size<wr.heap.size:=(zm.1 hr).1;have k3:W.heap.size≠b:=fun e=>by rw[e,c3]at hr;cases hr
   have e5:w2.heap[W.heap.size]? =some (.mapIter (some b) cl (seen.push e.born) cl):=by
    rw[hw2];show(w1.heap.setIfInBounds _ _)[_]? =_;rw[b8];simp[k2]
   have k1:w2.heap.size=wr.heap.size:=by
    rw[hw2];show(w1.heap.setIfInBounds _ _).size=_;rw[b8];simp
   have h2:∀k,k≠W.heap.size->w2.heap[k]? =wr.heap[k]? :=fun k h3=>by
    rw[hw2];show(w1.heap.setIfInBounds _ _)[k]? =_;rw[b8,qk (fun e=>h3 e.symm)]
   have k8:KX b W w2:=by
    refine⟨⟨?_,?_,?_,by rw[k1];exact b6.g.size,fun k hk h3=> ?_⟩⟩
    ·rw[hw2];rcases c7 with rfl | rfl<;>exact b6.g.os
    ·rw[hw2];rcases c7 with rfl | rfl<;>exact b6.g.tape
    ·rw[hw2];rcases c7 with rfl | rfl<;>exact b6.g.output
    ·rw[h2 k (by omega)];exact b6.g.block k hk h3
   have b9:w2.heap[b]? =some (.map cur cl):=(h2 b (fun e=>k3 e.symm)).trans c3;have l1:=run_entry_at (P:=Tryz.prog) w2 W.heap.size b cl seen cur cl e e5 b9 b3 c8.born;rw[<-hw2,hx,hv]at c4;rw[hx,hv]at l1;have h4:leftN b W.heap.size wr=(leftOf cur seen).size:=jis c3 hr;have k0:=left_shrinks cur seen e he;have h8:decV e.val=v:=by rw[hv];rfl
   have b7:∀n,(seen.push e.born).contains n=true->seen.contains n=true\/n=e.born:=fun n h=>by
    rw[contains_push,qp]at h;exact h.imp id fun h=>by simpa using h
   have b4:∀y∈cur.toList,y.born=e.born->y=e:=fun y hy h=>born_inj c8.born hy b3 h;clear hw2 c7 hr c3 h2 k5;obtain⟨w3,hw3⟩:∃w3,w3=w2.alloc (Obj.cells #[.int .i64 x.a,.int .i64 x.b,.int .i64 x.c] 80):=⟨_,rfl⟩;have a6:=World.grownBy_alloc w2 (Obj.cells #[.int .i64 x.a,.int .i64 x.b,.int .i64 x.c] 80) none;have h6:KX b W w3:=k8.trans (by rw[hw3];exact⟨⟨a6.os,a6.tape,a6.output,a6.size,fun k hk _=>a6.block k hk (by simp)⟩⟩);have e4:w3.heap[W.heap.size]? =some (.mapIter (some b) cl (seen.push e.born) cl):=by
    rw[hw3];exact(a6.block _ (zm.1 e5).1 (by simp)).trans e5
   have c6:w3.heap[b]? =some (.map cur cl):=by
    rw[hw3];exact(a6.block b (zm.1 b9).1 (by simp)).trans b9
   have e6:∀j u,[Value.int .i64 x.a,.int .i64 x.b,.int .i64 x.c][j]? =some u->w3.cell? ((⟨w2.heap.size,0,none⟩:Addr).add j)=some u:=by
    rw[hw3];exact ji1 w2 _ _ _ _
   have c0:w3.cell? ⟨w2.heap.size,0,none⟩=some (.int .i64 x.a):=e6 0 _ rfl;have c1:w3.cell? ⟨w2.heap.size,1,none⟩=some (.int .i64 x.b):=e6 1 _ rfl;have c2:w3.cell? ⟨w2.heap.size,2,none⟩=some (.int .i64 x.c):=e6 2 _ rfl;clear e6 a6;obtain⟨a1,c5,b2,b5⟩:=del_run c8 c6 b3 hx 0;have hle:=jis (c:=cl) (c':=cl) c6 e4;have k7:=KX.set (b:=b) w3 (.map a1 cl);have h0:(ChangeMaps.setBlock w3 b (.map a1 cl)).heap[W.heap.size]? =some (.mapIter (some b) cl (seen.push e.born) cl):=by
    show(w3.heap.setIfInBounds b _)[_]? =_;rw[qk (fun e=>k3 e.symm)];exact e4
   have h9:(ChangeMaps.setBlock w3 b (.map a1 cl)).heap[b]? =some (.map a1 cl):=by
    show(w3.heap.setIfInBounds b _)[_]? =_;simp[(zm.1 c6).1]
   have k6:=jis (c:=cl) (c':=cl) h9 h0;have e2:(leftOf a1 (seen.push e.born)).size<=(leftOf cur (seen.push e.born)).size:=by
    have hz:∀l:Array MapEntry,(leftOf l (seen.push e.born)).size=(l.toList.filter fun y=> !(seen.push e.born).contains y.born).length:=fun l=>by
     rw[<-Array.length_toList];unfold leftOf;rw[yT]
    rw[hz,hz];exact(b2.filter _).length_le
   have e0:v≠0->(∃(seen:Array Nat) (last:Nat) (cur:Array MapEntry),w3.heap[W.heap.size]? =some (.mapIter (some b) cl seen last)/\cl<=last/\w3.heap[b]? =some (.map cur cl)/\cur.toList.Sublist es.toList/\
     (∀x∈es.toList,x∈cur.toList\/decV x.val=0)/\(∀x∈cur.toList,seen.contains x.born=true->decV x.val≠0)/\KX b W w3)/\leftN b W.heap.size w3<leftN b W.heap.size wr:=fun e9=>
    ⟨⟨seen.push e.born,cl,cur,e4,zu _,c6,b1,b0,fun y hy h=>by
     rcases b7 _ h with h | h
     ·exact a8 y hy h
     ·rw[b4 y hy h,h8];exact e9,h6⟩,by rw[hle,h4];exact k0⟩
   have c9:v=0->(∃(seen:Array Nat) (last:Nat) (cur:Array MapEntry),(ChangeMaps.setBlock w3 b (.map a1 cl)).heap[W.heap.size]? =some (.mapIter (some b) cl seen last)/\cl<=last/\(ChangeMaps.setBlock w3 b (.map a1 cl)).heap[b]? =some (.map cur cl)/\cur.toList.Sublist es.toList/\
     (∀x∈es.toList,x∈cur.toList\/decV x.val=0)/\(∀x∈cur.toList,seen.contains x.born=true->decV x.val≠0)/\KX b W (ChangeMaps.setBlock w3 b (.map a1 cl)))/\leftN b W.heap.size (ChangeMaps.setBlock w3 b (.map a1 cl))<leftN b W.heap.size wr:=fun e9=>
    ⟨⟨seen.push e.born,cl,a1,h0,zu _,h9,b2.trans b1,fun y hy=>by
     rcases b0 y hy with h | h
     ·by_cases e1:y=e
      ·right;rw[e1,h8];exact e9
      ·exact .inl ((b5 y h).2 e1)
     ·exact .inr h,fun y hy h=>by
     have e8:=b2.subset hy;rcases b7 _ h with h | h
     ·exact a8 y e8 h
     ·exact absurd (b4 y e8 h) ((b5 y e8).1 hy),h6.trans k7⟩,by rw[k6,h4];omega⟩
   unfold KeyV.enc at c4 l1 c5;rw[hw3]at c5 e0 c9;clear b1 b0 a8 b6 c8 e7 he b3 hx hv b8 e5 k1 k8 b9 h4 k0 h8 b7 b4 hw3 h6 e4 c6 c0 c1 c2 b2 b5 hle k7 h0 h9 k6 e2 hE l3 k9 k4 l4 hQ
   gi_wp2_with (gi_at_delete;refine wpListIn_delete_at rfl (.tmp 139) (.tmp 140) 76 80 rfl rfl rfl (fun _=>c5) ?_)
   ·have hB:=c9 (by simp_all);exact⟨⟨_,_,_,_,_,_,_,_,_,_,_,hB.1,rfl⟩,hB.2⟩
   ·exact e0 (by simp_all)
end
section
set_option maxRecDepth 1000000
open Go.RowKit Go.LQ
open Go.Abs (IV AV Rep RepA Ctr St Sim Base SemC tailN jd2 inL keyV elemV Ents Born Mo look)
theorem sim_act{N:Nat}{w0:Base}{M0:Nat->Nat->Prop}{β:Nat->Option Nat}{st:St}{a a':Act}{w:World}(h:Sim N w0 M0 β st a w)(hN:a'.tmps.size=N)(hD:a'.defers=[])(he:∀t,st.get t≠ .und->a'.tmps.getD t undef=a.tmps.getD t undef):Sim N w0 M0 β st a' w:=
 ⟨hN,hD,h.below,h.m0,fun t=>by
  by_cases hu:st.get t= .und
  ·rw[hu];trivial
  ·rw[he t hu];exact h.fr t,h.rows,h.toks,h.inj,h.excl,h.nam,h.np,h.perm⟩
theorem ents_int{T:LQ.Tab}{es:Array MapEntry}{c:Nat}(hs:Shape 3 T)(hd:Dist T)(h:Ents (3,true) T es)(hb:Born es c):EInt es.toList:=by
 refine⟨fun e he=> ?_,?_,hb.1⟩
 ·have hm:(e.key,e.val)∈T.map fun p=>(keyV p.1,elemV true p.2):=by rw[<-h.2];exact z8.2 ⟨e,he,rfl⟩
  obtain⟨p,hp,e1⟩:=z8.1 hm;obtain⟨h1,h2⟩:=hs p hp;obtain⟨k,v⟩:=p
  match k,v,h1,h2 with
  | [a,b,c],[n],_,_=>
   exact⟨⟨a,b,c⟩,n,(zT Prod.fst e1).symm,(zT Prod.snd e1).symm⟩
 ·rw[jm5 h];refine jr.2 ((jr.1 hd).imp fun{a b} hne e=>hne ?_);have:=zT decK e;rw[jou,jou]at this;exact this
theorem ents_nz{T:LQ.Tab}{es es':Array MapEntry}(hs:Shape 3 T)(h:Ents (3,true) T es)(he:es'.toList=es.toList.filter fun e=> !decide (decV e.val=0)):Ents (3,true) (nz T) es':=by
 refine⟨fun p hp=>h.1 p (jM.1 hp).1,?_⟩;rw[he];have h2:=zT (List.filter fun q:Value×Value=> !decide (decV q.2=0)) h.2;rw[List.filter_map,List.filter_map]at h2;refine Eq.trans h2 ?_;unfold nz;refine zT (List.map _) (wv fun p hp=> ?_);obtain⟨h3,h4⟩:=hs p hp;obtain⟨k,v⟩:=p
 match v,h4 with
 | [n],_=>rfl
theorem born_sub{es es':Array MapEntry}{c:Nat}(h:Born es c)(hs:es'.toList.Sublist es.toList):Born es' c:=⟨h.1.sublist (hs.map _),fun e he=>h.2 e (hs.subset he)⟩
def SD(lx:IV)(rc zc:List IV)(T:LQ.Tab):St:=⟨[(1,.im lx),(2,.loc 2 4 0 0),(4,.loc 4 4 0 0),(7,.mpo 29 (3,true) T)],[(4,4,[zc]),(2,4,[rc])],[(29,0,0)]⟩
theorem SD_get{lx:IV}{rc zc:List IV}{T:LQ.Tab}{t:Nat}(h:(SD lx rc zc T).get t≠ .und):t=1\/t=2\/t=4\/t=7:=by
 by_cases t1:t=1
 ·exact .inl t1
 by_cases t2:t=2
 ·exact .inr (.inl t2)
 by_cases t4:t=4
 ·exact .inr (.inr (.inl t4))
 by_cases t7:t=7
 ·exact .inr (.inr (.inr t7))
 exact absurd (by simp[SD,Go.Abs.St.get,Go.Abs.look,t1,t2,t4,t7]) h
theorem del_sem{lx:IV}{rc zc:List IV}{T:LQ.Tab}(hs:Shape 3 T)(hd:Dist T){Q:Exit->St->Prop}(hQ:Q .normal (SD lx rc zc (nz T))):SemC G 155 (inL (tailN 5 (jd2 Tryz.f20))) Q (SD lx rc zc T):=fun w0 M0 β a w a1=>by
 obtain⟨tm,df⟩:=a;obtain rfl:df=[]:=a1.defers;have b3:tm.size=155:=a1.size;have h7:RepA w (Mo M0 β (SD lx rc zc T)) β (SD lx rc zc T).toks (.mpo 29 (3,true) T) (tm.getD 7 undef):=a1.fr 7;obtain⟨b,hβ,hv,b0⟩:=h7;obtain⟨es,cl,hh,hE,hB⟩:=b0 rfl;have hl:tm.toList.length=155:=by rw[Array.length_toList];exact b3
 have b2:∀t,t<155->tm.toList[t]? =some (tm.getD t undef):=fun t ht=>by
  rw[zS,yX,qn (by omega)];rfl
 refine del_loop tm.toList hl w b cl es (by rw[b2 7 (by decide),hv]) hh (ents_int hs hd hE hB) hB.2 fun a7 W' es' h1 e1 e2 e4 e7 b4 b1 hk=> ?_;have b5:b<w.heap.size:=(zm.1 hh).1;have a8:es'.toList.Sublist es.toList:=by rw[b1];exact vK
 have s1:=a1.setMap (d:=29) (b:=b) (sc:=(3,true)) (kvs:=nz T) (es:=es) (es':=es') (c:=cl) (c':=cl) rfl hβ hh (ents_nz hs hE b1) (born_sub hB a8);have hb:Below ({w with heap:=w.heap.setIfInBounds b (.map es' cl)}:World).heap.size {w with heap:=w.heap.setIfInBounds b (.map es' cl)} W':=by
  refine⟨hk.g.os,hk.g.tape,hk.g.output,?_,fun k a6=> ?_⟩
  ·show(w.heap.setIfInBounds b _).size<=_;rw[Array.size_setIfInBounds];exact hk.g.size
  ·have a6:k<(w.heap.setIfInBounds b (.map es' cl)).size:=a6;rw[Array.size_setIfInBounds]at a6;show _=(w.heap.setIfInBounds b _)[k]?;by_cases e:k=b
   ·subst e;rw[b4];simp[b5]
   ·rw[qk (fun h=>e h.symm)];exact hk.blk a6 e
 have s2:=s1.ext hb;have s3:Sim 155 w0 M0 β (SD lx rc zc (nz T)) {tmps:=tm,defers:=[]} W':=s2;refine⟨β,_,hQ,sim_act s3 (by simpa using h1) rfl fun t ht=> ?_⟩;have key:∀t,t<155->a7[t]? =tm.toList[t]? ->a7.toArray.getD t undef=tm.getD t undef:=fun t ht h=>by
  rw[b2 t ht]at h;rw[yX];simp[h]
 rcases SD_get ht with rfl | rfl | rfl | rfl
 ·exact key 1 (by decide) e1
 ·exact key 2 (by decide) e2
 ·exact key 4 (by decide) e4
 ·exact key 7 (by decide) e7
end
end Go.Proofs.YtjcjcpebocbonaaGreat
namespace Go.LQ
section
theorem jqh(k:List Int):∀(l:List Trn),(∀x∈l,1<=x.kg/\x.kg<=1000000)-> -(1000000*(l.length:Int))<=got l k/\got l k<=1000000*(l.length:Int)
 | [],_=>by simp[got]
 | x::l,h=>by
  have ih:=jqh k l fun y hy=>h y (zV _ hy);have hx:=h x zQ;rw[got,List.length_cons];unfold dlt;split<;>split<;>omega
theorem mov_bound{r:Rts}(h:RightQ r){l:List Trn}(hl:l.length<=40)(hk:∀x∈l,1<=x.kg/\x.kg<=1000000)(k:List Int): -40000000<=vof (movT (tabL r.held) l) k/\vof (movT (tabL r.held) l) k<=41000000:=by
 rw[vof_mov];have h1:=jqh k l hk;have h2:=jf6 h.held (k:=k);have h3:=h.vof_cap k;omega
structure TradeF(r:Rts)(l:List Trn)(R:Rts×Int×Int):Prop where
 f1:∀i,i<l.length->(∀j,j<i->err1 r l j=0)->err1 r l i≠0->R=(Rts.zero,err1 r l i,(i:Int))
 f2:(∀j,j<l.length->err1 r l j=0)->∀i,i<l.length->(∀j,j<i->err2 r l j=0)->err2 r l i≠0->R=(Rts.zero,7,(i:Int))
 f3:(∀j,j<l.length->err1 r l j=0)->(∀j,j<l.length->err2 r l j=0)->R=if 300<((nz (movT (tabL r.held) l)).length:Int)then(Rts.zero,6,(l.length:Int))else(r.after l,0,(l.length:Int))
theorem trade_f{r:Rts}{l:List Trn}(h:jbw r=0)(hl:l.length<=40):TradeF r l (jcd r l):=by
 have h0:¬jbw r≠0:=fun e=>e h;have h1:¬40<(l.length:Int):=by omega
 refine⟨fun i hi hj he=> ?_,fun ha i hi hj he=> ?_,fun ha hb=> ?_⟩
 ·unfold jcd;rw[zl h0,zl h1,jiy hj hi he]
 ·unfold jcd;rw[zl h0,zl h1,jfc ha];dsimp only;rw[jiy hj hi he]
 ·unfold jcd;rw[zl h0,zl h1,jfc ha];dsimp only;rw[jfc hb]
theorem trade_f1{r:Rts}{l:List Trn}(h:jbw r≠0):jcd r l=(Rts.zero,1,0):=by unfold jcd;rw[ze h]
theorem trade_f2{r:Rts}{l:List Trn}(h:jbw r=0)(hl:40<(l.length:Int)):jcd r l=(Rts.zero,6,0):=by unfold jcd;rw[zl (fun e=>e h),ze hl]
end
end Go.LQ
namespace Go.Proofs.YtjcjcpebocbonaaGreat
section
set_option maxRecDepth 1000000
open Go.Abs Go.LQ
attribute [local go_sem] ints ic qC rtC kC
theorem ctr_sem{f:FuncId}{fn:Func}{c:Code}{xs:List IV}{x:IV}(rs:List ResultVar)(hf:G.P.funcs[f]? =some fn)(hb:fn.body=some c)(hr:fn.results.toList=rs)(hd:dstC fn.ntmps c=true)(hn:xs.length<=fn.ntmps)
  (h:SemC G fn.ntmps c (fun e s=>match e with | .normal=>jgw G rs (fun r=>r= .im x/\([]:Abs.Rows)=[]) s | .ret=>jgw G rs (fun r=>r= .im x/\([]:Abs.Rows)=[]) s | _=>False) (jdt (xs.map .im) [])):Ctr G.P f xs (· =x):=by
 subst hr;refine jhs (φ:=fun r L'=>r= .im x/\L'=[]) (jia good hf hb hd (by rw[zw];exact hn) (h.mono fun e s hq=> ?_)) (fun r L' ⟨h1,h2⟩=>⟨x,[],h1,rfl⟩);have key:jgw G fn.results.toList (fun r=>r= .im x/\([]:Abs.Rows)=[]) s->aRetH G fn.results.toList (fun r L'=>r= .im x/\L'=[]) s:=fun hq=>⟨[],fun k y hk=>(by cases hk),hq⟩;cases e with
 | normal=>exact key hq
 | ret=>exact key hq
 | _=>exact hq.elim
theorem le_of{s S:St}(L R:List Nat)(h:s.keep L R=S):St.Le s S:=h▸St.le_keep s L R
def xC(x:Trn):List IV:=[.int x.fr,.int x.to,.int x.dep,.int x.day,.int x.kg]
attribute [local go_sem] xC
def tR(R:Rts×Int×Int):IV:= .tup [.agg (rtC R.1),.int R.2.1,.int R.2.2]
abbrev QT(R:Rts×Int×Int):Exit->St->Prop:=fun e s=>match e with
 | .normal=>jgw G [.cell 4 25,.tmp 5,.tmp 6] (fun r=>r= .im (tR R)/\([]:Abs.Rows)=[]) s
 | .ret=>jgw G [.cell 4 25,.tmp 5,.tmp 6] (fun r=>r= .im (tR R)/\([]:Abs.Rows)=[]) s
 | _=>False
def zC:List IV:=[.int 0,.sl [],.sl [],.sl []]
theorem zero_c:rtC Rts.zero=zC:=rfl
def SB(lx:IV)(rc:List IV)(T U:LQ.Tab):St:=⟨[(1,.im lx),(2,.loc 2 4 0 0),(4,.loc 4 4 0 0),(7,.mpo 29 (3,true) T),(8,.im (.mp (3,true) U))],[(4,4,[zC]),(2,4,[rc])],[(29,0,0)]⟩
theorem q_trade0(r:Rts)(l:List Trn)(hc:r.cap.length<=100000)(hh:r.held.length<=100000)(hu:r.used.length<=100000)(h:jbw r≠0):Ctr G.P 20 [.agg (rtC r),.sl (l.map xC)] (· =tR (Rts.zero,1,0)):=by
 have k1:=jh0 r hc hh hu;have hd:decide (jbw r=0)=false:=zh h;unfold tR;rw[zero_c];unfold rtC ints at*;refine ja3 [.cell 4 25,.tmp 5,.tmp 6] Tryz.func20 ?_;simp only[go_sem];refine ja0 k1 ?_;simp only[hd,go_sem];rfl
theorem q_trade1(r:Rts)(l:List Trn)(hc:r.cap.length<=100000)(hh:r.held.length<=100000)(hu:r.used.length<=100000)(h:jbw r=0)(hl:40<(l.length:Int)):Ctr G.P 20 [.agg (rtC r),.sl (l.map xC)] (· =tR (Rts.zero,6,0)):=by
 have k1:=jh0 r hc hh hu;rw[h]at k1;have hd:decide (40<(l.length:Int))=true:=zp hl;unfold tR;rw[zero_c];unfold rtC ints at*;refine ja3 [.cell 4 25,.tmp 5,.tmp 6] Tryz.func20 ?_;simp only[go_sem];refine ja0 k1 ?_;simp only[hd,zw,go_sem];rfl
section
variable{r:Rts}{l:List Trn}{R:Rts×Int×Int}
theorem tr_A(h:RightQ r)(hl:l.length<=40){Q:Exit->St->Prop}(hQ:∀s,St.Le s (SB (.sl (l.map xC)) (rtC r) (tabL r.held) (tabL r.used))->Q .normal s):
  awp G (putN 3 (tailN 0 (jd2 Tryz.f20)) .skip) Q (jdt ([.agg (rtC r),.sl (l.map xC)].map .im) []):=by
 obtain⟨l1,l2,l3⟩:=h.lens;have k1:=jh0 r (by omega) (by omega) (by omega);rw[checkQ_zero.2 h]at k1;have kh:=jo3 r.held h.held.asc (by omega);have ku:=jl9 r.used h.used.asc (by omega);have hd:decide (40<(l.length:Int))=false:=dFo;unfold SB at hQ;unfold rtC ints at*;generalize tabL r.held=T at*;generalize tabL r.used=U at*;generalize a1:l.map xC=lx at*;have a6:lx.length=l.length:=by rw[<-a1,zw]
 refine jl2 rfl ?_;simp only[go_sem];refine ja0 k1 ?_;simp only[hd,a6,go_sem];refine DrawO_of 6 2 29 (by decide+kernel) ?_;simp only[go_sem];refine CallO_eq kh (by decide) rfl ?_;simp only[go_sem];refine ja4 ku (by decide) ?_;simp only[go_sem];refine hQ _ (le_of [1,2,4,7,8] [2,4,29] ?_);simp only[go_sem];rfl
theorem tr_B(h:RightQ r)(hl:l.length<=40)(hR:TradeF r l R){Q:Exit->St->Prop}(a7:∀s,QT R .ret s->Q .ret s)
  (hQ:(∀j,j<l.length->err1 r l j=0)->∀s,St.Le s (SB (.sl (l.map xC)) (rtC r) (movT (tabL r.held) l) (tabL r.used))->Q .normal s):
  awp G (putN 1 (tailN 3 (jd2 Tryz.f20)) .skip) Q (SB (.sl (l.map xC)) (rtC r) (tabL r.held) (tabL r.used)):=by
 have hn:=h.n;have e0:=h.lens.1;have kt:=fun c d y=>jr8 r c d y (by omega) (by omega);have c7:=hR.f1;have c8:∀i,i<=l.length->(∀j,j<i->err1 r l j=0)->∀k,-40000000<=vof (movT (tabL r.held) (l.take i)) k/\vof (movT (tabL r.held) (l.take i)) k<=41000000:=fun i hi hj k=>by
  refine mov_bound h (by rw[qb];omega) (fun x hx=> ?_) k;obtain⟨j,c5,b5⟩:=ja.1 hx;rw[qb]at c5;have:=(err1_zero.1 (hj j (by omega))).kg;rw[gD _ (by omega)]at this;rw[List.getElem_take]at b5;rw[<-b5];exact this
 have c3:∀i,Shape 3 (movT (tabL r.held) (l.take i)):=fun i=>jh4 _ (jcq _);have c0:∀i,i<l.length->movT (tabL r.held) (l.take (i+1))=LQ.stepT (movT (tabL r.held) (l.take i)) (l.getD i x0):=fun i hi=>mov_take_succ _ hi;have b9:movT (tabL r.held) (l.take 0)=tabL r.held:=by rw[List.take_zero];rfl
 have b8:movT (tabL r.held) (l.take l.length)=movT (tabL r.held) l:=by rw[qJ]
 unfold SB zC at hQ⊢;have b4:∃a b c d,rtC r=[.int a,.sl b,.sl c,.sl d]:=⟨_,_,_,_,rfl⟩;obtain⟨rn,rc,rh,ru,b4⟩:=b4;rw[b4]at kt hQ⊢;rw[<-b8]at hQ;rw[<-b9];generalize movT (tabL r.held)=MT at*;generalize tabL r.used=U at*;refine jl2 rfl ?_;simp only[zw,go_sem];refine jai [1,2,4,7,8,33,34,35] [2,4,29] (fun i:Nat=>⟨[(1,.im (.sl (l.map xC))),(2,.loc 2 4 0 0),(4,.loc 4 4 0 0),(7,.mpo 29 (3,true) (MT (l.take i))),(8,.im (.mp (3,true) U)),(33,.im (.sl (l.map xC))),(34,.im (.int l.length)),(35,.im (.int i))],[(4,4,[[.int 0,.sl [],.sl [],.sl []]]),(2,4,[[.int rn,.sl rc,.sl rh,.sl ru]])],[(29,0,0)]⟩)
  (fun i=>i<=l.length/\∀j,j<i->err1 r l j=0) (fun i=>l.length-i) 0 ?_ ⟨zG _,fun j hj=>absurd hj (by omega)⟩ ?_
 ·simp only[Int.natCast_zero,go_sem]
 intro i ⟨hi,he⟩;by_cases hp:(i:Int)<l.length
 ·have hd:decide ((i:Int)<l.length)=true:=zp hp;have c6:(0:Int)<=i:=by omega
  have hn:((i:Nat):Int).toNat=i:=Int.toNat_natCast i;have hx:l[i]? =some (l.getD i x0):=by rw[gD _ (by omega)];exact za (by omega)
  have hw:=ja8 ((i:Int)+1);have hf:=c7 i (by omega) he;have hE:err1 r l i=if r.there (l.getD i x0).fr (l.getD i x0).dep (l.getD i x0).day=false\/r.there (l.getD i x0).to (l.getD i x0).dep (l.getD i x0).day=false\/(l.getD i x0).fr=(l.getD i x0).to then 1 else if inR (l.getD i x0).kg 1 1000000=false then 3 else 0:=rfl
  have k1:=kt (l.getD i x0).fr (l.getD i x0).dep (l.getD i x0).day;have k2:=kt (l.getD i x0).to (l.getD i x0).dep (l.getD i x0).day;have k3:=q_in (l.getD i x0).kg 1 1000000;have hB:=c8 i hi he;have hS:=c3 i;have hT:=c0 i (by omega);have b0:err1 r l i=0->∀j,j<i+1->err1 r l j=0:=fun h j hj=>by
   by_cases e:j=i
   ·rw[e];exact h
   ·exact he j (by omega)
  generalize e1:l.getD i x0=x at*;generalize r.there x.fr x.dep x.day=b1 at*;generalize r.there x.to x.dep x.day=b2 at*;simp only[hd,c6,hp,hn,zq,hx,zw,go_sem];refine ja0 k1 ?_;cases b1
  ·simp only[go_sem];rw[ze (.inl rfl)]at hE;have a6:=hf (by rw[hE];decide);rw[hE]at a6;subst a6;refine a7 _ ?_;simp only[go_sem];rfl
  simp only[go_sem];refine ja0 k2 ?_;cases b2
  ·simp only[go_sem];rw[ze (.inr (.inl rfl))]at hE;have a6:=hf (by rw[hE];decide);rw[hE]at a6;subst a6;refine a7 _ ?_;simp only[go_sem];rfl
  simp only[go_sem];refine jbp (fun d3 h3=> ?_) (fun d3 h3=> ?_)
  ·simp only[go_sem];rw[ze (.inr (.inr h3))]at hE;have a6:=hf (by rw[hE];decide);rw[hE]at a6;subst a6;refine a7 _ ?_;simp only[go_sem];rfl
  rw[zl (fun e=>e.elim (fun e=>by cases e) (fun e=>e.elim (fun e=>by cases e) h3))]at hE;simp only[go_sem];refine ja0 k3 ?_;cases h4:inR x.kg 1 1000000
  ·rw[h4,ze rfl]at hE;have a6:=hf (by rw[hE];decide);rw[hE]at a6;subst a6;simp only[go_sem];refine a7 _ ?_;simp only[go_sem];rfl
  rw[h4,zl (by decide)]at hE;have e2:=inR_iff.1 h4;have hm:=jei hS [x.dep,x.day,x.fr];have c9:Shape 3 (mput (MT (l.take i)) [x.dep,x.day,x.fr] [vof (MT (l.take i)) [x.dep,x.day,x.fr]-x.kg]):=jg5 hS rfl rfl;have a1:=jei c9 [x.dep,x.day,x.to];have hT:MT (l.take (i+1))=mput (mput (MT (l.take i)) [x.dep,x.day,x.fr] [vof (MT (l.take i)) [x.dep,x.day,x.fr]-x.kg]) [x.dep,x.day,x.to] [vof (mput (MT (l.take i)) [x.dep,x.day,x.fr] [vof (MT (l.take i)) [x.dep,x.day,x.fr]-x.kg]) [x.dep,x.day,x.to]+x.kg]:=hT;have c4:[x.dep,x.day,x.to]≠[x.dep,x.day,x.fr]:=fun e=>by
   simp only[yu,vy,vX]at e;exact h3 e.symm
  have b7:vof (mput (MT (l.take i)) [x.dep,x.day,x.fr] [vof (MT (l.take i)) [x.dep,x.day,x.fr]-x.kg]) [x.dep,x.day,x.to]=vof (MT (l.take i)) [x.dep,x.day,x.to]:=by rw[jjc,zl c4]
  have e4:=hB [x.dep,x.day,x.fr];have e3:=hB [x.dep,x.day,x.to];rw[b7]at hT a1;generalize vof (MT (l.take i)) [x.dep,x.day,x.fr]=v1 at*;generalize vof (MT (l.take i)) [x.dep,x.day,x.to]=v2 at*;generalize a8:MT (l.take (i+1))=T2 at*;generalize MT (l.take i)=T1 at*;have w1:=ja8 (v1-x.kg);have w2:=ja8 (v2+x.kg);generalize b3:mput T1 [x.dep,x.day,x.fr] [v1-x.kg]=b6 at*;simp only[go_sem];refine jhg 14 12 13 29 T1 [x.dep,x.day,x.fr] rfl rfl rfl (by decide+kernel) (by decide) rfl rfl rfl (by decide+kernel) rfl ?_;rcases hm with hm | ⟨hm,rfl⟩
  ·simp only[hm,w1,b3,go_sem];refine jhg 14 12 13 29 b6 [x.dep,x.day,x.to] rfl rfl rfl (by decide+kernel) (by decide) rfl rfl rfl (by decide+kernel) rfl ?_;rcases a1 with a1 | ⟨a1,rfl⟩
   ·simp only[a1,w2,hT.symm,go_sem];refine ja7 (i+1) ?_ (by omega) ⟨by omega,b0 hE⟩;simp only[hw,a8,Int.natCast_add,go_sem]
   ·simp only[a1,w2,hT.symm,go_sem];refine ja7 (i+1) ?_ (by omega) ⟨by omega,b0 hE⟩;simp only[hw,a8,Int.natCast_add,go_sem]
  ·simp only[hm,w1,b3,go_sem];refine jhg 14 12 13 29 b6 [x.dep,x.day,x.to] rfl rfl rfl (by decide+kernel) (by decide) rfl rfl rfl (by decide+kernel) rfl ?_;rcases a1 with a1 | ⟨a1,rfl⟩
   ·simp only[a1,w2,hT.symm,go_sem];refine ja7 (i+1) ?_ (by omega) ⟨by omega,b0 hE⟩;simp only[hw,a8,Int.natCast_add,go_sem]
   ·simp only[a1,w2,hT.symm,go_sem];refine ja7 (i+1) ?_ (by omega) ⟨by omega,b0 hE⟩;simp only[hw,a8,Int.natCast_add,go_sem]
 ·have hd:decide ((i:Int)<l.length)=false:=zh hp;obtain rfl:i=l.length:=by omega
  simp only[hd,go_sem];refine hQ he _ (le_of [1,2,4,7,8] [2,4,29] ?_);simp only[go_sem]
end
end
section
set_option maxRecDepth 1000000
open Go.Abs Go.LQ
attribute [local go_sem] ints ic qC rtC kC xC
section
variable{r:Rts}{l:List Trn}{R:Rts×Int×Int}
theorem tr_C(hR:TradeF r l R)(h1:∀j,j<l.length->err1 r l j=0)(hl:l.length<=40){Q:Exit->St->Prop}(a6:∀s,QT R .ret s->Q .ret s)
  (hQ:(∀j,j<l.length->err2 r l j=0)->∀s,St.Le s (SD (.sl (l.map xC)) (rtC r) zC (movT (tabL r.held) l))->Q .normal s):
  awp G (putN 1 (tailN 4 (jd2 Tryz.f20)) .skip) Q (SB (.sl (l.map xC)) (rtC r) (movT (tabL r.held) l) (tabL r.used)):=by
 have b3:=hR.f2 h1;have hs1:Shape 3 (movT (tabL r.held) l):=jh4 _ (jcq _);have b1:=jcq r.used;have hE:∀i,err2 r l i=if vof (movT (tabL r.held) l) [(l.getD i x0).dep,(l.getD i x0).day,(l.getD i x0).fr]<vof (tabL r.used) [(l.getD i x0).dep,(l.getD i x0).day,(l.getD i x0).fr]then 7 else 0:=fun i=>rfl
 have b0:∃a b c d,rtC r=[.int a,.sl b,.sl c,.sl d]:=⟨_,_,_,_,rfl⟩;obtain⟨rn,rc,rh,ru,b0⟩:=b0;unfold SD zC at hQ;unfold SB zC;rw[b0]at hQ⊢;generalize movT (tabL r.held) l=T at*;generalize tabL r.used=U at*;refine jl2 rfl ?_;simp only[zw,go_sem];refine jai [1,2,4,7,8,106,107,108] [2,4,29] (fun i:Nat=>⟨[(1,.im (.sl (l.map xC))),(2,.loc 2 4 0 0),(4,.loc 4 4 0 0),(7,.mpo 29 (3,true) T),(8,.im (.mp (3,true) U)),(106,.im (.sl (l.map xC))),(107,.im (.int l.length)),(108,.im (.int i))],[(4,4,[[.int 0,.sl [],.sl [],.sl []]]),(2,4,[[.int rn,.sl rc,.sl rh,.sl ru]])],[(29,0,0)]⟩)
  (fun i=>i<=l.length/\∀j,j<i->err2 r l j=0) (fun i=>l.length-i) 0 ?_ ⟨zG _,fun j hj=>absurd hj (by omega)⟩ ?_
 ·simp only[Int.natCast_zero,go_sem]
 intro i ⟨hi,he⟩;by_cases hp:(i:Int)<l.length
 ·have hd:decide ((i:Int)<l.length)=true:=zp hp;have b2:(0:Int)<=i:=by omega
  have hn:((i:Nat):Int).toNat=i:=Int.toNat_natCast i;have hx:l[i]? =some (l.getD i x0):=by rw[gD _ (by omega)];exact za (by omega)
  have hw:=ja8 ((i:Int)+1);have hf:=b3 i (by omega) he;have hE:=hE i;have a8:err2 r l i=0->∀j,j<i+1->err2 r l j=0:=fun h j hj=>by
   by_cases e:j=i
   ·rw[e];exact h
   ·exact he j (by omega)
  generalize l.getD i x0=x at*;have hm:=jei hs1 [x.dep,x.day,x.fr];have a1:=jei b1 [x.dep,x.day,x.fr];generalize vof T [x.dep,x.day,x.fr]=v1 at*;generalize vof U [x.dep,x.day,x.fr]=v2 at*;simp only[hd,b2,hp,hn,zq,hx,zw,go_sem];refine jaf 7 ?_;rcases hm with hm | ⟨hm,rfl⟩
  ·rcases a1 with a1 | ⟨a1,rfl⟩
   ·simp only[hm,a1,go_sem];refine jbp (fun d3 h3=> ?_) (fun d3 h3=> ?_)
    ·simp only[go_sem];rw[ze h3]at hE;have a7:=hf (by rw[hE];decide);subst a7;refine a6 _ ?_;simp only[go_sem];rfl
    ·simp only[go_sem];rw[zl h3]at hE;refine ja7 (i+1) ?_ (by omega) ⟨by omega,a8 hE⟩;simp only[hw,Int.natCast_add,go_sem]
   ·simp only[hm,a1,go_sem];refine jbp (fun d3 h3=> ?_) (fun d3 h3=> ?_)
    ·simp only[go_sem];rw[ze h3]at hE;have a7:=hf (by rw[hE];decide);subst a7;refine a6 _ ?_;simp only[go_sem];rfl
    ·simp only[go_sem];rw[zl h3]at hE;refine ja7 (i+1) ?_ (by omega) ⟨by omega,a8 hE⟩;simp only[hw,Int.natCast_add,go_sem]
  ·rcases a1 with a1 | ⟨a1,rfl⟩
   ·simp only[hm,a1,go_sem];refine jbp (fun d3 h3=> ?_) (fun d3 h3=> ?_)
    ·simp only[go_sem];rw[ze h3]at hE;have a7:=hf (by rw[hE];decide);subst a7;refine a6 _ ?_;simp only[go_sem];rfl
    ·simp only[go_sem];rw[zl h3]at hE;refine ja7 (i+1) ?_ (by omega) ⟨by omega,a8 hE⟩;simp only[hw,Int.natCast_add,go_sem]
   ·simp only[hm,a1,go_sem];rw[iNo]at hE;refine ja7 (i+1) ?_ (by omega) ⟨by omega,a8 hE⟩;simp only[hw,Int.natCast_add,go_sem]
 ·have hd:decide ((i:Int)<l.length)=false:=zh hp;obtain rfl:i=l.length:=by omega
  simp only[hd,go_sem];refine hQ he _ (le_of [1,2,4,7] [2,4,29] ?_);simp only[go_sem]
theorem tr_E(h:RightQ r)(hR:R=if 300<((nz (movT (tabL r.held) l)).length:Int)then(Rts.zero,6,(l.length:Int))else(r.after l,0,(l.length:Int)))(hl:l.length<=40):
  awp G (tailN 6 (jd2 Tryz.f20)) (QT R) (SD (.sl (l.map xC)) (rtC r) zC (nz (movT (tabL r.held) l))):=by
 obtain⟨l1,l2,l3⟩:=h.lens;have kc:=js9 r (by omega) (by omega) (by omega);have hlen:(nz (movT (tabL r.held) l)).length<=100000:=by
  have h1:=mov_len l (tabL r.held);have h2:(tabL r.held).length=r.held.length:=zw ..;have h3:(nz (movT (tabL r.held) l)).length<=(movT (tabL r.held) l).length:=List.length_filter_le _ _;omega
 have kq:=js6 (nz (movT (tabL r.held) l)) (nz_shape (jh4 _ (jcq _))) (nz_dist (jof _ h.held.asc.dist)) hlen;have a1:r.after l=⟨r.n,r.cap,quoL (nz (movT (tabL r.held) l)),r.used⟩:=rfl;rw[a1]at hR;unfold SD zC;generalize nz (movT (tabL r.held) l)=T at*;unfold rtC ints at*;unfold QT tR;refine jr2 rfl ?_;by_cases hf:300<(T.length:Int)
 ·have hd:decide (300<(T.length:Int))=true:=zp hf;rw[ze hf]at hR;subst hR;simp only[hd,zw,go_sem];rfl
 ·have hd:decide (300<(T.length:Int))=false:=zh hf;rw[zl hf]at hR;subst hR;simp only[hd,zw,go_sem];refine ja0 kc ?_;simp only[go_sem];refine ja0 kq ?_;simp only[zw,go_sem]
end
theorem jr7(r:Rts)(l:List Trn)(hc:r.cap.length<=100000)(hh:r.held.length<=100000)(hu:r.used.length<=100000)(a8:l.length<=100000):Ctr G.P 20 [.agg (rtC r),.sl (l.map xC)] (· =tR (jcd r l)):=by
 by_cases h:jbw r=0
 case neg=>rw[trade_f1 h];exact q_trade0 r l hc hh hu h
 by_cases hl:40<(l.length:Int)
 ·rw[trade_f2 h hl];exact q_trade1 r l hc hh hu h hl
 have hl:l.length<=40:=by omega
 have hr:=checkQ_zero.1 h;have hR:=trade_f h hl;refine ctr_sem (c:=tailN 0 (jd2 Tryz.f20)) [.cell 4 25,.tmp 5,.tmp 6] Tryz.func20 rfl rfl (by decide+kernel) (yr rfl) ?_;refine SemC.cutsF good (fun _:Unit=>SB (.sl (l.map xC)) (rtC r) (tabL r.held) (tabL r.used)) (fun _=>True) 3 rfl (by decide+kernel) (tr_A hr hl fun s hs=>⟨(),trivial,hs⟩) fun _ _=> ?_;rw[jek];refine SemC.cutsF good (fun _:Unit=>SB (.sl (l.map xC)) (rtC r) (movT (tabL r.held) l) (tabL r.used)) (fun _=>∀j,j<l.length->err1 r l j=0) 1 rfl (by decide+kernel) (tr_B hr hl hR (fun s hs=>hs) fun he s hs=>⟨(),he,hs⟩) fun _ a6=> ?_;rw[jek];refine SemC.cutsF good (fun _:Unit=>SD (.sl (l.map xC)) (rtC r) zC (movT (tabL r.held) l)) (fun _=>∀j,j<l.length->err2 r l j=0) 1 rfl (by decide+kernel) (tr_C hR a6 hl (fun s hs=>hs) fun he s hs=>⟨(),he,hs⟩) fun _ a7=> ?_;rw[jek];have a1:tailN 5 (tailN 0 (jd2 Tryz.f20))=Code.seq (inL (tailN 5 (jd2 Tryz.f20))) (tailN 6 (jd2 Tryz.f20)):=rfl;rw[show(0+3+1+1:Nat)=5 from rfl];refine(zT (fun c=>SemC G 155 c _ _) a1).mpr ?_;refine SemC.seq (del_sem (jh4 _ (jcq _)) (jof _ hr.held.asc.dist) ?_);exact SemC.awp good (by decide+kernel) (tr_E hr (hR.f3 a6 a7) hl)
end
section
set_option maxRecDepth 1000000
open Go.Abs Go.LQ
attribute [local go_sem] ints ic qC rtC kC
theorem q_sameQ(l:List Quo)(hl:l.length<=100000):Ctr G.P 53 [.sl (l.map qC),.sl (l.map qC)] (· = .bool true):=by
 refine ja3 [.tmp 4] Tryz.func53 ?_;simp only[zw,go_sem];refine jai [0,1,5] [] (fun i:Nat=>⟨[(0,.im (.sl (l.map qC))),(1,.im (.sl (l.map qC))),(5,.im (.int i))],[],[]⟩) (fun i=>i<=l.length) (fun i=>l.length-i) 0 ?_ (zG _) ?_
 ·simp only[Int.natCast_zero,go_sem]
 intro i hi;by_cases hp:(i:Int)<l.length
 ·have hd:decide ((i:Int)<l.length)=true:=zp hp;have a1:(0:Int)<=i:=by omega
  have hn:((i:Nat):Int).toNat=i:=Int.toNat_natCast i;have hx:=getq (l:=l) (i:=i) (by omega);have hw:=ja8 ((i:Int)+1);generalize l.getD i z0=q at*;simp only[hd,zw,go_sem];refine jaf 9 ?_;simp only[a1,hp,hn,zq,hx,zw,go_sem];refine ja7 (i+1) ?_ (by omega) (by omega);simp only[hw,Int.natCast_add,go_sem]
 ·have hd:decide ((i:Int)<l.length)=false:=zh hp;simp only[hd,zw,go_sem]
theorem q_same(r:Rts)(hc:r.cap.length<=100000)(hh:r.held.length<=100000)(hu:r.used.length<=100000):Ctr G.P 24 [.agg (rtC r),.agg (rtC r)] (· = .bool true):=by
 have k1:=q_sameQ r.held hh;have k2:=q_sameQ r.used hu;unfold rtC;generalize r.held.map qC=H at*;generalize r.used.map qC=U at*;generalize hC:r.cap=C at*;generalize r.n=n at*;refine ja3 [.tmp 4] Tryz.func24 ?_;simp only[zw,go_sem];refine jai [2,3,5] [2,3] (fun i:Nat=>⟨[(2,.loc 2 4 0 0),(3,.loc 3 4 0 0),(5,.im (.int i))],[(3,4,[[.int n,ints C,.sl H,.sl U]]),(2,4,[[.int n,ints C,.sl H,.sl U]])],[]⟩) (fun i=>i<=C.length) (fun i=>C.length-i) 0 ?_ (zG _) ?_
 ·simp only[Int.natCast_zero,go_sem]
 intro i hi;by_cases hp:(i:Int)<C.length
 ·have hd:decide ((i:Int)<C.length)=true:=zp hp;have a1:(0:Int)<=i:=by omega
  have hn:((i:Nat):Int).toNat=i:=Int.toNat_natCast i;have hx:=get_i (l:=C) (i:=i) (by omega);have hw:=ja8 ((i:Int)+1);generalize C.getD i 0=q at*;simp only[hd,zw,go_sem];refine jaf 11 ?_;simp only[a1,hp,hn,zq,hx,zw,go_sem];refine ja7 (i+1) ?_ (by omega) (by omega);simp only[hw,Int.natCast_add,go_sem]
 ·have hd:decide ((i:Int)<C.length)=false:=zh hp;simp only[hd,zw,go_sem];refine ja0 k1 ?_;simp only[go_sem];refine ja0 k2 ?_;simp only[go_sem]
def fewQ(r:Rts):Bool:=decide (r.cap.length<=30/\r.used.length<=30/\(r.held.length<=30\/(295<r.held.length/\r.held.length<303)))
theorem q_few(r:Rts):Ctr G.P 6 [.agg (rtC r)] (· = .bool (fewQ r)):=by
 unfold rtC;have hq:fewQ r=(decide ((r.cap.length:Int)<=30)&&(decide ((r.used.length:Int)<=30)&&(decide ((r.held.length:Int)<=30) || (decide (295<(r.held.length:Int))&&decide ((r.held.length:Int)<303))))):=by
  unfold fewQ;rw[wC];simp only[zN,zn,qp];omega
 rw[hq];cases h1:decide ((r.cap.length:Int)<=30)
 ·refine ja3 [.tmp 2] Tryz.func6 ?_;simp only[*,zw,go_sem]
 cases h2:decide ((r.used.length:Int)<=30)
 ·refine ja3 [.tmp 2] Tryz.func6 ?_;simp only[*,zw,go_sem]
 cases h3:decide ((r.held.length:Int)<=30)
 case true=>
  refine ja3 [.tmp 2] Tryz.func6 ?_;simp only[*,zw,go_sem]
 cases h4:decide (295<(r.held.length:Int))
 ·refine ja3 [.tmp 2] Tryz.func6 ?_;simp only[*,zw,go_sem]
 cases h5:decide ((r.held.length:Int)<303)
 ·refine ja3 [.tmp 2] Tryz.func6 ?_;simp only[*,zw,go_sem]
 ·refine ja3 [.tmp 2] Tryz.func6 ?_;simp only[*,zw,go_sem]
def exR:Rts:=⟨3,[1000],[⟨0,0,5,600⟩,⟨1,0,5,400⟩],[⟨0,0,5,100⟩]⟩
theorem q_example:Ctr G.P 18 [] (· = .agg (rtC exR)):=by
 unfold exR rtC;refine ja3 [.cell 0 25] Tryz.func18 ?_;simp only[zt,zE,go_sem]
 try rfl
theorem jf4(a b k:Int):Ctr G.P 21 [.int a,.int b,.int k] (· = .agg (xC ⟨a,b,0,5,k⟩)):=by
 unfold xC;refine ja3 [.cell 6 67] Tryz.func21 ?_;simp only[go_sem]
end
section
set_option maxRecDepth 1000000
open Go.Abs Go.LQ
attribute [local go_sem] ints ic qC rtC kC xC
def exA:List Trn:=[⟨0,2,0,5,500⟩,⟨2,1,0,5,200⟩]
def exB:List Trn:=[⟨0,2,0,5,501⟩,⟨2,1,0,5,1⟩]
def exTc:List Trn:=[⟨2,0,0,5,50⟩,⟨0,2,0,5,50⟩]
theorem ex_c:rtC (jcd exR exTc).1=rtC exR:=by
 have h:(jcd exR exTc).1.n=exR.n/\(jcd exR exTc).1.cap=exR.cap/\(jcd exR exTc).1.held=exR.held/\(jcd exR exTc).1.used=exR.used:=by decide+kernel
 unfold rtC;rw[h.1,h.2.1,h.2.2.1,h.2.2.2]
theorem q_small:Ctr G.P 5 [] (· = .bool true):=by
 have ke:=q_example;have a7:exR.cap.length<=100000:=by decide
 have a6:exR.held.length<=100000:=by decide
 have a1:exR.used.length<=100000:=by decide
 have ku:=q_use exR 0 0 5 501 a7 a6 a1 (by decide);rw[show(useQ exR 0 0 5 501).2=20 by decide+kernel]at ku;have c4:=jf4 0 2 500;have c3:=jf4 2 1 200;have c0:=jf4 0 2 501;have b9:=jf4 2 1 1;have b8:=jf4 2 0 50;have b7:=jf4 0 2 50;have kA:=jr7 exR exA a7 a6 a1 (by decide);have kB:=jr7 exR exB a7 a6 a1 (by decide);have kC:=jr7 exR exTc a7 a6 a1 (by decide);unfold tR at kA kB kC;rw[show(jcd exR exA).2.1=0 by decide+kernel]at kA;rw[show(jcd exR exB).2.1=7 by decide+kernel,show(jcd exR exB).2.2=0 by decide+kernel]at kB;rw[show(jcd exR exTc).2.1=0 by decide+kernel,show(jcd exR exTc).2.2=2 by decide+kernel,ex_c]at kC;have b3:=js7 exR 0 0 5 a7 a6 a1;have b2:=js7 exR 2 0 5 a7 a6 a1;rw[show leftQ exR 0 0 5=500 by decide+kernel]at b3;rw[show leftQ exR 2 0 5=0 by decide+kernel]at b2;have b1:(jcd exR exA).1.cap.length<=100000:=by decide+kernel
 have b0:(jcd exR exA).1.held.length<=100000:=by decide+kernel
 have a8:(jcd exR exA).1.used.length<=100000:=by decide+kernel
 have b6:=js8 (jcd exR exA).1 0 0 5 b1 b0 a8;have b5:=js8 (jcd exR exA).1 1 0 5 b1 b0 a8;have b4:=js8 (jcd exR exA).1 2 0 5 b1 b0 a8;rw[show heldQ (jcd exR exA).1 0 0 5=100 by decide+kernel]at b6;rw[show heldQ (jcd exR exA).1 1 0 5=600 by decide+kernel]at b5;rw[show heldQ (jcd exR exA).1 2 0 5=300 by decide+kernel]at b4;have ks:=q_same exR a7 a6 a1;have kc:=jh0 exR a7 a6 a1;rw[show jbw exR=0 by decide+kernel]at kc;have eA:exA.map xC=[xC ⟨0,2,0,5,500⟩,xC ⟨2,1,0,5,200⟩]:=rfl;have eB:exB.map xC=[xC ⟨0,2,0,5,501⟩,xC ⟨2,1,0,5,1⟩]:=rfl;have eC:exTc.map xC=[xC ⟨2,0,0,5,50⟩,xC ⟨0,2,0,5,50⟩]:=rfl;rw[eA]at kA;rw[eB]at kB;rw[eC]at kC;generalize (jcd exR exA).2.2=na at*;generalize (jcd exR exA).1=RA at*;generalize (jcd exR exB).1=RB at*;generalize (useQ exR 0 0 5 501).1=RU at*;clear b1 b0 a8 a7 a6 a1 eA eB eC;generalize exR=ER at*;unfold rtC ints xC at*;dsimp only at*;refine ja3 [.tmp 0] Tryz.func5 ?_;simp only[go_sem];refine ja0 ke ?_;simp only[go_sem];refine ja0 ku ?_;simp only[go_sem];refine jah ?_;simp only[go_sem];refine ja4 c4 (by decide) ?_;simp only[go_sem];refine ja4 c3 (by decide) ?_;simp only[go_sem];refine ja4 kA (by decide) ?_;simp only[go_sem];refine jah ?_;simp only[go_sem];refine ja4 c0 (by decide) ?_;simp only[go_sem];refine ja4 b9 (by decide) ?_;simp only[go_sem];refine ja4 kB (by decide) ?_;simp only[go_sem]
 refine jah ?_;simp only[go_sem];refine ja4 b8 (by decide) ?_;simp only[go_sem];refine ja4 b7 (by decide) ?_;simp only[go_sem];refine ja4 kC (by decide) ?_;simp only[go_sem];refine ja0 b3 ?_;simp only[go_sem];refine ja0 b2 ?_;simp only[go_sem];refine ja0 b6 ?_;simp only[go_sem];refine ja0 b5 ?_;simp only[go_sem];refine ja0 b4 ?_;simp only[go_sem];refine ja0 ks ?_;simp only[go_sem];refine ja0 kc ?_;simp only[go_sem]
end
end Go.Proofs.YtjcjcpebocbonaaGreat
namespace Go.LQ
section
theorem jrf{f:Int->Int}(h:∀c,0<=f c/\f c<=1000000):∀n:Nat,0<=csum f n/\csum f n<=1000000*(n:Int)
 | 0=>by simp[csum]
 | n+1=>by
  have h1:=jrf h n;have h2:=h n;rw[csum];omega
def hvK(r:Rts)(d y c:Int):Int:=vof (tabL r.held) [d,y,c]
def lfK(r:Rts)(d y c:Int):Int:=vof (tabL r.held) [d,y,c]-vof (tabL r.used) [d,y,c]
theorem RightQ.hv{r:Rts}(h:RightQ r)(d y c:Int):0<=hvK r d y c/\hvK r d y c<=1000000:=⟨jf6 h.held,h.vof_cap _⟩
theorem RightQ.lf{r:Rts}(h:RightQ r)(d y c:Int):0<=lfK r d y c/\lfK r d y c<=1000000:=by
 have h1:=h.use_le [d,y,c];have h2:=h.vof_cap [d,y,c];have h3:=jf6 h.used (k:=[d,y,c]);unfold lfK;omega
theorem RightQ.heldE{r:Rts}(h:RightQ r)(c d y:Int):heldQ r c d y=hvK r d y c:=by unfold heldQ;rw[zl (fun e=>e (checkQ_zero.2 h))];rfl
theorem RightQ.leftE{r:Rts}(h:RightQ r)(c d y:Int):leftQ r c d y=lfK r d y c:=by unfold leftQ;rw[zl (fun e=>e (checkQ_zero.2 h))];rfl
def hvS(r:Rts)(d y:Int):Int:=csum (hvK r d y) r.n.toNat
def lfS(r:Rts)(d y:Int):Int:=csum (lfK r d y) r.n.toNat
theorem RightQ.hvS_psum{r:Rts}(h:RightQ r)(d y:Int):hvS r d y=psum r.held d y:=(h.held.psum d y).symm
end
end Go.LQ
namespace Go.Proofs.YtjcjcpebocbonaaGreat
section
set_option maxRecDepth 1000000
open Go.Abs Go.LQ
attribute [local go_sem] ints ic qC rtC kC xC
theorem q_sums(r:Rts)(h:RightQ r)(d y:Int):Ctr G.P 12 [.agg (rtC r),.int d,.int y] (· = .tup [.int (hvS r d y),.int (lfS r d y)]):=by
 obtain⟨l1,l2,l3⟩:=h.lens;have kh:=fun c=>js8 r c d y (by omega) (by omega) (by omega);have kl:=fun c=>js7 r c d y (by omega) (by omega) (by omega);simp only[h.heldE,h.leftE]at kh kl;have hn:=h.n;have bh:=fun i:Nat=>jrf (h.hv d y) i;have bl:=fun i:Nat=>jrf (h.lf d y) i;have a7:=h.hv d y;have a6:=h.lf d y;unfold hvS lfS;have a8:(r.n.toNat:Int)=r.n:=qH hn.1;unfold rtC at*;generalize r.n=n at*;generalize r.held.map qC=H at*;generalize r.used.map qC=U at*;generalize r.cap=C at*;generalize hvK r d y=f at*;generalize lfK r d y=g at*;refine ja3 [.tmp 6,.tmp 7] Tryz.func12 ?_;simp only[go_sem];refine jai [1,2,3,8,9,10] [3] (fun i:Nat=>⟨[(1,.im (.int d)),(2,.im (.int y)),(3,.loc 3 4 0 0),(8,.im (.int (csum f i))),(9,.im (.int (csum g i))),(10,.im (.int i))],[(3,4,[[.int n,ints C,.sl H,.sl U]])],[]⟩) (fun i=>i<=n.toNat) (fun i=>n.toNat-i) 0 ?_ (zG _) ?_
 ·simp only[Int.natCast_zero,csum,go_sem]
 intro i hi;by_cases hp:(i:Int)<n
 ·have hd:decide ((i:Int)<n)=true:=zp hp;have a1:decide ((i:Int)<20)=true:=dTo;have hw:=ja8 ((i:Int)+1);have kh:=kh (i:Int);have kl:=kl (i:Int);have h1:=bh i;have h2:=bl i;have h3:=a7 i;have h4:=a6 i;have w1:=ja8 (csum f i+f i);have w2:=ja8 (csum g i+g i);simp only[hd,a1,go_sem];refine ja0 kh ?_;simp only[w1,go_sem];refine ja0 kl ?_;simp only[w2,go_sem];refine ja7 (i+1) ?_ (by omega) (by omega);simp only[hw,csum,Int.natCast_add,go_sem]
 ·have hd:decide ((i:Int)<n)=false:=zh hp;obtain rfl:i=n.toNat:=by omega
  simp only[hd,go_sem]
end
section
set_option maxRecDepth 1000000
open Go.Abs
open Go.LP (Rw RT tsum Sol Bds ksum)
theorem hv_cap{r:Go.LQ.Rts}(h:Go.LQ.RightQ r){d:Int}(hd:0<=d/\d<r.cap.length)(y:Int):(0<=Go.LQ.hvS r d y/\Go.LQ.hvS r d y<=1000000)/\Go.LQ.hvS r d y<=r.cap.getD d.toNat 0:=by
 have h1:Go.LQ.hvS r d y<=r.cap.getD d.toNat 0:=by
  rw[h.hvS_psum];exact h.psum_le hd
 have h2:=h.cap (r.cap.getD d.toNat 0) (by
  rw[zW,za (by omega)];exact yn (by omega))
 have h3:0<=Go.LQ.hvS r d y:=by
  unfold Go.LQ.hvS;exact Go.LQ.csum_nonneg fun c _ _=>(h.hv d y c).1
 exact⟨⟨h3,by omega⟩,h1⟩
theorem over_cmp{n held:Int}{a1:Rat}(h1:(n:Rat)<=a1/((1000:Int):Rat))(h2:held<n):decide (0<cmpR a1 (Rat.divInt (1000*held) 1))=true:=by
 rw[div_one];refine zp (cmpR_pos.2 ?_);have h3:(held:Rat)<(n:Rat):=Rat.intCast_lt_intCast.2 h2;have h4:((1000*held:Int):Rat)=((1000:Int):Rat)*(held:Rat):=jJ _ _;have h5:((1000:Int):Rat)=1000:=rfl;rw[h5]at h1 h4;rw[h4];grind
end
section
set_option maxRecDepth 1000000
open Go.Abs
attribute [local go_sem] ints ic Raw.c rowC
def fewY(k:Int)(x:Raw):Bool:=decide ((x.l.length:Int)<=k)&&decide ((x.m.length:Int)<=k)
theorem t_few5y(x:Raw)(k:Int):Ctr G.P 25 [.agg x.c,.int k] (· = .bool (fewY k x)):=by
 refine ja3 [.tmp 4] Tryz.func25 ?_;unfold fewY;simp only[zw,go_sem]
 repeat' (first | (refine jc5 (fun hd=> ?_) (fun hd=> ?_)<;>simp only[*,go_sem]))
def okX(l:List Raw):Prop:=l.length<=8/\∀x∈l,x.l.length<=3/\x.m.length<=3
theorem few15_of{h:List (List Raw)}(h1:h.length<=14)(h2:∀l∈h,okX l):FewH h:=⟨by omega,fun l hl=>⟨by have:=(h2 l hl).1;omega,(h2 l hl).2⟩⟩
theorem t_few15(h:List (List Raw)):Ctr G.P 8 [hist h] (fun r=>∃z,r= .bool z/\(z=true->FewH h)):=by
 unfold hist;refine ja3 [.tmp 2] Tryz.func8 ?_;simp only[go_sem];refine jai [0,3] [] (fun i:Nat=>⟨[(0,.im (.sl (h.map rowC))),(3,.im (.int i))],[],[]⟩)
  (fun i=>i<=h.length/\i<=20/\∀l∈h.take i,okX l) (fun i=>h.length-i) 0 ?_ ⟨zG _,zG _,by simp⟩ ?_
 ·simp only[Int.natCast_zero,go_sem]
 intro i ⟨hi,a8,ha⟩;have fin:(h.length<=20->∀l∈h,okX l)->∃z,IV.bool (decide ((h.length:Int)<=14))= .bool z/\(z=true->FewH h):=fun a7=>⟨_,rfl,fun hz=>by
  have:=zI hz;exact few15_of (by omega) (a7 (by omega))⟩
 by_cases hp:(i:Int)<h.length
 ·have hd:decide ((i:Int)<h.length)=true:=zp hp;have a1:i<h.length:=by omega
  rcases d20:decide ((i:Int)<20)with _ | _
  ·have:=zJ d20;simp only[hd,d20,zw,go_sem];exact fin fun h1=>by omega
  have b0:=zI d20;obtain⟨l,hl⟩:=jcf hp;have h1:=ja8 ((i:Int)+1);rcases d8:decide (8<(l.length:Int))with _ | _
  case true=>
   simp only[hd,d20,d8,zw,zq,hl,hp,a1,go_sem];exact⟨false,rfl,fun hz=>by cases hz⟩
  have l8:=zJ d8;simp only[hd,d20,d8,zw,zq,hl,hp,a1,go_sem];refine jai [0,3,4] [] (fun m:Nat=>⟨[(0,.im (.sl (h.map rowC))),(3,.im (.int i)),(4,.im (.int m))],[],[]⟩)
   (fun m=>m<=l.length/\∀x∈l.take m,x.l.length<=3/\x.m.length<=3) (fun m=>l.length-m) 0 ?_ ⟨zG _,by simp⟩ ?_
  ·simp only[Int.natCast_zero,go_sem]
  intro m ⟨hm,hb⟩;by_cases hq:(m:Int)<l.length
  ·have he:decide ((m:Int)<l.length)=true:=zp hq;have a6:m<l.length:=by omega
   obtain⟨x,hx⟩:=jcf hq;have k5:=t_few5y x 3;have h2:=ja8 ((m:Int)+1);unfold Raw.c at k5;rcases hf:fewY 3 x with _ | _
   ·rw[hf]at k5;simp only[he,zw,zq,hl,hp,a1,hq,a6,hx,go_sem];refine ja0 k5 ?_;simp only[go_sem];exact⟨false,rfl,fun hz=>by cases hz⟩
   ·rw[hf]at k5;simp only[he,zw,zq,hl,hp,a1,hq,a6,hx,go_sem];refine ja0 k5 ?_;simp only[go_sem];refine ja7 (m+1) ?_ ?_ ?_
    ·simp only[h2,Int.natCast_add,go_sem]
    ·show l.length-(m+1)<l.length-m;omega
    ·refine⟨by show m+1<=l.length;omega,fun y hy=> ?_⟩;rw[take_succ hx,ql,zF]at hy;rcases hy with hy | rfl
     ·exact hb y hy
     ·simp only[fewY,zn,zN]at hf;omega
  ·have he:decide ((m:Int)<l.length)=false:=zh hq;rw[tLo]at hb;simp only[he,zw,zq,hl,hp,a1,go_sem];refine ja7 (i+1) ?_ ?_ ?_
   ·simp only[h1,Int.natCast_add,go_sem]
   ·show h.length-(i+1)<h.length-i;omega
   ·refine⟨by show i+1<=h.length;omega,by show i+1<=20;omega,fun y hy=> ?_⟩;rw[take_succ hl,ql,zF]at hy;rcases hy with hy | rfl
    ·exact ha y hy
    ·exact⟨by omega,hb⟩
 ·have hd:decide ((i:Int)<h.length)=false:=zh hp;rw[tLo]at ha;simp only[hd,zw,go_sem];exact fin fun _=>ha
end
section
set_option maxRecDepth 1000000
open Go.Abs
open Go.LP (Rw RT tsum Sol Bds)
attribute [local go_sem] ints ic Evid.c Evid.iv Recall.c
end
section
set_option maxRecDepth 1000000
open Go.Abs
open Go.LP (Rw RT tsum Sol Bds)
attribute [local go_sem] ints ic Evid.c Evid.iv Recall.c frac
theorem pickC_eq(ps:List (Int×Int)):(ps.map fun p=>[IV.int p.1,IV.int p.2])=ps.map pickC:=rfl
