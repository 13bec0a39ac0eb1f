/- A part of the proof. No further condition. -/
import Derived.Test.YtjcjcpebocbonaaGreatKZ1
set_option linter.all false
set_option maxRecDepth 10000000
set_option maxHeartbeats 16000000
namespace Go.Abs
section
open Go.RowKit (Below)
section
variable{G:Ctx}{N:Nat}{w0:Base}{w:World}{M M0:Nat->Nat->Prop}{β:Nat->Option Nat}{st:St}{a:Act}{toks:List (Nat×Nat×Nat)}{av:AV}{v:Value}
theorem jhf{lo:Option AV}{lv:Option Value}{d:Nat}{n:Int}(h:∀x,lo=some x->∃v,lv=some v/\RepA w M β toks x v)(hn:lo=none->lv=none)(hb:bnd lo d=some n):
  (lv=none/\n=d)\/∃k,lv=some (.int k n):=by
 unfold bnd at hb;split at hb
 ·cases hb;exact .inl ⟨hn rfl,rfl⟩
 ·rename_i k n';cases hb;obtain⟨v,hv,hr⟩:=h _ rfl;obtain rfl:=Rep.sc_inv hr;exact .inr ⟨k,hv⟩
 ·cases hb
theorem je0{P:Program}{lv hv:Option Value}{l h:Int}{len cap:Nat}(hl:(lv=none/\l=0)\/∃k,lv=some (.int k l))(hh:(hv=none/\h=(len:Int))\/∃k,hv=some (.int k h))
  (h0:0<=l) (h1:l<=h) (h2:h<=(len:Int)) (hc:len<=cap):(Instr.sliceBounds true len cap lv hv none).run P w= .ok (l.toNat,h.toNat,cap) w:=by
 have eh:(h.toNat:Int)=h:=qL (by omega);have a7:∀k code,(Instr.sliceBound (.int k h) cap code).run P w= .ok h.toNat w:=fun k code=>run_sliceBound w k h cap code (by omega) (by omega);have a6:∀k code,(Instr.sliceBound (.int k l) h.toNat code).run P w= .ok l.toNat w:=fun k code=>run_sliceBound w k l _ code h0 (by omega);have a1:∀k code,(Instr.sliceBound (.int k l) len code).run P w= .ok l.toNat w:=fun k code=>run_sliceBound w k l _ code h0 (by omega);rcases hl with ⟨rfl,rfl⟩ | ⟨k,rfl⟩<;>rcases hh with ⟨rfl,rfl⟩ | ⟨k',rfl⟩<;>simp[Instr.sliceBounds,a7,a6,a1]
theorem Rep.sl_cut{es:List (List IV)}{a:Option Addr}{c l n s:Nat}(h:Rep w M (.sl es) (.slice a es.length c))(b0:l+n<=es.length)(hc:es.length<=c)(hs:∀e∈es,e.length=s):
  Rep w M (.sl ((es.drop l).take n)) (.slice (if c=l then a else a.map (·.add (l*s))) n (c-l)):=by
 by_cases hn:n=0
 ·subst hn;simp only[List.take_zero];exact .nil _ _
 ·rcases h.sl_inv with ⟨rfl,_⟩ | ⟨s',b,o,cap,u,a8,a7,b1,h4,h5,he⟩
  ·simp at b0;omega
  ·simp only[Value.slice.injEq,wA]at he;obtain⟨rfl,rfl⟩:=he;have a6:s=s':=by
    cases es with
    | nil=>exact absurd rfl a8
    | cons e es=>rw[<-hs e (by simp),a7 e (by simp)]
   subst a6;rw[iNo];simp only[Option.map_some,Addr.add_lit];have hlen:((es.drop l).take n).length=n:=by simp;omega
   have a1:∀i e,((es.drop l).take n)[i]? =some e->es[l+i]? =some e:=fun i e hi=>by
    rw[qy]at hi;split at hi
    ·rwa [qQ]at hi
    ·cases hi
   have:=Rep.sl (w:=w) (M:=M) ((es.drop l).take n) s b (o+l*s) (c-l) (fun i j=>u (l+i) j) (fun h=>by rw[h]at hlen;simp at hlen;omega)
    (fun e he=>hs e (yq (yz he))) (by omega)
    (fun i e j x hi hj=>by
     have:=h4 (l+i) e j x (a1 i e hi) hj;rw[qD,<-jH]at this;exact this)
    (fun i e j x hi hj=>h5 (l+i) e j x (a1 i e hi) hj)
   rw[hlen]at this;exact this
theorem ySlice_run(hG:G.Ok)(hβ:∀b,β (hp b)=some b){t:TypeId}{x av:AV}{xv:Value}{lo hi:Option AV}{lv hv:Option Value}(hx:RepA w M β toks x xv)
  (b8:∀x,lo=some x->∃v,lv=some v/\RepA w M β toks x v) (a6:lo=none->lv=none) (b9:∀x,hi=some x->∃v,hv=some v/\RepA w M β toks x v) (a7:hi=none->hv=none)
  (hy:jrr G t x lo hi=some av):∃v,(Instr.sliceAt t xv lv hv none).run G.P w= .ok v w/\RepA w M β toks av v:=by
 unfold jrr at hy;split at hy
 ·cases hy
 ·rename_i h0;split at hy
  ·rename_i e hk;have hu:=hG.sl h0 hk;split at hy
   ·cases hy
   ·rename_i h1;have b6:G.P.elem t=e:=by simp[Program.elem,hu]
    have a1:G.P.underlying t=some (.slice (G.P.elem t)):=by rw[b6];exact hu
    have c8:=fun d e s n=>soft2_gsl (x:=x) (lo:=lo) (d:=d) (e:=e) (s:=s) (n:=n);have c7:=fun d e s n=>soft2_ref (x:=x) (lo:=lo) (d:=d) (e:=e) (s:=s) (n:=n);replace hx:=hx.soft2 hβ lo;generalize x.soft2 lo=x at hx hy c8 c7;split at hy
    ·rename_i d e' s m;split at hy
     ·rename_i h b3;split at hy
      ·rename_i hc;obtain⟨b1,b0⟩:=hc;cases hy;have b5:=c8 d e' s m rfl;subst b5;obtain⟨b,cap,cur,hb,rfl,b7,b4,c4,c3⟩:=hx;have b2:bnd (none:Option AV) 0=some 0:=rfl;have a8:=je0 (P:=G.P) (w:=w) (cap:=cap) (len:=m) (jhf b8 a6 b2) (jhf b9 a7 b3) (yc 0) b1 b0 b4;refine⟨sliced (some ⟨b,0,none⟩) (Int.toNat 0) h.toNat cap (G.ti e).size,?_,?_⟩
       ·rw[run_sliceAt_slice w t _ _ _ _ a1,run_slice_any w t _ m cap a1,a8];simp only[Result.andThen_ok,b6,hG.size h1]
       ·refine⟨b,cap,cur,hb,?_,b7,by omega,c4,c3⟩;simp[sliced];intro _;rfl
      ·cases hy
     ·cases hy
    ·rename_i d e' s m;split at hy
     ·rename_i h b3;split at hy
      ·rename_i hc;obtain⟨b1,b0⟩:=hc;cases hy;have b5:=c7 d e' s m rfl;subst b5;cases hx with
       | ref _ _ _ _ cap cur b7 b4 c4 c3=>
       have b2:bnd (none:Option AV) 0=some 0:=rfl;have a8:=je0 (P:=G.P) (w:=w) (cap:=cap) (len:=m) (jhf b8 a6 b2) (jhf b9 a7 b3) (yc 0) b1 b0 b4;refine⟨sliced (some ⟨d,0,none⟩) (Int.toNat 0) h.toNat cap (G.ti e).size,?_,?_⟩
       ·rw[run_sliceAt_slice w t _ _ _ _ a1,run_slice_any w t _ m cap a1,a8];simp only[Result.andThen_ok,b6,hG.size h1]
       ·have e0:sliced (some ⟨d,0,none⟩) (Int.toNat 0) h.toNat cap (G.ti e).size= .slice (some ⟨d,0,none⟩) h.toNat cap:=by
         simp[sliced];intro _;rfl
        rw[e0];exact Rep.ref d e' s h.toNat cap cur b7 (by omega) c4 c3
      ·cases hy
     ·cases hy
    ·rename_i d s i m;split at hy
     ·rename_i l h b2 b3;split at hy
      ·rename_i hc;obtain⟨c6,b1,b0,c5⟩:=hc;cases hy;obtain⟨ad,c,b4,rfl,e2⟩:=hx;have a8:=je0 (P:=G.P) (w:=w) (cap:=c) (len:=m) (jhf b8 a6 b2) (jhf b9 a7 b3) c6 b1 b0 b4;refine⟨sliced ad l.toNat h.toNat c (G.ti e).size,?_,?_⟩
       ·rw[run_sliceAt_slice w t _ _ _ _ a1,run_slice_any w t ad m c a1,a8];simp only[Result.andThen_ok,b6,hG.size h1]
       ·refine⟨if c=l.toNat then ad else ad.map (·.add (l.toNat*(G.ti e).size)),c-l.toNat,by omega,?_,?_⟩
        ·show sliced ad l.toNat h.toNat c (G.ti e).size=_;have:(h-l).toNat=h.toNat-l.toNat:=by omega
         rw[this];rfl
        ·intro e3;obtain⟨b,hb,rfl⟩:=e2 (by omega);refine⟨b,hb,?_⟩;rw[iNo];simp only[Option.map_some,Addr.add_lit,<-c5,<-qD]
      ·cases hy
     ·cases hy
    ·rename_i x _;split at hy
     ·rename_i es e1;have hr:=jcy hx e1;split at hy
      ·rename_i l h b2 b3;split at hy
       ·rename_i hc;obtain⟨c6,b1,b0,c5⟩:=hc;cases hy;obtain⟨a,c,rfl,c0⟩:=hr.sl_len;have a8:=je0 (P:=G.P) (w:=w) (cap:=c) (len:=es.length) (jhf b8 a6 b2) (jhf b9 a7 b3) c6 b1 b0 c0;refine⟨sliced a l.toNat h.toNat c (G.ti e).size,?_,?_⟩
        ·rw[run_sliceAt_slice w t _ _ _ _ a1,run_slice_any w t a es.length c a1,a8];simp only[Result.andThen_ok,b6,hG.size h1]
        ·exact hr.sl_cut (by omega) c0 (fun e he=>by simpa using List.all_eq_true.1 c5 e he)
       ·cases hy
      ·cases hy
     ·cases hy
  ·rename_i n e hk;have hu:=hG.arr h0 hk;split at hy
   ·rename_i cs;split at hy
    ·rename_i hc;obtain⟨h1,h2,h3⟩:=hc;cases hy;rw[a6 rfl,a7 rfl];cases hx with
     | ip _ _ b o u g1 g2=>
     refine⟨.slice (some ⟨b,o,none⟩) n n,?_,?_⟩
     ·have c9:=hG.size (w:=w) (t:=e) (by omega);simp only[Instr.sliceAt,Instr.sureAddr,Sem.run_bind,run_underlying hu,Result.andThen_ok,Instr.sliceBounds,Sem.run_pure,c9];simp[h3,Addr.add]
     ·have hl:(cs.map fun c=>[c]).length=n:=by rw[za];exact h2
      have:=Rep.sl (w:=w) (M:=M) (cs.map fun c=>[c]) 1 b o n (fun i _=>u i) (fun he=>h3 (by rw[<-hl,he];rfl)) (fun x hx=>by
       obtain⟨c,_,rfl⟩:=z8.1 hx;rfl) (by omega) (fun i x j y hi hj=>by
       rw[zq]at hi;obtain⟨c,hc,rfl⟩:=qz.1 hi
       match j,hj with
       | 0,hj=>
        cases hj;have:=g1 i _ hc
        simpa using this
       | j+1,hj=>simp at hj) (fun i x j y hi hj=>by
       rw[zq]at hi;obtain⟨c,hc,rfl⟩:=qz.1 hi
       match j,hj with
       | 0,hj=>cases hj;exact g2 i _ hc
       | j+1,hj=>simp at hj)
      rw[hl]at this;exact this
    ·cases hy
   ·cases hy
  ·cases hy
theorem jqn{xs:List IV}{ns:List Int}{vs:List Value}(hi:intsI xs=some ns)(h:RepL w M xs vs):vs=ns.map (Value.int .i64):=by
 induction xs generalizing ns vs with
 | nil=>
  cases hi;exact h.of_nil
 | cons x xs ih=>
  unfold intsI at hi;split at hi
  ·rename_i e;cases e
  ·rename_i n r e;cases e;split at hi
   ·rename_i a6 hr;cases hi;obtain⟨v,a1,rfl,h1,h2⟩:=h.uncons;rw[Rep.sc_inv h1,ih hr h2];rfl
   ·cases hi
  ·cases hi
theorem joq{k:AV}{kv:Value}{x:List Int}(hi:keyI k=some x)(h:RepA w M β toks k kv):kv=keyV x:=by
 unfold keyI at hi;split at hi
 ·obtain⟨us,e,hu,_⟩:=Rep.agg_inv h;rw[e];have:=jqn hi hu;unfold keyV;rw[<-this]
 ·cases hi
theorem jqt(b:Bool)(v:List Int):Rep w M (elemI b v) (elemV b v):=by
 unfold elemI elemV;cases b with
 | true=>exact Rep.sc _ rfl
 | false=>
  simp only[ya,qp,ivs_eq];exact RepL.agg (by simpa using jl8 w M v) (fun x hx=>by
   obtain⟨n,_,rfl⟩:=z8.1 hx;rfl)
theorem jql{m:AV}{mv:Value}{sc:Nat×Bool}{kvs:List (List Int×List Int)}(hm:RepA w M β st.toks m mv)(h:mapOf st m=some (sc,kvs)):
  (mv= .map none/\kvs=[])\/∃b es c,mv= .map (some b)/\w.heap[b]? =some (.map es c)/\Ents sc kvs es:=by
 unfold mapOf at h;split at h
 ·cases h;cases hm with
  | mpn=>exact .inl ⟨rfl,rfl⟩
  | mp _ _ b es c h1 h2 h3 _=>exact .inr ⟨b,es,c,rfl,h1,h3⟩
 ·split at h
  ·rename_i ht;cases h;obtain⟨b,h1,h2,h3⟩:=hm;obtain⟨es,c,h4,h5,_⟩:=h3 ht;exact .inr ⟨b,es,c,h2,h4,h5⟩
  ·cases h
 ·cases h
theorem jph(hG:G.Ok){e:TypeId}{z:IV}(h:zeroE G e=some z)(w:World)(M:Nat->Nat->Prop):∃zv,(zeroValue e).run G.P w= .ok zv w/\Rep w M z zv:=by
 unfold zeroE at h;split at h
 ·rename_i cs hz;obtain⟨zv,h1,h2,h3,h4,h5⟩:=jf2 hG hz w M;have a1:=hG.zeroAgg h4 h1;refine⟨zv,h1,?_⟩;split at h
  ·rename_i hk;cases h;have:∃us,zv= .agg us:=by
    generalize (G.ti e).kind=k at hk a1;cases k<;>simp_all[aggK]
   obtain⟨us,rfl⟩:=this;exact RepL.agg h2 h3
  ·rename_i hk;split at h
   ·rename_i x;cases h;have a6:∀us,zv≠ .agg us:=by
     generalize (G.ti e).kind=k at hk a1;cases k<;>simp_all[aggK]
    have hc:zv.cells= #[zv]:=by
     cases zv<;>first | rfl | exact absurd rfl (a6 _)
    rw[hc]at h2;obtain⟨v,vs,e1,e2,e3⟩:=h2.uncons;cases e1;exact e2
   ·cases h
 ·cases h
theorem joi:∀x:List Int,nlen x=x.length
 | []=>rfl
 | _::l=>by rw[nlen,joi l];rfl
theorem yLookup_run(hG:G.Ok){t:TypeId}{m k:AV}{mv kv:Value}{ok:Bool}(hm:RepA w M β st.toks m mv)(hk:RepA w M β st.toks k kv)(hy:jjf G t (mapOf st m) (keyI k) ok=some av):
  ∃v,(Instr.lookup t mv kv ok).run G.P w= .ok v w/\RepA w M β st.toks av v:=by
 unfold jjf at hy;split at hy
 ·cases hy
 rename_i h0;split at hy
 ·rename_i sc kvs x kt e b4 b5 b6;have hu:=hG.mp h0 b6;obtain rfl:=joq b5 hk;split at hy
  ·rename_i n hn;split at hy
   ·rename_i hc;obtain⟨b9,b8⟩:=hc;rw[joi]at b9;have b3:=jql hm b4;have b7:∃es:Array MapEntry,Ents sc kvs es/\∀(k:Array MapEntry->Sem Value) (r:Result Value),(k es).run G.P w=r->(do
      let es<-match mv with
       | .map none=>pure #[]
       | .map (some r)=>do
        let .map es _<-getObj r | stuck "Lookup: map expected"
        pure es
       | _=>stuck "Lookup: map expected"
      k es:Sem Value).run G.P w=r:=by
     rcases b3 with ⟨rfl,rfl⟩ | ⟨b,es,c,rfl,hb,he⟩
     ·exact⟨#[],⟨by simp,rfl⟩,fun k r h=>by simpa using h⟩
     ·refine⟨es,he,fun k r h=> ?_⟩;have hg:(getObj b).run G.P w= .ok (.map es c) w:=by simp[getObj,Sem.run,hb]
      simp only[Sem.run_bind,hg,Result.andThen_ok,Sem.run_pure];exact h
    obtain⟨es,he,a6⟩:=b7;have hf:=run_findKey_rows (w:=w) hG hn (x:=x) (by omega) (sc:=sc) (kvs:=kvs) (es:=es) (fun b2=>b8.resolve_left b2) he;have b0:=run_key_check hG hn (xs:=x) (by omega) es.isEmpty w;have a1:=jg4 kvs x 0;unfold Instr.lookup;rw[Sem.run_bind,run_underlying hu,Result.andThen_ok];split at hy
    ·rename_i v hv;cases hy;rw[hv]at a1;obtain⟨⟨i,v'⟩,a7,rfl⟩:=qz.1 a1;rw[a7]at hf;refine⟨if ok=true then .tuple #[elemV sc.2 v',.bool true]else elemV sc.2 v',a6 _ _ ?_,?_⟩
     ·simp only[Sem.run_bind,b0,Result.andThen_ok,hf,Option.map_some,Sem.run_pure]
     ·cases ok with
      | true=>exact RepL.tup (vs:= #[_,_]) (RepL.cons (jqt _ _) (RepL.cons (Rep.sc _ rfl) RepL.nil))
      | false=>exact jqt _ _
    ·rename_i hv;rw[hv]at a1;have a7:mfind kvs x 0=none:=by simpa using a1
     rw[a7]at hf;split at hy
     ·rename_i z hz;cases hy;obtain⟨zv,b1,a8⟩:=jph hG hz w M;refine⟨if ok=true then .tuple #[zv,.bool false]else zv,a6 _ _ ?_,?_⟩
      ·simp only[Sem.run_bind,b0,Result.andThen_ok,hf,Option.map_none,b1,Sem.run_pure]
      ·cases ok with
       | true=>exact RepL.tup (vs:= #[_,_]) (RepL.cons a8 (RepL.cons (Rep.sc _ rfl) RepL.nil))
       | false=>exact a8
     ·cases hy
   ·cases hy
  ·cases hy
 ·cases hy
theorem yLenM_run(hG:G.Ok){t ty:TypeId}{m:AV}{mv:Value}(hm:RepA w M β st.toks m mv)(hk:isMp (G.ti t).kind=true)(hy:yLenM G t (mapOf st m)=some av):
  ∃v,(Builtin.len_ #[t] ty #[mv]).run G.P w= .ok v w/\RepA w M β st.toks av v:=by
 unfold yLenM at hy;split at hy
 ·cases hy
 rename_i h0;split at hy
 ·rename_i sc kvs a1;cases hy;obtain⟨kt,e,hkd⟩:∃kt e,(G.ti t).kind= .mp kt e:=by
   generalize (G.ti t).kind=k at hk;cases k<;>simp_all[isMp]
  have hu:=hG.mp h0 hkd;rcases jql hm a1 with ⟨rfl,rfl⟩ | ⟨b,es,c,rfl,hb,he⟩
  ·exact⟨_,by simp[Builtin.len_,run_underlying hu,goInt],Rep.sc _ rfl⟩
  ·have hg:(getObj b).run G.P w= .ok (.map es c) w:=by simp[getObj,Sem.run,hb]
   have hl:es.size=kvs.length:=by have:=zS List.length he.2;simpa using this
   exact⟨_,by simp[Builtin.len_,run_underlying hu,hg,goInt,hl],Rep.sc _ rfl⟩
 ·cases hy
theorem yLen_run(hG:G.Ok)(hβ:∀b,β (hp b)=some b){t ty:TypeId}{x av:AV}{xv:Value}(hx:RepA w M β toks x xv)(hy:yLen G t x=some av):
  ∃v,(Builtin.len_ #[t] ty #[xv]).run G.P w= .ok v w/\RepA w M β toks av v:=by
 unfold yLen at hy;split at hy
 ·cases hy
 ·rename_i h0;split at hy
  ·rename_i e hk;have hu:=hG.sl h0 hk;replace hx:=hx.soft hβ;generalize x.soft=x at hx hy;split at hy
   ·cases hy;obtain⟨_,c,_,rfl,_⟩:=hx;exact⟨_,by simp[Builtin.len_,run_underlying hu,goInt],Rep.sc _ rfl⟩
   ·split at hy
    ·rename_i es a1;cases hy;obtain⟨a,c,rfl,_⟩:=(jcy hx a1).sl_len;exact⟨_,by simp[Builtin.len_,run_underlying hu,goInt],Rep.sc _ rfl⟩
    ·cases hy
  ·rename_i hk;have hu:=hG.str h0 hk;split at hy
   ·cases hy;obtain rfl:=Rep.sc_inv hx;exact⟨_,by simp[Builtin.len_,run_underlying hu,goInt],Rep.sc _ rfl⟩
   ·cases hy
  ·cases hy
theorem jra(h:Sim N w0 M0 β st a w):∀{xs:List Operand} {vs:List Value},scs (xs.map (evO st))=some vs->xs.map a.eval=vs/\∀v∈vs,jek v=true
 | [],vs,hq=>by cases hq;exact⟨rfl,by simp⟩
 | x::r,vs,hq=>by
  simp only[zt]at hq;unfold scs at hq;split at hq
  ·rename_i h1;cases h1
  ·rename_i v r' h1;simp only[yT]at h1;obtain⟨h1,rfl⟩:=h1;split at hq
   ·rename_i a6 a1;cases hq;obtain⟨h2,h3⟩:=jra h a1;have hr:=jb6 h x;rw[h1]at hr;have hv:a.eval x=v:=Rep.sc_inv hr;have hp:jek v=true:=by cases hr with | sc _ hp=>exact hp
    exact⟨by simp[hv,h2],by simpa [hp]using h3⟩
   ·cases hq
  ·cases hq
theorem jh9(h:Sim N w0 M0 β st a w):∀{xs:List Operand} {ys:List IV},ivsOf (xs.map (evO st))=some ys->RepL w (Mo M0 β st) ys (xs.map a.eval)
 | [],ys,hq=>by cases hq;exact RepL.nil
 | x::r,ys,hq=>by
  simp only[zt]at hq;unfold ivsOf at hq;split at hq
  ·rename_i y a1 h1 h2;cases hq;exact RepL.cons (jfk (jb6 h x) h1) (jh9 h h2)
  ·cases hq
theorem isPt_rep{M:Nat->Nat->Prop}{toks:List (Nat×Nat×Nat)}{av:AV}{v:Value}(h:isPt av=true)(hv:RepA w M β toks av v):∃ad,v= .pointer (some ad):=by
 unfold isPt at h;split at h
 ·obtain⟨b,_,hv⟩:=hv;exact⟨_,hv⟩
 ·cases hv;exact⟨_,rfl⟩
 ·cases hv;exact⟨_,rfl⟩
 ·cases h
theorem yv_run(hG:G.Ok)(h:Sim N w0 M0 β st a w){o:Oper}(hy:yv G st o=some av):
  ∃v w',(execOp a.eval o).run G.P w= .ok (.value v) w'/\Below w.heap.size w w'/\RepA w' (Mo M0 β st) β st.toks av v:=by
 have same:∀{s:Sem Value} {v:Value},s.run G.P w= .ok v w->RepA w (Mo M0 β st) β st.toks av v->
   ∃v w',(do pure (.value (<-s)):Sem Next).run G.P w= .ok (.value v) w'/\Below w.heap.size w w'/\RepA w' (Mo M0 β st) β st.toks av v:=
  fun{s v} h1 h2=>⟨v,w,by simp[h1],Below.refl _ _,h2⟩
 have ev:=jb6 h;unfold yv at hy;unfold execOp;split at hy<;>rename_i ho<;>first | (rw[ho];simp only) | (cases hy;done)
 ·cases hy;exact⟨_,w,rfl,Below.refl _ _,ev _⟩
 ·cases hy;exact⟨_,w,rfl,Below.refl _ _,ev _⟩
 ·
  rename_i c x y;split at hy
  ·rename_i t hc;cases hy;have:=ev c;rw[hc]at this;have c8:=Rep.sc_inv this;refine⟨if t=true then a.eval x else a.eval y,w,?_,Below.refl _ _,?_⟩
   ·rw[c8];cases t<;>simp[asBool]
   ·cases t
    ·exact ev y
    ·exact ev x
  ·cases hy
 ·
  rename_i op t x y yt;split at hy
  ·rename_i u v hx a7;split at hy
   ·rename_i r hr;cases hy;have a1:=ev x;rw[hx]at a1;have a6:=ev y;rw[a7]at a6;have e1:=Rep.sc_inv a1;have e2:=Rep.sc_inv a6;obtain⟨h1,h2,_⟩:=scBin_run hG hr x y w;refine same (v:=r) ?_ (Rep.sc _ h2);rw[e1,e2];exact h1
   ·cases hy
  ·rename_i xs ys hx a7;split at hy
   ·rename_i r hr;cases hy;have a1:=ev x;rw[hx]at a1;have a6:=ev y;rw[a7]at a6;obtain⟨us,e1,hu,_⟩:=Rep.agg_inv a1;obtain⟨vs,e2,hv,_⟩:=Rep.agg_inv a6;obtain⟨h1,h2,_⟩:=aggBin_run hG hr hu hv x y;refine same (v:=r) ?_ (Rep.sc _ h2);rw[e1,e2];exact h1
   ·cases hy
  ·rename_i a7 _;split at hy
   ·rename_i hc;split at hy
    ·rename_i r hr;cases hy;have a6:=ev y;rw[a7]at a6;have e2:=Rep.sc_inv a6;obtain⟨ad,e1⟩:=isPt_rep hc.1 (ev x);obtain⟨h1,h2,_⟩:=jn2 (p:=some ad) hG hc.2.1 hc.2.2 hr x y w;refine same (v:=r) ?_ (Rep.sc _ h2);rw[e1,e2];exact h1
    ·cases hy
   ·cases hy
  ·cases hy
 ·
  rename_i op t x;split at hy
  ·rename_i u hx;split at hy
   ·rename_i r hr;cases hy;have a1:=ev x;rw[hx]at a1;have e1:=Rep.sc_inv a1;obtain⟨h1,h2,_⟩:=scUn_run (P:=G.P) hr w;refine same (v:=r) ?_ (Rep.sc _ h2);rw[e1];exact h1
   ·cases hy
  ·cases hy
 ·
  rename_i x;split at hy
  ·rename_i cs j hx;cases hy;have a1:=(ev x).dp h.perm;rw[hx]at a1;obtain⟨b,o',u,e,_⟩:=jsw a1;rw[e]at a1⊢;exact⟨_,w,rfl,Below.refl _ _,a1⟩
  ·rename_i f cs hx;cases hy;have a1:=(ev x).dp h.perm;rw[hx]at a1;obtain⟨vs,e,_⟩:=Rep.clo_inv a1;rw[e]at a1⊢;exact⟨_,w,rfl,Below.refl _ _,a1⟩
  ·rename_i d s i j hx;cases hy;have a1:=(ev x).dp h.perm;rw[hx]at a1;obtain⟨b,hb,e⟩:=a1;rw[e];exact⟨_,w,rfl,Below.refl _ _,b,hb,rfl⟩
  ·cases hy
 ·
  rename_i t p;obtain⟨v,h1,h2⟩:=jpi hG h (ev p) hy;exact same h1 h2
 ·
  rename_i t x f;split at hy
  ·rename_i off ty hf;split at hy
   ·rename_i c j hx;cases hy;have a1:=(ev x).dp h.perm;rw[hx]at a1;obtain⟨b,o',e,hm⟩:=ip_move (k:=off) a1;rw[e];exact same (jm4 hG hf b o') hm
   ·rename_i d s i j hx;cases hy;have a1:=(ev x).dp h.perm;rw[hx]at a1;obtain⟨b,hb,e⟩:=a1;rw[e];exact same (jm4 hG hf b _) ⟨b,hb,by rw[jH]⟩
   ·cases hy
  ·cases hy
 ·
  rename_i t x f;split at hy
  ·rename_i off ty hf;split at hy
   ·rename_i cs hx;have a1:=ev x;rw[hx]at a1;obtain⟨us,e1,hu,b3⟩:=Rep.agg_inv a1;obtain⟨gs,fd,c0,c6,rfl,rfl,h1⟩:=jmn hG hf;obtain⟨v,y,hr,rfl,b7⟩:=jsd (w:=w) hG h1 hu b3 hy;rw[e1];refine same (v:=v) ?_ b7;simp only[Instr.field,Sem.run_bind,run_underlying c0,Result.andThen_ok,c6,asAgg,Sem.run_pure,hr]
   ·cases hy
  ·cases hy
 ·
  rename_i t x i;split at hy
  ·rename_i k n hi;have a8:=ev i;rw[hi]at a8;rw[Rep.sc_inv a8];obtain⟨v,h1,h2⟩:=yIndexAddr_run (w:=w) (k:=k) hG h.perm (ev x) hy;exact same h1 h2
  ·cases hy
 ·
  rename_i t x i;split at hy
  ·rename_i k n hi;have a8:=ev i;rw[hi]at a8;rw[Rep.sc_inv a8];obtain⟨v,h1,h2⟩:=yIndex_run (w:=w) (k:=k) hG (ev x) hy;exact same h1 h2
  ·cases hy
 ·
  rename_i x k;split at hy
  ·rename_i vs hx;split at hy
   ·rename_i y b2;cases hy;have a1:=ev x;rw[hx]at a1;obtain⟨us,e1,hu⟩:=Rep.tup_inv a1;have b4:k<us.size:=by have:=hu.1;have:=(zr.1 b2).1;simp at*;omega
    rw[e1];refine same (v:=us[k]) ?_ (hu.2 k y _ b2 (by simp[b4]));simp[Instr.extract,b4]
   ·cases hy
  ·cases hy
 ·
  rename_i t ps;split at hy
  ·rename_i qs hq;have hp:=jid h hq;obtain⟨v,h1,h2⟩:=yBuild_run (G:=G) (w:=w) (M:=Mo M0 β st) (β:=β) (toks:=st.toks) (qs:=ps.map fun p=>(p.1,a.eval p.2)) hG (by simpa using hp) hy;exact same h1 h2
  ·cases hy
 ·
  rename_i t len ps;split at hy
  ·rename_i qs hq;have hp:=jid h hq;obtain⟨v,w',h1,h2,h3⟩:=yBuildSlice_run (G:=G) (w:=w) (M:=Mo M0 β st) (β:=β) (toks:=st.toks) (qs:=ps.map fun p=>(p.1,a.eval p.2)) hG (fun b o hm=>h.mlt hm) (by simpa using hp) hy;exact⟨v,w',by simp[h1],h2,h3⟩
  ·cases hy
 ·
  rename_i src dst x;split at hy
  ·cases hy
  ·rename_i hc;split at hy
   ·rename_i k k' n hk hx;cases hy;have a1:=ev x;rw[hx]at a1;rw[Rep.sc_inv a1];have hd:(G.ti dst).size≠0:=fun e=>hc (.inr e);have hs:(G.ti src).size≠0:=fun e=>hc (.inl e);have b9:=hG.it hd hk;have b0:∃d,G.P.underlying src=some d:=by
     have:=hG.kind hs;unfold TK.okB at this;cases c3:G.P.underlying src with
     | some d=>exact⟨d,rfl⟩
     | none=>rw[c3]at this;split at this<;>simp_all
    obtain⟨d,b0⟩:=b0;refine same (v:= .int k (k.wrap n)) ?_ (Rep.sc _ rfl);simp[convert,run_underlying b9,run_underlying b0,Conv.intToInt]
   ·cases hy
 ·
  rename_i t m k ok;obtain⟨v,h1,h2⟩:=yLookup_run (G:=G) (w:=w) hG (ev m) (ev k) hy;exact same h1 h2
 ·
  rename_i t x lo hi mx;split at hy
  ·cases hy
  ·rename_i hm;have c4:mx=none:=by cases mx<;>simp_all
   subst c4;obtain⟨v,h1,h2⟩:=ySlice_run (G:=G) (w:=w) hG h.perm (ev x) (lv:=lo.map a.eval) (hv:=hi.map a.eval)
    (fun y hy=>by obtain⟨o',b1,rfl⟩:=qz.1 hy;exact⟨_,by rw[b1];rfl,ev o'⟩) (fun h=>by cases lo<;>simp_all)
    (fun y hy=>by obtain⟨o',b1,rfl⟩:=qz.1 hy;exact⟨_,by rw[b1];rfl,ev o'⟩) (fun h=>by cases hi<;>simp_all) hy
   exact same h1 h2
 ·
  rename_i fn first caps;split at hy
  ·rename_i f;split at hy
   ·rename_i h0;split at hy
    ·rename_i xs b8;cases hy;have hr:=jh9 h b8;have c7:first= #[]:=we h0;subst c7;refine same (v:= .func (.func f) #[] (caps.map a.eval)) (by simp[Instr.makeFunc]) ?_;exact .clo f xs _ (by have:=hr.1;simpa using this) fun k x v hx hv=>hr.2 k x v hx (by simpa using hv)
    ·cases hy
   ·cases hy
  ·cases hy
 ·
  rename_i c;split at hy
  ·rename_i b hb;split at hy
   ·
    split at hy
    ·rename_i t x ht hx;have b6:c.argTypes= #[t]:=by apply yO;simpa using ht
     have b5:c.args= #[x]:=by apply yO;simpa using hx
     split at hy
     ·rename_i c5;obtain⟨v,h1,h2⟩:=yLenM_run (G:=G) (w:=w) (ty:=o.type) hG (ev x) c5 hy;refine⟨v,w,?_,Below.refl _ _,h2⟩;simp[resolve,hb,invoke,builtin,b6,b5,h1]
     ·obtain⟨v,h1,h2⟩:=yLen_run (G:=G) (w:=w) (ty:=o.type) hG h.perm (ev x) hy;refine⟨v,w,?_,Below.refl _ _,h2⟩;simp[resolve,hb,invoke,builtin,b6,b5,h1]
    ·cases hy
   ·split at hy
    ·rename_i x r hs;split at hy
     ·rename_i v hv;cases hy;obtain⟨h1,h2⟩:=jra h (xs:=c.args.toList) hs;have hp:jek x=true:=h2 x (by simp);obtain⟨h3,h4⟩:=jjm (P:=G.P) (f:=jq0) (g:=Builtin.min2) (fun x y z w hh=>scMin2_run hh w) r x v w hp hv;refine⟨v,w,?_,Below.refl _ _,Rep.sc _ h4⟩;have e:(c.args.map a.eval).toList=x::r:=by simpa using h1
      simp only[resolve,hb,invoke,builtin,Sem.run_bind,Sem.run_pure,Result.andThen_ok,Builtin.min_];rw[e];simp[h3,Addr.add]
     ·cases hy
    ·cases hy
   ·split at hy
    ·rename_i x r hs;split at hy
     ·rename_i v hv;cases hy;obtain⟨h1,h2⟩:=jra h (xs:=c.args.toList) hs;have hp:jek x=true:=h2 x (by simp);obtain⟨h3,h4⟩:=jjm (P:=G.P) (f:=jq1) (g:=Builtin.max2) (fun x y z w hh=>scMax2_run hh w) r x v w hp hv;refine⟨v,w,?_,Below.refl _ _,Rep.sc _ h4⟩;have e:(c.args.map a.eval).toList=x::r:=by simpa using h1
      simp only[resolve,hb,invoke,builtin,Sem.run_bind,Sem.run_pure,Result.andThen_ok,Builtin.max_];rw[e];simp[h3,Addr.add]
     ·cases hy
    ·cases hy
   ·cases hy
  ·cases hy
end
end
section
open Go.RowKit (Below)
def AV.refs:AV->Nat->Prop
 | .vec d' _ _ _,d=>d'=d
 | .osl d' _ _ _,d=>d'=d
 | .gsl d' _ _ _,d=>d'=d
 | .loc d' _ _ _,d=>d'=d
 | .mpo d' _ _,d=>d'=d
 | _,_=>False
def AV.purge(d:Nat):AV->AV
 | .vec d' e s es=>if d'=d then .im (.sl es)else .vec d' e s es
 | .osl d' s i n=>if d'=d then .und else .osl d' s i n
 | .gsl d' e s n=>if d'=d then .und else .gsl d' e s n
 | .loc d' s i j=>if d'=d then .und else .loc d' s i j
 | .mpo d' sc kvs=>if d'=d then .und else .mpo d' sc kvs
 | .im x=> .im x
 | .und=> .und
 | .sx es=> .sx es
def St.fresh(st:St)(d:Nat):St:=⟨st.fr.map fun p=>(p.1,p.2.purge d),del st.rows d,del st.toks d⟩
def AV.lend(d s:Nat)(es:List (List IV)):AV->AV
 | .osl d' s' i n=>if d'=d then(if s'=s/\i+n<=es.length then .im (.sl ((es.drop i).take n))else .und)else .osl d' s' i n
 | .gsl d' e s' n=>if d'=d then(if s'=s/\0+n<=es.length then .im (.sl ((es.drop 0).take n))else .und)else .gsl d' e s' n
 | .loc d' s' i j=>if d'=d then(if s'=s then(match es[i]? with | some c=> .im (.ip c j) | none=> .und)else .und)else .loc d' s' i j
 | .vec d' e s' es'=> .vec d' e s' es'
 | .mpo d' sc kvs=> .mpo d' sc kvs
 | .im x=> .im x
 | .und=> .und
 | .sx es=> .sx es
def AV.froz(d:Nat):AV->AV
 | .mpo d' sc kvs=>if d'=d then .im (.mp sc kvs)else .mpo d' sc kvs
 | .vec d' e s es=> .vec d' e s es
 | .osl d' s i n=> .osl d' s i n
 | .gsl d' e s n=> .gsl d' e s n
 | .loc d' s i j=> .loc d' s i j
 | .im x=> .im x
 | .und=> .und
 | .sx es=> .sx es
def St.lendM(st:St)(d:Nat):St:=
 match look st.toks d with
 | some (0,0)=>⟨st.fr.map fun p=>(p.1,p.2.froz d),st.rows,del st.toks d⟩
 | _=>st
def St.lend(st:St)(d:Nat):St:=
 match look st.rows d with
 | some (s,es)=>⟨st.fr.map fun p=>(p.1,p.2.lend d s es),del st.rows d,st.toks⟩
 | none=>st
def St.lendO(st:St)(x:Operand):St:=
 match evO st x with
 | .osl d _ _ _=>st.lend d
 | .gsl d _ _ _=>st.lend d
 | .loc d _ _ _=>st.lend d
 | .mpo d _ _=>st.lendM d
 | _=>st
def St.lendOs(st:St)(xs:List Operand):St:=xs.foldl St.lendO st
def upd(β:Nat->Option Nat)(d:Nat)(x:Option Nat):Nat->Option Nat:=fun k=>if k=d then x else β k
theorem jau(β:Nat->Option Nat)(d:Nat)(x:Option Nat):upd β d x d=x:=by simp[upd]
theorem jav(β:Nat->Option Nat){d k:Nat}(x:Option Nat)(h:k≠d):upd β d x k=β k:=by simp[upd,h]
section
variable{G:Ctx}{N:Nat}{w0:Base}{w w':World}{M M' M0:Nat->Nat->Prop}{β β':Nat->Option Nat}{st:St}{a:Act}{toks toks':List (Nat×Nat×Nat)}{av:AV}{v:Value}
theorem RepA.move(h:RepA w M β toks av v)(hk:Kept w M w' M')(hβ:∀d,av.refs d->β' d=β d)(ht:∀d s n,av.refs d->look toks' d=some (s,n)->look toks d=some (s,n))
  (hh:∀d b,(look toks' d).isSome->av.refs d->β d=some b->w'.heap[b]? =w.heap[b]?) (hs:Shp w w'):RepA w' M' β' toks' av v:=by
 cases av with
 | im x=>exact Rep.kept (w:=w) h hk
 | und=>trivial
 | sx es=>exact⟨Rep.kept h.1 hk,h.2⟩
 | vec d e s es=>
  refine⟨Rep.kept h.1 hk,h.2.1,fun hl=> ?_⟩;rcases h.2.2 (ht d _ _ rfl hl)with hc | ⟨b,cap,cur,h1,h2,h3,h4⟩
  ·exact .inl hc
  ·exact .inr ⟨b,cap,cur,by rw[hβ d rfl];exact h1,h2,by rw[hh d b (by simp[hl]) rfl h1];exact h3,h4⟩
 | osl d s i n=>
  obtain⟨ad,c,h1,h2,h3⟩:=h;exact⟨ad,c,h1,h2,fun hn=>let⟨b,h4,h5⟩:=h3 hn;⟨b,by rw[hβ d rfl];exact h4,h5⟩⟩
 | gsl d e s n=>
  obtain⟨b,cap,cur,h1,h2,h3,h4,h5,h6⟩:=h;obtain⟨a1,h7,h8⟩:=hs b cur e h3;exact⟨b,cap,a1,by rw[hβ d rfl];exact h1,h2,h7,h4,h5,by rw[h8];exact h6⟩
 | loc d s i j=>
  obtain⟨b,h1,h2⟩:=h;exact⟨b,by rw[hβ d rfl];exact h1,h2⟩
 | mpo d sc kvs=>
  obtain⟨b,h1,h2,h3⟩:=h;refine⟨b,by rw[hβ d rfl];exact h1,h2,fun hl=> ?_⟩;rw[hh d b (by simp[hl]) rfl h1];exact h3 (ht d _ _ rfl hl)
theorem RowRep.move{b s:Nat}{es:List (List IV)}(h:RowRep w M b s es)(hk:Kept w M w' M')(hh:w'.heap[b]? =w.heap[b]?):RowRep w' M' b s es:=by
 obtain⟨cur,T,h1,h2,h3⟩:=h;refine⟨cur,T,by rw[hh];exact h1,h2,fun i e j x hi hj=> ?_⟩;obtain⟨ho,u,hu,hr⟩:=h3 i e j x hi hj;exact⟨ho,u,hu,hr.kept hk⟩
theorem jkm{β:Nat->Option Nat}{d:Nat}{x:Option Nat}(h:∀b,β (hp b)=some b)(hd:d<100000\/∃b,d=hp b/\x=some b):∀b,upd β d x (hp b)=some b:=fun b=>by
 by_cases e:hp b=d
 ·rcases hd with hd | ⟨b',h1,h2⟩
  ·exact absurd e.symm (hp_ne hd)
  ·subst h1;rw[hp_inj.1 e,jau,h2]
 ·rw[jav _ _ e];exact h b
theorem purge_refs(d:Nat)(av:AV):¬(av.purge d).refs d:=by
 cases av<;>simp only[AV.purge]<;>(try split)<;>simp_all[AV.refs]
theorem je2{d k:Nat}{av:AV}(h:(av.purge d).refs k):av.refs k/\k≠d:=by
 cases av<;>simp only[AV.purge]at h<;>(try split at h)<;>simp_all[AV.refs]<;>omega
theorem jlu(st:St)(d t:Nat):(st.fresh d).get t=(st.get t).purge d:=by
 simp only[St.get,St.fresh];rw[jhw];cases look st.fr t<;>rfl
theorem jkt{d b o:Nat}(h:Mo M0 β (st.fresh d) b o):Mo M0 β st b o:=by
 rcases h with h | ⟨k,s,es,hk,hb⟩ | ⟨k,s,n,hk,hb⟩
 ·exact .inl h
 ·by_cases e:k=d
  ·subst e;simp[St.fresh,jab]at hk
  ·exact .inr (.inl ⟨k,s,es,by simpa [St.fresh,ja9 _ e]using hk,hb⟩)
 ·by_cases e:k=d
  ·subst e;simp[St.fresh,jab]at hk
  ·exact .inr (.inr ⟨k,s,n,by simpa [St.fresh,ja9 _ e]using hk,hb⟩)
theorem RepA.purge(h:RepA w M β toks av v)(d:Nat):RepA w M β toks (av.purge d) v:=by
 cases av<;>simp only[AV.purge]<;>first | exact h | skip
 all_goals (split<;>first | exact h | exact h.1 | trivial)
theorem Sim.fresh(h:Sim N w0 M0 β st a w)(d:Nat):Sim N w0 M0 β (st.fresh d) a w where
 size:=h.size
 defers:=h.defers
 below:=h.below
 m0:=h.m0
 fr t:=by
  rw[jlu];refine((h.fr t).purge d).move (Kept.less w fun b o hm=>jkt hm) (fun _ _=>rfl) (fun k s n hr hl=> ?_) (fun _ _ _ _ _=>rfl) (Shp.refl _);have:=(je2 hr).2
  simpa [St.fresh,ja9 _ this]using hl
 rows k s es hk:=by
  by_cases e:k=d
  ·subst e;simp[St.fresh,jab]at hk
  ·obtain⟨b,h1,h2,h3⟩:=h.rows k s es (by simpa [St.fresh,ja9 _ e]using hk);exact⟨b,h1,h2,h3.move (Kept.less w fun b o hm=>jkt hm) rfl⟩
 toks k s n hk:=by
  by_cases e:k=d
  ·subst e;simp[St.fresh,jab]at hk
  ·exact h.toks k s n (by simpa [St.fresh,ja9 _ e]using hk)
 inj k k' b hk hk':=by
  refine h.inj k k' b ?_ ?_
  ·by_cases e:k=d
   ·subst e;simp[St.fresh,jab]at hk
   ·simpa [St.fresh,ja9 _ e]using hk
  ·by_cases e:k'=d
   ·subst e;simp[St.fresh,jab]at hk'
   ·simpa [St.fresh,ja9 _ e]using hk'
 excl k hk:=by
  by_cases e:k=d
  ·subst e;simp[St.fresh,jab]
  ·have:=h.excl k (by simpa [St.fresh,ja9 _ e]using hk)
   simpa [St.fresh,ja9 _ e]using this
 nam k hN hN' hk:=by
  by_cases e:k=d
  ·subst e;simp[St.fresh,jab]at hk
  ·exact h.nam k hN hN' (by simpa [St.fresh,ja9 _ e]using hk)
 np:=h.np
 perm:=h.perm
structure St.Clean(st:St)(d:Nat):Prop where
 refs:∀t,¬(st.get t).refs d
 rows:look st.rows d=none
 toks:look st.toks d=none
theorem jgq(st:St)(d:Nat):(st.fresh d).Clean d:=
 ⟨fun t=>by rw[jlu];exact purge_refs d _,by simp[St.fresh,jab],by simp[St.fresh,jab]⟩
theorem Sim.newRow0(h:Sim N w0 M0 β st a w){d s:Nat}{es:List (List IV)}{cells:Array Value}{T:TypeId}(b3:d<N\/d=hp w.heap.size)(b1:look st.toks d=none)(b8:∀t,(st.get t).refs d->d=hp w.heap.size)(b7:∀e∈es,e.length=s)
  (hr:∀(i:Nat) e (j:Nat) x,es[i]? =some e->e[j]? =some x->x.one=true/\∃u,cells[i*s+j]? =some u/\Rep w (Mo M0 β st) x u):
  Sim N w0 M0 (upd β d (some w.heap.size)) {st with rows:=(d,s,es)::st.rows} a (w.alloc (.cells cells T)):=by
 have hM:∀b o,Mo M0 (upd β d (some w.heap.size)) {st with rows:=(d,s,es)::st.rows} b o->b≠w.heap.size->Mo M0 β st b o:=by
  intro b o hm hb;rcases hm with hm | ⟨k,s',es',hk,hkb⟩ | ⟨k,s',n,hk,hkb⟩
  ·exact .inl hm
  ·by_cases e:k=d
   ·subst e;rw[jau]at hkb;cases hkb;exact absurd rfl hb
   ·rw[jav _ _ e]at hkb;exact .inr (.inl ⟨k,s',es',by simpa [look,e]using hk,hkb⟩)
  ·by_cases e:k=d
   ·subst e;exact absurd hk (by simp[b1])
   ·rw[jav _ _ e]at hkb;exact .inr (.inr ⟨k,s',n,hk,hkb⟩)
 have hk:Kept w (Mo M0 β st) (w.alloc (.cells cells T)) (Mo M0 (upd β d (some w.heap.size)) {st with rows:=(d,s,es)::st.rows}):=by
  refine⟨fun b o u a8 hn=> ?_,fun b es c hb hn=> ?_,?_⟩
  ·have hb:b<w.heap.size:=World.block_lt_of_cell? (a:=⟨b,o,none⟩) w a8;exact⟨by rw[World.cell?_alloc_lt w _ _ hb];exact a8,fun hm=>hn (hM b o hm (by omega))⟩
  ·have b5:=(zm.1 hb).1;exact⟨by rw[heap_alloc_old w _ b5];exact hb,fun hm=>hn (hM b 0 hm (by omega))⟩
  ·exact Shp.old fun b hb=>heap_alloc_old w _ hb
 have hold:∀b,b<w.heap.size->(w.alloc (.cells cells T)).heap[b]? =w.heap[b]? :=fun b hb=>heap_alloc_old w _ hb;have a7:∀k s es b,look st.rows k=some (s,es)->β k=some b->b<w.heap.size:=fun k s es b hk hb=>by
  obtain⟨b',a6,_,cur,T',h1,_⟩:=h.rows k s es hk;rw[hb]at a6;cases a6;exact(zm.1 h1).1
 refine⟨h.size,h.defers,h.below.alloc _,h.m0,fun t=> ?_,fun k s' es' a1=> ?_,fun k s' n a1 b hb=> ?_,fun k k' b h1 h2 hb a6=> ?_,fun k a1=> ?_,fun k hN b9 a1=> ?_,h.np,jkm h.perm (b3.imp (fun e=>qw e h.np) fun e=>⟨_,e,rfl⟩)⟩
 case refine_6=>
  have e:k≠d:=by rcases b3 with h1 | h1<;>(try unfold hp at h1)<;>omega
  rw[jav _ _ e];exact h.nam k hN b9 (by simpa [look,e]using a1)
 ·refine(h.fr t).move hk (fun k hr=> ?_) (fun k s' n _ hl=>hl) (fun k b hl _ hb=> ?_) (Shp.old hold)
  ·by_cases e:k=d
   ·subst e;rw[jau,b8 t hr,h.perm]
   ·exact jav _ _ e
  ·obtain⟨⟨s',n⟩,b6⟩:=zD.1 hl;exact hold b (h.toks k s' n b6 b hb).2
 ·by_cases e:k=d
  ·subst e;simp only[look,qA,qa,q7]at a1;obtain⟨rfl,rfl⟩:=a1;refine⟨w.heap.size,jau _ _ _,fun hp=>absurd (qw (w0.lt _ hp) h.below.size) (q8 _),cells,T,heap_alloc_new w _,b7,fun i e j x hi hj=> ?_⟩;obtain⟨h1,u,h2,h3⟩:=hr i e j x hi hj;exact⟨h1,u,h2,h3.kept hk⟩
  ·have b2:look st.rows k=some (s',es'):=by simpa [look,e]using a1
   obtain⟨b,h1,h2,h3⟩:=h.rows k s' es' b2;exact⟨b,by rw[jav _ _ e];exact h1,h2,h3.move hk (hold b (a7 k s' es' b b2 h1))⟩
 ·have e:k≠d:=fun e=>by subst e;rw[b1]at a1;cases a1
  rw[jav _ _ e]at hb;obtain⟨h1,h2⟩:=h.toks k s' n a1 b hb;exact⟨h1,by simp;omega⟩
 ·have b0:∀k,((look ((d,s,es)::st.rows) k).isSome\/(look st.toks k).isSome)->k≠d->((look st.rows k).isSome\/(look st.toks k).isSome):=fun k hk b4=>by
   simpa [look,b4]using hk
  have lt:∀k b,((look st.rows k).isSome\/(look st.toks k).isSome)->β k=some b->b<w.heap.size:=fun k b hk hb=>by
   rcases hk with hk | hk
   ·obtain⟨⟨s',es'⟩,hl⟩:=zD.1 hk;exact a7 k s' es' b hl hb
   ·obtain⟨⟨s',n⟩,hl⟩:=zD.1 hk;exact(h.toks k s' n hl b hb).2
  by_cases e:k=d<;>by_cases e':k'=d
  ·omega
  ·subst e;rw[jau]at hb;rw[jav _ _ e']at a6;cases hb;exact absurd (lt k' _ (b0 k' h2 e') a6) (by omega)
  ·subst e';rw[jau]at a6;rw[jav _ _ e]at hb;cases a6;exact absurd (lt k _ (b0 k h1 e) hb) (by omega)
  ·rw[jav _ _ e]at hb;rw[jav _ _ e']at a6;exact h.inj k k' b (b0 k h1 e) (b0 k' h2 e') hb a6
 ·by_cases e:k=d
  ·subst e;exact b1
  ·exact h.excl k (by simpa [look,e]using a1)
theorem Sim.newRow(h:Sim N w0 M0 β st a w){d s:Nat}{es:List (List IV)}{cells:Array Value}{T:TypeId}(a6:d<N)(hc:st.Clean d)(a1:∀e∈es,e.length=s)
  (hr:∀(i:Nat) e (j:Nat) x,es[i]? =some e->e[j]? =some x->x.one=true/\∃u,cells[i*s+j]? =some u/\Rep w (Mo M0 β st) x u):
  Sim N w0 M0 (upd β d (some w.heap.size)) {st with rows:=(d,s,es)::st.rows} a (w.alloc (.cells cells T)):=
 h.newRow0 (.inl a6) hc.toks (fun t hr=>absurd hr (hc.refs t)) a1 hr
theorem Sim.none_at(h:Sim N w0 M0 β st a w){b:Nat}(hb:w.heap.size<=b):look st.rows (hp b)=none/\look st.toks (hp b)=none:=by
 constructor
 ·cases hl:look st.rows (hp b)with
  | none=>rfl
  | some x=>
   obtain⟨s,es⟩:=x;obtain⟨b',h1,_,cur,T,h2,_⟩:=h.rows _ s es hl;rw[h.perm]at h1;cases h1;have:=(zm.1 h2).1;omega
 ·cases hl:look st.toks (hp b)with
  | none=>rfl
  | some x=>
   obtain⟨s,n⟩:=x;have:=(h.toks _ s n hl b (h.perm b)).2;omega
theorem Sim.newRowH(h:Sim N w0 M0 β st a w){s:Nat}{es:List (List IV)}{cells:Array Value}{T:TypeId}(a1:∀e∈es,e.length=s)
  (hr:∀(i:Nat) e (j:Nat) x,es[i]? =some e->e[j]? =some x->x.one=true/\∃u,cells[i*s+j]? =some u/\Rep w (Mo M0 β st) x u):
  Sim N w0 M0 β {st with rows:=(hp w.heap.size,s,es)::st.rows} a (w.alloc (.cells cells T)):=by
 have h1:=h.newRow0 (T:=T) (.inr rfl) (h.none_at (zu _)).2 (fun _ _=>rfl) a1 hr;have e:upd β (hp w.heap.size) (some w.heap.size)=β:=by
  funext k;unfold upd;split
  ·rename_i e;rw[e,h.perm]
  ·rfl
 rwa [e]at h1
theorem jnu{d b o:Nat}{fr:List (Nat×AV)}(h:Mo M0 β ⟨fr,del st.rows d,st.toks⟩ b o):Mo M0 β st b o:=by
 rcases h with h | ⟨k,s,es,hk,hb⟩ | h
 ·exact .inl h
 ·by_cases e:k=d
  ·subst e;simp[jab]at hk
  ·exact .inr (.inl ⟨k,s,es,by simpa [ja9 _ e]using hk,hb⟩)
 ·exact .inr (.inr h)
theorem Sim.lend(h:Sim N w0 M0 β st a w)(d:Nat):Sim N w0 M0 β (st.lend d) a w:=by
 unfold St.lend;split
 case h_2=>exact h
 case h_1 s es hd=>
  obtain⟨b,hb,c5,b4⟩:=h.rows d s es hd;have a8:look st.toks d=none:=h.excl d (by simp[hd]);have hk:Kept w (Mo M0 β st) w (Mo M0 β ⟨st.fr.map fun p=>(p.1,p.2.lend d s es),del st.rows d,st.toks⟩):=Kept.less w fun b o hm=>jnu hm;have b5:∀o,¬Mo M0 β ⟨st.fr.map fun p=>(p.1,p.2.lend d s es),del st.rows d,st.toks⟩ b o:=by
   rintro o (hm | ⟨k,s',es',a1,hkb⟩ | ⟨k,s',n,a1,hkb,_⟩)
   ·exact c5 (h.m0 b o hm)
   ·by_cases e:k=d
    ·subst e;simp[jab]at a1
    ·have:=h.inj k d b (.inl (by simp only[ja9 _ e]at a1;simp[a1])) (.inl (by simp[hd])) hkb hb;exact e this
   ·have:=h.inj k d b (.inr (by simp only at a1;simp[a1])) (.inl (by simp[hd])) hkb hb;subst this;simp only at a1;rw[a8]at a1;cases a1
  have b0:=b4.move hk rfl;refine⟨h.size,h.defers,h.below,h.m0,fun t=> ?_,fun k s' es' a1=> ?_,h.toks,fun k k' b h1 h2=> ?_,fun k a1=> ?_,fun k hN c6 a1=> ?_,h.np,h.perm⟩
  case refine_5=>
   by_cases e:k=d
   ·subst e;simp[jab]at a1
   ·exact h.nam k hN c6 (by simpa [ja9 _ e]using a1)
  ·have hg:(⟨st.fr.map fun p=>(p.1,p.2.lend d s es),del st.rows d,st.toks⟩:St).get t=(st.get t).lend d s es:=by
    simp only[St.get];rw[jhw];cases look st.fr t<;>rfl
   rw[hg];have a6:=h.fr t;generalize st.get t=av at a6;generalize a.tmps.getD t undef=v at a6;have b6:∀d' e s' n,av= .gsl d' e s' n->d'=d->av.lend d s es=av.soft.lend d s es:=fun d' e s' n h1 h2=>by
    subst h1 h2;simp only[AV.soft,AV.lend,qA]
   obtain⟨b3,hav,a7⟩:∃b3,RepA w (Mo M0 β st) β st.toks b3 v/\av.lend d s es=b3.lend d s es/\∀d' e s' n,b3= .gsl d' e s' n->d'≠d:=by
    by_cases hq:∃e s' n,av= .gsl d e s' n
    ·obtain⟨e,s',n,rfl⟩:=hq;exact⟨_,a6.soft h.perm,b6 d e s' n rfl rfl,fun d' e' s2 n' h=>by simp[AV.soft]at h⟩
    ·exact⟨av,a6,rfl,fun d' e s' n h1 h2=>by subst h2;exact hq ⟨e,s',n,h1⟩⟩
   obtain⟨a7,b8⟩:=a7;rw[a7];clear a7 b6 a6;have a6:=hav;clear hav;cases b3 with
   | gsl d' e s' n=>
    have b9:=b8 d' e s' n rfl;simp only[AV.lend,zl b9];exact RepA.move a6 hk (fun _ _=>rfl) (fun _ _ _ _ h=>h) (fun _ _ _ _ _=>rfl) (Shp.refl _)
   | osl d' s' i n=>
    simp only[AV.lend];split
    ·rename_i e;subst e;split
     ·rename_i hc;obtain⟨rfl,hle⟩:=hc;obtain⟨ad,c,h1,rfl,h3⟩:=a6;by_cases hn:n=0
      ·subst hn;simp only[List.take_zero];exact Rep.nil _ _
      ·obtain⟨b',b2,rfl⟩:=h3 hn;rw[hb]at b2;cases b2;obtain⟨cur,T,c4,c3,c0⟩:=b0;have hlen:((es.drop i).take n).length=n:=by simp;omega
       have b7:∀i' e,((es.drop i).take n)[i']? =some e->es[i+i']? =some e:=fun i' e hi=>by
        rw[qy]at hi;split at hi
        ·rwa [qQ]at hi
        ·cases hi
       have b1:∀i' e j x,((es.drop i).take n)[i']? =some e->e[j]? =some x->x.one=true/\cur[(i+i')*s'+j]? =some (cur.getD ((i+i')*s'+j) undef)/\Rep w _ x (cur.getD ((i+i')*s'+j) undef):=fun i' e j x hi hj=>by
        obtain⟨ho,u,hu,hr⟩:=c0 (i+i') e j x (b7 i' e hi) hj;have:cur.getD ((i+i')*s'+j) undef=u:=by simp[hu]
        exact⟨ho,by rw[this];exact hu,by rw[this];exact hr⟩
       have:=Rep.sl (w:=w) (M:=Mo M0 β ⟨st.fr.map fun p=>(p.1,p.2.lend d' s' es),del st.rows d',st.toks⟩) ((es.drop i).take n) s' b (i*s') c (fun i' j=>cur.getD ((i+i')*s'+j) undef) (fun h=>by rw[h]at hlen;simp at hlen;omega)
        (fun e he=>c3 e (yq (yz he))) (by omega)
        (fun i' e j x hi hj=>by
         obtain⟨h1,h2,_⟩:=b1 i' e j x hi hj;refine⟨h1,?_,b5 _⟩;rw[cell_of_row w b _ cur T _ c4,<-h2,qD])
        (fun i' e j x hi hj=>(b1 i' e j x hi hj).2.2)
       rw[hlen]at this;exact this
     ·trivial
    ·rename_i e;exact RepA.move a6 hk (fun _ _=>rfl) (fun _ _ _ _ h=>h) (fun _ _ _ _ _=>rfl) (Shp.refl _)
   | loc d' s' i j=>
    simp only[AV.lend];split
    ·rename_i e;subst e;split
     ·rename_i hs;subst hs;split
      ·rename_i c hi;obtain⟨b',b2,rfl⟩:=a6;rw[hb]at b2;cases b2;obtain⟨u,hu⟩:=jq3 b0 hi;exact Rep.ip c j b (i*s') u (fun k x hx=>⟨(hu k x hx).1,(hu k x hx).2.1,b5 _⟩) (fun k x hx=>(hu k x hx).2.2)
      ·trivial
     ·trivial
    ·rename_i e;exact RepA.move a6 hk (fun _ _=>rfl) (fun _ _ _ _ h=>h) (fun _ _ _ _ _=>rfl) (Shp.refl _)
   | _=>exact RepA.move a6 hk (fun _ _=>rfl) (fun _ _ _ _ h=>h) (fun _ _ _ _ _=>rfl) (Shp.refl _)
  ·by_cases e:k=d
   ·subst e;simp[jab]at a1
   ·obtain⟨b',h1,h2,h3⟩:=h.rows k s' es' (by simpa [ja9 _ e]using a1);exact⟨b',h1,h2,h3.move hk rfl⟩
  ·refine h.inj k k' b ?_ ?_
   ·by_cases e:k=d
    ·subst e;simp[jab,a8]at h1
    ·simpa [ja9 _ e]using h1
   ·by_cases e:k'=d
    ·subst e;simp[jab,a8]at h2
    ·simpa [ja9 _ e]using h2
  ·by_cases e:k=d
   ·subst e;simp[jab]at a1
   ·exact h.excl k (by simpa [ja9 _ e]using a1)
theorem Mo_delT{d b o:Nat}{fr:List (Nat×AV)}(h:Mo M0 β ⟨fr,st.rows,del st.toks d⟩ b o):Mo M0 β st b o:=by
 rcases h with h | h | ⟨k,s,n,hk,hb⟩
 ·exact .inl h
 ·exact .inr (.inl h)
 ·by_cases e:k=d
  ·subst e;simp[jab]at hk
  ·exact .inr (.inr ⟨k,s,n,by simpa [ja9 _ e]using hk,hb⟩)
theorem Sim.lendM(h:Sim N w0 M0 β st a w)(d:Nat):Sim N w0 M0 β (st.lendM d) a w:=by
 unfold St.lendM;split
 case h_2=>exact h
 case h_1 hd=>
  have a8:look st.rows d=none:=by
   cases hr:look st.rows d with
   | none=>rfl
   | some x=>have:=h.excl d (by simp[hr]);rw[hd]at this;cases this
  have hk:Kept w (Mo M0 β st) w (Mo M0 β ⟨st.fr.map fun p=>(p.1,p.2.froz d),st.rows,del st.toks d⟩):=Kept.less w fun b o hm=>Mo_delT hm;have a6:∀k x,look (del st.toks d) k=some x->k≠d/\look st.toks k=some x:=fun k x hk=>by
   by_cases e:k=d
   ·subst e;simp[jab]at hk
   ·exact⟨e,by simpa [ja9 _ e]using hk⟩
  refine⟨h.size,h.defers,h.below,h.m0,fun t=> ?_,fun k s' es' a1=> ?_,fun k s n a1=>h.toks k s n (a6 k _ a1).2,fun k k' b h1 h2=> ?_,fun k a1=> ?_,h.nam,h.np,h.perm⟩
  ·have hg:(⟨st.fr.map fun p=>(p.1,p.2.froz d),st.rows,del st.toks d⟩:St).get t=(st.get t).froz d:=by
    simp only[St.get];rw[jhw];cases look st.fr t<;>rfl
   rw[hg];have a7:=h.fr t;generalize st.get t=av at a7;generalize a.tmps.getD t undef=v at a7;have b0:RepA w (Mo M0 β ⟨st.fr.map fun p=>(p.1,p.2.froz d),st.rows,del st.toks d⟩) β (del st.toks d) av v:=
    RepA.move a7 hk (fun _ _=>rfl) (fun k s n _ hl=>(a6 k _ hl).2) (fun _ _ _ _ _=>rfl) (Shp.refl _)
   cases av with
   | mpo d' sc kvs=>
    simp only[AV.froz];split
    ·rename_i e;subst e;obtain⟨b,h1,rfl,h3⟩:=a7;obtain⟨es,c,h4,h5,h6⟩:=h3 hd;refine Rep.mp sc kvs b es c h4 ?_ h5 h6;rintro(hm | ⟨k,s',es',a1,hkb⟩ | ⟨k,s',n,a1,hkb,_⟩)
     ·exact(h.toks d' 0 0 hd b h1).1 (h.m0 b 0 hm)
     ·have:=h.inj k d' b (.inl (by simp only at a1;simp[a1])) (.inr (by simp[hd])) hkb h1;subst this;simp only at a1;rw[a8]at a1;cases a1
     ·obtain⟨b1,b2⟩:=a6 k _ a1;exact b1 (h.inj k d' b (.inr (by simp[b2])) (.inr (by simp[hd])) hkb h1)
    ·exact b0
   | _=>exact b0
  ·obtain⟨b,h1,h2,h3⟩:=h.rows k s' es' a1;exact⟨b,h1,h2,h3.move hk rfl⟩
  ·have up:∀k,((look st.rows k).isSome\/(look (del st.toks d) k).isSome)->((look st.rows k).isSome\/(look st.toks k).isSome):=fun k hk=>by
    rcases hk with hk | hk
    ·exact .inl hk
    ·obtain⟨x,hx⟩:=zD.1 hk;exact .inr (by simp[(a6 k _ hx).2])
   exact h.inj k k' b (up k h1) (up k' h2)
  ·by_cases e:k=d
   ·subst e;simp[jab]
   ·simpa [ja9 _ e]using h.excl k a1
theorem Sim.lendO(h:Sim N w0 M0 β st a w)(x:Operand):Sim N w0 M0 β (st.lendO x) a w:=by
 unfold St.lendO;split
 ·exact h.lend _
 ·exact h.lend _
 ·exact h.lend _
 ·exact h.lendM _
 ·exact h
theorem Sim.lendOs(h:Sim N w0 M0 β st a w)(xs:List Operand):Sim N w0 M0 β (st.lendOs xs) a w:=by
 induction xs generalizing st with
 | nil=>exact h
 | cons x xs ih=>exact ih (h.lendO x)
end
end
section
open Go.RowKit (Below)
def setRow(l:List (Nat×Nat×List (List IV)))(d s:Nat)(es:List (List IV)):List (Nat×Nat×List (List IV)):=
 l.map fun p=>if p.1=d then(p.1,s,es)else p
theorem jc7{l:List (Nat×Nat×List (List IV))}{d s:Nat}{es:List (List IV)}(h:(look l d).isSome):look (setRow l d s es) d=some (s,es):=by
 induction l with
 | nil=>simp[look]at h
 | cons p l ih=>
  obtain⟨j,v⟩:=p;by_cases e:d=j
  ·subst e;simp[setRow,look]
  ·have hl:(look l d).isSome:=by simpa [look,e]using h
   simp only[setRow,zt,zH e,qp,look,e];exact ih hl
theorem jcp{l:List (Nat×Nat×List (List IV))}{d s k:Nat}{es:List (List IV)}(h:k≠d):look (setRow l d s es) k=look l k:=by
 induction l with
 | nil=>rfl
 | cons p l ih=>
  obtain⟨j,v⟩:=p;by_cases e:j=d
  ·subst e;simp only[setRow,zt,qA,look,h,qp];exact ih
  ·simp only[setRow,zt,e,qp,look];split
   ·rfl
   ·exact ih
theorem jc6{l:List (Nat×Nat×List (List IV))}{d s k:Nat}{es:List (List IV)}:(look (setRow l d s es) k).isSome=(look l k).isSome:=by
 by_cases e:k=d
 ·subst e;by_cases h:(look l k).isSome
  ·rw[jc7 h,h];rfl
  ·have hn:look l k=none:=by simpa using h
   have:look (setRow l k s es) k=none:=by
    clear h
    induction l with
    | nil=>rfl
    | cons p l ih=>
     obtain⟨j,v⟩:=p;by_cases e:k=j
     ·subst e;simp[look]at hn
     ·have hl:look l k=none:=by simpa [look,e]using hn
      simp only[setRow,zt,zH e,qp,look,e];exact ih hl
   rw[this,hn]
 ·rw[jcp e]
section
variable{G:Ctx}{N:Nat}{w0:Base}{w w':World}{M M' M0:Nat->Nat->Prop}{β β':Nat->Option Nat}{st:St}{a:Act}{toks toks':List (Nat×Nat×Nat)}{av:AV}{v:Value}
theorem jgm(w:World)(g:Nat)(cs cur:Array Value)(T:TypeId)(hg:w.heap[g]? =some (.cells cur T (0,0))):(w.setRow g cs).heap[g]? =some (.cells cs T (0,0)):=
 setRow_heap w g cur cs T _ hg
theorem Sim.setRow(h:Sim N w0 M0 β st a w){d s b:Nat}{es es':List (List IV)}{cur cells:Array Value}{T:TypeId}(hd:look st.rows d=some (s,es))(hb:β d=some b)
  (a8:w.heap[b]? =some (.cells cur T (0,0))) (b6:cells.size=cur.size) (b8:∀e∈es',e.length=s)
  (hr:∀(i:Nat) e (j:Nat) x,es'[i]? =some e->e[j]? =some x->x.one=true/\∃u,cells[i*s+j]? =some u/\Rep w (Mo M0 β st) x u):
  Sim N w0 M0 β {st with rows:=Abs.setRow st.rows d s es'} a (w.setRow b cells):=by
 have b1:(look st.rows d).isSome:=by simp[hd]
 have hM:∀b o,Mo M0 β {st with rows:=Abs.setRow st.rows d s es'} b o↔Mo M0 β st b o:=by
  intro b o;unfold Mo;have:(∃k s' a7,look (Abs.setRow st.rows d s es') k=some (s',a7)/\β k=some b)↔∃k s' a7,look st.rows k=some (s',a7)/\β k=some b:=by
   constructor
   ·rintro⟨k,s',a7,hk,b4⟩;have:(look st.rows k).isSome:=by rw[<-jc6 (d:=d) (s:=s) (es:=es'),hk];rfl
    obtain⟨⟨x,y⟩,b3⟩:=zD.1 this;exact⟨k,x,y,b3,b4⟩
   ·rintro⟨k,s',a7,hk,b4⟩;have:(look (Abs.setRow st.rows d s es') k).isSome:=by rw[jc6,hk];rfl
    obtain⟨⟨x,y⟩,b3⟩:=zD.1 this;exact⟨k,x,y,b3,b4⟩
  simp only[this]
 have a1:∀k,k≠b->(w.setRow b cells).heap[k]? =w.heap[k]? :=fun k hk=>setRow_other w b k cells hk;have b0:Shp w (w.setRow b cells):=fun k b7 T' hk=>by
  by_cases e:k=b
  ·subst e;rw[a8]at hk;cases hk;exact⟨cells,jgm w k cells cur T a8,b6⟩
  ·exact⟨b7,by rw[a1 k e];exact hk,rfl⟩
 have hk:Kept w (Mo M0 β st) (w.setRow b cells) (Mo M0 β {st with rows:=Abs.setRow st.rows d s es'}):=by
  refine⟨fun b' o u hc hn=>⟨?_,fun hm=>hn ((hM b' o).1 hm)⟩,fun b' a7 c hc hn=>⟨?_,fun hm=>hn ((hM b' 0).1 hm)⟩,b0⟩
  ·by_cases e:b'=b
   ·subst e;exact absurd (.inr (.inl ⟨d,s,es,hd,hb⟩)) hn
   ·rw[World.cell?_of_block (w:=w) (a:=⟨b',o,none⟩) (a1 b' e)];exact hc
  ·by_cases e:b'=b
   ·subst e;rw[a8]at hc;cases hc
   ·rw[a1 b' e];exact hc
 have b2:¬w0.P b:=by obtain⟨b',h1,h2,_⟩:=h.rows d s es hd;rw[hb]at h1;cases h1;exact h2
 refine⟨h.size,h.defers,?_,h.m0,fun t=> ?_,fun k s' a7 a6=> ?_,fun k s' n a6 b' b5=> ?_,fun k k' b' h1 h2=> ?_,fun k a6=> ?_,fun k hN b9 a6=>h.nam k hN b9 (by rw[<-jc6];exact a6),h.np,h.perm⟩
 ·exact h.below.set b2 rfl rfl rfl (by simp) a1 b0
 ·refine(h.fr t).move hk (fun _ _=>rfl) (fun _ _ _ _ h=>h) (fun k b' hl _ b5=>a1 b' (fun e=> ?_)) b0;subst e;have:=h.inj k d b' (.inr hl) (.inl b1) b5 hb;subst this;rw[h.excl k b1]at hl;cases hl
 ·by_cases e:k=d
  ·subst e;rw[jc7 b1]at a6;simp only[qa,q7]at a6;obtain⟨rfl,rfl⟩:=a6;refine⟨b,hb,b2,cells,T,jgm w b cells cur T a8,b8,fun i e j x hi hj=> ?_⟩;obtain⟨h1,u,h2,h3⟩:=hr i e j x hi hj;exact⟨h1,u,h2,h3.kept hk⟩
  ·rw[jcp e]at a6;obtain⟨b',h1,h2,h3⟩:=h.rows k s' a7 a6;refine⟨b',h1,h2,h3.move hk (a1 b' (fun eb=> ?_))⟩;subst eb;exact e (h.inj k d b' (.inl (by simp[a6])) (.inl b1) h1 hb)
 ·obtain⟨h1,h2⟩:=h.toks k s' n a6 b' b5;exact⟨h1,by simpa using h2⟩
 ·simp only[jc6]at h1 h2;exact h.inj k k' b' h1 h2
 ·simp only[jc6]at a6;exact h.excl k a6
theorem jps(hG:G.Ok)(h:Sim N w0 M0 β st a w){t d s i j:Nat}{es:List (List IV)}{c:List IV}{x:IV}{p xv:Value}(h0:(G.ti t).size≠0)
  (hd:look st.rows d=some (s,es)) (hi:es[i]? =some c) (hl:(cellsOf x).length=(G.ti t).size) (ho:(cellsOf x).all IV.one=true) (hj:j+(G.ti t).size<=c.length)
  (hp:RepA w (Mo M0 β st) β st.toks (.loc d s i j) p) (hx:Rep w (Mo M0 β st) x xv):
  ∃w',(Instr.storeAt t p xv).run G.P w= .ok () w'/\Sim N w0 M0 β {st with rows:=setRow st.rows d s (es.set i (jbp c j (cellsOf x)))} a w':=by
 obtain⟨b,hb,rfl⟩:=hp;obtain⟨b',c0,c9,cur,T,b1,b3,a7⟩:=h.rows d s es hd;rw[hb]at c0;cases c0;obtain⟨hr,b6⟩:=jih hx ho;have c5:c.length=s:=b3 c (zk hi);have c3:xv.cells.toList.length=(G.ti t).size:=by rw[<-hr.1];exact hl
 have b0:xv.cells.size=(G.ti t).size:=by simpa using c3
 have b9:i*s+j+(G.ti t).size<=cur.size:=by
  have c6:0<(G.ti t).size:=jN h0;have a8:j+(G.ti t).size-1<c.length:=by omega
  obtain⟨_,u,hu,_⟩:=a7 i c (j+(G.ti t).size-1) _ hi (zw a8);have:=(zm.1 hu).1;omega
 have b4:=run_storeCells_at G.P b (i*s+j) T xv.cells.toList 0 cur w b1 (by simpa [b0]using b9) b6;simp only[Nat.add_zero]at b4;refine⟨w.setRow b (cur.toList.take (i*s+j)++xv.cells.toList++cur.toList.drop (i*s+j+xv.cells.toList.length)).toArray,?_,
  h.setRow hd hb b1 (es':=es.set i (jbp c j (cellsOf x))) (cells:=(cur.toList.take (i*s+j)++xv.cells.toList++cur.toList.drop (i*s+j+xv.cells.toList.length)).toArray) (by simp[b0];omega) ?_ ?_⟩
 ·simp only[Instr.storeAt,Instr.sureAddr,Sem.run_bind,Sem.run_pure,Result.andThen_ok,storeVar,hG.size h0,b0,ne_eq,not_true,qp,b4]
 ·intro e he;rcases yy he with h' | h'
  ·exact b3 e h'
  ·rw[h',je1];exact c5
 ·intro i' e j' y a1 a6;rw[jt]at a1;have c8:j'<s:=by
   have h1:=(zr.1 a6).1;split at a1
   ·split at a1
    ·cases a1;rw[je1]at h1;omega
    ·cases a1
   ·rw[b3 e (zk a1)]at h1;exact h1
  have b7:∀k,((cur.toList.take (i*s+j)++xv.cells.toList++cur.toList.drop (i*s+j+xv.cells.toList.length)).toArray)[k]? =
    if k<i*s+j then cur[k]? else if k<i*s+j+(G.ti t).size then xv.cells.toList[k-(i*s+j)]? else cur[k]? :=by
   intro k;simp only[jp];by_cases h1:k<i*s+j
   ·rw[zh h1,qe,zK (by simp;omega),qy,zh h1];simp
   ·rw[zl h1];by_cases h2:k<i*s+j+(G.ti t).size
    ·rw[zh h2,zK (by simp;omega),zP (by simp;omega)];congr 1;simp;omega
    ·rw[zl h2,zP (by simp;omega),qQ];simp only[zR];congr 1;simp;omega
  rw[b7];have b5:∀(xs cs:List IV) (off k:Nat),(jbp cs off xs)[k]? =if off<=k/\k<off+xs.length/\k<cs.length then xs[k-off]? else cs[k]? :=by
   intro xs
   induction xs with
   | nil=>intro cs off k;simp only[jbp];rw[zl (by simp;omega)]
   | cons z xs ih=>
    intro cs off k;simp only[jbp];rw[ih];simp only[qd,List.length_cons];by_cases h1:off+1<=k/\k<off+1+xs.length/\k<cs.length
    ·rw[zh h1,iPo];have:k-off=(k-(off+1))+1:=by omega
     rw[this];simp
    ·rw[zl h1,jt];by_cases h2:off=k
     ·subst h2;by_cases h3:off<cs.length
      ·simp[h3]
      ·simp[h3]
     ·rw[zl h2,iNo]
  by_cases b2:i=i'
  ·subst b2;have c4:i<es.length:=(zr.1 hi).1;simp only[c4,qA,qa]at a1;subst a1;rw[b5]at a6;by_cases b8:j<=j'/\j'<j+(cellsOf x).length/\j'<c.length
   ·rw[zh b8]at a6;rw[iNo,iPo];have e:i*s+j'-(i*s+j)=j'-j:=by omega
    rw[e];have a8:j'-j<xv.cells.toList.length:=by omega
    exact⟨List.all_eq_true.1 ho y (zk a6),_,zw a8,hr.2 _ y _ a6 (zw a8)⟩
   ·rw[zl b8]at a6;obtain⟨h1,u,h2,h3⟩:=a7 i c j' y hi a6;refine⟨h1,u,?_,h3⟩;split
    ·exact h2
    ·rw[iNo];exact h2
  ·rw[zl b2]at a1;obtain⟨h1,u,h2,h3⟩:=a7 i' e j' y a1 a6;refine⟨h1,u,?_,h3⟩;have c7:j+(G.ti t).size<=s:=by omega
   rcases vy b2 with a8 | hgt
   ·have:(i+1)*s<=i'*s:=qj _ a8;rw[qD]at this;rw[iNo,iNo];exact h2
   ·have:(i'+1)*s<=i*s:=qj _ hgt;rw[qD]at this;rw[iPo];exact h2
