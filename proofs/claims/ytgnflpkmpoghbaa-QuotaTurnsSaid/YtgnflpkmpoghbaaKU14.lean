/- A part of the proof. No further condition. -/
import Derived.Test.YtgnflpkmpoghbaaKU13
import Derived.Maps.OwnIn
set_option linter.all false
set_option maxRecDepth 10000000
set_option maxHeartbeats 16000000
namespace Go.Abs
section
open Go.RowKit (Below)
def frzL:List Nat->IV->Rows->IV
 | [],y,_=>y
 | b::bs,y,L=>match look L (hp b)with
  | some (s,es)=>frzL bs (frz3 b s es y) (del L (hp b))
  | none=>frzL bs y L
theorem frzL_nil(y:IV)(L:Rows):frzL [] y L=y:=rfl
theorem jja{b s:Nat}{es:List (List IV)}{bs:List Nat}{y:IV}{L:Rows}(h:look L (hp b)=some (s,es)):frzL (b::bs) y L=frzL bs (frz3 b s es y) (del L (hp b)):=by rw[frzL,h]
theorem jg7{w':World}{M:Nat->Nat->Prop}{v:Value}:∀(bs:List Nat) (y:IV) (L:Rows),(∀k s es,look L k=some (s,es)->∃b,k=hp b/\(∀o,¬M b o)/\RowRep w' (MoH M L) b s es)->Rep w' (MoH M L) y v->Rep w' M (frzL bs y L) v
 | [],y,L,_,hy=>hy.kept (Kept.less w' fun b o h=> .inl h)
 | b::bs,y,L,hL,hy=>by
  cases hl:look L (hp b)with
  | none=>
   rw[show frzL (b::bs) y L=frzL bs y L by rw[frzL,hl]];exact jg7 bs y L hL hy
  | some p=>
   obtain⟨s,es⟩:=p;rw[jja hl];have hless:∀b' o,MoH M (del L (hp b)) b' o->MoH M L b' o:=fun b' o h=>by
    rcases h with h | h
    ·exact .inl h
    ·by_cases e:hp b'=hp b
     ·rw[e,ja2]at h;cases h
     ·rw[ja6 _ e]at h;exact .inr h
   have hk:=Kept.less w' hless;obtain⟨b',e,hn,hrow⟩:=hL _ _ _ hl;have hbb:=hp_inj.1 e;subst hbb;have hnm:∀o,¬MoH M (del L (hp b)) b o:=fun o h=>by
    rcases h with h | h
    ·exact hn o h
    ·rw[ja2]at h;cases h
   refine jg7 bs _ _ (fun k s' es' hk'=> ?_) (jkr (hrow.move hk rfl) hnm (hy.kept hk));by_cases e:k=hp b
   ·subst e;rw[ja2]at hk';cases hk'
   ·rw[ja6 _ e]at hk';obtain⟨b2,h1,h2,h3⟩:=hL k s' es' hk';exact⟨b2,h1,h2,h3.move hk rfl⟩
theorem jkv{P:Program}{f:FuncId}{xs:List IV}{φ:AV->Rows->Prop}{ψ:IV->Prop}(h:CtrH P f (xs.map AV.im) [] φ)(hφ:∀r L',φ r L'->∃y bs,r= .im y/\ψ (frzL bs y L')):Ctr P f xs ψ:=fun w M vs hM hr=>by
 have hr':=hr;refine(h w M vs hM (fun k s es hk=>by cases hk) (by rw[List.length_map];exact hr.1.symm) (fun i av v hi hv=> ?_)).mono ?_
 ·rw[List.getElem?_map]at hi;obtain⟨x,hx,rfl⟩:=Option.map_eq_some_iff.1 hi;exact(hr.2 i x v hx hv).kept (Kept.less w fun b o h=>h.elim id fun h=>by cases h)
 ·rintro en w' ⟨r,v,L',g1,g2,g3,g4,g5,g6⟩;obtain⟨y,bs,rfl,hψ⟩:=hφ r L' g1;refine⟨_,v,hψ,g2,jg7 bs y L' (fun k s es hk=> ?_) g6,?_⟩
  ·obtain⟨b,h1,h2,h3⟩:=g5 k s es hk;refine⟨b,h1,fun o hm=> ?_,h3⟩;rcases h2 with h2 | h2
   ·cases h2
   ·have:=hM b o hm;omega
  ·exact⟨g4.os,g4.tape,g4.output,g4.size,fun k hk=>g4.block k ⟨hk,rfl⟩⟩
end
section
def mIx:Nat->List Bool->List Nat
 | _,[]=>[]
 | k,true::m=>k::mIx (k+1) m
 | k,false::m=>mIx (k+1) m
def pathT:List Nat->OT
 | []=> .fin
 | i::r=> .alt i (pathT r) .none
section
variable{G:Ctx}{kp:Bool}
theorem mIx_nil(k:Nat):mIx k []=[]:=rfl
theorem mIx_true(k:Nat)(m:List Bool):mIx k (true::m)=k::mIx (k+1) m:=rfl
theorem mIx_false(k:Nat)(m:List Bool):mIx k (false::m)=mIx (k+1) m:=rfl
theorem pathT_nil:pathT []= .fin:=rfl
theorem pathT_cons(i:Nat)(r:List Nat):pathT (i::r)= .alt i (pathT r) .none:=rfl
end
attribute [go_sem ↓] mIx_nil mIx_true mIx_false pathT_nil pathT_cons
end
section
open Go.RowKit (Below)
section
variable{G:Ctx}
end
def emp1:IV->IV
 | .emp=> .sl []
 | x=>x
def emp2:IV->IV
 | .agg cs=> .agg (cs.map emp1)
 | x=>emp1 x
theorem emp1_one(x:IV):(emp1 x).one=x.one:=by cases x<;>rfl
theorem jk5{w:World}{M:Nat->Nat->Prop}{x:IV}{v:Value}(h:Rep w M x v):Rep w M (emp1 x) v:=by
 cases x with
 | emp=>cases h with | emp a=>exact Rep.nil a 0
 | _=>exact h
theorem rep_emp2{w:World}{M:Nat->Nat->Prop}{x:IV}{v:Value}(h:Rep w M x v):Rep w M (emp2 x) v:=by
 cases x with
 | emp=>exact jk5 h
 | agg cs=>
  cases h with
  | agg _ vs h1 h2 h3=>
   refine Rep.agg _ vs (by rw[List.length_map];exact h1) (fun y hy=> ?_) fun k y u hk hu=> ?_
   ·obtain⟨z,hz,rfl⟩:=List.mem_map.1 hy;rw[emp1_one];exact h2 z hz
   ·rw[List.getElem?_map]at hk;obtain⟨z,hz,rfl⟩:=Option.map_eq_some_iff.1 hk;exact jk5 (h3 k z u hz hu)
 | _=>exact h
theorem ctrH_frz{P:Program}{f:FuncId}{ys:List IV}{φ:IV->Prop}(h:Ctr P f ys φ)(xs:List IV)(bs:List Nat)(L:Rows)(hx:xs.map (fun x=>emp2 (frzL bs x L))=ys):CtrH P f (xs.map AV.im) L (fun r L'=>∃y,r= .im y/\φ y/\L'=[]):=by
 intro w M vs hM hrows hlen hargs;subst hx;have hrep:RepL w M (xs.map (fun x=>emp2 (frzL bs x L))) vs:=by
  refine⟨by rw[List.length_map]at hlen⊢;exact hlen.symm,fun i y v hy hv=> ?_⟩;rw[List.getElem?_map]at hy;obtain⟨x,hxi,rfl⟩:=Option.map_eq_some_iff.1 hy;have h1:Rep w (MoH M L) x v:=hargs i (.im x) v (by rw[List.getElem?_map,hxi];rfl) hv;exact rep_emp2 (jg7 bs x L hrows h1)
 refine(h w M vs hM hrep).mono ?_;rintro e w' ⟨r,v,hφ,he,hr,hb⟩;refine⟨.im r,v,[],⟨r,rfl,hφ,rfl⟩,he,rfl,⟨hb.os,hb.tape,hb.output,hb.size,fun k hk=>hb.block k hk.1,Shp.of hb⟩,(fun k s es hk=>by cases hk),?_⟩;exact hr.kept (Kept.less w' fun b o h=>h.elim id fun h=>by cases h)
section
variable{G:Ctx}{N:Nat}{w0:Base}{w:World}{M0:Nat->Nat->Prop}{β:Nat->Option Nat}{st:St}{a:Act}
def frzC(b s:Nat)(es:List (List IV))(c:List IV):List IV:=c.map (frz1 b s es)
def St.frzR(st:St)(b:Nat):St:=
 match look st.rows (hp b)with
 | some (s,es)=>⟨(st.frz b).fr,(st.frz b).rows.map fun p=>(p.1,p.2.1,p.2.2.map (frzC b s es)),(st.frz b).toks⟩
 | none=>st
end
section
variable{G:Ctx}
end
def tailN:Nat->Code->Code
 | 0,c=>c
 | n+1,.seq _ y=>tailN n y
 | _+1,c=>c
def putN:Nat->Code->Code->Code
 | 0,_,y=>y
 | n+1,.seq x c,y=> .seq x (putN n c y)
 | _+1,c,_=>c
theorem jb7:∀(j k:Nat) (c:Code),tailN k (tailN j c)=tailN (j+k) c
 | 0,k,c=>by rw[Nat.zero_add];rfl
 | j+1,k,c=>by
  cases c with
  | seq x y=>rw[show j+1+k=(j+k)+1 by omega];exact jb7 j k y
  | _=>cases k<;>first | rfl | (rw[show j+1+(_+1)=(j+_+1)+1 by omega];rfl)
def jas(fn:Func):Code:=match fn.body with
 | some c=>c
 | none=> .skip
section
variable{G:Ctx}
theorem tail_go{fn:Func}{c:Code}(hb:fn.body=some c){k:Nat}{Q:Exit->St->Prop}{st:St}(h:awp G (tailN k c) Q st):awp G (tailN k (jas fn)) Q st:=by
 unfold jas;rw[hb];exact h
theorem jcm{fn:Func}{c:Code}(hb:fn.body=some c){k j:Nat}{y:Code}{Q:Exit->St->Prop}{st:St}(h:awp G (putN k (tailN j c) y) Q st):awp G (putN k (tailN j (jas fn)) y) Q st:=by
 unfold jas;rw[hb];exact h
end
attribute [go_sem] St.frzR frzC tailN putN
end
section
section
variable{G:Ctx}{N:Nat}
theorem SemC.le{c:Code}{Q:Exit->St->Prop}{st S:St}(hl:St.Le st S)(h:SemC G N c Q S):SemC G N c Q st:=fun w0 M0 β a w hs=>
 let⟨β2,h2⟩:=hl N w0 M0 β a w hs;h w0 M0 β2 a w h2
def LeC(s S:St):Prop:=St.Le s S
theorem jb3{s S:St}(L:List Nat)(hf:L.map (fun t=>(t,s.get t))=S.fr)(hr:SubR S.rows s.rows)(ht:S.toks=[]):LeC s S:=(St.sub_of L hf hr ht).le
def isSeq:Nat->Code->Bool
 | 0,_=>true
 | k+1,.seq _ y=>isSeq k y
 | _+1,_=>false
theorem SemC.cutsF(hG:G.Good){Q:Exit->St->Prop}{ι:Type}(S:ι->St)(P:ι->Prop):∀(k:Nat) {c:Code} {st:St},isSeq k c=true->dstB N c=true->
  Go.Abs.awp G (putN k c .skip) (fun e s=>match e with | .normal=>∃i,P i/\St.Le s (S i) | e=>Q e s) st->(∀i,P i->SemC G N (tailN k c) Q (S i))->SemC G N c Q st
 | 0,c,st,_,_,⟨i,hi,hl⟩,h2=>SemC.le hl (h2 i hi)
 | k+1,.seq x y,st,hs,hd,h1,h2=>by
  simp only[dstB,Bool.and_eq_true]at hd;refine SemC.seq fun w0 M0 β a w hsim=> ?_;refine wp_mono (jfe hG x _ st β a w hd.1 h1 hsim) fun e a' w' hq=> ?_;obtain⟨β',st',hq,hs'⟩:=hq;refine⟨β',st',?_,hs'⟩;cases e with
  | normal=>exact SemC.cutsF hG S P k hs hd.2 hq h2
  | _=>exact hq
theorem ctrX_of(hG:G.Good){f:FuncId}{fn:Func}{c:Code}{xs:List IV}{t:Tmp}{x:IV}(hf:G.P.funcs[f]? =some fn)(hb:fn.body=some c)(hd:dstC fn.ntmps c=true)(hn:xs.length<=fn.ntmps)(hr:fn.results.toList=[.tmp t])
  (h:SemC G fn.ntmps c (fun e s=>match e with | .normal=>s.get t= .im x | .ret=>s.get t= .im x | _=>False) (jck (xs.map .im) [])):Ctr G.P f xs (· =x):=by
 refine jkv (φ:=fun r L'=>r= .im x/\L'=[]) (jh3 hG hf hb hd (by rw[List.length_map];exact hn) (h.mono fun e s hq=> ?_)) (fun r L' ⟨h1,h2⟩=>⟨x,[],h1,rfl⟩);have key:s.get t= .im x->aRetH G fn.results.toList (fun r L'=>r= .im x/\L'=[]) s:=fun hq=>by
  refine⟨[],fun k y hk=>(by cases hk),?_⟩;rw[hr];show(s.get t).toH= .im x/\([]:Rows)=[];rw[hq];exact⟨rfl,rfl⟩
 cases e with
 | normal=>exact key hq
 | ret=>exact key hq
 | _=>exact hq.elim
end
end
end Go.Abs
namespace Go.Proofs.Ytgnflpkmpoghbaa
section
open Go.RowKit Go.Shelf Go.LQ Go.Maps
open Go.Abs (IV Rep RepL Ctr keyV elemV Ents Born mfind jdf mget)
attribute [local go_sem] Oper.semAt_some
theorem jfj{α:Type}{p:α->Bool}:∀{l m:List α},l.Sublist m->m.Nodup->(∀x∈m,x∈l↔p x=true)->l=m.filter p
 | _,_,.slnil,_,_=>rfl
 | l,a::m,.cons _ h,hn,hp=>by
  have hn':=List.nodup_cons.1 hn;have ha:¬p a=true:=fun e=>hn'.1 (h.subset ((hp a List.mem_cons_self).2 e));rw[List.filter_cons_of_neg ha];exact jfj h hn'.2 fun x hx=>hp x (List.mem_cons_of_mem _ hx)
 | a::l,_::m,.cons₂ _ h,hn,hp=>by
  have hn':=List.nodup_cons.1 hn;have ha:p a=true:=(hp a List.mem_cons_self).1 List.mem_cons_self;rw[List.filter_cons_of_pos ha,<-jfj h hn'.2 fun x hx=> ?_];have:=hp x (List.mem_cons_of_mem _ hx);rw[List.mem_cons]at this;exact⟨fun h=>this.1 (.inr h),fun h'=>(this.2 h').resolve_left fun e=>hn'.1 (by rw[<-e];exact hx)⟩
structure EInt(l:List MapEntry):Prop where
 kv:∀e∈l,∃(x:KeyV) (n:Int),e.key= .agg x.enc.toArray/\e.val= .int .i64 n
 keys:(l.map (·.key)).Nodup
 born:(l.map (·.born)).Nodup
theorem EInt.sub{l m:List MapEntry}(h:EInt m)(hs:l.Sublist m):EInt l:=⟨fun e he=>h.kv e (hs.subset he),h.keys.sublist (hs.map _),h.born.sublist (hs.map _)⟩
theorem jj1{α β:Type}{f:α->β}{l:List α}(h:(l.map f).Nodup):l.Nodup:=(List.pairwise_map.1 h).imp fun h e=>h (congrArg f e)
def decV(v:Value):Int:=match v with | .int _ n=>n | _=>0
def kvE(e:MapEntry):List Int×List Int:=(decK e.key,[decV e.val])
theorem EInt.ents{es:Array MapEntry}(h:EInt es.toList):Ents (3,true) (es.toList.map kvE) es:=by
 refine⟨fun p hp=> ?_,?_⟩
 ·obtain⟨e,he,rfl⟩:=List.mem_map.1 hp;obtain⟨x,n,h1,_⟩:=h.kv e he;show(decK e.key).length=3;rw[h1];rfl
 ·rw[List.map_map];refine List.map_congr_left fun e he=> ?_;obtain⟨x,n,h1,h2⟩:=h.kv e he;show(e.key,e.val)=(keyV (decK e.key),elemV true [decV e.val]);rw[h1,h2];rfl
theorem mget_in:∀{l:List (List Int×List Int)} {k:List Int},k∈l.map (·.1)->mget l k≠none
 | (u,v)::l,k,h=>by
  rw[mget];split
  ·exact fun e=>by cases e
  ·rename_i hne;rw[List.map_cons,List.mem_cons]at h;exact mget_in (h.resolve_left hne)
theorem del_run{w:World}{b c:Nat}{es:Array MapEntry}(h:EInt es.toList)(hb:w.heap[b]? =some (.map es c)){e:MapEntry}(he:e∈es.toList){x:KeyV}(hx:e.key= .agg x.enc.toArray)(ty:TypeId):
  ∃es':Array MapEntry,(Builtin.delete_ #[45,49] ty #[.map (some b),.agg x.enc.toArray]).run Try.prog w= .ok (.tuple #[]) (ChangeMaps.setBlock w b (.map es' c))/\es'.toList.Sublist es.toList/\∀y∈es.toList,y∈es'.toList↔y≠e:=by
 have hG:G.Ok:=good.ok;have hk:Go.Abs.keyN G 49=some 3:=by decide+kernel
 have hf:=Go.Abs.run_findKey_rows (w:=w) hG hk (x:=x.l) rfl (sc:=(3,true)) (kvs:=es.toList.map kvE) (es:=es) (fun _=>rfl) h.ents;have hck:=Go.Abs.run_key_check hG hk (xs:=x.l) rfl es.isEmpty w;have hmem:x.l∈(es.toList.map kvE).map (·.1):=by
  rw[List.map_map];refine List.mem_map.2 ⟨e,he,?_⟩;show decK e.key=x.l;rw[hx];rfl
 have hmg:=jdf (es.toList.map kvE) x.l 0;cases hfi:mfind (es.toList.map kvE) x.l 0 with
 | none=>
  rw[hfi]at hmg;exact absurd hmg.symm (mget_in hmem)
 | some p=>
  obtain⟨i,v⟩:=p;obtain⟨k,rfl,hat,_⟩:=Go.Abs.mfind_some (u:=[]) hfi;rw[hfi]at hf;rw[Nat.zero_add]at hf;rw[List.getElem?_map,Option.map_eq_some_iff]at hat;obtain⟨e',he',hke⟩:=hat;have hkl:k<es.toList.length:=(List.getElem?_eq_some_iff.1 he').1;have hks:k<es.size:=by simpa using hkl
  have hee:e'=e:=by
   obtain⟨x',n',h1,_⟩:=h.kv e' (List.mem_of_getElem? he');have h2:decK e'.key=x.l:=congrArg Prod.fst hke;have h3:e'.key=e.key:=by
    rw[h1]at h2⊢;have h2:x'.l=x.l:=h2;rw[hx];simp only[KeyV.l,List.cons.injEq,and_true]at h2;obtain⟨q1,q2,q3⟩:=h2;simp only[KeyV.enc,q1,q2,q3]
   obtain⟨j,hj,hej⟩:=List.mem_iff_getElem.1 he;by_cases e1:k=j
   ·subst e1;rw[List.getElem?_eq_getElem hkl]at he';cases he';exact hej
   ·have hn:=List.pairwise_iff_getElem.1 h.keys;have hk1:(es.toList.map (·.key))[k]'(by simpa using hkl)=e'.key:=by
     rw[List.getElem_map];rw[List.getElem?_eq_getElem hkl]at he';cases he';rfl
    have hk2:(es.toList.map (·.key))[j]'(by simpa using hj)=e.key:=by rw[List.getElem_map,hej]
    rcases Nat.lt_or_gt_of_ne e1 with hl | hl
    ·exact absurd (by rw[hk1,hk2,h3]) (hn k j (by simpa using hkl) (by simpa using hj) hl)
    ·exact absurd (by rw[hk1,hk2,h3]) (hn j k (by simpa using hj) (by simpa using hkl) hl)
  subst hee;have hsub:(es.eraseIdxIfInBounds k).toList=es.toList.eraseIdx k:=by
   unfold Array.eraseIdxIfInBounds;rw[dif_pos hks];simp
  have hnd:=jj1 h.born;refine⟨es.eraseIdxIfInBounds k,?_,by rw[hsub];exact List.eraseIdx_sublist _ _,fun y hy=> ?_⟩
  ·have hu:Try.prog.underlying 45=some (.map 49 3):=Try.underlying45;have hck:(Instr.checkKey es.isEmpty 10000 49 (.agg x.enc.toArray)).run Try.prog w= .ok () w:=hck;have hf:(Instr.findKey 49 (.agg x.enc.toArray) es.toList).run Try.prog w= .ok (some (k,elemV true v)) w:=hf;simp[Builtin.delete_,run_underlying hu,MapKept.run_getObj_map hb,hck,hf,MapKept.run_setObj_map _ hb,Result.andThen,ChangeMaps.setBlock]
  ·rw[hsub];rw[List.getElem?_eq_getElem hkl]at he';have he':es.toList[k]=e':=Option.some.inj he';rw[<-he'];constructor
   ·intro hm;obtain⟨j,hj,hjk,hjy⟩:=List.mem_eraseIdx_iff_getElem.1 hm;intro e1;rw[<-hjy]at e1;have:=(List.getElem_inj hnd).1 e1;exact hjk this
   ·intro hne;obtain⟨j,hj,hjy⟩:=List.mem_iff_getElem.1 hy;exact List.mem_eraseIdx_iff_getElem.2 ⟨j,hj,fun e1=>hne (by subst e1;exact hjy.symm),hjy⟩
theorem wpListIn_delete_at{F:Fence}{nF:Nat}{ops:Array Oper}{Q:Exit->Act->World->Prop}{rest:List Oper}{o:Oper}{a:Act}{w:World}(hg:o.guard=none)(m x:Operand)(t k:TypeId)(hop:o.op=Op.call {callee:=Callee.builtin Builtin.delete,args:= #[m,x],argTypes:= #[t,k]})
  {b:Nat} {key:Value} {w':World} (hm:a.eval m= .map (some b)) (hx:a.eval x=key) (hrun:∀ty,(Builtin.delete_ #[t,k] ty #[.map (some b),key]).run Try.prog w= .ok (.tuple #[]) w')
  (hK:wpListIn F nF Try.prog ops Q rest (a.put o.dst (.tuple #[])) w'):
  wpListIn F nF Try.prog ops Q (o::rest) a w:=by
 refine wpListIn_plain hg fun K' hK'=> ?_;unfold Oper.wpIn;refine⟨by simp[Oper.about,hop,resolve,Target.leads,Sem.run_pure],?_⟩;rw[Oper.semAt_plain F _ _ (by rw[hop];intro c hc';cases hc')];simp[execOp,hop,resolve,invoke,builtin,hm,hx,hrun,Result.andThen];exact hK' _ _ hK
end
end Go.Proofs.Ytgnflpkmpoghbaa
namespace Go.Abs
section
section
variable{G:Ctx}{N:Nat}
end
def inL:Code->Code
 | .seq x _=>x
 | c=>c
def inR:Code->Code
 | .seq _ y=>y
 | c=>c
def inB:Code->Code
 | .block _ c=>c
 | .loop c=>c
 | c=>c
theorem inL_seq(x y:Code):inL (.seq x y)=x:=rfl
theorem inR_seq(x y:Code):inR (.seq x y)=y:=rfl
theorem inB_block(k:Nat)(c:Code):inB (.block k c)=c:=rfl
theorem inB_loop(c:Code):inB (.loop c)=c:=rfl
attribute [go_sem] inL_seq inR_seq inB_block inB_loop
theorem jel{G:Ctx}{fn:Func}{c:Code}(f:Code->Code)(hb:fn.body=some c){k j:Nat}{y:Code}{Q:Exit->St->Prop}{st:St}(h:awp G (putN k (tailN j (f c)) y) Q st):awp G (putN k (tailN j (f (jas fn))) y) Q st:=by
 unfold jas;rw[hb];exact h
end
end Go.Abs
namespace Go.Proofs.Ytgnflpkmpoghbaa
section
open Go.RowKit Go.Shelf Go.LQ Go.Maps
open Go.Abs (IV AV Rep RepL Ctr St Sim Base SemC liftQ tailN jas inL keyV elemV Ents Born Mo)
attribute [local go_sem] Oper.semAt_some
structure KX(b:Nat)(w w':World):Prop where
 g:w.grownBy w' (some b)
theorem KX.trans{b:Nat}{w1 w2 w3:World}(h:KX b w1 w2)(h':KX b w2 w3):KX b w1 w3:=
 let⟨⟨a1,a2,a3,a4,a5⟩⟩:=h
 let⟨⟨b1,b2,b3,b4,b5⟩⟩:=h'
 ⟨⟨b1.trans a1,b2.trans a2,b3.trans a3,Nat.le_trans a4 b4,fun k hk hne=>(b5 k (Nat.lt_of_lt_of_le hk a4) hne).trans (a5 k hk hne)⟩⟩
theorem KX.blk{b:Nat}{w w':World}(h:KX b w w'){k:Nat}(hk:k<w.heap.size)(hne:k≠b):w'.heap[k]? =w.heap[k]? :=h.g.block k hk (fun e=>hne (by cases e;rfl))
theorem KX.set{b:Nat}(w:World)(o:Obj):KX b w (ChangeMaps.setBlock w b o):=⟨⟨rfl,rfl,rfl,by simp[ChangeMaps.setBlock],fun k hk hne=>by
 show(w.heap.setIfInBounds b o)[k]? =_;rw[Array.getElem?_setIfInBounds_ne (fun e=>hne (by rw[e]))]⟩⟩
theorem filter_all_eq{es:List MapEntry}(h:(es.map (·.born)).Nodup){cur:List MapEntry}(hs:cur.Sublist es)(h1:∀x∈es,x∈cur\/decV x.val=0)(h2:∀x∈cur,decV x.val≠0):cur=es.filter fun e=> !decide (decV e.val=0):=by
 refine jfj hs (jj1 h) fun x hx=>⟨fun hm=>by rw[decide_eq_false (h2 x hm)];rfl,fun hd=>(h1 x hx).resolve_right fun e=> ?_⟩;rw[decide_eq_true e]at hd;exact absurd hd (by decide)
theorem list_fn(l:List Value)(n:Nat)(h:l.length=n):∃z:Nat->Value,l=(List.range n).map z:=⟨fun i=>l.getD i undef,List.ext_getElem? fun i=>by
 rw[List.getElem?_map];by_cases hi:i<n
 ·rw[List.getElem?_range hi,Option.map_some,List.getD_eq_getElem?_getD,List.getElem?_eq_getElem (by omega)];rfl
 ·rw[List.getElem?_eq_none (by omega),List.getElem?_eq_none (by rw[List.length_range];omega)];rfl⟩
theorem del_loop(tl:List Value)(hl:tl.length=155)(W:World)(b cl:Nat)(es:Array MapEntry)(h7:tl[7]? =some (.map (some b)))(hb:W.heap[b]? =some (.map es cl))(hE:EInt es.toList)(hbl:∀e∈es.toList,e.born<cl){Q:Exit->Act->World->Prop}
  (hQ:∀(tl':List Value) (W':World) (es':Array MapEntry),tl'.length=155->tl'[1]? =tl[1]? ->tl'[2]? =tl[2]? ->tl'[4]? =tl[4]? ->tl'[7]? =tl[7]? ->W'.heap[b]? =some (.map es' cl)->es'.toList=es.toList.filter (fun e=> !decide (decV e.val=0))->KX b W W'->Q .normal {tmps:=tl'.toArray,defers:=[]} W'):
  Code.wp Try.prog (inL (tailN 5 (jas Try.f7))) Q {tmps:=tl.toArray,defers:=[]} W:=by
 have hu:Try.prog.underlying 45=some (.map 49 3):=Try.underlying45;have hrange:=run_range_map (P:=Try.prog) W 45 49 3 b es cl hu hb;obtain⟨z,hz⟩:=list_fn tl 155 hl;have hz:tl=[z 0,z 1,z 2,z 3,z 4,z 5,z 6,z 7,z 8,z 9,z 10,z 11,z 12,z 13,z 14,z 15,z 16,z 17,z 18,z 19,z 20,z 21,z 22,z 23,z 24,z 25,z 26,z 27,z 28,z 29,z 30,z 31,z 32,z 33,z 34,z 35,z 36,z 37,z 38,z 39,z 40,z 41,z 42,z 43,z 44,z 45,z 46,z 47,z 48,z 49,z 50,z 51,z 52,z 53,z 54,z 55,z 56,z 57,z 58,z 59,z 60,z 61,z 62,z 63,z 64,z 65,z 66,z 67,z 68,z 69,z 70,z 71,z 72,z 73,z 74,z 75,z 76,z 77,z 78,z 79,z 80,z 81,z 82,z 83,z 84,z 85,z 86,z 87,z 88,z 89,z 90,z 91,z 92,z 93,z 94,z 95,z 96,z 97,z 98,z 99,z 100,z 101,z 102,z 103,z 104,z 105,z 106,z 107,z 108,z 109,z 110,z 111,z 112,z 113,z 114,z 115,z 116,z 117,z 118,z 119,z 120,z 121,z 122,z 123,z 124,z 125,z 126,z 127,z 128,z 129,z 130,z 131,z 132,z 133,z 134,z 135,z 136,z 137,z 138,z 139,z 140,z 141,z 142,z 143,z 144,z 145,z 146,z 147,z 148,z 149,z 150,z 151,z 152,z 153,z 154]:=hz;have z7:z 7= .map (some b):=by rw[hz]at h7;simpa using h7
 rw[z7]at hz;subst hz;clear h7 hl hz;have hQ:∀(tl':List Value) (W':World) (es':Array MapEntry),tl'.length=155->tl'[1]? =some (z 1)->tl'[2]? =some (z 2)->tl'[4]? =some (z 4)->tl'[7]? =some (.map (some b))->W'.heap[b]? =some (.map es' cl)->es'.toList=es.toList.filter (fun e=> !decide (decV e.val=0))->KX b W W'->Q .normal {tmps:=tl'.toArray,defers:=[]} W':=hQ;refine(wpIn_wide (n:=10)).1 ?_;simp only[inL,Go.Abs.inR,tailN,jas,Try.f7]
 gi_wp2
 obtain⟨w0,hw0⟩:∃w0,w0=W.alloc (.mapIter (some b) cl #[] cl):=⟨_,rfl⟩;have hg0:KX b W w0:=by
  rw[hw0];have hga:=World.grownBy_alloc W (.mapIter (some b) cl #[] cl) none;exact⟨⟨hga.1,hga.2,hga.3,hga.size,fun k hk _=>hga.block k hk (by simp)⟩⟩
 have hr0:w0.heap[W.heap.size]? =some (.mapIter (some b) cl #[] cl):=by rw[hw0];exact World.alloc_heap_new W _
 have hblt:b<W.heap.size:=(Array.getElem?_eq_some_iff.1 hb).1;have hb0:w0.heap[b]? =some (.map es cl):=by
  rw[hw0,(World.grownBy_alloc W (.mapIter (some b) cl #[] cl) none).block b hblt (by simp)];exact hb
 rw[<-hw0];clear hrange hw0
 gi_loopw [14] (fun _ wr=>∃(seen:Array Nat) (last:Nat) (cur:Array MapEntry),wr.heap[W.heap.size]? =some (.mapIter (some b) cl seen last)/\cl<=last/\wr.heap[b]? =some (.map cur cl)/\cur.toList.Sublist es.toList/\
   (∀x∈es.toList,x∈cur.toList\/decV x.val=0)/\(∀x∈cur.toList,seen.contains x.born=true->decV x.val≠0)/\KX b W wr)
  (fun _ wr=>leftN b W.heap.size wr)
 case atStart=>exact⟨#[],cl,es,hr0,Nat.le_refl _,hb0,List.Sublist.refl _,fun x hx=> .inl hx,fun x _ h=>by simp at h,hg0⟩
 case round=>
  obtain⟨seen,last,cur,hr,hlast,hbm,hsub,hgone,hseen,hkx⟩:=hrel;have hEc:EInt cur.toList:=hE.sub hsub;have hblc:∀e∈cur.toList,e.born<cl:=fun e he=>hbl e (hsub.subset he);rcases run_next_at (P:=Try.prog) wr 0 W.heap.size b cl last seen cur cl hr hbm hblc hlast with ⟨hl0,hrun⟩ | ⟨e,he,w1,hal,hrun⟩
  ·have hfin:cur.toList=es.toList.filter fun e=> !decide (decV e.val=0):=filter_all_eq hE.born hsub hgone fun x hx=>hseen x hx (by
    cases hc:seen.contains x.born with
    | true=>rfl
    | false=>
     have:x∈(leftOf cur seen).toList:=by
      unfold leftOf;rw[Array.toList_filter,List.mem_filter];exact⟨hx,by rw[hc];rfl⟩
     have:=List.length_pos_of_mem this;rw[Array.length_toList]at this;omega)
   clear hgone hseen
   gi_wp2
   exact hQ _ wr cur rfl rfl rfl rfl rfl hbm hfin hkx
  ·have hmem:e∈cur.toList:=(mem_left he).1;obtain⟨x,v,hx,hv⟩:=hEc.kv e hmem;have hnew:seen.contains e.born=false:=by
    have:=he;unfold leftOf at this;rw[Array.toList_filter,List.mem_filter]at this
    simpa using this.2
   have hsz1:w1.heap=wr.heap:=by rcases hal with rfl | rfl<;>rfl
   obtain⟨w2,hw2⟩:∃w2,w2=ChangeMaps.setBlock w1 W.heap.size (Obj.mapIter (some b) cl (seen.push e.born) cl):=⟨_,rfl⟩;have hrlt:W.heap.size<wr.heap.size:=(Array.getElem?_eq_some_iff.1 hr).1;have hrb:W.heap.size≠b:=fun e=>by rw[e,hbm]at hr;cases hr
   have hr2:w2.heap[W.heap.size]? =some (.mapIter (some b) cl (seen.push e.born) cl):=by
    rw[hw2];show(w1.heap.setIfInBounds _ _)[_]? =_;rw[hsz1];simp[hrlt]
   have hs2:w2.heap.size=wr.heap.size:=by
    rw[hw2];show(w1.heap.setIfInBounds _ _).size=_;rw[hsz1];simp
   have ho2:∀k,k≠W.heap.size->w2.heap[k]? =wr.heap[k]? :=fun k hne=>by
    rw[hw2];show(w1.heap.setIfInBounds _ _)[k]? =_;rw[hsz1,Array.getElem?_setIfInBounds_ne (fun e=>hne e.symm)]
   have hg2:KX b W w2:=by
    refine⟨⟨?_,?_,?_,by rw[hs2];exact hkx.g.size,fun k hk hne=> ?_⟩⟩
    ·rw[hw2];rcases hal with rfl | rfl<;>exact hkx.g.os
    ·rw[hw2];rcases hal with rfl | rfl<;>exact hkx.g.tape
    ·rw[hw2];rcases hal with rfl | rfl<;>exact hkx.g.output
    ·rw[ho2 k (by omega)];exact hkx.g.block k hk hne
   have hbm2:w2.heap[b]? =some (.map cur cl):=(ho2 b (fun e=>hrb e.symm)).trans hbm;have hen:=run_entry_at (P:=Try.prog) w2 W.heap.size b cl seen cur cl e hr2 hbm2 hmem hEc.born;rw[<-hw2,hx,hv]at hrun;rw[hx,hv]at hen;have hm0:leftN b W.heap.size wr=(leftOf cur seen).size:=jf3 hbm hr;have hsh:=left_shrinks cur seen e he;have hde:decV e.val=v:=by rw[hv];rfl
   have hcont:∀n,(seen.push e.born).contains n=true->seen.contains n=true\/n=e.born:=fun n h=>by
    rw[contains_push,Bool.or_eq_true]at h;exact h.imp id fun h=>by simpa using h
   have huniq:∀y∈cur.toList,y.born=e.born->y=e:=fun y hy h=>born_inj hEc.born hy hmem h;clear hw2 hal hr hbm ho2 hnew;obtain⟨w3,hw3⟩:∃w3,w3=w2.alloc (Obj.cells #[.int .i64 x.a,.int .i64 x.b,.int .i64 x.c] 49):=⟨_,rfl⟩;have hga:=World.grownBy_alloc w2 (Obj.cells #[.int .i64 x.a,.int .i64 x.b,.int .i64 x.c] 49) none;have hg3:KX b W w3:=hg2.trans (by rw[hw3];exact⟨⟨hga.os,hga.tape,hga.output,hga.size,fun k hk _=>hga.block k hk (by simp)⟩⟩);have hr3:w3.heap[W.heap.size]? =some (.mapIter (some b) cl (seen.push e.born) cl):=by
    rw[hw3];exact(hga.block _ (Array.getElem?_eq_some_iff.1 hr2).1 (by simp)).trans hr2
   have hb3:w3.heap[b]? =some (.map cur cl):=by
    rw[hw3];exact(hga.block b (Array.getElem?_eq_some_iff.1 hbm2).1 (by simp)).trans hbm2
   have hc0:∀j u,[Value.int .i64 x.a,.int .i64 x.b,.int .i64 x.c][j]? =some u->w3.cell? ((⟨w2.heap.size,0,none⟩:Addr).add j)=some u:=by
    rw[hw3];exact jei w2 _ _ _ _
   have c0:w3.cell? ⟨w2.heap.size,0,none⟩=some (.int .i64 x.a):=hc0 0 _ rfl;have c1:w3.cell? ⟨w2.heap.size,1,none⟩=some (.int .i64 x.b):=hc0 1 _ rfl;have c2:w3.cell? ⟨w2.heap.size,2,none⟩=some (.int .i64 x.c):=hc0 2 _ rfl;clear hc0 hga;obtain⟨cur',hdel,hsub',hmem'⟩:=del_run hEc hb3 hmem hx 0;have hle:=jf3 (c:=cl) (c':=cl) hb3 hr3;have hkd:=KX.set (b:=b) w3 (.map cur' cl);have hrd:(ChangeMaps.setBlock w3 b (.map cur' cl)).heap[W.heap.size]? =some (.mapIter (some b) cl (seen.push e.born) cl):=by
    show(w3.heap.setIfInBounds b _)[_]? =_;rw[Array.getElem?_setIfInBounds_ne (fun e=>hrb e.symm)];exact hr3
   have hbd:(ChangeMaps.setBlock w3 b (.map cur' cl)).heap[b]? =some (.map cur' cl):=by
    show(w3.heap.setIfInBounds b _)[_]? =_;simp[(Array.getElem?_eq_some_iff.1 hb3).1]
   have hld:=jf3 (c:=cl) (c':=cl) hbd hrd;have hsmall:(leftOf cur' (seen.push e.born)).size<=(leftOf cur (seen.push e.born)).size:=by
    have hz:∀l:Array MapEntry,(leftOf l (seen.push e.born)).size=(l.toList.filter fun y=> !(seen.push e.born).contains y.born).length:=fun l=>by
     rw[<-Array.length_toList];unfold leftOf;rw[Array.toList_filter]
    rw[hz,hz];exact(hsub'.filter _).length_le
   have goalA:v≠0->(∃(seen:Array Nat) (last:Nat) (cur:Array MapEntry),w3.heap[W.heap.size]? =some (.mapIter (some b) cl seen last)/\cl<=last/\w3.heap[b]? =some (.map cur cl)/\cur.toList.Sublist es.toList/\
     (∀x∈es.toList,x∈cur.toList\/decV x.val=0)/\(∀x∈cur.toList,seen.contains x.born=true->decV x.val≠0)/\KX b W w3)/\leftN b W.heap.size w3<leftN b W.heap.size wr:=fun hv0=>
    ⟨⟨seen.push e.born,cl,cur,hr3,Nat.le_refl _,hb3,hsub,hgone,fun y hy h=>by
     rcases hcont _ h with h | h
     ·exact hseen y hy h
     ·rw[huniq y hy h,hde];exact hv0,hg3⟩,by rw[hle,hm0];exact hsh⟩
   have goalB:v=0->(∃(seen:Array Nat) (last:Nat) (cur:Array MapEntry),(ChangeMaps.setBlock w3 b (.map cur' cl)).heap[W.heap.size]? =some (.mapIter (some b) cl seen last)/\cl<=last/\(ChangeMaps.setBlock w3 b (.map cur' cl)).heap[b]? =some (.map cur cl)/\cur.toList.Sublist es.toList/\
     (∀x∈es.toList,x∈cur.toList\/decV x.val=0)/\(∀x∈cur.toList,seen.contains x.born=true->decV x.val≠0)/\KX b W (ChangeMaps.setBlock w3 b (.map cur' cl)))/\leftN b W.heap.size (ChangeMaps.setBlock w3 b (.map cur' cl))<leftN b W.heap.size wr:=fun hv0=>
    ⟨⟨seen.push e.born,cl,cur',hrd,Nat.le_refl _,hbd,hsub'.trans hsub,fun y hy=>by
     rcases hgone y hy with h | h
     ·by_cases e1:y=e
      ·right;rw[e1,hde];exact hv0
      ·exact .inl ((hmem' y h).2 e1)
     ·exact .inr h,fun y hy h=>by
     have hyc:=hsub'.subset hy;rcases hcont _ h with h | h
     ·exact hseen y hyc h
     ·exact absurd (huniq y hyc h) ((hmem' y hyc).1 hy),hg3.trans hkd⟩,by rw[hld,hm0];omega⟩
   unfold KeyV.enc at hrun hen hdel;rw[hw3]at hdel goalA goalB;clear hsub hgone hseen hkx hEc hblc he hmem hx hv hsz1 hr2 hs2 hg2 hbm2 hm0 hsh hde hcont huniq hw3 hg3 hr3 hb3 c0 c1 c2 hsub' hmem' hle hkd hrd hbd hld hsmall hE hbl hg0 hr0 hb0 hQ
   gi_wp2_with (gi_at_delete;refine wpListIn_delete_at rfl (.tmp 139) (.tmp 140) 45 49 rfl rfl rfl (fun _=>hdel) ?_)
   ·have hB:=goalB (by simp_all);exact⟨⟨_,_,_,_,_,_,_,_,_,_,_,hB.1,rfl⟩,hB.2⟩
   ·exact goalA (by simp_all)
end
section
open Go.RowKit Go.LQ
open Go.Abs (IV AV Rep RepA Ctr St Sim Base SemC tailN jas inL keyV elemV Ents Born Mo look)
theorem sim_act{N:Nat}{w0:Base}{M0:Nat->Nat->Prop}{β:Nat->Option Nat}{st:St}{a a':Act}{w:World}(h:Sim N w0 M0 β st a w)(hN:a'.tmps.size=N)(hD:a'.defers=[])(he:∀t,st.get t≠ .und->a'.tmps.getD t undef=a.tmps.getD t undef):Sim N w0 M0 β st a' w:=
 ⟨hN,hD,h.below,h.m0,fun t=>by
  by_cases hu:st.get t= .und
  ·rw[hu];trivial
  ·rw[he t hu];exact h.fr t,h.rows,h.toks,h.inj,h.excl,h.nam,h.np,h.perm⟩
theorem ents_int{T:LQ.Tab}{es:Array MapEntry}{c:Nat}(hs:Shape 3 T)(hd:Dist T)(h:Ents (3,true) T es)(hb:Born es c):EInt es.toList:=by
 refine⟨fun e he=> ?_,?_,hb.1⟩
 ·have hm:(e.key,e.val)∈T.map fun p=>(keyV p.1,elemV true p.2):=by rw[<-h.2];exact List.mem_map.2 ⟨e,he,rfl⟩
  obtain⟨p,hp,e1⟩:=List.mem_map.1 hm;obtain⟨h1,h2⟩:=hs p hp;obtain⟨k,v⟩:=p
  match k,v,h1,h2 with
  | [a,b,c],[n],_,_=>
   exact⟨⟨a,b,c⟩,n,(congrArg Prod.fst e1).symm,(congrArg Prod.snd e1).symm⟩
 ·rw[jh1 h];refine List.pairwise_map.2 ((List.pairwise_map.1 hd).imp fun{a b} hne e=>hne ?_);have:=congrArg decK e;rw[jii,jii]at this;exact this
theorem ents_nz{T:LQ.Tab}{es es':Array MapEntry}(hs:Shape 3 T)(h:Ents (3,true) T es)(he:es'.toList=es.toList.filter fun e=> !decide (decV e.val=0)):Ents (3,true) (nz T) es':=by
 refine⟨fun p hp=>h.1 p (List.mem_filter.1 hp).1,?_⟩;rw[he];have h2:=congrArg (List.filter fun q:Value×Value=> !decide (decV q.2=0)) h.2;rw[List.filter_map,List.filter_map]at h2;refine Eq.trans h2 ?_;unfold nz;refine congrArg (List.map _) (List.filter_congr fun p hp=> ?_);obtain⟨h3,h4⟩:=hs p hp;obtain⟨k,v⟩:=p
 match v,h4 with
 | [n],_=>rfl
theorem born_sub{es es':Array MapEntry}{c:Nat}(h:Born es c)(hs:es'.toList.Sublist es.toList):Born es' c:=⟨h.1.sublist (hs.map _),fun e he=>h.2 e (hs.subset he)⟩
def SD(lx:IV)(rc zc:List IV)(T:LQ.Tab):St:=⟨[(1,.im lx),(2,.loc 2 4 0 0),(4,.loc 4 4 0 0),(7,.mpo 29 (3,true) T)],[(4,4,[zc]),(2,4,[rc])],[(29,0,0)]⟩
theorem SD_get{lx:IV}{rc zc:List IV}{T:LQ.Tab}{t:Nat}(h:(SD lx rc zc T).get t≠ .und):t=1\/t=2\/t=4\/t=7:=by
 by_cases t1:t=1
 ·exact .inl t1
 by_cases t2:t=2
 ·exact .inr (.inl t2)
 by_cases t4:t=4
 ·exact .inr (.inr (.inl t4))
 by_cases t7:t=7
 ·exact .inr (.inr (.inr t7))
 exact absurd (by simp[SD,Go.Abs.St.get,Go.Abs.look,t1,t2,t4,t7]) h
theorem del_sem{lx:IV}{rc zc:List IV}{T:LQ.Tab}(hs:Shape 3 T)(hd:Dist T){Q:Exit->St->Prop}(hQ:Q .normal (SD lx rc zc (nz T))):SemC G 155 (inL (tailN 5 (jas Try.f7))) Q (SD lx rc zc T):=fun w0 M0 β a w hsim=>by
 obtain⟨tm,df⟩:=a;obtain rfl:df=[]:=hsim.defers;have hsz:tm.size=155:=hsim.size;have h7:RepA w (Mo M0 β (SD lx rc zc T)) β (SD lx rc zc T).toks (.mpo 29 (3,true) T) (tm.getD 7 undef):=hsim.fr 7;obtain⟨b,hβ,hv,hmap⟩:=h7;obtain⟨es,cl,hh,hE,hB⟩:=hmap rfl;have hl:tm.toList.length=155:=by rw[Array.length_toList];exact hsz
 have hat:∀t,t<155->tm.toList[t]? =some (tm.getD t undef):=fun t ht=>by
  rw[Array.getElem?_toList,Array.getD_eq_getD_getElem?,Array.getElem?_eq_getElem (by omega)];rfl
 refine del_loop tm.toList hl w b cl es (by rw[hat 7 (by decide),hv]) hh (ents_int hs hd hE hB) hB.2 fun tl' W' es' h1 e1 e2 e4 e7 hm' he' hk=> ?_;have hlt:b<w.heap.size:=(Array.getElem?_eq_some_iff.1 hh).1;have hsub:es'.toList.Sublist es.toList:=by rw[he'];exact List.filter_sublist
 have s1:=hsim.setMap (d:=29) (b:=b) (sc:=(3,true)) (kvs:=nz T) (es:=es) (es':=es') (c:=cl) (c':=cl) rfl hβ hh (ents_nz hs hE he') (born_sub hB hsub);have hb:Below ({w with heap:=w.heap.setIfInBounds b (.map es' cl)}:World).heap.size {w with heap:=w.heap.setIfInBounds b (.map es' cl)} W':=by
  refine⟨hk.g.os,hk.g.tape,hk.g.output,?_,fun k hk'=> ?_⟩
  ·show(w.heap.setIfInBounds b _).size<=_;rw[Array.size_setIfInBounds];exact hk.g.size
  ·have hk':k<(w.heap.setIfInBounds b (.map es' cl)).size:=hk';rw[Array.size_setIfInBounds]at hk';show _=(w.heap.setIfInBounds b _)[k]?;by_cases e:k=b
   ·subst e;rw[hm'];simp[hlt]
   ·rw[Array.getElem?_setIfInBounds_ne (fun h=>e h.symm)];exact hk.blk hk' e
 have s2:=s1.ext hb;have s3:Sim 155 w0 M0 β (SD lx rc zc (nz T)) {tmps:=tm,defers:=[]} W':=s2;refine⟨β,_,hQ,sim_act s3 (by simpa using h1) rfl fun t ht=> ?_⟩;have key:∀t,t<155->tl'[t]? =tm.toList[t]? ->tl'.toArray.getD t undef=tm.getD t undef:=fun t ht h=>by
  rw[hat t ht]at h;rw[Array.getD_eq_getD_getElem?];simp[h]
 rcases SD_get ht with rfl | rfl | rfl | rfl
 ·exact key 1 (by decide) e1
 ·exact key 2 (by decide) e2
 ·exact key 4 (by decide) e4
 ·exact key 7 (by decide) e7
end
end Go.Proofs.Ytgnflpkmpoghbaa
namespace Go.LQ
section
theorem jj9(k:List Int):∀(l:List Trn),(∀x∈l,1<=x.kg/\x.kg<=1000000)-> -(1000000*(l.length:Int))<=got l k/\got l k<=1000000*(l.length:Int)
 | [],_=>by simp[got]
 | x::l,h=>by
  have ih:=jj9 k l fun y hy=>h y (List.mem_cons_of_mem _ hy);have hx:=h x List.mem_cons_self;rw[got,List.length_cons];unfold dlt;split<;>split<;>omega
theorem mov_bound{r:Rts}(h:RightQ r){l:List Trn}(hl:l.length<=40)(hk:∀x∈l,1<=x.kg/\x.kg<=1000000)(k:List Int): -40000000<=vof (movT (tabL r.held) l) k/\vof (movT (tabL r.held) l) k<=41000000:=by
 rw[jhz];have h1:=jj9 k l hk;have h2:=jcs h.held (k:=k);have h3:=h.vof_cap k;omega
structure TradeF(r:Rts)(l:List Trn)(R:Rts×Int×Int):Prop where
 f1:∀i,i<l.length->(∀j,j<i->err1 r l j=0)->err1 r l i≠0->R=(Rts.zero,err1 r l i,(i:Int))
 f2:(∀j,j<l.length->err1 r l j=0)->∀i,i<l.length->(∀j,j<i->err2 r l j=0)->err2 r l i≠0->R=(Rts.zero,7,(i:Int))
 f3:(∀j,j<l.length->err1 r l j=0)->(∀j,j<l.length->err2 r l j=0)->R=if 300<((nz (movT (tabL r.held) l)).length:Int)then(Rts.zero,6,(l.length:Int))else(r.after l,0,(l.length:Int))
theorem trade_f{r:Rts}{l:List Trn}(h:jao r=0)(hl:l.length<=40):TradeF r l (ja7 r l):=by
 have h0:¬jao r≠0:=fun e=>e h;have h1:¬40<(l.length:Int):=by omega
 refine⟨fun i hi hj he=> ?_,fun ha i hi hj he=> ?_,fun ha hb=> ?_⟩
 ·unfold ja7;rw[if_neg h0,if_neg h1,jf9 hj hi he]
 ·unfold ja7;rw[if_neg h0,if_neg h1,jbv ha];dsimp only;rw[jf9 hj hi he]
 ·unfold ja7;rw[if_neg h0,if_neg h1,jbv ha];dsimp only;rw[jbv hb]
theorem trade_f1{r:Rts}{l:List Trn}(h:jao r≠0):ja7 r l=(Rts.zero,1,0):=by unfold ja7;rw[if_pos h]
theorem ji0{r:Rts}{l:List Trn}(h:jao r=0)(hl:40<(l.length:Int)):ja7 r l=(Rts.zero,6,0):=by unfold ja7;rw[if_neg (fun e=>e h),if_pos hl]
end
end Go.LQ
namespace Go.Proofs.Ytgnflpkmpoghbaa
section
open Go.Abs Go.LQ
attribute [local go_sem] ints ic qC rtC kC
theorem ctr_sem{f:FuncId}{fn:Func}{c:Code}{xs:List IV}{x:IV}(rs:List ResultVar)(hf:G.P.funcs[f]? =some fn)(hb:fn.body=some c)(hr:fn.results.toList=rs)(hd:dstC fn.ntmps c=true)(hn:xs.length<=fn.ntmps)
  (h:SemC G fn.ntmps c (fun e s=>match e with | .normal=>jg4 G rs (fun r=>r= .im x/\([]:Abs.Rows)=[]) s | .ret=>jg4 G rs (fun r=>r= .im x/\([]:Abs.Rows)=[]) s | _=>False) (jck (xs.map .im) [])):Ctr G.P f xs (· =x):=by
 subst hr;refine jkv (φ:=fun r L'=>r= .im x/\L'=[]) (jh3 good hf hb hd (by rw[List.length_map];exact hn) (h.mono fun e s hq=> ?_)) (fun r L' ⟨h1,h2⟩=>⟨x,[],h1,rfl⟩);have key:jg4 G fn.results.toList (fun r=>r= .im x/\([]:Abs.Rows)=[]) s->aRetH G fn.results.toList (fun r L'=>r= .im x/\L'=[]) s:=fun hq=>⟨[],fun k y hk=>(by cases hk),hq⟩;cases e with
 | normal=>exact key hq
 | ret=>exact key hq
 | _=>exact hq.elim
theorem le_of{s S:St}(L R:List Nat)(h:s.keep L R=S):St.Le s S:=h▸St.le_keep s L R
def xC(x:Trn):List IV:=[.int x.fr,.int x.to,.int x.dep,.int x.day,.int x.kg]
attribute [local go_sem] xC
def tR(R:Rts×Int×Int):IV:= .tup [.agg (rtC R.1),.int R.2.1,.int R.2.2]
abbrev QT(R:Rts×Int×Int):Exit->St->Prop:=fun e s=>match e with
 | .normal=>jg4 G [.cell 4 25,.tmp 5,.tmp 6] (fun r=>r= .im (tR R)/\([]:Abs.Rows)=[]) s
 | .ret=>jg4 G [.cell 4 25,.tmp 5,.tmp 6] (fun r=>r= .im (tR R)/\([]:Abs.Rows)=[]) s
 | _=>False
def zC:List IV:=[.int 0,.sl [],.sl [],.sl []]
theorem zero_c:rtC Rts.zero=zC:=rfl
def SB(lx:IV)(rc:List IV)(T U:LQ.Tab):St:=⟨[(1,.im lx),(2,.loc 2 4 0 0),(4,.loc 4 4 0 0),(7,.mpo 29 (3,true) T),(8,.im (.mp (3,true) U))],[(4,4,[zC]),(2,4,[rc])],[(29,0,0)]⟩
theorem q_trade0(r:Rts)(l:List Trn)(hc:r.cap.length<=100000)(hh:r.held.length<=100000)(hu:r.used.length<=100000)(h:jao r≠0):Ctr G.P 7 [.agg (rtC r),.sl (l.map xC)] (· =tR (Rts.zero,1,0)):=by
 have k1:=jdq r hc hh hu;have hd:decide (jao r=0)=false:=decide_eq_false h;unfold tR;rw[zero_c];unfold rtC ints at*;refine jag good _ _ [.cell 4 25,.tmp 5,.tmp 6] Try.func7 rfl rfl (by decide+kernel) rfl ?_;simp only[go_sem];refine ja5 k1 (by decide) ?_;simp only[hd,go_sem];rfl
theorem q_trade1(r:Rts)(l:List Trn)(hc:r.cap.length<=100000)(hh:r.held.length<=100000)(hu:r.used.length<=100000)(h:jao r=0)(hl:40<(l.length:Int)):Ctr G.P 7 [.agg (rtC r),.sl (l.map xC)] (· =tR (Rts.zero,6,0)):=by
 have k1:=jdq r hc hh hu;rw[h]at k1;have hd:decide (40<(l.length:Int))=true:=decide_eq_true hl;unfold tR;rw[zero_c];unfold rtC ints at*;refine jag good _ _ [.cell 4 25,.tmp 5,.tmp 6] Try.func7 rfl rfl (by decide+kernel) rfl ?_;simp only[go_sem];refine ja5 k1 (by decide) ?_;simp only[hd,List.length_map,go_sem];rfl
section
variable{r:Rts}{l:List Trn}{R:Rts×Int×Int}
theorem tr_A(h:RightQ r)(hl:l.length<=40){Q:Exit->St->Prop}(hQ:∀s,St.Le s (SB (.sl (l.map xC)) (rtC r) (tabL r.held) (tabL r.used))->Q .normal s):
  awp G (putN 3 (tailN 0 (jas Try.f7)) .skip) Q (jck ([.agg (rtC r),.sl (l.map xC)].map .im) []):=by
 obtain⟨l1,l2,l3⟩:=h.lens;have k1:=jdq r (by omega) (by omega) (by omega);rw[checkQ_zero.2 h]at k1;have kh:=ji4 r.held h.held.asc (by omega);have ku:=jgn r.used h.used.asc (by omega);have hd:decide (40<(l.length:Int))=false:=decide_eq_false (by omega);unfold SB at hQ;unfold rtC ints at*;generalize tabL r.held=T at*;generalize tabL r.used=U at*;generalize hlx:l.map xC=lx at*;have hll:lx.length=l.length:=by rw[<-hlx,List.length_map]
 refine jcm rfl ?_;simp only[go_sem];refine ja5 k1 (by decide) ?_;simp only[hd,hll,go_sem];refine DrawO_of 6 2 29 (by decide+kernel) ?_;simp only[go_sem];refine CallO_eq kh (by decide) rfl ?_;simp only[go_sem];refine jal ku (by decide) ?_;simp only[go_sem];refine hQ _ (le_of [1,2,4,7,8] [2,4,29] ?_);simp only[go_sem];rfl
theorem tr_B(h:RightQ r)(hl:l.length<=40)(hR:TradeF r l R){Q:Exit->St->Prop}(hret:∀s,QT R .ret s->Q .ret s)
  (hQ:(∀j,j<l.length->err1 r l j=0)->∀s,St.Le s (SB (.sl (l.map xC)) (rtC r) (movT (tabL r.held) l) (tabL r.used))->Q .normal s):
  awp G (putN 1 (tailN 3 (jas Try.f7)) .skip) Q (SB (.sl (l.map xC)) (rtC r) (tabL r.held) (tabL r.used)):=by
 have hn:=h.n;have hc20:=h.lens.1;have kt:=fun c d y=>jjp r c d y (by omega) (by omega);have hf1:=hR.f1;have hbd:∀i,i<=l.length->(∀j,j<i->err1 r l j=0)->∀k,-40000000<=vof (movT (tabL r.held) (l.take i)) k/\vof (movT (tabL r.held) (l.take i)) k<=41000000:=fun i hi hj k=>by
  refine mov_bound h (by rw[List.length_take];omega) (fun x hx=> ?_) k;obtain⟨j,hj',hxj⟩:=List.mem_iff_getElem.1 hx;rw[List.length_take]at hj';have:=(err1_zero.1 (hj j (by omega))).kg;rw[gD _ (by omega)]at this;rw[List.getElem_take]at hxj;rw[<-hxj];exact this
 have hsh:∀i,Shape 3 (movT (tabL r.held) (l.take i)):=fun i=>jc0 _ (jaq _);have hst:∀i,i<l.length->movT (tabL r.held) (l.take (i+1))=LQ.stepT (movT (tabL r.held) (l.take i)) (l.getD i x0):=fun i hi=>mov_take_succ _ hi;have ht0:movT (tabL r.held) (l.take 0)=tabL r.held:=by rw[List.take_zero];rfl
 have htl:movT (tabL r.held) (l.take l.length)=movT (tabL r.held) l:=by rw[List.take_length]
 unfold SB zC at hQ⊢;have hRC:∃a b c d,rtC r=[.int a,.sl b,.sl c,.sl d]:=⟨_,_,_,_,rfl⟩;obtain⟨rn,rc,rh,ru,hRC⟩:=hRC;rw[hRC]at kt hQ⊢;rw[<-htl]at hQ;rw[<-ht0];generalize movT (tabL r.held)=MT at*;generalize tabL r.used=U at*;refine jcm rfl ?_;simp only[List.length_map,go_sem];refine jbo [1,2,4,7,8,33,34,35] [2,4,29] (fun i:Nat=>⟨[(1,.im (.sl (l.map xC))),(2,.loc 2 4 0 0),(4,.loc 4 4 0 0),(7,.mpo 29 (3,true) (MT (l.take i))),(8,.im (.mp (3,true) U)),(33,.im (.sl (l.map xC))),(34,.im (.int l.length)),(35,.im (.int i))],[(4,4,[[.int 0,.sl [],.sl [],.sl []]]),(2,4,[[.int rn,.sl rc,.sl rh,.sl ru]])],[(29,0,0)]⟩)
  (fun i=>i<=l.length/\∀j,j<i->err1 r l j=0) (fun i=>l.length-i) 0 ?_ ⟨Nat.zero_le _,fun j hj=>absurd hj (by omega)⟩ ?_
 ·simp only[Int.natCast_zero,go_sem]
 intro i ⟨hi,he⟩;by_cases hp:(i:Int)<l.length
 ·have hd:decide ((i:Int)<l.length)=true:=decide_eq_true hp;have hi0:(0:Int)<=i:=by omega
  have hn:((i:Nat):Int).toNat=i:=Int.toNat_natCast i;have hx:l[i]? =some (l.getD i x0):=by rw[gD _ (by omega)];exact List.getElem?_eq_getElem (by omega)
  have hw:=jb2 (n:=(i:Int)+1) (by omega);have hf:=hf1 i (by omega) he;have hE:err1 r l i=if r.there (l.getD i x0).fr (l.getD i x0).dep (l.getD i x0).day=false\/r.there (l.getD i x0).to (l.getD i x0).dep (l.getD i x0).day=false\/(l.getD i x0).fr=(l.getD i x0).to then 1 else if inR (l.getD i x0).kg 1 1000000=false then 3 else 0:=rfl
  have k1:=kt (l.getD i x0).fr (l.getD i x0).dep (l.getD i x0).day;have k2:=kt (l.getD i x0).to (l.getD i x0).dep (l.getD i x0).day;have k3:=q_in (l.getD i x0).kg 1 1000000;have hB:=hbd i hi he;have hS:=hsh i;have hT:=hst i (by omega);have hE0:err1 r l i=0->∀j,j<i+1->err1 r l j=0:=fun h j hj=>by
   by_cases e:j=i
   ·rw[e];exact h
   ·exact he j (by omega)
  generalize hxx:l.getD i x0=x at*;generalize r.there x.fr x.dep x.day=b1 at*;generalize r.there x.to x.dep x.day=b2 at*;simp only[hd,hi0,hp,hn,List.getElem?_map,hx,List.length_map,go_sem];refine ja5 k1 (by decide) ?_;cases b1
  ·simp only[go_sem];rw[if_pos (.inl rfl)]at hE;have hRe:=hf (by rw[hE];decide);rw[hE]at hRe;subst hRe;refine hret _ ?_;simp only[go_sem];rfl
  simp only[go_sem];refine ja5 k2 (by decide) ?_;cases b2
  ·simp only[go_sem];rw[if_pos (.inr (.inl rfl))]at hE;have hRe:=hf (by rw[hE];decide);rw[hE]at hRe;subst hRe;refine hret _ ?_;simp only[go_sem];rfl
  simp only[go_sem];refine jd3 (fun d3 h3=> ?_) (fun d3 h3=> ?_)
  ·simp only[go_sem];rw[if_pos (.inr (.inr h3))]at hE;have hRe:=hf (by rw[hE];decide);rw[hE]at hRe;subst hRe;refine hret _ ?_;simp only[go_sem];rfl
  rw[if_neg (fun e=>e.elim (fun e=>by cases e) (fun e=>e.elim (fun e=>by cases e) h3))]at hE;simp only[go_sem];refine ja5 k3 (by decide) ?_;cases h4:inR x.kg 1 1000000
  ·rw[h4,if_pos rfl]at hE;have hRe:=hf (by rw[hE];decide);rw[hE]at hRe;subst hRe;simp only[go_sem];refine hret _ ?_;simp only[go_sem];rfl
  rw[h4,if_neg (by decide)]at hE;have hkg:=inR_iff.1 h4;have hm:=jce hS [x.dep,x.day,x.fr];have hT1:Shape 3 (mput (MT (l.take i)) [x.dep,x.day,x.fr] [vof (MT (l.take i)) [x.dep,x.day,x.fr]-x.kg]):=jde hS rfl rfl;have hm2:=jce hT1 [x.dep,x.day,x.to];have hT:MT (l.take (i+1))=mput (mput (MT (l.take i)) [x.dep,x.day,x.fr] [vof (MT (l.take i)) [x.dep,x.day,x.fr]-x.kg]) [x.dep,x.day,x.to] [vof (mput (MT (l.take i)) [x.dep,x.day,x.fr] [vof (MT (l.take i)) [x.dep,x.day,x.fr]-x.kg]) [x.dep,x.day,x.to]+x.kg]:=hT;have hne:[x.dep,x.day,x.to]≠[x.dep,x.day,x.fr]:=fun e=>by
   simp only[List.cons.injEq,and_true,true_and]at e;exact h3 e.symm
  have hv2:vof (mput (MT (l.take i)) [x.dep,x.day,x.fr] [vof (MT (l.take i)) [x.dep,x.day,x.fr]-x.kg]) [x.dep,x.day,x.to]=vof (MT (l.take i)) [x.dep,x.day,x.to]:=by rw[jfi,if_neg hne]
  have hb1:=hB [x.dep,x.day,x.fr];have hb2:=hB [x.dep,x.day,x.to];rw[hv2]at hT hm2;generalize vof (MT (l.take i)) [x.dep,x.day,x.fr]=v1 at*;generalize vof (MT (l.take i)) [x.dep,x.day,x.to]=v2 at*;generalize hT2:MT (l.take (i+1))=T2 at*;generalize MT (l.take i)=T1 at*;have w1:=jb2 (n:=v1-x.kg) (by omega);have w2:=jb2 (n:=v2+x.kg) (by omega);generalize hT1':mput T1 [x.dep,x.day,x.fr] [v1-x.kg]=T1' at*;simp only[go_sem];refine je1 14 12 13 29 T1 [x.dep,x.day,x.fr] rfl rfl rfl (by decide+kernel) (by decide) rfl rfl rfl (by decide+kernel) rfl ?_;rcases hm with hm | ⟨hm,rfl⟩
  ·simp only[hm,w1,hT1',go_sem];refine je1 14 12 13 29 T1' [x.dep,x.day,x.to] rfl rfl rfl (by decide+kernel) (by decide) rfl rfl rfl (by decide+kernel) rfl ?_;rcases hm2 with hm2 | ⟨hm2,rfl⟩
   ·simp only[hm2,w2,hT.symm,go_sem];refine jae (i+1) ?_ (by omega) ⟨by omega,hE0 hE⟩;simp only[hw,hT2,Int.natCast_add,go_sem]
   ·simp only[hm2,w2,hT.symm,go_sem];refine jae (i+1) ?_ (by omega) ⟨by omega,hE0 hE⟩;simp only[hw,hT2,Int.natCast_add,go_sem]
  ·simp only[hm,w1,hT1',go_sem];refine je1 14 12 13 29 T1' [x.dep,x.day,x.to] rfl rfl rfl (by decide+kernel) (by decide) rfl rfl rfl (by decide+kernel) rfl ?_;rcases hm2 with hm2 | ⟨hm2,rfl⟩
   ·simp only[hm2,w2,hT.symm,go_sem];refine jae (i+1) ?_ (by omega) ⟨by omega,hE0 hE⟩;simp only[hw,hT2,Int.natCast_add,go_sem]
   ·simp only[hm2,w2,hT.symm,go_sem];refine jae (i+1) ?_ (by omega) ⟨by omega,hE0 hE⟩;simp only[hw,hT2,Int.natCast_add,go_sem]
 ·have hd:decide ((i:Int)<l.length)=false:=decide_eq_false hp;obtain rfl:i=l.length:=by omega
  simp only[hd,go_sem];refine hQ he _ (le_of [1,2,4,7,8] [2,4,29] ?_);simp only[go_sem]
end
end
section
open Go.Abs Go.LQ
attribute [local go_sem] ints ic qC rtC kC xC
section
variable{r:Rts}{l:List Trn}{R:Rts×Int×Int}
theorem tr_C(hR:TradeF r l R)(h1:∀j,j<l.length->err1 r l j=0)(hl:l.length<=40){Q:Exit->St->Prop}(hret:∀s,QT R .ret s->Q .ret s)
  (hQ:(∀j,j<l.length->err2 r l j=0)->∀s,St.Le s (SD (.sl (l.map xC)) (rtC r) zC (movT (tabL r.held) l))->Q .normal s):
  awp G (putN 1 (tailN 4 (jas Try.f7)) .skip) Q (SB (.sl (l.map xC)) (rtC r) (movT (tabL r.held) l) (tabL r.used)):=by
 have hf2:=hR.f2 h1;have hs1:Shape 3 (movT (tabL r.held) l):=jc0 _ (jaq _);have hs2:=jaq r.used;have hE:∀i,err2 r l i=if vof (movT (tabL r.held) l) [(l.getD i x0).dep,(l.getD i x0).day,(l.getD i x0).fr]<vof (tabL r.used) [(l.getD i x0).dep,(l.getD i x0).day,(l.getD i x0).fr]then 7 else 0:=fun i=>rfl
 have hRC:∃a b c d,rtC r=[.int a,.sl b,.sl c,.sl d]:=⟨_,_,_,_,rfl⟩;obtain⟨rn,rc,rh,ru,hRC⟩:=hRC;unfold SD zC at hQ;unfold SB zC;rw[hRC]at hQ⊢;generalize movT (tabL r.held) l=T at*;generalize tabL r.used=U at*;refine jcm rfl ?_;simp only[List.length_map,go_sem];refine jbo [1,2,4,7,8,106,107,108] [2,4,29] (fun i:Nat=>⟨[(1,.im (.sl (l.map xC))),(2,.loc 2 4 0 0),(4,.loc 4 4 0 0),(7,.mpo 29 (3,true) T),(8,.im (.mp (3,true) U)),(106,.im (.sl (l.map xC))),(107,.im (.int l.length)),(108,.im (.int i))],[(4,4,[[.int 0,.sl [],.sl [],.sl []]]),(2,4,[[.int rn,.sl rc,.sl rh,.sl ru]])],[(29,0,0)]⟩)
  (fun i=>i<=l.length/\∀j,j<i->err2 r l j=0) (fun i=>l.length-i) 0 ?_ ⟨Nat.zero_le _,fun j hj=>absurd hj (by omega)⟩ ?_
 ·simp only[Int.natCast_zero,go_sem]
 intro i ⟨hi,he⟩;by_cases hp:(i:Int)<l.length
 ·have hd:decide ((i:Int)<l.length)=true:=decide_eq_true hp;have hi0:(0:Int)<=i:=by omega
  have hn:((i:Nat):Int).toNat=i:=Int.toNat_natCast i;have hx:l[i]? =some (l.getD i x0):=by rw[gD _ (by omega)];exact List.getElem?_eq_getElem (by omega)
  have hw:=jb2 (n:=(i:Int)+1) (by omega);have hf:=hf2 i (by omega) he;have hE:=hE i;have hE0:err2 r l i=0->∀j,j<i+1->err2 r l j=0:=fun h j hj=>by
   by_cases e:j=i
   ·rw[e];exact h
   ·exact he j (by omega)
  generalize l.getD i x0=x at*;have hm:=jce hs1 [x.dep,x.day,x.fr];have hm2:=jce hs2 [x.dep,x.day,x.fr];generalize vof T [x.dep,x.day,x.fr]=v1 at*;generalize vof U [x.dep,x.day,x.fr]=v2 at*;simp only[hd,hi0,hp,hn,List.getElem?_map,hx,List.length_map,go_sem];refine jbt 7 (by decide+kernel) ?_;rcases hm with hm | ⟨hm,rfl⟩
  ·rcases hm2 with hm2 | ⟨hm2,rfl⟩
   ·simp only[hm,hm2,go_sem];refine jd3 (fun d3 h3=> ?_) (fun d3 h3=> ?_)
    ·simp only[go_sem];rw[if_pos h3]at hE;have hRe:=hf (by rw[hE];decide);subst hRe;refine hret _ ?_;simp only[go_sem];rfl
    ·simp only[go_sem];rw[if_neg h3]at hE;refine jae (i+1) ?_ (by omega) ⟨by omega,hE0 hE⟩;simp only[hw,Int.natCast_add,go_sem]
   ·simp only[hm,hm2,go_sem];refine jd3 (fun d3 h3=> ?_) (fun d3 h3=> ?_)
    ·simp only[go_sem];rw[if_pos h3]at hE;have hRe:=hf (by rw[hE];decide);subst hRe;refine hret _ ?_;simp only[go_sem];rfl
    ·simp only[go_sem];rw[if_neg h3]at hE;refine jae (i+1) ?_ (by omega) ⟨by omega,hE0 hE⟩;simp only[hw,Int.natCast_add,go_sem]
  ·rcases hm2 with hm2 | ⟨hm2,rfl⟩
   ·simp only[hm,hm2,go_sem];refine jd3 (fun d3 h3=> ?_) (fun d3 h3=> ?_)
    ·simp only[go_sem];rw[if_pos h3]at hE;have hRe:=hf (by rw[hE];decide);subst hRe;refine hret _ ?_;simp only[go_sem];rfl
    ·simp only[go_sem];rw[if_neg h3]at hE;refine jae (i+1) ?_ (by omega) ⟨by omega,hE0 hE⟩;simp only[hw,Int.natCast_add,go_sem]
   ·simp only[hm,hm2,go_sem];rw[if_neg (by omega)]at hE;refine jae (i+1) ?_ (by omega) ⟨by omega,hE0 hE⟩;simp only[hw,Int.natCast_add,go_sem]
 ·have hd:decide ((i:Int)<l.length)=false:=decide_eq_false hp;obtain rfl:i=l.length:=by omega
  simp only[hd,go_sem];refine hQ he _ (le_of [1,2,4,7] [2,4,29] ?_);simp only[go_sem]
theorem tr_E(h:RightQ r)(hR:R=if 300<((nz (movT (tabL r.held) l)).length:Int)then(Rts.zero,6,(l.length:Int))else(r.after l,0,(l.length:Int)))(hl:l.length<=40):
  awp G (tailN 6 (jas Try.f7)) (QT R) (SD (.sl (l.map xC)) (rtC r) zC (nz (movT (tabL r.held) l))):=by
 obtain⟨l1,l2,l3⟩:=h.lens;have kc:=jk7 r (by omega) (by omega) (by omega);have hlen:(nz (movT (tabL r.held) l)).length<=100000:=by
  have h1:=mov_len l (tabL r.held);have h2:(tabL r.held).length=r.held.length:=List.length_map ..;have h3:(nz (movT (tabL r.held) l)).length<=(movT (tabL r.held) l).length:=List.length_filter_le _ _;omega
 have kq:=jk6 (nz (movT (tabL r.held) l)) (jf0 (jc0 _ (jaq _))) (ji8 (jf2 _ h.held.asc.dist)) hlen;have hra:r.after l=⟨r.n,r.cap,quoL (nz (movT (tabL r.held) l)),r.used⟩:=rfl;rw[hra]at hR;unfold SD zC;generalize nz (movT (tabL r.held) l)=T at*;unfold rtC ints at*;unfold QT tR;refine tail_go rfl ?_;by_cases hf:300<(T.length:Int)
 ·have hd:decide (300<(T.length:Int))=true:=decide_eq_true hf;rw[if_pos hf]at hR;subst hR;simp only[hd,List.length_map,go_sem];rfl
 ·have hd:decide (300<(T.length:Int))=false:=decide_eq_false hf;rw[if_neg hf]at hR;subst hR;simp only[hd,List.length_map,go_sem];refine ja5 kc (by decide) ?_;simp only[go_sem];refine ja5 kq (by decide) ?_;simp only[List.length_map,go_sem]
end
theorem jdk(r:Rts)(l:List Trn)(hc:r.cap.length<=100000)(hh:r.held.length<=100000)(hu:r.used.length<=100000)(hll:l.length<=100000):Ctr G.P 7 [.agg (rtC r),.sl (l.map xC)] (· =tR (ja7 r l)):=by
 by_cases h:jao r=0
 case neg=>rw[trade_f1 h];exact q_trade0 r l hc hh hu h
 by_cases hl:40<(l.length:Int)
 ·rw[ji0 h hl];exact q_trade1 r l hc hh hu h hl
 have hl:l.length<=40:=by omega
 have hr:=checkQ_zero.1 h;have hR:=trade_f h hl;refine ctr_sem (c:=tailN 0 (jas Try.f7)) [.cell 4 25,.tmp 5,.tmp 6] Try.func7 rfl rfl (by decide+kernel) (Nat.le_of_ble_eq_true rfl) ?_;refine SemC.cutsF good (fun _:Unit=>SB (.sl (l.map xC)) (rtC r) (tabL r.held) (tabL r.used)) (fun _=>True) 3 rfl (by decide+kernel) (tr_A hr hl fun s hs=>⟨(),trivial,hs⟩) fun _ _=> ?_;rw[jb7];refine SemC.cutsF good (fun _:Unit=>SB (.sl (l.map xC)) (rtC r) (movT (tabL r.held) l) (tabL r.used)) (fun _=>∀j,j<l.length->err1 r l j=0) 1 rfl (by decide+kernel) (tr_B hr hl hR (fun s hs=>hs) fun he s hs=>⟨(),he,hs⟩) fun _ he1=> ?_;rw[jb7];refine SemC.cutsF good (fun _:Unit=>SD (.sl (l.map xC)) (rtC r) zC (movT (tabL r.held) l)) (fun _=>∀j,j<l.length->err2 r l j=0) 1 rfl (by decide+kernel) (tr_C hR he1 hl (fun s hs=>hs) fun he s hs=>⟨(),he,hs⟩) fun _ he2=> ?_;rw[jb7];have hcode:tailN 5 (tailN 0 (jas Try.f7))=Code.seq (inL (tailN 5 (jas Try.f7))) (tailN 6 (jas Try.f7)):=rfl;rw[show(0+3+1+1:Nat)=5 from rfl];refine(congrArg (fun c=>SemC G 155 c _ _) hcode).mpr ?_;refine SemC.seq (del_sem (jc0 _ (jaq _)) (jf2 _ hr.held.asc.dist) ?_);exact SemC.awp good (by decide+kernel) (tr_E hr (hR.f3 he1 he2) hl)
