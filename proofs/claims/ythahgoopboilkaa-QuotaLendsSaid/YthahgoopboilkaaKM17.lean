/- A part of the proof. No further condition. -/
import Derived.Test.YthahgoopboilkaaKM16
set_option linter.all false
set_option maxRecDepth 10000000
set_option maxHeartbeats 16000000
namespace Go.Abs
section
section
variable{G:Ctx}
def jf7(G:Ctx)(ops:List Oper)(K:St->Prop)(d i1 n:Nat)(l:List Oper)(st:St):Prop:=jdu G ops (fun s=>alist G ops K (l.drop n) s) d i1 (l.take n) st
theorem DrawV_of{ops:List Oper}{Q:Exit->St->Prop}{st:St}(n i1 d s m:Nat)(h:(drawB ops.toArray n&&Nat.blt d 100000)=true)
  (hA:jf7 G ops (Q .normal) d i1 n ops (tokSt st d d s m)): @DrawP G ⟨ops⟩ ⟨Q⟩ st:=by
 rw[Bool.and_eq_true,Nat.blt_eq]at h;exact fun _ _ _ _ _ _ id _ hG hd hK hs=>draw_soundV hG id n i1 d s m h.1 h.2 hd hK hs hA (by simp[tokSt,look])
theorem aheadVN_free(ops:List Oper)(K:St->Prop)(d i n:Nat)(dst:Option Tmp)(op:Op)(ty:TypeId)(pos:String)(af:Array Edge)(r:List Oper)(st:St):
  jf7 G ops K d (i+1) (n+1) (⟨dst,op,ty,pos,af,none⟩::r) st=aq G st ⟨dst,op,ty,pos,af,none⟩ (fun av=>jf7 G ops K d i n r (st.put dst av)):=by
 simp only[jf7,List.take_succ_cons,List.drop_succ_cons]
 conv=>lhs;unfold jdu
theorem aheadVN_here(ops:List Oper)(K:St->Prop)(d n:Nat)(op:Op)(ty:TypeId)(pos:String)(af:Array Edge)(r:List Oper)(st:St)(d':Nat):
  jf7 G ops K d 0 (n+1) (⟨some d',op,ty,pos,af,none⟩::r) st=(d'=d/\aqV G st d ⟨some d',op,ty,pos,af,none⟩ (fun av=>jdg G ops K n r (st.put (some d') av))):=by
 simp only[jf7,jdg,List.take_succ_cons,List.drop_succ_cons]
 conv=>lhs;unfold jdu
 simp
def CallQ(G:Ctx)(g:Nat)(xs:List IV)(tok:Option (Nat×Nat))(d:Nat)[K:Hold (AV->Prop)]:Prop:=
 (3<=g/\g<G.fns)/\∃e s es,CtrV G.P g xs e s es/\(∀c∈es,c.length=s)/\tok=some (s,es.length)/\K.val (.vec d e s es)
theorem CallQ_eq{g:Nat}{xs:List IV}{tok:Option (Nat×Nat)}{d:Nat}{K:AV->Prop}{e s:Nat}{es:List (List IV)}(h:CtrV G.P g xs e s es)(hg:3<=g/\g<G.fns)(hs:∀c∈es,c.length=s)(ht:tok=some (s,es.length))(hK:K (.vec d e s es)): @CallQ G g xs tok d ⟨K⟩:=⟨hg,e,s,es,h,hs,ht,hK⟩
theorem aqV_call(dst:Option Tmp)(ty:TypeId)(pos:String)(af:Array Edge)(gd:Option (Nat×Bool))(f:Operand)(azz:Array Operand)(ts:Array TypeId)(d:Nat)(K:AV->Prop)(st:St):aqV G st d ⟨dst,.call ⟨.value f,azz,ts⟩,ty,pos,af,gd⟩ K=
  match evO st f,ivsOf (azz.toList.map (evO st))with
  | .im (.clo g caps),some xs=>CallQ G g (xs++caps) (look st.toks d) d (K:=⟨K⟩)
  | _,_=>False:=propext ⟨fun h=>h,fun h=>h⟩
end
attribute [go_sem ↓] aheadVN_free aheadVN_here aqV_call
end
end Go.Abs
namespace Go.Proofs.Ythahgoopboilkaa
section
open Go.Abs Go.LQ
attribute [local go_sem] ints ic qC rtC kC xC loC skC
theorem l_forked(a b:Loan)(ha:a.back=false)(hb:b.back=false):Ctr G.P 34 [.agg (loC a),.agg (loC b)] (· = .bool false):=by
 unfold loC;rw[ha,hb];refine ja8 good _ _ [.tmp 4] Try.func34 rfl rfl (by decide+kernel) rfl ?_;simp only[go_sem]
theorem l_spend(l:Loan)(u:Int):Ctr G.P 17 [.agg (loC l),.int u] (· = .tup [.agg (loC (jbq l u).1),.int (jbq l u).2]):=by
 have kr:=ji0 l;have kf:=l_fine u;by_cases h1:jax l=false
 ·have e:jbq l u=(l0,1):=by unfold jbq;rw[if_pos (.inl h1)]
  rw[e];rw[h1]at kr;unfold loC l0 at*;refine ja8 good _ _ [.cell 4 55,.tmp 5] Try.func17 rfl rfl (by decide+kernel) rfl ?_;simp only[go_sem];refine ja0 kr (by decide) ?_;simp only[go_sem]
 have h1:jax l=true:=by simpa using h1
 by_cases h2:fineL u=false
 ·have e:jbq l u=(l0,1):=by unfold jbq;rw[if_pos (.inr h2)]
  rw[e];rw[h1]at kr;rw[h2]at kf;unfold loC l0 at*;refine ja8 good _ _ [.cell 4 55,.tmp 5] Try.func17 rfl rfl (by decide+kernel) rfl ?_;simp only[go_sem];refine ja0 kr (by decide) ?_;simp only[go_sem];refine ja0 kf (by decide) ?_;simp only[go_sem]
 have h2:fineL u=true:=by simpa using h2
 have hb:=rightL_iff.1 h1;have hu:=fineL_iff.1 h2;have h0:¬(jax l=false\/fineL u=false):=by rw[h1,h2];simp
 rw[h1]at kr;rw[h2]at kf;cases h3:l.back with
 | true=>
  have e:jbq l u=(l0,7):=by unfold jbq;rw[if_neg h0,if_pos h3]
  rw[e];unfold loC l0 at*;rw[h3]at kr⊢;refine ja8 good _ _ [.cell 4 55,.tmp 5] Try.func17 rfl rfl (by decide+kernel) rfl ?_;simp only[go_sem];refine ja0 kr (by decide) ?_;simp only[go_sem];refine ja0 kf (by decide) ?_;simp only[go_sem]
 | false=>
  have w1:=jad (n:=l.units-l.spent) (by omega);by_cases h4:l.units-l.spent<u
  ·have e:jbq l u=(l0,6):=by unfold jbq;rw[if_neg h0,if_neg (by rw[h3];decide),if_pos h4]
   have d4:decide (l.units-l.spent<u)=true:=decide_eq_true h4;rw[e];unfold loC l0 at*;rw[h3]at kr⊢;refine ja8 good _ _ [.cell 4 55,.tmp 5] Try.func17 rfl rfl (by decide+kernel) rfl ?_;simp only[go_sem];refine ja0 kr (by decide) ?_;simp only[go_sem];refine ja0 kf (by decide) ?_;simp only[w1,d4,go_sem]
  ·have e:jbq l u=({l with spent:=l.spent+u},0):=by unfold jbq;rw[if_neg h0,if_neg (by rw[h3];decide),if_neg h4]
   have d4:decide (l.units-l.spent<u)=false:=decide_eq_false h4;have w2:=jad (n:=l.spent+u) (by omega);rw[e];unfold loC at*;dsimp only at*;rw[h3]at kr⊢;refine ja8 good _ _ [.cell 4 55,.tmp 5] Try.func17 rfl rfl (by decide+kernel) rfl ?_;simp only[go_sem];refine ja0 kr (by decide) ?_;simp only[go_sem];refine ja0 kf (by decide) ?_;simp only[w1,w2,d4,go_sem]
theorem jji(l:List Loan):∀c∈l.map loC,c.length=4:=fun c hc=>by
 obtain⟨z,_,rfl⟩:=List.mem_map.1 hc;rfl
theorem l_cloneV(l:List Loan)(hl:l.length<=100000):CtrV G.P 31 [.sl (l.map loC)] 55 4 (l.map loC):=by
 have h4:=jji l;have hl2:(l.map loC).length<=100000:=by rw[List.length_map];exact hl
 generalize l.map loC=es at*;refine ctrv_go good _ _ [.tmp 2] Try.func31 rfl rfl (by decide+kernel) rfl ?_;simp only[go_sem];refine jib (fun h=> ?_) ?_
 ·subst h;simp only[go_sem]
 ·simp only[go_sem];exact⟨by simp,h4,by omega⟩
theorem l_lend(s:Stk)(d u:Int):Ctr G.P 16 [.agg (skC s),.int d,.int u] (· = .tup [.agg (skC (lendL s d u).1),.int (lendL s d u).2]):=by
 have kf:=l_free s;have kr:=ji0 (newL d u);by_cases h1:(freeL s).2=false
 ·have e:lendL s d u=(stk0,1):=by unfold lendL;rw[if_pos (.inl h1)]
  rw[e];rw[h1]at kf;unfold skC stk0 at*;refine ja8 good _ _ [.cell 6 48,.tmp 7] Try.func16 rfl rfl (by decide+kernel) rfl ?_;simp only[go_sem];refine ja0 kf (by decide) ?_;simp only[go_sem]
  try rfl
 have h1:(freeL s).2=true:=by simpa using h1
 have hok:=freeL_iff.1 h1;have hfe:=ji5 hok;rw[h1]at kf;have hlen:=hok.len;by_cases h2:jax (newL d u)=false
 ·have e:lendL s d u=(stk0,1):=by unfold lendL;rw[if_pos (.inr h2)]
  rw[e];rw[h2]at kr;unfold skC stk0 loC newL at*;refine ja8 good _ _ [.cell 6 48,.tmp 7] Try.func16 rfl rfl (by decide+kernel) rfl ?_;simp only[go_sem];refine ja0 kf (by decide) ?_;simp only[go_sem];refine ja0 kr (by decide) ?_;simp only[go_sem]
  try rfl
 have h2:jax (newL d u)=true:=by simpa using h2
 have h0:¬((freeL s).2=false\/jax (newL d u)=false):=by rw[h1,h2];simp
 rw[h2]at kr;by_cases h3:(freeL s).1<u
 ·have e:lendL s d u=(stk0,6):=by unfold lendL;rw[if_neg h0,if_pos (.inl h3)]
  have d3:decide ((freeL s).1<u)=true:=decide_eq_true h3;rw[e];generalize (freeL s).1=fr at*;unfold skC stk0 loC newL at*;refine ja8 good _ _ [.cell 6 48,.tmp 7] Try.func16 rfl rfl (by decide+kernel) rfl ?_;simp only[go_sem];refine ja0 kf (by decide) ?_;simp only[go_sem];refine ja0 kr (by decide) ?_;simp only[d3,go_sem]
  try rfl
 have d3:decide ((freeL s).1<u)=false:=decide_eq_false h3;by_cases h4:s.loans.length=100
 ·have e:lendL s d u=(stk0,6):=by unfold lendL;rw[if_neg h0,if_pos (.inr h4)]
  have d4:decide ((s.loans.length:Int)=100)=true:=decide_eq_true (by omega);rw[e];generalize (freeL s).1=fr at*;unfold skC stk0 loC newL at*;refine ja8 good _ _ [.cell 6 48,.tmp 7] Try.func16 rfl rfl (by decide+kernel) rfl ?_;simp only[go_sem];refine ja0 kf (by decide) ?_;simp only[go_sem];refine ja0 kr (by decide) ?_;simp only[d3,d4,List.length_map,go_sem]
  try rfl
 have d4:decide ((s.loans.length:Int)=100)=false:=decide_eq_false (by omega);have e:lendL s d u=({s with loans:=s.loans++[newL d u]},0):=by unfold lendL;rw[if_neg h0,if_neg (fun e=>e.elim h3 h4)]
 rw[e];have kv:=l_cloneV s.loans (by omega);have h4l:=jji s.loans;have hll:(s.loans.map loC).length=s.loans.length:=List.length_map ..;generalize (freeL s).1=fr at*;unfold skC newL at*;dsimp only at*;rw[List.map_append];generalize hL:s.loans.map loC=LL at*;unfold loC at*;refine ja8 good _ _ [.cell 6 48,.tmp 7] Try.func16 rfl rfl (by decide+kernel) rfl ?_;simp only[go_sem];refine ja0 kf (by decide) ?_;simp only[go_sem];refine ja0 kr (by decide) ?_;simp only[d3,d4,hll,go_sem];refine DrawV_of 5 2 41 4 LL.length (by decide+kernel) ?_;simp only[go_sem];refine CallQ_eq kv (by decide) h4l rfl ?_;simp only[go_sem];exact⟨h4l,(fun c hc=>by rw[List.mem_singleton.1 hc];rfl),by omega⟩
end
end Go.Proofs.Ythahgoopboilkaa
namespace Go.Abs
section
def AV.em:AV->AV
 | .sx []=> .im .emp
 | x=>x
def St.em(s:St):St:=⟨s.fr.map fun p=>(p.1,p.2.em),s.rows,s.toks⟩
theorem look_em:∀(l:List (Nat×AV)) (t:Nat),look (l.map fun p=>(p.1,p.2.em)) t=(look l t).map AV.em
 | [],_=>rfl
 | p::l,t=>by
  by_cases e:t=p.1
  ·subst e;obtain⟨k,v⟩:=p;rw[List.map_cons,ja7,ja7];rfl
  ·obtain⟨k,v⟩:=p;rw[List.map_cons,ja5 _ _ e,ja5 _ _ e,look_em l t]
theorem St.get_em(s:St)(t:Nat):s.em.get t=(s.get t).em:=by
 show(look _ t).getD AV.und=_;unfold St.em;rw[look_em];unfold St.get;cases look s.fr t<;>rfl
theorem St.le_em(s:St):St.Le s s.em:=by
 intro N w0 M0 β a w h;refine⟨β,h.size,h.defers,h.below,h.m0,fun t=> ?_,h.rows,h.toks,h.inj,h.excl,h.nam,h.np,h.perm⟩;rw[St.get_em];have hv:=h.fr t;generalize s.get t=x at hv;cases x with
 | sx es=>
  cases es with
  | nil=>
   obtain⟨_,ad,hv⟩:=hv;show Rep _ _ _ _;rw[hv];exact Rep.emp ad
  | cons c cs=>exact hv
 | _=>exact hv
theorem LoopP_em{G:Ctx}{c:Code}{Q:Exit->St->Prop}{st:St}(h: @LoopP G ⟨c⟩ ⟨Q⟩ st.em): @LoopP G ⟨c⟩ ⟨Q⟩ st:=by
 obtain⟨I,n,⟨s0,h1,h2⟩,h3⟩:=h;exact⟨I,n,⟨s0,(St.le_em st).trans h1,h2⟩,h3⟩
attribute [go_sem] St.em AV.em
def AV.lp:AV->AV
 | .loc d s i j=>if 100000<=d then .im (.pr (d-100000) s i j)else .loc d s i j
 | x=>x
def St.lp(s:St):St:=⟨s.fr.map fun p=>(p.1,p.2.lp),s.rows,s.toks⟩
theorem AV.lp_im(x:IV):AV.lp (.im x)= .im x:=rfl
theorem AV.lp_sx(es:List (List IV)):AV.lp (.sx es)= .sx es:=rfl
theorem AV.lp_und:AV.lp .und= .und:=rfl
attribute [go_sem] St.lp AV.lp_im AV.lp_sx AV.lp_und
end
end Go.Abs
namespace Go.Proofs.Ythahgoopboilkaa
section
open Go.Abs Go.LQ
attribute [local go_sem] ints ic qC rtC kC xC
theorem l_cloneH(l:List Loan)(hne:l≠[])(hl:l.length<=100000):
  CtrH G.P 31 [.im (.sl (l.map loC))] [] (fun r L'=>∃X,r= .im (.ref X 55 4 l.length)/\L'=[(hp X,4,l.map loC)]):=by
 have hne':l.map loC≠[]:=fun h=>hne (List.map_eq_nil_iff.1 h);have hlen:=jji l;refine ctrh_go (goodH [7] []) _ _ [.tmp 2] Try.func31 rfl rfl (by decide+kernel) rfl ?_;simp only[go_sem];refine jib (fun h=>absurd h hne') ?_;simp only[hne',go_sem];refine And.intro hlen (And.intro (by omega) (NewP_of (fun X hX=> ?_)));clear hX;simp only[List.length_map,go_sem];refine RetB_of [(hp X,4,l.map loC)] (jgq ji9) (SubR.of_eq rfl) ?_;simp only[go_sem];exact⟨X,rfl,rfl⟩
theorem jfj:∀(A B:Abs.Rows) (k:Nat),Abs.look (A++B) k=(Abs.look A k).orElse fun _=>Abs.look B k
 | [],B,k=>rfl
 | (j,v)::A,B,k=>by
  by_cases e:k=j
  ·subst e;rw[List.cons_append,ja7,ja7];rfl
  ·rw[List.cons_append,ja5 _ _ e,ja5 _ _ e,jfj A B k]
theorem behind_preL{R:Abs.Rows}(L':Abs.Rows):Behind R [] L' (R++L'):=fun k x hk=>by
 rw[jfj]at hk;cases h:Abs.look R k with
 | some y=>rw[h]at hk;cases hk;exact .inr ⟨rfl,rfl⟩
 | none=>rw[h]at hk;exact .inl hk
def jg9(s:Stk)(k:Nat)(x:Loan)(sp:Int):Stk:={s with loans:=s.loans.set k ⟨x.dev,x.units,max x.spent sp,false⟩}
theorem l_merge(s:Stk)(k:Nat)(x l:Loan)(hs:StkOk s)(hk:s.loans[k]? =some x)(hl:jax l=true)(hd:l.dev=x.dev)(hu:l.units=x.units)(hxb:x.back=false)(hlb:l.back=false):
  Ctr G.P 18 [.agg (skC s),.int k,.agg (loC l)] (· = .tup [.agg (skC (jg9 s k x l.spent)),.int 0]):=by
 have kR:=l_Right s;rw[freeL_iff.2 hs]at kR;have kr:=ji0 l;rw[hl]at kr;have kf:=l_forked x l hxb hlb;have hlen:=hs.len;have hki:=(List.getElem?_eq_some_iff.1 hk).1;have hne:s.loans≠[]:=fun e=>by rw[e]at hki;simp at hki
 have kc:=l_cloneH s.loans hne (by omega);have hset:(jg9 s k x l.spent).loans.map loC=(s.loans.map loC).set k [.int x.dev,.int x.units,.int (max x.spent l.spent),.bool false]:=by
  unfold jg9;rw[List.map_set];rfl
 have hsk:skC (jg9 s k x l.spent)=[.int s.total,.int s.spent,.sl ((s.loans.map loC).set k [.int x.dev,.int x.units,.int (max x.spent l.spent),.bool false])]:=by
  unfold skC;rw[hset];rfl
 rw[hsk];clear hsk hset;unfold skC at*;have hL:(s.loans.map loC)[k]? =some (loC x):=by rw[List.getElem?_map,hk];rfl
 have hll:(s.loans.map loC).length=s.loans.length:=List.length_map ..;have d1:decide ((k:Int)<0)=false:=decide_eq_false (by omega);have d2:decide ((s.loans.length:Int)<=k)=false:=decide_eq_false (by omega);have d3:((k:Int)<s.loans.length)=True:=eq_true (by omega);have d4:((0:Int)<=k)=True:=eq_true (by omega);have d5:((k:Nat):Int).toNat=k:=Int.toNat_natCast k;generalize s.loans.map loC=LL at*;unfold loC at*;rw[hxb]at hL kf;rw[hlb]at kr kf⊢;rw[hd,hu]at kr kf⊢;refine ctrf_go (goodH [] []) _ _ [.cell 6 48,.tmp 7] Try.func18 rfl rfl (by decide+kernel) rfl ?_;simp only[go_sem];refine ja0 kR (by decide) ?_;simp only[go_sem];refine ja0 kr (by decide) ?_;simp only[d1,d2,hll,go_sem];simp only[d3,d4,d5,hL,hll,go_sem];refine ja0 kf (by decide) ?_;simp only[go_sem];refine CallP_h kc (by decide) ?_ ji9 jbg ?_
 ·simp only[d1,d2,d3,d4,d5,hL,hll,go_sem]
 rintro _ _ ⟨X,rfl,rfl⟩ _;refine⟨_,behind_preL _,?_⟩;simp only[d1,d2,d3,d4,d5,hL,hll,go_sem];clear kR kr kf kc;have bn:∀d:Nat,d<100000->(d !=hp X)=true:=fun d hd=>by simp only[bne_iff_ne,ne_eq];exact hp_ne hd
 have hgs:∀c:List IV,(LL.set k c)[k]? =some c:=fun c=>by rw[List.getElem?_set_self (by rw[hll];exact hki)]
 have hss:∀c c':List IV,(LL.set k c).set k c'=LL.set k c':=fun c c'=>List.set_set ..;have hlk:∀c:List IV,(LL.set k c).take s.loans.length=LL.set k c:=fun c=>List.take_of_length_le (by rw[List.length_set,hll];exact Nat.le_refl _);have hl2:∀c:List IV,(LL.set k c).length=s.loans.length:=fun c=>by rw[List.length_set,hll]
 refine DrawW_of ⟨[(3,.loc 3 3 0 0),(6,.loc 6 3 0 0)],[(6,3,[[.int 0,.int 0,.sl []]]),(3,3,[[.int s.total,.int s.spent,.sl (LL.set k [.int x.dev,.int x.units,.int (max x.spent l.spent),.bool false])]])],[]⟩ ?_ ?_
 ·refine DrawK_of [false,false,false,false,false,false,false,false,false,false,false,false,false,false,false,false,false,false,false,true,false,false,true] (.alt 19 (.alt 22 .fin .none) .none) [(8,4,[[.int x.dev,.int x.units,.int x.spent,.bool false]]),(5,4,[[.int x.dev,.int x.units,.int l.spent,.bool false]]),(3,3,[[.int s.total,.int s.spent,.ref X 55 4 s.loans.length]])] (by decide+kernel) ?_ ?_
  ·exact jaf (by simp only[go_sem]) (jaf (by simp only[go_sem]) (jaf (by simp only[go_sem]) jbg))
  simp only[d1,d2,d3,d4,d5,hL,hll,hgs,hss,go_sem];refine And.intro (jaf rfl (jaf rfl (jaf rfl jbg))) (And.intro (jaf rfl (jaf rfl (jaf rfl jbg))) ?_);refine DoneR_of [X] [3,6] ?_ ?_ rfl
  ·simp only[List.foldl_nil,List.foldl_cons,hlk,hl2,bn,go_sem]
  ·simp only[List.foldl_nil,List.foldl_cons,hlk,hl2,bn,Nat.le_refl,if_true,go_sem];exact jaf rfl (jaf rfl jbg)
 simp only[go_sem];refine RetF_of [] ?_;simp only[List.foldl_nil,go_sem]
end
section
open Go.Abs Go.LQ
attribute [local go_sem] ints ic qC rtC kC
theorem ut_shape(r:Rts)(c d y k:Int):Shape 3 (r.useT c d y k):=jc0 (jat _) rfl rfl
theorem use_case(r:Rts)(c d y k:Int):(∃e,(jao r≠0\/r.there c d y=false)/\e=1/\useQ r c d y k=(Rts.zero,e))\/
  (RightQ r/\jao r=0/\r.there c d y=true/\((inR k 1 1000000=false/\useQ r c d y k=(Rts.zero,3))\/(inR k 1 1000000=true/\((leftQ r c d y<k/\useQ r c d y k=(Rts.zero,20))\/
   (k<=leftQ r c d y/\((300<((r.useT c d y k).length:Int)/\useQ r c d y k=(Rts.zero,6))\/(((r.useT c d y k).length:Int)<=300/\useQ r c d y k=(r.spent c d y k,0)))))))):=by
 by_cases h1:jao r≠0\/r.there c d y=false
 ·exact .inl ⟨1,h1,rfl,by unfold useQ;rw[if_pos h1]⟩
 ·have h2:jao r=0:=Decidable.byContradiction fun e=>h1 (.inl e);have h3:r.there c d y=true:=by
   cases h:r.there c d y with
   | true=>rfl
   | false=>exact absurd (.inr h) h1
  refine .inr ⟨checkQ_zero.1 h2,h2,h3,?_⟩;unfold useQ;rw[if_neg h1];by_cases h4:inR k 1 1000000=false
  ·exact .inl ⟨h4,by rw[if_pos h4]⟩
  ·rw[if_neg h4];refine .inr ⟨by simpa using h4,?_⟩;by_cases h5:leftQ r c d y<k
   ·exact .inl ⟨h5,by rw[if_pos h5]⟩
   ·rw[if_neg h5];refine .inr ⟨by omega,?_⟩;by_cases h6:300<((r.useT c d y k).length:Int)
    ·exact .inl ⟨h6,by rw[if_pos h6]⟩
    ·exact .inr ⟨by omega,by rw[if_neg h6]⟩
theorem use_sum{r:Rts}(h:RightQ r){k:Int}(hk:inR k 1 1000000=true)(c d y:Int):IntKind.i64.wrap (vof (tabL r.used) [d,y,c]+k)=vof (tabL r.used) [d,y,c]+k:=by
 have h2:=h.vof_cap [d,y,c];have h3:=jbo h.used (k:=[d,y,c]);have h4:=h.use_le [d,y,c];have h5:=inR_iff.1 hk;exact jad (by omega)
theorem q_use(r:Rts)(c d y k:Int)(hc:r.cap.length<=100000)(hh:r.held.length<=100000)(hu:r.used.length<=100000)(hn:0<=r.n/\r.n<=1000000):
  Ctr G.P 13 [.agg (rtC r),.int c,.int d,.int y,.int k] (· = .tup [.agg (rtC (useQ r c d y k).1),.int (useQ r c d y k).2]):=by
 have k1:=jdk r hc hh hu;have k2:=jjh r c d y hn hc;have k3:=q_in k 1 1000000;have k4:=jim r c d y hc hh hu;have kcp:=jjz r hc hh hu;rcases use_case r c d y k with ⟨e,h1,rfl,he⟩ | ⟨hr,h1,h2,H⟩
 ·rw[he];by_cases hz:jao r=0
  ·have ht:r.there c d y=false:=h1.resolve_left (fun h=>h hz);rw[hz]at k1;rw[ht]at k2;unfold rtC ints at*;refine ja8 good _ _ [.cell 10 25,.tmp 11] Try.func13 rfl rfl (by decide+kernel) rfl ?_;simp only[go_sem];refine ja0 k1 (by decide) ?_;simp only[go_sem];refine ja0 k2 (by decide) ?_;simp only[go_sem];rfl
  ·have hd:decide (jao r=0)=false:=decide_eq_false hz;unfold rtC ints at*;refine ja8 good _ _ [.cell 10 25,.tmp 11] Try.func13 rfl rfl (by decide+kernel) rfl ?_;simp only[go_sem];refine ja0 k1 (by decide) ?_;simp only[hd,go_sem];rfl
 ·have kT:=jhq r.used hr.used.asc hu;have hm:=jc5 (jat r.used) [d,y,c];have hsum:=fun h=>use_sum hr (k:=k) h c d y;have hl3:=hr.lens;have hul:=jfq (tabL r.used) [d,y,c] [vof (tabL r.used) [d,y,c]+k];have htl:(tabL r.used).length=r.used.length:=List.length_map ..;have kq:=jjx (r.useT c d y k) (ut_shape r c d y k) (jdl hr.used.asc.dist _ _) (by unfold Rts.useT;omega);unfold Rts.useT at*;rw[h1]at k1;rw[h2]at k2;rcases H with ⟨h4,hu4⟩ | ⟨h4,H⟩
  ·rw[hu4];rw[h4]at k3;unfold rtC ints at*;refine ja8 good _ _ [.cell 10 25,.tmp 11] Try.func13 rfl rfl (by decide+kernel) rfl ?_;simp only[go_sem];refine ja0 k1 (by decide) ?_;simp only[go_sem];refine ja0 k2 (by decide) ?_;simp only[go_sem];refine ja0 k3 (by decide) ?_;simp only[go_sem];rfl
  rw[h4]at k3;rcases H with ⟨h5,hu5⟩ | ⟨h5,H⟩
  ·rw[hu5];have d5:decide (leftQ r c d y<k)=true:=decide_eq_true h5;unfold rtC ints at*;refine ja8 good _ _ [.cell 10 25,.tmp 11] Try.func13 rfl rfl (by decide+kernel) rfl ?_;simp only[go_sem];refine ja0 k1 (by decide) ?_;simp only[go_sem];refine ja0 k2 (by decide) ?_;simp only[go_sem];refine ja0 k3 (by decide) ?_;simp only[go_sem];refine ja0 k4 (by decide) ?_;simp only[d5,go_sem];rfl
  have d5:decide (leftQ r c d y<k)=false:=decide_eq_false (by omega);have hsum:=hsum h4;have hq:∀R,useQ r c d y k=R->useQ r c d y k=R:=fun _ h=>h;have hsp:r.spent c d y k=⟨r.n,r.cap,r.held,quoL (mput (tabL r.used) [d,y,c] [vof (tabL r.used) [d,y,c]+k])⟩:=rfl;rw[hsp]at H;clear hsp hq hul htl h5;generalize useQ r c d y k=res at*;generalize hv:vof (tabL r.used) [d,y,c]=v at*;generalize hU:mput (tabL r.used) [d,y,c] [v+k]=U at*;unfold rtC ints at*;refine ja8 good _ _ [.cell 10 25,.tmp 11] Try.func13 rfl rfl (by decide+kernel) rfl ?_;simp only[go_sem];refine ja0 k1 (by decide) ?_;simp only[go_sem];refine ja0 k2 (by decide) ?_;simp only[go_sem];refine ja0 k3 (by decide) ?_;simp only[go_sem];refine ja0 k4 (by decide) ?_;simp only[d5,go_sem];refine CallP_o kT (by decide) ?_;simp only[go_sem];refine jdx 10 8 9 43 (tabL r.used) [d,y,c] rfl rfl rfl (by decide+kernel) (by decide) rfl rfl rfl (by decide+kernel) rfl ?_;rcases hm with hm | ⟨hm,rfl⟩
  ·simp only[hm,hsum,hU,go_sem];rcases H with ⟨h6,rfl⟩ | ⟨h6,rfl⟩
   ·have d6:decide (300<(U.length:Int))=true:=decide_eq_true h6;simp only[d6,go_sem];rfl
   ·have d6:decide (300<(U.length:Int))=false:=decide_eq_false (by omega);simp only[d6,go_sem];refine ja0 kcp (by decide) ?_;simp only[go_sem];refine ja0 (by rw[<-hU]at kq;exact kq) (by decide) ?_;simp only[hU,go_sem]
  ·have hsum0:IntKind.i64.wrap k=k:=by rw[Int.zero_add]at hsum;exact hsum
   rw[Int.zero_add]at hU;simp only[hm,hsum,hsum0,hU,Int.zero_add,go_sem];rcases H with ⟨h6,rfl⟩ | ⟨h6,rfl⟩
   ·have d6:decide (300<(U.length:Int))=true:=decide_eq_true h6;simp only[d6,go_sem];rfl
   ·have d6:decide (300<(U.length:Int))=false:=decide_eq_false (by omega);simp only[d6,go_sem];refine ja0 kcp (by decide) ?_;simp only[go_sem];refine ja0 (by rw[<-hU]at kq;exact kq) (by decide) ?_;simp only[hU,go_sem]
end
section
open Go.Abs Go.LQ
attribute [local go_sem] ints ic qC rtC kC
theorem q_sameQ(l:List Quo)(hl:l.length<=100000):Ctr G.P 28 [.sl (l.map qC),.sl (l.map qC)] (· = .bool true):=by
 refine ja8 good _ _ [.tmp 4] Try.func28 rfl rfl (by decide+kernel) rfl ?_;simp only[List.length_map,go_sem];refine jbb [0,1,5] [] (fun i:Nat=>⟨[(0,.im (.sl (l.map qC))),(1,.im (.sl (l.map qC))),(5,.im (.int i))],[],[]⟩) (fun i=>i<=l.length) (fun i=>l.length-i) 0 ?_ (Nat.zero_le _) ?_
 ·simp only[Int.natCast_zero,go_sem]
 intro i hi;by_cases hp:(i:Int)<l.length
 ·have hd:decide ((i:Int)<l.length)=true:=decide_eq_true hp;have hi0:(0:Int)<=i:=by omega
  have hn:((i:Nat):Int).toNat=i:=Int.toNat_natCast i;have hx:=getq (l:=l) (i:=i) (by omega);have hw:=jad (n:=(i:Int)+1) (by omega);generalize l.getD i z0=q at*;simp only[hd,List.length_map,go_sem];refine jb0 9 (by decide+kernel) ?_;simp only[hi0,hp,hn,List.getElem?_map,hx,List.length_map,go_sem];refine jaa (i+1) ?_ (by omega) (by omega);simp only[hw,Int.natCast_add,go_sem]
 ·have hd:decide ((i:Int)<l.length)=false:=decide_eq_false hp;simp only[hd,List.length_map,go_sem]
theorem q_same(r:Rts)(hc:r.cap.length<=100000)(hh:r.held.length<=100000)(hu:r.used.length<=100000):Ctr G.P 14 [.agg (rtC r),.agg (rtC r)] (· = .bool true):=by
 have k1:=q_sameQ r.held hh;have k2:=q_sameQ r.used hu;unfold rtC;generalize r.held.map qC=H at*;generalize r.used.map qC=U at*;generalize hC:r.cap=C at*;generalize r.n=n at*;refine ja8 good _ _ [.tmp 4] Try.func14 rfl rfl (by decide+kernel) rfl ?_;simp only[List.length_map,go_sem];refine jbb [2,3,5] [2,3] (fun i:Nat=>⟨[(2,.loc 2 4 0 0),(3,.loc 3 4 0 0),(5,.im (.int i))],[(3,4,[[.int n,ints C,.sl H,.sl U]]),(2,4,[[.int n,ints C,.sl H,.sl U]])],[]⟩) (fun i=>i<=C.length) (fun i=>C.length-i) 0 ?_ (Nat.zero_le _) ?_
 ·simp only[Int.natCast_zero,go_sem]
 intro i hi;by_cases hp:(i:Int)<C.length
 ·have hd:decide ((i:Int)<C.length)=true:=decide_eq_true hp;have hi0:(0:Int)<=i:=by omega
  have hn:((i:Nat):Int).toNat=i:=Int.toNat_natCast i;have hx:=get_i (l:=C) (i:=i) (by omega);have hw:=jad (n:=(i:Int)+1) (by omega);generalize C.getD i 0=q at*;simp only[hd,List.length_map,go_sem];refine jb0 11 (by decide+kernel) ?_;simp only[hi0,hp,hn,List.getElem?_map,hx,List.length_map,go_sem];refine jaa (i+1) ?_ (by omega) (by omega);simp only[hw,Int.natCast_add,go_sem]
 ·have hd:decide ((i:Int)<C.length)=false:=decide_eq_false hp;simp only[hd,List.length_map,go_sem];refine ja0 k1 (by decide) ?_;simp only[go_sem];refine ja0 k2 (by decide) ?_;simp only[go_sem]
def fewQ(r:Rts):Bool:=decide (r.cap.length<=30/\r.used.length<=30/\(r.held.length<=30\/(295<r.held.length/\r.held.length<303)))
theorem q_few(r:Rts):Ctr G.P 7 [.agg (rtC r)] (· = .bool (fewQ r)):=by
 unfold rtC;have hq:fewQ r=(decide ((r.cap.length:Int)<=30)&&(decide ((r.used.length:Int)<=30)&&(decide ((r.held.length:Int)<=30) || (decide (295<(r.held.length:Int))&&decide ((r.held.length:Int)<303))))):=by
  unfold fewQ;rw[Bool.eq_iff_iff];simp only[decide_eq_true_eq,Bool.and_eq_true,Bool.or_eq_true];omega
 rw[hq];cases h1:decide ((r.cap.length:Int)<=30)
 ·refine ja8 good _ _ [.tmp 2] Try.func7 rfl rfl (by decide+kernel) rfl ?_;simp only[*,List.length_map,go_sem]
 cases h2:decide ((r.used.length:Int)<=30)
 ·refine ja8 good _ _ [.tmp 2] Try.func7 rfl rfl (by decide+kernel) rfl ?_;simp only[*,List.length_map,go_sem]
 cases h3:decide ((r.held.length:Int)<=30)
 case true=>
  refine ja8 good _ _ [.tmp 2] Try.func7 rfl rfl (by decide+kernel) rfl ?_;simp only[*,List.length_map,go_sem]
 cases h4:decide (295<(r.held.length:Int))
 ·refine ja8 good _ _ [.tmp 2] Try.func7 rfl rfl (by decide+kernel) rfl ?_;simp only[*,List.length_map,go_sem]
 cases h5:decide ((r.held.length:Int)<303)
 ·refine ja8 good _ _ [.tmp 2] Try.func7 rfl rfl (by decide+kernel) rfl ?_;simp only[*,List.length_map,go_sem]
 ·refine ja8 good _ _ [.tmp 2] Try.func7 rfl rfl (by decide+kernel) rfl ?_;simp only[*,List.length_map,go_sem]
def exR:Rts:=⟨3,[1000],[⟨0,0,5,600⟩,⟨1,0,5,400⟩],[⟨0,0,5,100⟩]⟩
theorem q_example:Ctr G.P 19 [] (· = .agg (rtC exR)):=by
 unfold exR rtC;refine ja8 good _ _ [.cell 0 25] Try.func19 rfl rfl (by decide+kernel) rfl ?_;simp only[List.map_cons,List.map_nil,go_sem]
 try rfl
theorem jch(a b k:Int):Ctr G.P 20 [.int a,.int b,.int k] (· = .agg (xC ⟨a,b,0,5,k⟩)):=by
 unfold xC;refine ja8 good _ _ [.cell 6 34] Try.func20 rfl rfl (by decide+kernel) rfl ?_;simp only[go_sem]
end
section
open Go.Abs Go.LQ
attribute [local go_sem] ints ic qC rtC kC xC
def exA:List Trn:=[⟨0,2,0,5,500⟩,⟨2,1,0,5,200⟩]
def exB:List Trn:=[⟨0,2,0,5,501⟩,⟨2,1,0,5,1⟩]
def exC:List Trn:=[⟨2,0,0,5,50⟩,⟨0,2,0,5,50⟩]
theorem ex_c:rtC (jav exR exC).1=rtC exR:=by
 have h:(jav exR exC).1.n=exR.n/\(jav exR exC).1.cap=exR.cap/\(jav exR exC).1.held=exR.held/\(jav exR exC).1.used=exR.used:=by decide+kernel
 unfold rtC;rw[h.1,h.2.1,h.2.2.1,h.2.2.2]
theorem q_small:Ctr G.P 6 [] (· = .bool true):=by
 have ke:=q_example;have hcap:exR.cap.length<=100000:=by decide
 have hheld:exR.held.length<=100000:=by decide
 have hused:exR.used.length<=100000:=by decide
 have ku:=q_use exR 0 0 5 501 hcap hheld hused (by decide);rw[show(useQ exR 0 0 5 501).2=20 by decide+kernel]at ku;have ta1:=jch 0 2 500;have ta2:=jch 2 1 200;have tb1:=jch 0 2 501;have tb2:=jch 2 1 1;have tc1:=jch 2 0 50;have tc2:=jch 0 2 50;have kA:=jjg exR exA hcap hheld hused (by decide);have kB:=jjg exR exB hcap hheld hused (by decide);have kC:=jjg exR exC hcap hheld hused (by decide);unfold tR at kA kB kC;rw[show(jav exR exA).2.1=0 by decide+kernel]at kA;rw[show(jav exR exB).2.1=7 by decide+kernel,show(jav exR exB).2.2=0 by decide+kernel]at kB;rw[show(jav exR exC).2.1=0 by decide+kernel,show(jav exR exC).2.2=2 by decide+kernel,ex_c]at kC;have kl1:=jim exR 0 0 5 hcap hheld hused;have kl2:=jim exR 2 0 5 hcap hheld hused;rw[show leftQ exR 0 0 5=500 by decide+kernel]at kl1;rw[show leftQ exR 2 0 5=0 by decide+kernel]at kl2;have ha1:(jav exR exA).1.cap.length<=100000:=by decide+kernel
 have ha2:(jav exR exA).1.held.length<=100000:=by decide+kernel
 have ha3:(jav exR exA).1.used.length<=100000:=by decide+kernel
 have kh1:=jjy (jav exR exA).1 0 0 5 ha1 ha2 ha3;have kh2:=jjy (jav exR exA).1 1 0 5 ha1 ha2 ha3;have kh3:=jjy (jav exR exA).1 2 0 5 ha1 ha2 ha3;rw[show heldQ (jav exR exA).1 0 0 5=100 by decide+kernel]at kh1;rw[show heldQ (jav exR exA).1 1 0 5=600 by decide+kernel]at kh2;rw[show heldQ (jav exR exA).1 2 0 5=300 by decide+kernel]at kh3;have ks:=q_same exR hcap hheld hused;have kc:=jdk exR hcap hheld hused;rw[show jao exR=0 by decide+kernel]at kc;have eA:exA.map xC=[xC ⟨0,2,0,5,500⟩,xC ⟨2,1,0,5,200⟩]:=rfl;have eB:exB.map xC=[xC ⟨0,2,0,5,501⟩,xC ⟨2,1,0,5,1⟩]:=rfl;have eC:exC.map xC=[xC ⟨2,0,0,5,50⟩,xC ⟨0,2,0,5,50⟩]:=rfl;rw[eA]at kA;rw[eB]at kB;rw[eC]at kC;generalize (jav exR exA).2.2=na at*;generalize (jav exR exA).1=RA at*;generalize (jav exR exB).1=RB at*;generalize (useQ exR 0 0 5 501).1=RU at*;clear ha1 ha2 ha3 hcap hheld hused eA eB eC;generalize exR=ER at*;unfold rtC ints xC at*;dsimp only at*;refine ja8 good _ _ [.tmp 0] Try.func6 rfl rfl (by decide+kernel) rfl ?_;simp only[go_sem];refine ja0 ke (by decide) ?_;simp only[go_sem];refine ja0 ku (by decide) ?_;simp only[go_sem];refine jcx (by decide+kernel) ?_;simp only[go_sem];refine jal ta1 (by decide) ?_;simp only[go_sem];refine jal ta2 (by decide) ?_;simp only[go_sem];refine jal kA (by decide) ?_;simp only[go_sem];refine jcx (by decide+kernel) ?_;simp only[go_sem]
 refine jal tb1 (by decide) ?_;simp only[go_sem];refine jal tb2 (by decide) ?_;simp only[go_sem];refine jal kB (by decide) ?_;simp only[go_sem];refine jcx (by decide+kernel) ?_;simp only[go_sem];refine jal tc1 (by decide) ?_;simp only[go_sem];refine jal tc2 (by decide) ?_;simp only[go_sem];refine jal kC (by decide) ?_;simp only[go_sem];refine ja0 kl1 (by decide) ?_;simp only[go_sem];refine ja0 kl2 (by decide) ?_;simp only[go_sem];refine ja0 kh1 (by decide) ?_;simp only[go_sem];refine ja0 kh2 (by decide) ?_;simp only[go_sem];refine ja0 kh3 (by decide) ?_;simp only[go_sem];refine ja0 ks (by decide) ?_;simp only[go_sem];refine ja0 kc (by decide) ?_;simp only[go_sem]
end
section
open Go.Abs Go.LQ
attribute [local go_sem] ints ic qC rtC kC xC
theorem q_sums(r:Rts)(h:RightQ r)(d y:Int):Ctr G.P 10 [.agg (rtC r),.int d,.int y] (· = .tup [.int (hvS r d y),.int (lfS r d y)]):=by
 obtain⟨l1,l2,l3⟩:=h.lens;have kh:=fun c=>jjy r c d y (by omega) (by omega) (by omega);have kl:=fun c=>jim r c d y (by omega) (by omega) (by omega);simp only[h.heldE,h.leftE]at kh kl;have hn:=h.n;have bh:=fun i:Nat=>jf3 (h.hv d y) i;have bl:=fun i:Nat=>jf3 (h.lf d y) i;have bh2:=h.hv d y;have bl2:=h.lf d y;unfold hvS lfS;have hnn:(r.n.toNat:Int)=r.n:=Int.toNat_of_nonneg hn.1;unfold rtC at*;generalize r.n=n at*;generalize r.held.map qC=H at*;generalize r.used.map qC=U at*;generalize r.cap=C at*;generalize hvK r d y=f at*;generalize lfK r d y=g at*;refine ja8 good _ _ [.tmp 6,.tmp 7] Try.func10 rfl rfl (by decide+kernel) rfl ?_;simp only[go_sem];refine jbb [1,2,3,8,9,10] [3] (fun i:Nat=>⟨[(1,.im (.int d)),(2,.im (.int y)),(3,.loc 3 4 0 0),(8,.im (.int (csum f i))),(9,.im (.int (csum g i))),(10,.im (.int i))],[(3,4,[[.int n,ints C,.sl H,.sl U]])],[]⟩) (fun i=>i<=n.toNat) (fun i=>n.toNat-i) 0 ?_ (Nat.zero_le _) ?_
 ·simp only[Int.natCast_zero,csum,go_sem]
 intro i hi;by_cases hp:(i:Int)<n
 ·have hd:decide ((i:Int)<n)=true:=decide_eq_true hp;have hd2:decide ((i:Int)<20)=true:=decide_eq_true (by omega);have hw:=jad (n:=(i:Int)+1) (by omega);have kh:=kh (i:Int);have kl:=kl (i:Int);have h1:=bh i;have h2:=bl i;have h3:=bh2 i;have h4:=bl2 i;have w1:=jad (n:=csum f i+f i) (by omega);have w2:=jad (n:=csum g i+g i) (by omega);simp only[hd,hd2,go_sem];refine ja0 kh (by decide) ?_;simp only[w1,go_sem];refine ja0 kl (by decide) ?_;simp only[w2,go_sem];refine jaa (i+1) ?_ (by omega) (by omega);simp only[hw,csum,Int.natCast_add,go_sem]
 ·have hd:decide ((i:Int)<n)=false:=decide_eq_false hp;obtain rfl:i=n.toNat:=by omega
  simp only[hd,go_sem]
end
section
open Go.Abs Go.LQ
attribute [local go_sem] ints ic qC rtC kC xC
theorem few_len{r:Rts}(h:fewQ r=true):r.cap.length<=30/\r.used.length<=30/\r.held.length<=302:=by
 have:=of_decide_eq_true h;omega
section
variable{r:Rts}{l:List Trn}{c d y k:Int}
end
end
end Go.Proofs.Ythahgoopboilkaa
namespace Go.LQ
section
theorem jhm(l:List Int)(x:Int):(l++[x]).sum=l.sum+x:=by rw[List.sum_append];simp
theorem sum_set{f:Loan->Int}:∀{l:List Loan} {k:Nat} {x y:Loan},l[k]? =some x->f y=f x->((l.set k y).map f).sum=(l.map f).sum
 | [],k,x,y,h,_=>by simp at h
 | a::l,0,x,y,h,e=>by cases h;simp[e]
 | a::l,k+1,x,y,h,e=>by
  have ih:=sum_set (l:=l) (k:=k) (x:=x) (y:=y) (by simpa using h) e;rw[List.set_cons_succ,List.map_cons,List.map_cons,List.sum_cons,List.sum_cons,ih]
theorem jdn(s:Stk):leftL s s.loans.length=s.total-s.spent-(s.loans.map comL).sum:=by unfold leftL;rw[List.take_length]
theorem lend_ok{s:Stk}{d u:Int}(h:StkOk s)(h0:(lendL s d u).2=0):(lendL s d u).1={s with loans:=s.loans++[newL d u]}/\StkOk {s with loans:=s.loans++[newL d u]}/\jax (newL d u)=true:=by
 unfold lendL at h0⊢;rw[ji5 h]at h0⊢;split at h0
 ·cases h0
 ·rename_i h1;split at h0
  ·cases h0
  ·rename_i h2;rw[if_neg h1,if_neg h2];have hr:jax (newL d u)=true:=by
    rw[not_or]at h1
    simpa using h1.2
   rw[not_or]at h2;obtain⟨h3,h4⟩:=h2;refine⟨rfl,⟨h.total,h.spent,?_,fun l hl=> ?_,?_⟩,hr⟩
   ·show(s.loans++[newL d u]).length<=100;have:=h.len;rw[List.length_append];show s.loans.length+1<=100;omega
   ·rcases List.mem_append.1 hl with hl | hl
    ·exact h.loans l hl
    ·rw[List.mem_singleton.1 hl];exact hr
   ·rw[jdn];show 0<=s.total-s.spent-((s.loans++[newL d u]).map comL).sum;rw[List.map_append,List.map_cons,List.map_nil,jhm];have:comL (newL d u)=u:=rfl;rw[jdn]at h3;dsimp only at h3;omega
theorem spend_ok{l:Loan}{v:Int}(h:jax l=true)(hb:l.back=false)(h0:(jbq l v).2=0):(jbq l v).1={l with spent:=l.spent+v}/\jax {l with spent:=l.spent+v}=true:=by
 unfold jbq at h0⊢;split at h0
 ·cases h0
 ·rename_i h1;split at h0
  ·cases h0
  ·rename_i h2;split at h0
   ·cases h0
   ·rename_i h3;rw[if_neg h1,if_neg h2,if_neg h3];refine⟨rfl,?_⟩;rw[not_or]at h1;have hf:=fineL_iff.1 (show fineL v=true by simpa using h1.2);obtain⟨a1,a2,a3,a4,a5⟩:=rightL_iff.1 h;refine rightL_iff.2 ⟨a1,a2,a3,?_,?_⟩
    ·show 0<=l.spent+v;omega
    ·show l.spent+v<=l.units;omega
theorem merge_ok{s:Stk}{k:Nat}{x:Loan}{v:Int}(h:StkOk s)(hk:s.loans[k]? =some x)(hb:x.back=false)(hv:jax {x with spent:=v}=true)(hx:x.spent<=v):
  StkOk {s with loans:=s.loans.set k ⟨x.dev,x.units,max x.spent v,false⟩}:=by
 have hm:max x.spent v=v:=by omega
 have he:(⟨x.dev,x.units,max x.spent v,false⟩:Loan)={x with spent:=v}:=by rw[hm,<-hb]
 rw[he];refine⟨h.total,h.spent,by show(s.loans.set k _).length<=100;rw[List.length_set];exact h.len,fun l hl=> ?_,?_⟩
 ·rcases List.mem_or_eq_of_mem_set hl with hl | rfl
  ·exact h.loans l hl
  ·exact hv
 ·have h1:=h.left;rw[jdn]at h1⊢;show 0<=s.total-s.spent-((s.loans.set k {x with spent:=v}).map comL).sum;rw[sum_set hk (f:=comL) (y:={x with spent:=v}) (by unfold comL;rw[hb];rfl)];exact h1
structure LendOk(r:Rts)(d y:Int)(c:Int)(s:Stk):Prop where
 ok:StkOk s
 total:s.total=lfK r d y c
 spent:s.spent=0
 back:∀l∈s.loans,l.back=false
def spS(s:Stk):Int:=(s.loans.map (·.spent)).sum
theorem sum_le{l:List Loan}(h:∀x∈l,jax x=true/\x.back=false):0<=(l.map (·.spent)).sum/\(l.map (·.spent)).sum<=(l.map comL).sum:=by
 induction l with
 | nil=>simp
 | cons a l ih=>
  obtain⟨h1,h2⟩:=ih fun x hx=>h x (List.mem_cons_of_mem _ hx);obtain⟨h3,h4⟩:=h a List.mem_cons_self;obtain⟨_,_,_,a4,a5⟩:=rightL_iff.1 h3;rw[List.map_cons,List.map_cons,List.sum_cons,List.sum_cons];have:comL a=a.units:=by unfold comL;rw[if_neg (by rw[h4];decide)]
  omega
theorem LendOk.sp{r:Rts}{d y c:Int}{s:Stk}(h:LendOk r d y c s):0<=spS s/\spS s<=lfK r d y c:=by
 obtain⟨h1,h2⟩:=sum_le fun x hx=>⟨h.ok.loans x hx,h.back x hx⟩;have h3:=h.ok.left;rw[jdn,h.spent,h.total]at h3;exact⟨h1,by unfold spS;omega⟩
theorem lend_start{r:Rts}(h:RightQ r)(d y c:Int):LendOk r d y c ⟨lfK r d y c,0,[]⟩:=by
 have:=h.lf d y c;refine⟨⟨⟨this.1,by show lfK r d y c<=_;omega⟩,⟨by show(0:Int)<=0;omega,this.1⟩,Nat.zero_le _,fun l hl=>(by cases hl),?_⟩,rfl,rfl,fun l hl=>(by cases hl)⟩;rw[jdn];show 0<=lfK r d y c-0-0;omega
theorem vof_there{r:Rts}{l:List Quo}(h:ListOk r l){k:List Int}(h0:vof (tabL l) k≠0):∃q∈l,q.k=k:=by
 by_cases hk:k∈(tabL l).map (·.1)
 ·rw[jc7]at hk;obtain⟨q,hq,e⟩:=List.mem_map.1 hk;exact⟨q,hq,e⟩
 ·exact absurd (jd9 hk) h0
structure NowOk(r:Rts)(d y:Int)(i:Nat)(now:Rts):Prop where
 right:RightQ now
 n:now.n=r.n
 cap:now.cap=r.cap
 held:now.held=r.held
 left:∀c:Int,(i:Int)<=c->lfK now d y c=lfK r d y c
 used:now.used.length<=r.used.length+i
theorem now_start{r:Rts}(h:RightQ r)(d y:Int):NowOk r d y 0 r:=⟨h,rfl,rfl,rfl,fun _ _=>rfl,Nat.le_refl _⟩
theorem now_skip{r now:Rts}{d y:Int}{i:Nat}(h:NowOk r d y i now):NowOk r d y (i+1) now:=⟨h.right,h.n,h.cap,h.held,fun c hc=>h.left c (by omega),by have:=h.used;omega⟩
theorem now_use{r now:Rts}{d y:Int}{i:Nat}{s:Stk}(h:NowOk r d y i now)(hs:LendOk r d y i s)(hu:r.used.length<=30)(hi:i<20)(h0:spS s≠0):
  useQ now i d y (spS s)=(now.spent i d y (spS s),0)/\NowOk r d y (i+1) (now.spent i d y (spS s)):=by
 obtain⟨h1,h2⟩:=hs.sp;have hl:=h.left i (Int.le_refl _);have hlf:=h.right.lf d y i;have hv:vof (tabL now.held) [d,y,(i:Int)]≠0:=fun hz=>by
  have h3:=jbo h.right.used (k:=[d,y,(i:Int)]);have e1:lfK now d y i=vof (tabL now.held) [d,y,(i:Int)]-vof (tabL now.used) [d,y,(i:Int)]:=rfl;rw[hz]at e1;omega
 have hth:now.there i d y=true:=by
  obtain⟨q,hq,e⟩:=vof_there h.right.held hv;have:=h.right.held.there q hq;simp only[Quo.k,List.cons.injEq,and_true]at e;obtain⟨e1,e2,e3⟩:=e;rw[e1,e2,e3]at this;exact this
 have hlen:(now.useT i d y (spS s)).length<=now.used.length+1:=by
  have:=jfq (tabL now.used) [d,y,(i:Int)] [vof (tabL now.used) [d,y,(i:Int)]+spS s];have e:(tabL now.used).length=now.used.length:=List.length_map ..;unfold Rts.useT;omega
 have hused:=h.used;have ho:UseOk now i d y (spS s):=⟨h.right,hth,by omega,by show spS s<=lfK now d y i;omega,by omega⟩;refine⟨use_ok ho,spent_right ho,h.n,h.cap,h.held,fun c hc=> ?_,?_⟩
 ·rw[spent_lf h.right,if_neg (fun e=>by simp at e;omega)];have:=h.left c (by omega);omega
 ·show(quoL (now.useT i d y (spS s))).length<=_;rw[jho];omega
theorem now_sums{r now:Rts}{d y:Int}{i:Nat}(h:NowOk r d y i now)(hd:0<=d/\d<r.cap.length):hvS now d y-lfS now d y<=r.cap.getD d.toNat 0/\0<=lfS now d y:=by
 have h1:=jf3 (h.right.lf d y) now.n.toNat;have h2:=h.right.psum_le (d:=d) (y:=y) (by rw[h.cap];exact hd);rw[h.cap,<-h.right.hvS_psum]at h2;unfold lfS at*;omega
end
end Go.LQ
namespace Go.Proofs.Ythahgoopboilkaa
section
open Go.Abs Go.LQ
attribute [local go_sem] ints ic qC rtC kC xC
structure Act where
 com:Int
 dev:Int
 units:Int
 spent:Int
def acC(a:Act):List IV:=[.sc (.int .u8 a.com),.sc (.int .u8 a.dev),.sc (.int .u16 a.units),.sc (.int .u16 a.spent)]
structure ActOk(a:Act):Prop where
 com:0<=a.com/\a.com<=255
 dev:0<=a.dev/\a.dev<=255
 units:0<=a.units/\a.units<=65535
 spent:0<=a.spent/\a.spent<=65535
abbrev QL8:Exit->St->Prop:=fun e s=>match e with | .normal=>s.get 8= .im (.bool true) | .ret=>s.get 8= .im (.bool true) | _=>False
def SL0(lx:IV)(d y:Int)(rc:List IV):St:=⟨[(1,.im (.int d)),(2,.im (.int y)),(3,.im lx),(4,.loc 4 4 0 0),(9,.im (.bool true))],[(4,4,[rc])],[]⟩
section
variable{r:Rts}{l:List Act}{d y:Int}
theorem ql_A{Q:Exit->St->Prop}(hret:∀s:St,s.get 8= .im (.bool true)->Q .ret s)
  (hQ:RightQ r->r.used.length<=30->l.length<=30->0<=d->d<r.cap.length->1<=r.n->∀s,St.Le s (SL0 (.sl (l.map acC)) d y (rtC r))->Q .normal s):
  awp (GH [79] []) (putN 3 (tailN 0 (jbd Try.f5)) .skip) Q (jbt ([.agg (rtC r),.int d,.int y,.sl (l.map acC)].map .im) []):=by
 have ks:=q_small;have kf:=q_few r;unfold SL0 at hQ;have e1:True:=trivial;have e2:True:=trivial;cases hf:fewQ r with
 | false=>
  rw[hf]at kf;unfold rtC ints at*;refine jcs rfl ?_;simp only[go_sem];refine ja0 ks (by decide) ?_;simp only[go_sem];refine ja0 kf (by decide) ?_;simp only[e1,e2,List.length_map,go_sem];exact hret _ rfl
 | true=>
  rw[hf]at kf;obtain⟨g1,g2,g3⟩:=few_len hf;have kc:=jdk r (by omega) (by omega) (by omega);by_cases hl:(30:Int)<l.length
  ·have e1:decide ((30:Int)<l.length)=true:=decide_eq_true hl;unfold rtC ints at*;refine jcs rfl ?_;simp only[go_sem];refine ja0 ks (by decide) ?_;simp only[go_sem];refine ja0 kf (by decide) ?_;simp only[e1,e2,List.length_map,go_sem];exact hret _ rfl
  have e1:decide ((30:Int)<l.length)=false:=decide_eq_false hl;by_cases hh:(30:Int)<r.held.length
  ·have e2:decide ((30:Int)<r.held.length)=true:=decide_eq_true hh;unfold rtC ints at*;refine jcs rfl ?_;simp only[go_sem];refine ja0 ks (by decide) ?_;simp only[go_sem];refine ja0 kf (by decide) ?_;simp only[e1,e2,List.length_map,go_sem];exact hret _ rfl
  have e2:decide ((30:Int)<r.held.length)=false:=decide_eq_false hh;by_cases he:jao r=0
  case neg=>
   have e3:decide (jao r=0)=false:=decide_eq_false he;unfold rtC ints at*;refine jcs rfl ?_;simp only[go_sem];refine ja0 ks (by decide) ?_;simp only[go_sem];refine ja0 kf (by decide) ?_;simp only[e1,e2,List.length_map,go_sem];refine ja0 kc (by decide) ?_;simp only[e3,go_sem];exact hret _ rfl
  have hr:=checkQ_zero.1 he;rw[he]at kc;by_cases hd0:d<0
  ·have e3:decide (d<0)=true:=decide_eq_true hd0;unfold rtC ints at*;refine jcs rfl ?_;simp only[go_sem];refine ja0 ks (by decide) ?_;simp only[go_sem];refine ja0 kf (by decide) ?_;simp only[e1,e2,List.length_map,go_sem];refine ja0 kc (by decide) ?_;simp only[e3,go_sem];exact hret _ rfl
  have e3:decide (d<0)=false:=decide_eq_false hd0;by_cases hd1:(r.cap.length:Int)<=d
  ·have e4:decide ((r.cap.length:Int)<=d)=true:=decide_eq_true hd1;unfold rtC ints at*;refine jcs rfl ?_;simp only[go_sem];refine ja0 ks (by decide) ?_;simp only[go_sem];refine ja0 kf (by decide) ?_;simp only[e1,e2,List.length_map,go_sem];refine ja0 kc (by decide) ?_;simp only[e3,e4,List.length_map,go_sem];exact hret _ rfl
  have e4:decide ((r.cap.length:Int)<=d)=false:=decide_eq_false hd1;by_cases hn:r.n<1
  ·have e5:decide (r.n<1)=true:=decide_eq_true hn;unfold rtC ints at*;refine jcs rfl ?_;simp only[go_sem];refine ja0 ks (by decide) ?_;simp only[go_sem];refine ja0 kf (by decide) ?_;simp only[e1,e2,List.length_map,go_sem];refine ja0 kc (by decide) ?_;simp only[e3,e4,e5,List.length_map,go_sem];exact hret _ rfl
  have e5:decide (r.n<1)=false:=decide_eq_false hn;have hQ:=hQ hr g2 (by omega) (by omega) (by omega) (by omega);unfold rtC ints at*;refine jcs rfl ?_;simp only[go_sem];refine ja0 ks (by decide) ?_;simp only[go_sem];refine ja0 kf (by decide) ?_;simp only[e1,e2,List.length_map,go_sem];refine ja0 kc (by decide) ?_;simp only[e3,e4,e5,List.length_map,go_sem];refine hQ _ (le_of [1,2,3,4,9] [4] ?_);simp only[go_sem]
end
end
end Go.Proofs.Ythahgoopboilkaa
namespace Go.Abs
section
section
variable{G:Ctx}{N:Nat}{w0:Base}{w:World}{M0:Nat->Nat->Prop}{β:Nat->Option Nat}{st:St}{a:Act}
def St.emR(st:St):St:=⟨st.fr,st.rows.map fun p=>(p.1,p.2.1,p.2.2.map (List.map emp1)),st.toks⟩
theorem Sim.emR(h:Sim N w0 M0 β st a w):Sim N w0 M0 β st.emR a w:=by
 have hlk:∀k,look (st.rows.map fun p=>(p.1,p.2.1,p.2.2.map (List.map emp1))) k=(look st.rows k).map fun q:Nat×List (List IV)=>(q.1,q.2.map (List.map emp1)):=fun k=>jcf _ (fun q:Nat×List (List IV)=>(q.1,q.2.map (List.map emp1))) k;refine h.rowsTo _ (fun k=>by rw[hlk];cases look st.rows k<;>rfl) fun k s2 es2 hk b2 hb2=> ?_;rw[hlk]at hk;obtain⟨⟨s3,es3⟩,g1,g2⟩:=Option.map_eq_some_iff.1 hk;cases g2;obtain⟨b3,q1,_,cur,T,q2,q3,q4⟩:=h.rows k s3 es3 g1;rw[hb2]at q1;cases q1;refine⟨cur,T,q2,fun c hc=> ?_,fun i c j y hi hj=> ?_⟩
 ·obtain⟨c0,hc0,rfl⟩:=List.mem_map.1 hc;rw[List.length_map];exact q3 c0 hc0
 ·rw[List.getElem?_map]at hi;obtain⟨c0,hc0,rfl⟩:=Option.map_eq_some_iff.1 hi;rw[List.getElem?_map]at hj;obtain⟨y0,hy0,rfl⟩:=Option.map_eq_some_iff.1 hj;obtain⟨o1,u,o2,o3⟩:=q4 i c0 j y0 hc0 hy0;exact⟨by rw[emp1_one];exact o1,u,o2,rep_emp1 o3⟩
theorem le_emR{s S:St}(L:List Nat)(hf:L.map (fun t=>(t,s.get t))=S.fr)(hr:SubR S.rows s.emR.rows)(ht:S.toks=[]):St.Le s S:=
 St.Le.trans (fun N w0 M0 β a w h=>⟨β,h.emR⟩) (St.sub_of (s:=s.emR) L hf hr ht).le
end
section
variable{G:Ctx}{kp:Bool}
end
end
end Go.Abs
namespace Go.Proofs.Ythahgoopboilkaa
section
open Go.Abs Go.LQ
attribute [local go_sem] ints ic qC rtC kC xC
def st0(r:Rts)(d y:Int)(c:Nat):Stk:=⟨lfK r d y c,0,[]⟩
def skE(r:Rts)(d y:Int)(c:Nat):List IV:=[.int (lfK r d y c),.int 0,.emp]
def SL1(lx:IV)(d y:Int)(rc:List IV)(X n:Nat)(Ss:List Stk):St:=⟨[(1,.im (.int d)),(2,.im (.int y)),(3,.im lx),(4,.loc 4 4 0 0),(9,.im (.bool true)),(10,.im (.ref X 48 3 n))],[(4,4,[rc]),(hp X,3,Ss.map skC)],[]⟩
def sk0(b k:Nat):IV:=if k=0 then .emp else .ref b 48 3 k
theorem jje{b k:Nat}(h:k≠0):sk0 b k= .ref b 48 3 k:=if_neg h
theorem jjv{b:Nat}:sk0 b 0= .emp:=rfl
theorem del_cons_neL{L:Abs.Rows}{d k:Nat}{v:Nat×List (List IV)}(h:d≠k):Abs.del ((d,v)::L) k=(d,v)::Abs.del L k:=by
 unfold Abs.del;rw[List.filter_cons_of_pos (by simp only[bne_iff_ne,ne_eq];exact h)]
section
variable{r:Rts}{l:List Act}{d y:Int}
theorem ql_1(h:RightQ r)(hn1:1<=r.n){Q:Exit->St->Prop}(hQ:∀X s,St.Le s (SL1 (.sl (l.map acC)) d y (rtC r) X r.n.toNat ((List.range r.n.toNat).map (st0 r d y)))->Q .normal s):
  awp (GH [79] []) (putN 2 (tailN 3 (jbd Try.f5)) .skip) Q (SL0 (.sl (l.map acC)) d y (rtC r)):=by
 obtain⟨l1,l2,l3⟩:=h.lens;have kl:=fun c=>jim r c d y (by omega) (by omega) (by omega);simp only[h.leftE]at kl;have hn:=h.n;have hnn:(r.n.toNat:Int)=r.n:=Int.toNat_of_nonneg hn.1;have hrs:∀i,(List.range (i+1)).map (skE r d y)=(List.range i).map (skE r d y)++[[.int (lfK r d y i),.int 0,.emp]]:=fun i=>by
  rw[List.range_succ,List.map_append];rfl
 have hrl:∀i,((List.range i).map (skE r d y)).length=i:=fun i=>by simp
 have hr3:∀i,∀c∈(List.range i).map (skE r d y),c.length=3:=fun i c hc=>by obtain⟨z,_,rfl⟩:=List.mem_map.1 hc;rfl
 unfold SL1 at hQ;unfold SL0;have hr0:(List.range 0).map (skE r d y)=[]:=rfl;have hem:∀i,((List.range i).map (skE r d y)).map (fun c=>c.map emp1)=((List.range i).map (st0 r d y)).map skC:=fun i=>by
  rw[List.map_map,List.map_map];rfl
 generalize hST:(fun i=>(List.range i).map (skE r d y))=ST at*;have hSTi:∀i,(List.range i).map (skE r d y)=ST i:=fun i=>by rw[<-hST]
 simp only[hSTi]at hrs hrl hr0 hr3 hem;simp only[<-hem]at hQ;generalize lfK r d y=f at*;unfold rtC ints at*;generalize r.n=n at*;refine jcs rfl ?_;simp only[go_sem];refine LoopP_em ?_;simp only[go_sem];refine jfy [1,2,3,4,9,10,11] (fun g:(Nat×Nat)×Abs.Rows=>⟨[(1,.im (.int d)),(2,.im (.int y)),(3,.im (.sl (l.map acC))),(4,.loc 4 4 0 0),(9,.im (.bool true)),(10,.im (sk0 g.1.2 g.1.1)),(11,.im (.int g.1.1))],(4,4,[[.int n,.sl (r.cap.map ic),.sl (r.held.map qC),.sl (r.used.map qC)]])::g.2,[]⟩)
  (fun g=>g.1.1<=n.toNat/\blks g.2/\(g.1.1≠0->Abs.look g.2 (hp g.1.2)=some (3,ST g.1.1))) (fun g=>n.toNat-g.1.1) ((0,0),[]) ?_ ?_ rfl ⟨Nat.zero_le _,ji9,fun h=>absurd rfl h⟩ ?_
 ·simp only[Int.natCast_zero,jjv,go_sem]
 ·exact jaf rfl jbg
 rintro⟨⟨i,X⟩,R⟩ ⟨hi,hb,hX⟩;dsimp only at hi hb hX⊢;have F1:=bF hb;have K1:=bK hb;have G1:=bN hb;by_cases hp':(i:Int)<n
 ·have hd:decide ((i:Int)<n)=true:=decide_eq_true hp';have hw:=jad (n:=(i:Int)+1) (by omega);have kl:=kl (i:Int);by_cases h0:i=0
  ·subst h0;rw[jjv];simp only[Int.natCast_zero,Int.zero_add]at hd hw kl;simp only[hd,Int.natCast_zero,F1,G1,K1,go_sem];refine ja0 kl (by decide) ?_;simp only[F1,G1,K1,go_sem];refine And.intro (fun c hc=>by rw[List.mem_singleton.1 hc];rfl) (NewP_of (fun Y hY=> ?_));have lY:Abs.look R (hp Y)=none:=by
    simp only[ja5 _ _ (hp_ne (n:=4) (b:=Y) (by decide)).symm]at hY;exact hY
   clear hY;simp only[F1,G1,K1,go_sem];refine jcc ((1,Y),(hp Y,3,[[.int (f 0),.int 0,.emp]])::R) ?_ ?_ rfl (by dsimp only;omega) ⟨by dsimp only;omega,jgq hb,fun _=> ?_⟩
   ·simp only[hw,sk0,Int.natCast_one,go_sem]
   ·exact jaf (by first | rfl | rw[ja5 _ _ (hp_ne (by decide)),ja7]) (jaf (by first | exact ja7 _ _ _ | rw[ja5 _ _ (hp_ne (by decide)).symm,ja7]) (jev lY (jev (G1 4 (by decide)) (SubR.refl _))))
   ·dsimp only;rw[ja7,hrs,hr0];rfl
  ·rw[jje h0];have hX':=hX h0;simp only[hd,F1,G1,K1,hX',go_sem];refine ja0 kl (by decide) ?_;simp only[F1,G1,K1,hX',hrl,go_sem];refine And.intro (fun c hc=>by rw[List.mem_singleton.1 hc];rfl) (And.intro (Nat.le_refl _) (And.intro (by omega) (GrowP_of (fun Y hY=> ?_))));obtain⟨Q',hQe⟩:∃Q',Abs.del R (hp X)=Q':=⟨_,rfl⟩;have bQ:blks Q':=hQe▸blks_del hb;have hQf:List.filter (fun p=>p.1 !=hp X) R=Q':=hQe;have lY:Abs.look Q' (hp Y)=none:=by
    rw[del_cons_neL (hp_ne (by decide)),hQe,ja5 _ _ (hp_ne (by decide)).symm]at hY;exact hY
   clear hY;have bn:∀k:Nat,k<100000->(k !=hp X)=true:=fun k hk=>by simp only[bne_iff_ne,ne_eq];exact hp_ne hk
   have F2:=fun(d:Nat) (h:d<100000)=>jhe (L:=Q') (d:=d) bQ h;have K2:=fun(d s:Nat) (es:List (List IV)) (h:d<100000)=>blk_map (L:=Q') (d:=d) (s:=s) (es:=es) bQ h;have G2:=fun(d:Nat) (h:d<100000)=>jfv (L:=Q') (d:=d) bQ h;have htt:(ST i).take i=ST i:=List.take_of_length_le (by rw[hrl];exact Nat.le_refl _);simp only[F2,G2,K2,bn,hQf,htt,go_sem];refine jcc ((i+1,Y),(hp Y,3,ST i++[[.int (f i),.int 0,.emp]])::Q') ?_ ?_ rfl (by dsimp only;omega) ⟨by dsimp only;omega,jgq bQ,fun _=> ?_⟩
   ·have hs1:=jje (b:=Y) (Nat.succ_ne_zero i);simp only[hw,Int.natCast_add,hs1,go_sem]
   ·exact jaf (by first | rfl | rw[ja5 _ _ (hp_ne (by decide)),ja7]) (jaf (by first | exact ja7 _ _ _ | rw[ja5 _ _ (hp_ne (by decide)).symm,ja7]) (jev lY (jev (G2 4 (by decide)) (SubR.refl _))))
   ·dsimp only;rw[ja7,hrs]
 ·have hd:decide ((i:Int)<n)=false:=decide_eq_false hp';obtain rfl:i=n.toNat:=by omega
  have h0:n.toNat≠0:=by omega
  have hX':=hX h0;rw[jje h0];simp only[hd,F1,G1,K1,hX',go_sem];refine hQ X _ (le_emR [1,2,3,4,9,10] ?_ ?_ rfl)
  ·simp only[go_sem]
  ·refine jaf rfl (jaf ?_ jbg);show Abs.look ((4,4,_)::R.map fun p=>(p.1,p.2.1,p.2.2.map (List.map emp1))) (hp X)=_;rw[ja5 _ _ (hp_ne (by decide)).symm,jcf _ (fun q:Nat×List (List IV)=>(q.1,q.2.map (List.map emp1))),hX'];rfl
