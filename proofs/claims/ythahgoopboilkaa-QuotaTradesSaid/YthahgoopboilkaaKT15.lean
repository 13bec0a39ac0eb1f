/- A part of the proof. No further condition. -/
import Derived.Test.YthahgoopboilkaaKT14
import Derived.ChangeArms
import Derived.DataReads
import Derived.Deep.Slices
import Derived.ProofKit
import Derived.Carry
set_option linter.all false
set_option maxRecDepth 10000000
set_option maxHeartbeats 16000000
namespace Go.Proofs.Ythahgoopboilkaa
section
open Go.Abs Go.LQ
attribute [local go_sem] ints ic qC rtC kC xC
theorem jjb(r:Rts)(h:RightQ r)(d y:Int):Ctr G.P 10 [.agg (rtC r),.int d,.int y] (· = .tup [.int (hvS r d y),.int (lfS r d y)]):=by
 obtain⟨l1,l2,l3⟩:=h.lens;have kh:=fun c=>jgk r c d y (by omega) (by omega) (by omega);have kl:=fun c=>jfu r c d y (by omega) (by omega) (by omega);simp only[h.heldE,h.leftE]at kh kl;have hn:=h.n;have bh:=fun i:Nat=>jhn (h.hv d y) i;have bl:=fun i:Nat=>jhn (h.lf d y) i;have bh2:=h.hv d y;have bl2:=h.lf d y;unfold hvS lfS;have hnn:(r.n.toNat:Int)=r.n:=Int.toNat_of_nonneg hn.1;unfold rtC at*;generalize r.n=n at*;generalize r.held.map qC=H at*;generalize r.used.map qC=U at*;generalize r.cap=C at*;generalize hvK r d y=f at*;generalize lfK r d y=g at*;refine jaa good _ _ [.tmp 6,.tmp 7] Try.func10 rfl rfl (by decide+kernel) rfl ?_;simp only[go_sem];refine jay [1,2,3,8,9,10] [3] (fun i:Nat=>⟨[(1,.im (.int d)),(2,.im (.int y)),(3,.loc 3 4 0 0),(8,.im (.int (csum f i))),(9,.im (.int (csum g i))),(10,.im (.int i))],[(3,4,[[.int n,ints C,.sl H,.sl U]])],[]⟩) (fun i=>i<=n.toNat) (fun i=>n.toNat-i) 0 ?_ (Nat.zero_le _) ?_
 ·simp only[Int.natCast_zero,csum,go_sem]
 intro i hi;by_cases hp:(i:Int)<n
 ·have hd:decide ((i:Int)<n)=true:=decide_eq_true hp;have hd2:decide ((i:Int)<20)=true:=decide_eq_true (by omega);have hw:=jan (n:=(i:Int)+1) (by omega);have kh:=kh (i:Int);have kl:=kl (i:Int);have h1:=bh i;have h2:=bl i;have h3:=bh2 i;have h4:=bl2 i;have w1:=jan (n:=csum f i+f i) (by omega);have w2:=jan (n:=csum g i+g i) (by omega);simp only[hd,hd2,go_sem];refine ja1 kh (by decide) ?_;simp only[w1,go_sem];refine ja1 kl (by decide) ?_;simp only[w2,go_sem];refine ja6 (i+1) ?_ (by omega) (by omega);simp only[hw,csum,Int.natCast_add,go_sem]
 ·have hd:decide ((i:Int)<n)=false:=decide_eq_false hp;obtain rfl:i=n.toNat:=by omega
  simp only[hd,go_sem]
end
section
open Go.Abs Go.LQ
attribute [local go_sem] ints ic qC rtC kC xC
theorem few_len{r:Rts}(h:fewQ r=true):r.cap.length<=30/\r.used.length<=30/\r.held.length<=302:=by
 have:=of_decide_eq_true h;omega
abbrev QB:Exit->St->Prop:=fun e s=>match e with | .normal=>s.get 12= .im (.bool true) | .ret=>s.get 12= .im (.bool true) | _=>False
def SQ(lx rc:IV)(c d y k:Int)(cs:List IV):St:=⟨[(1,.im lx),(2,.im (.int c)),(3,.im (.int d)),(4,.im (.int y)),(5,.im (.int k)),(6,.loc 6 4 0 0),(13,.im (.bool true))],[(6,4,[cs])],[]⟩
section
variable{r:Rts}{l:List Trn}{c d y k:Int}
theorem qt_A{Q:Exit->St->Prop}(hret:∀s:St,s.get 12= .im (.bool true)->Q .ret s)(hQ:RightQ r->l.length<=45->r.held.length<=302->∀s,St.Le s (SQ (.sl (l.map xC)) (.int 0) c d y k (rtC r))->Q .normal s):
  awp G (putN 3 (tailN 0 (jb9 Try.f3)) .skip) Q (jby ([.agg (rtC r),.sl (l.map xC),.int c,.int d,.int y,.int k].map .im) []):=by
 have ks:=q_small;have kf:=q_few r;unfold SQ at hQ;cases hf:fewQ r with
 | false=>
  rw[hf]at kf;unfold rtC ints at*;refine je4 rfl ?_;simp only[go_sem];refine ja1 ks (by decide) ?_;simp only[go_sem];refine ja1 kf (by decide) ?_;simp only[go_sem];exact hret _ rfl
 | true=>
  rw[hf]at kf;obtain⟨g1,g2,g3⟩:=few_len hf;have kc:=jch r (by omega) (by omega) (by omega);by_cases hl:(45:Int)<l.length
  ·have d1:decide ((45:Int)<l.length)=true:=decide_eq_true hl;unfold rtC ints at*;refine je4 rfl ?_;simp only[go_sem];refine ja1 ks (by decide) ?_;simp only[go_sem];refine ja1 kf (by decide) ?_;simp only[d1,List.length_map,go_sem];exact hret _ rfl
  have d1:decide ((45:Int)<l.length)=false:=decide_eq_false hl;by_cases he:jah r=0
  ·have hr:=checkQ_zero.1 he;rw[he]at kc;have hQ:=hQ hr (by omega) g3;unfold rtC ints at*;refine je4 rfl ?_;simp only[go_sem];refine ja1 ks (by decide) ?_;simp only[go_sem];refine ja1 kf (by decide) ?_;simp only[d1,List.length_map,go_sem];refine ja1 kc (by decide) ?_;simp only[go_sem];refine hQ _ (le_of [1,2,3,4,5,6,13] [6] ?_);simp only[go_sem]
  ·have d2:decide (jah r=0)=false:=decide_eq_false he;unfold rtC ints at*;refine je4 rfl ?_;simp only[go_sem];refine ja1 ks (by decide) ?_;simp only[go_sem];refine ja1 kf (by decide) ?_;simp only[d1,List.length_map,go_sem];refine ja1 kc (by decide) ?_;simp only[d2,go_sem];exact hret _ rfl
theorem qt_C(h:RightQ r):awp G (tailN 5 (jb9 Try.f3)) QB (SQ (.sl (l.map xC)) (.int 0) c d y k (rtC r)):=by
 obtain⟨l1,l2,l3⟩:=h.lens;have hn:=h.n;have ku:=q_use r c d y k (by omega) (by omega) (by omega) (by omega);unfold SQ;by_cases he:(useQ r c d y k).2=0
 ·obtain⟨ho,e1⟩:=use_made h he;rw[e1]at ku;have hr2:=spent_right ho;obtain⟨m1,m2,m3⟩:=hr2.lens;have k1:=jjb r h d y;have k2:=jjb _ hr2 d y;rw[spent_hv,spent_lfS ho]at k2;have kc:=jch _ (by omega) (by omega:(r.spent c d y k).held.length<=100000) (by omega);rw[checkQ_zero.2 hr2]at kc;have kl1:=jfu _ c d y (by omega) (by omega:(r.spent c d y k).held.length<=100000) (by omega);have kl2:=jfu r c d y (by omega) (by omega) (by omega);rw[hr2.leftE,jj8 h,if_pos rfl]at kl1;rw[h.leftE]at kl2;have hk:=ho.kg;have hlf:=h.lf d y c;have hll:k<=lfK r d y c:=ho.left;have hS:=jhn (h.lf d y) r.n.toNat;have w1:=jan (n:=lfS r d y-k) (by unfold lfS;omega);have w2:=jan (n:=lfK r d y c-k) (by omega);have d1:decide (0<=lfK r d y c-k)=true:=decide_eq_true (by omega);generalize lfS r d y=v at*;generalize hvS r d y=u at*;generalize lfK r d y c=z at*;generalize r.spent c d y k=r2 at*;clear hr2 ho m1 m2 m3 hS e1 he;unfold rtC ints at*;refine jit rfl ?_;simp only[go_sem];refine ja1 ku (by decide) ?_;simp only[go_sem];refine ja1 k1 (by decide) ?_;simp only[go_sem];refine ja1 k2 (by decide) ?_;simp only[w1,go_sem];refine jad 42 (by decide+kernel) ?_;simp only[w1,go_sem];refine ja9 kc (by decide) ?_;simp only[w1,go_sem];refine ja9 kl1 (by decide) ?_;simp only[go_sem];refine ja9 kl2 (by decide) ?_;simp only[w2,go_sem];refine ja9 kl1 (by decide) ?_;simp only[w2,d1,go_sem]
  try rfl
 ·have d1:decide ((useQ r c d y k).2=0)=false:=decide_eq_false he;generalize useQ r c d y k=R at*;unfold rtC ints at*;refine jit rfl ?_;simp only[go_sem];refine ja1 ku (by decide) ?_;simp only[d1,go_sem];rfl
end
end
section
open Go.Abs Go.LQ
attribute [local go_sem] ints ic qC rtC kC xC
theorem got_take{l:List Trn}{k:Nat}(h:k<l.length)(q:List Int):got (l.take (k+1)) q=got (l.take k) q+dlt (l.getD k x0) q:=by
 have:l.take (k+1)=l.take k++[l.getD k x0]:=by rw[List.take_add_one,gD _ h,List.getElem?_eq_getElem h];rfl
 rw[this,jgt,got,got];omega
theorem dlt_kf(z x:Trn)(h:z.fr≠z.to):dlt z x.kf=if z.dep=x.dep/\z.day=x.day/\z.fr=x.fr then-z.kg else if z.dep=x.dep/\z.day=x.day/\z.to=x.fr then z.kg else 0:=by
 have e1:(x.kf=z.kt)↔(z.dep=x.dep/\z.day=x.day/\z.to=x.fr):=by
  unfold Trn.kf Trn.kt;simp only[List.cons.injEq,and_true];exact⟨fun⟨a,b,c⟩=>⟨a.symm,b.symm,c.symm⟩,fun⟨a,b,c⟩=>⟨a.symm,b.symm,c.symm⟩⟩
 have e2:(x.kf=z.kf)↔(z.dep=x.dep/\z.day=x.day/\z.fr=x.fr):=by
  unfold Trn.kf;simp only[List.cons.injEq,and_true];exact⟨fun⟨a,b,c⟩=>⟨a.symm,b.symm,c.symm⟩,fun⟨a,b,c⟩=>⟨a.symm,b.symm,c.symm⟩⟩
 unfold dlt;by_cases h2:z.dep=x.dep/\z.day=x.day/\z.fr=x.fr
 ·rw[if_pos h2,if_pos (e2.2 h2),if_neg (fun e=>h (by have:=(e1.1 e).2.2;omega))];omega
 ·rw[if_neg h2,if_neg (fun e=>h2 (e2.1 e))];by_cases h1:z.dep=x.dep/\z.day=x.day/\z.to=x.fr
  ·rw[if_pos h1,if_pos (e1.2 h1)];omega
  ·rw[if_neg h1,if_neg (fun e=>h1 (e1.1 e))];omega
section
variable{r:Rts}{l:List Trn}{c d y k:Int}
theorem qt_B(h:RightQ r){Q:Exit->St->Prop}(hQ:∀s,St.Le s (SQ (.sl (l.map xC)) (.int 0) c d y k (rtC r))->Q .normal s)(hll:l.length<=45):
  awp G (putN 2 (tailN 3 (jb9 Try.f3)) .skip) Q (SQ (.sl (l.map xC)) (.int 0) c d y k (rtC r)):=by
 obtain⟨l1,l2,l3⟩:=h.lens;have kt:=jh6 r l (by omega) (by omega) (by omega) (by omega);unfold SQ at hQ⊢;unfold tR at kt;by_cases he:(jab r l).2.1=0
 case neg=>
  have d1:decide ((jab r l).2.1=0)=false:=decide_eq_false he;generalize jab r l=R at*;unfold rtC ints at*;refine je4 rfl ?_;simp only[go_sem];refine ja1 kt (by decide) ?_;simp only[d1,go_sem];refine hQ _ (le_of [1,2,3,4,5,6,13] [6] ?_);simp only[go_sem]
 obtain⟨ho,e1⟩:=trade_made h he;rw[e1]at kt;have hra:=jge ho;obtain⟨m1,m2,m3⟩:=hra.lens;have hl40:=ho.len;have kc:=jch _ (by omega) (by omega:(r.after l).held.length<=100000) (by omega);rw[checkQ_zero.2 hra]at kc;have k1:=fun d y=>jjb r h d y;have k2:=fun d y=>jjb _ hra d y;simp only[trade_sums ho]at k2;have kh1:=fun c d y=>jgk _ c d y (by omega) (by omega:(r.after l).held.length<=100000) (by omega);have kh2:=fun c d y=>jgk r c d y (by omega) (by omega) (by omega);have kl:=fun c d y=>jfu _ c d y (by omega) (by omega:(r.after l).held.length<=100000) (by omega);simp only[hra.heldE,hra.leftE,h.heldE]at kh1 kh2 kl;have hok:=ho.ok;have hhv:∀x:Trn,hvK (r.after l) x.dep x.day x.fr=hvK r x.dep x.day x.fr+got l x.kf:=fun x=>jdc h x.kf;have hhb:=hra.hv;have hlb:=hra.lf;have hgb:=fun j (x:Trn)=>jg2 x.kf (l.take j) fun z hz=>(hok z (List.mem_of_mem_take hz)).kg;have hcp:∀x∈l,hvS r x.dep x.day<=r.cap.getD x.dep.toNat 0:=fun x hx=>by
  rw[h.hvS_psum];exact h.psum_le (there_iff.1 (hok x hx).fr).2.1
 have hae:rtC (r.after l)=[.int r.n,.sl (r.cap.map ic),.sl ((r.after l).held.map qC),.sl (r.used.map qC)]:=rfl;have hre:rtC r=[.int r.n,.sl (r.cap.map ic),.sl (r.held.map qC),.sl (r.used.map qC)]:=rfl;rw[hae]at kt kc k2 kh1 kl;rw[hre]at kt k1 kh2 hQ⊢;have hth:∀x∈l,(0<=x.dep/\x.dep<r.cap.length)/\x.fr≠x.to/\(1<=x.kg/\x.kg<=1000000):=fun x hx=>⟨(there_iff.1 (hok x hx).fr).2.1,(hok x hx).ne,(hok x hx).kg⟩;generalize hvS r=hS at*;generalize lfS r=lS at*;generalize lfS (r.after l)=lS2 at*;generalize hvK (r.after l)=hA at*;generalize lfK (r.after l)=lA at*;generalize hvK r=hR at*;generalize (r.after l).held.map qC=AH at*;generalize r.held.map qC=H at*;generalize r.used.map qC=U at*;generalize r.cap=C at*;generalize r.n=rn at*;clear hok hra ho m1 m2 m3 l1 l2 l3 h he e1;refine je4 rfl ?_;simp only[go_sem];refine ja1 kt (by decide) ?_;simp only[go_sem];refine ja1 kc (by decide) ?_;simp only[List.length_map,go_sem];refine jay [1,2,3,4,5,6,13,14,17] [6,14] (fun i:Nat=>⟨[(1,.im (.sl (l.map xC))),(2,.im (.int c)),(3,.im (.int d)),(4,.im (.int y)),(5,.im (.int k)),(6,.loc 6 4 0 0),(13,.im (.bool true)),(14,.loc 14 4 0 0),(17,.im (.int i))],[(14,4,[[.int rn,.sl (C.map ic),.sl AH,.sl U]]),(6,4,[[.int rn,.sl (C.map ic),.sl H,.sl U]])],[]⟩)
  (fun i=>i<=l.length) (fun i=>l.length-i) 0 ?_ (Nat.zero_le _) ?_
 ·simp only[Int.natCast_zero,go_sem]
 intro i hi;by_cases hp:(i:Int)<l.length
 ·have hd:decide ((i:Int)<l.length)=true:=decide_eq_true hp;have hi0:(0:Int)<=i:=by omega
  have hn:((i:Nat):Int).toNat=i:=Int.toNat_natCast i;have hx:l[i]? =some (l.getD i x0):=by rw[gD _ (by omega)];exact List.getElem?_eq_getElem (by omega)
  have hw:=jan (n:=(i:Int)+1) (by omega);obtain⟨⟨t1,t2⟩,t3,t4⟩:=hth _ (jed (l:=l) (i:=i) (by omega));have hcx:=hcp _ (jed (l:=l) (i:=i) (by omega));have hgb:=fun j=>hgb j (l.getD i x0);have hhv:=hhv (l.getD i x0);generalize l.getD i x0=x at*;have k1:=k1 x.dep x.day;have k2:=k2 x.dep x.day;have kh1:=kh1 x.fr x.dep x.day;have kh2:=kh2 x.fr x.dep x.day;have kl:=kl x.fr x.dep x.day;have x1:decide (x.dep<0)=false:=decide_eq_false (by omega);have x2:decide ((C.length:Int)<=x.dep)=false:=decide_eq_false (by omega);have hcg:=get_i (l:=C) (i:=x.dep.toNat) (by omega);have x3:decide (C.getD x.dep.toNat 0<hS x.dep x.day)=false:=decide_eq_false (by omega);generalize C.getD x.dep.toNat 0=cx at*;simp only[hd,hi0,hp,hn,List.getElem?_map,hx,List.length_map,go_sem];refine ja1 k1 (by decide) ?_;simp only[go_sem];refine ja1 k2 (by decide) ?_;simp only[x1,x2,t1,t2,hcg,x3,List.getElem?_map,List.length_map,go_sem]
  refine jay [1,2,3,4,5,6,13,14,17,18,23,24] [6,14,18] (fun j:Nat=>⟨[(1,.im (.sl (l.map xC))),(2,.im (.int c)),(3,.im (.int d)),(4,.im (.int y)),(5,.im (.int k)),(6,.loc 6 4 0 0),(13,.im (.bool true)),(14,.loc 14 4 0 0),(17,.im (.int i)),(18,.loc 18 5 0 0),(23,.im (.int (got (l.take j) x.kf))),(24,.im (.int j))],[(18,5,[[.int x.fr,.int x.to,.int x.dep,.int x.day,.int x.kg]]),(14,4,[[.int rn,.sl (C.map ic),.sl AH,.sl U]]),(6,4,[[.int rn,.sl (C.map ic),.sl H,.sl U]])],[]⟩)
   (fun j=>j<=l.length) (fun j=>l.length-j) 0 ?_ (Nat.zero_le _) ?_
  ·simp only[Int.natCast_zero,List.take_zero,got,go_sem]
  intro j hj;by_cases jp:(j:Int)<l.length
  ·have jd:decide ((j:Int)<l.length)=true:=decide_eq_true jp;have ji0:(0:Int)<=j:=by omega
   have jn:((j:Nat):Int).toNat=j:=Int.toNat_natCast j;have jx:l[j]? =some (l.getD j x0):=by rw[gD _ (by omega)];exact List.getElem?_eq_getElem (by omega)
   have jw:=jan (n:=(j:Int)+1) (by omega);obtain⟨_,s3,s4⟩:=hth _ (jed (l:=l) (i:=j) (by omega));have jg:=got_take (l:=l) (k:=j) (by omega) x.kf;rw[dlt_kf _ _ s3]at jg;have jb:=hgb j;have jl:(l.take j).length<=40:=by rw[List.length_take];omega
   generalize l.getD j x0=z at*;generalize got (l.take j) x.kf=g at*;have jw1:=jan (n:=g-z.kg) (by omega);have jw2:=jan (n:=g+z.kg) (by omega);simp only[jd,List.length_map,go_sem];by_cases g1:z.dep=x.dep
   case neg=>
    have f1:decide (z.dep=x.dep)=false:=decide_eq_false g1;rw[if_neg (fun e=>g1 e.1),if_neg (fun e=>g1 e.1),Int.add_zero]at jg;have f2:True:=trivial;have f3:True:=trivial;have f4:True:=trivial;refine jad 28 (by decide+kernel) ?_;simp only[ji0,jp,jn,List.getElem?_map,jx,f1,f2,f3,List.length_map,go_sem];refine jad 28 (by decide+kernel) ?_;simp only[ji0,jp,jn,List.getElem?_map,jx,f1,f2,f4,jw1,jw2,List.length_map,go_sem];refine ja6 (j+1) ?_ (by omega) (by omega);simp only[jw,jg,jw1,jw2,Int.natCast_add,go_sem]
   have f1:decide (z.dep=x.dep)=true:=decide_eq_true g1;by_cases g2:z.day=x.day
   case neg=>
    have f2:decide (z.day=x.day)=false:=decide_eq_false g2;rw[if_neg (fun e=>g2 e.2.1),if_neg (fun e=>g2 e.2.1),Int.add_zero]at jg;have f3:True:=trivial;have f4:True:=trivial;refine jad 28 (by decide+kernel) ?_;simp only[ji0,jp,jn,List.getElem?_map,jx,f1,f2,f3,List.length_map,go_sem];refine jad 28 (by decide+kernel) ?_;simp only[ji0,jp,jn,List.getElem?_map,jx,f1,f2,f4,jw1,jw2,List.length_map,go_sem];refine ja6 (j+1) ?_ (by omega) (by omega);simp only[jw,jg,jw1,jw2,Int.natCast_add,go_sem]
   have f2:decide (z.day=x.day)=true:=decide_eq_true g2;by_cases g3:z.fr=x.fr
   ·have f3:decide (z.fr=x.fr)=true:=decide_eq_true g3;have f4:decide (z.to=x.fr)=false:=decide_eq_false (by omega);rw[if_pos ⟨g1,g2,g3⟩,show g+ -z.kg=g-z.kg by omega]at jg;refine jad 28 (by decide+kernel) ?_;simp only[ji0,jp,jn,List.getElem?_map,jx,f1,f2,f3,List.length_map,go_sem];refine jad 28 (by decide+kernel) ?_;simp only[ji0,jp,jn,List.getElem?_map,jx,f1,f2,f4,jw1,jw2,List.length_map,go_sem];refine ja6 (j+1) ?_ (by omega) (by omega);simp only[jw,jg,jw1,jw2,Int.natCast_add,go_sem]
   have f3:decide (z.fr=x.fr)=false:=decide_eq_false g3;rw[if_neg (fun e=>g3 e.2.2)]at jg;by_cases g4:z.to=x.fr
   ·have f4:decide (z.to=x.fr)=true:=decide_eq_true g4;rw[if_pos ⟨g1,g2,g4⟩]at jg;refine jad 28 (by decide+kernel) ?_;simp only[ji0,jp,jn,List.getElem?_map,jx,f1,f2,f3,List.length_map,go_sem];refine jad 28 (by decide+kernel) ?_;simp only[ji0,jp,jn,List.getElem?_map,jx,f1,f2,f4,jw1,jw2,List.length_map,go_sem];refine ja6 (j+1) ?_ (by omega) (by omega);simp only[jw,jg,jw1,jw2,Int.natCast_add,go_sem]
   ·have f4:decide (z.to=x.fr)=false:=decide_eq_false g4;rw[if_neg (fun e=>g4 e.2.2),Int.add_zero]at jg;refine jad 28 (by decide+kernel) ?_;simp only[ji0,jp,jn,List.getElem?_map,jx,f1,f2,f3,List.length_map,go_sem];refine jad 28 (by decide+kernel) ?_;simp only[ji0,jp,jn,List.getElem?_map,jx,f1,f2,f4,jw1,jw2,List.length_map,go_sem];refine ja6 (j+1) ?_ (by omega) (by omega);simp only[jw,jg,jw1,jw2,Int.natCast_add,go_sem]
  have jd:decide ((j:Int)<l.length)=false:=decide_eq_false jp;obtain rfl:j=l.length:=by omega
  rw[List.take_length];have b1:=hhb x.dep x.day x.fr;have b2:=hlb x.dep x.day x.fr;have b3:decide (lA x.dep x.day x.fr<0)=false:=decide_eq_false (by omega);have b4:=jan (n:=hR x.dep x.day x.fr+got l x.kf) (by omega);rw[hhv]at kh1;simp only[jd,List.length_map,go_sem];refine jad 30 (by decide+kernel) ?_;simp only[go_sem];refine ja9 kh1 (by decide) ?_;simp only[go_sem];refine ja9 kh2 (by decide) ?_;simp only[b4,go_sem];refine ja9 kl (by decide) ?_;simp only[b3,go_sem];refine ja6 (i+1) ?_ (by omega) (by omega);simp only[hw,Int.natCast_add,go_sem]
 ·have hd:decide ((i:Int)<l.length)=false:=decide_eq_false hp;obtain rfl:i=l.length:=by omega
  simp only[hd,List.length_map,go_sem];refine hQ _ (le_of [1,2,3,4,5,6,13] [6] ?_);simp only[go_sem]
end
end
end Go.Proofs.Ythahgoopboilkaa
namespace Go.Abs
section
open Go.RowKit (Below)
def tileB(G:Ctx):Nat->List (Nat×TypeId)->Nat->Bool
 | k,[],n=>k==n
 | k,(o,t)::r,n=>o==k&&tileB G (k+(G.ti t).size) r n
def opens(G:Ctx):Nat->TypeId->Bool
 | 0,_=>false
 | n+1,t=>(G.ti t).size !=0&&match(G.ti t).kind with
  | .it _ | .bl | .str=>(G.ti t).size==1
  | .sl e=>(G.ti t).size==1&&opens G n e
  | .st fs=>tileB G 0 fs (G.ti t).size&&fs.all fun p=>opens G n p.2
  | _=>false
def Fits(G:Ctx):Nat->TypeId->List IV->Prop
 | 0,_,_=>False
 | n+1,t,xs=>match(G.ti t).kind with
  | .it k=>∃i,xs=[.sc (.int k i)]/\(Lit.int k i).wf=true
  | .bl=>∃b,xs=[.sc (.bool b)]
  | .str=>∃s:ByteArray,xs=[.sc (.string s)]/\s.size<=maxLen
  | .sl e=>∃es,xs=[.sl es]/\es.length<=maxLen/\∀c∈es,Fits G n e c
  | .st fs=>xs.length=(G.ti t).size/\∀p∈fs,Fits G n p.2 ((xs.drop p.1).take (G.ti p.2).size)
  | _=>False
theorem ji4{α:Type}{R:Nat->α->Prop}:∀n,(∀i,i<n->∃x,R i x)->∃l:List α,l.length=n/\∀i x,l[i]? =some x->R i x
 | 0,_=>⟨[],rfl,fun i x h=>by simp at h⟩
 | n+1,h=>by
  obtain⟨l,hl,hR⟩:=ji4 n fun i hi=>h i (by omega);obtain⟨x,hx⟩:=h n (by omega);refine⟨l++[x],by simp[hl],fun i y hy=> ?_⟩;rcases Nat.lt_or_ge i l.length with hi | hi
  ·rw[List.getElem?_append_left hi]at hy;exact hR i y hy
  ·rw[List.getElem?_append_right hi]at hy;have hi':i=l.length:=by
    have:=(List.getElem?_eq_some_iff.1 hy).1;simp at this;omega
   subst hi';simp at hy;subst hy;rw[hl];exact hx
theorem RepL.append{w:World}{M:Nat->Nat->Prop}{xs ys:List IV}{us vs:List Value}(h:RepL w M xs us)(h':RepL w M ys vs):RepL w M (xs++ys) (us++vs):=by
 refine⟨by simp[h.1,h'.1],fun k x v hx hv=> ?_⟩;rcases Nat.lt_or_ge k xs.length with hk | hk
 ·rw[List.getElem?_append_left hk]at hx;rw[List.getElem?_append_left (by rw[<-h.1];exact hk)]at hv;exact h.2 k x v hx hv
 ·rw[List.getElem?_append_right hk]at hx;rw[List.getElem?_append_right (by rw[<-h.1];exact hk),<-h.1]at hv;exact h'.2 _ x v hx hv
section
variable{G:Ctx}{H:Type}{enc:TypeId×Value->H}{w:World}{base:Nat}{spare:Nat->Bool}{held:Bool}
abbrev NoM:Nat->Nat->Prop:=fun _ _=>False
theorem jew(hG:G.Ok){t:TypeId}(h:(G.ti t).size≠0):G.P.cellsOf t=(G.ti t).size:=by
 obtain⟨i,z,hi,hs,_⟩:=hG.info h;simp[Program.cellsOf,hi,hs]
theorem jh9(hG:G.Ok):∀(n m:Nat) (t:TypeId) (cs:List Value) (x:DataW H×List MemPlace),opens G n t=true->DataW.trod enc G.P w base spare held m t cs=some x->
  ∃xs,RepL w NoM xs cs/\(∀y∈xs,y.one=true)/\xs.length=(G.ti t).size/\Fits G n t xs
 | 0,_,_,_,_,ho,_=>by simp[opens]at ho
 | n+1,m,t,cs,x,ho,h=>by
  unfold opens at ho;simp only[Bool.and_eq_true,bne_iff_ne,ne_eq]at ho;obtain⟨h0,ho⟩:=ho;have one:∀{v:Value} {y:IV},Rep w NoM y v->y.one=true->Fits G (n+1) t [y]->(G.ti t).size=1->cs=[v]->
    ∃xs,RepL w NoM xs cs/\(∀y∈xs,y.one=true)/\xs.length=(G.ti t).size/\Fits G (n+1) t xs:=by
   intro v y h1 h2 h3 h4 h5;subst h5;exact⟨[y],RepL.cons h1 RepL.nil,by simpa using h2,h4.symm,h3⟩
  split at ho
  ·rename_i k hk;obtain⟨i,rfl,_,hwf⟩:=DataW.trod_int (hG.it h0 hk) h;exact one (.sc _ rfl) rfl (by unfold Fits;rw[hk];exact⟨i,rfl,hwf⟩) (by simpa using ho) rfl
  ·rename_i hk;obtain⟨b,rfl,rfl⟩:=DataW.trod_bool (hG.bl h0 hk) h;exact one (.sc _ rfl) rfl (by unfold Fits;rw[hk];exact⟨b,rfl⟩) (by simpa using ho) rfl
  ·rename_i hk;obtain⟨s,rfl,_,hwf⟩:=DataW.trod_string (hG.str h0 hk) h;exact one (.sc _ rfl) rfl (by unfold Fits;rw[hk];exact⟨s,rfl,hwf⟩) (by simpa using ho) rfl
  ·rename_i e hk;simp only[Bool.and_eq_true,beq_iff_eq]at ho;obtain⟨h1,ho⟩:=ho;rcases DataW.trod_slice (hG.sl h0 hk) h with ⟨rfl,_⟩ | ⟨a,len,cap,elems,rest,m',rfl,rfl,_,_,hlc,hcm,hel,hat,_⟩
   ·exact one (.nil _ _) rfl (by unfold Fits;rw[hk];exact⟨[],rfl,Nat.zero_le _,by simp⟩) h1 rfl
   ·have he0:(G.ti e).size≠0:=by
     cases n with
     | zero=>simp[opens]at ho
     | succ n=>
      unfold opens at ho;simp only[Bool.and_eq_true,bne_iff_ne,ne_eq]at ho;exact ho.1
    rw[jew hG he0]at hat;have hex:∀i,i<len->∃p:List IV×List Value,w.cells? base (a.add (i*(G.ti e).size)) (G.ti e).size=some p.2/\RepL w NoM p.1 p.2/\(∀y∈p.1,y.one=true)/\p.1.length=(G.ti e).size/\Fits G n e p.1:=by
     intro i hi;have h3:=hat i hi;rw[List.getElem?_eq_getElem (by omega)]at h3;obtain⟨cs',h4,h5⟩:=Option.bind_eq_some_iff.1 h3;obtain⟨xs,h6,h7,h8,h9⟩:=jh9 hG n _ e cs' _ ho h5;exact⟨⟨xs,cs'⟩,h4,h6,h7,h8,h9⟩
    obtain⟨l,hl,hR⟩:=ji4 len hex;have hmap:∀(i:Nat) c,(l.map (·.1))[i]? =some c->∃us,w.cells? base (a.add (i*(G.ti e).size)) (G.ti e).size=some us/\RepL w NoM c us/\(∀y∈c,y.one=true)/\c.length=(G.ti e).size/\Fits G n e c:=by
     intro i c hc;rw[List.getElem?_map]at hc;obtain⟨p,hp,rfl⟩:=Option.map_eq_some_iff.1 hc;obtain⟨h3,h4,h5,h6,h7⟩:=hR i p hp;exact⟨p.2,h3,h4,h5,h6,h7⟩
    have hlen:(l.map (·.1)).length=len:=by simpa using hl
    have hfit:Fits G (n+1) t [.sl (l.map (·.1))]:=by
     unfold Fits;rw[hk];refine⟨_,rfl,by omega,fun c hc=> ?_⟩;obtain⟨i,hi⟩:=List.getElem?_of_mem hc;obtain⟨_,_,_,_,_,h7⟩:=hmap i c hi;exact h7
    refine one (y:= .sl (l.map (·.1))) ?_ rfl hfit h1 rfl;by_cases hz:len=0
    ·subst hz;have:l=[]:=List.eq_nil_of_length_eq_zero hl;subst this;exact .nil _ _
    ·have hlist:∀i c j y,(l.map (·.1))[i]? =some c->c[j]? =some y->∃u,w.cell? (a.add (i*(G.ti e).size+j))=some u/\Rep w NoM y u/\y.one=true:=by
      intro i c j y hi hj;obtain⟨us,h3,h4,h5,h6,_⟩:=hmap i c hi;have hjl:=(List.getElem?_eq_some_iff.1 hj).1;obtain⟨_,h7,h8⟩:=World.cells?_some h3;have hu:us[j]? =some (us[j]'(by omega)):=List.getElem?_eq_getElem (by omega);refine⟨_,?_,h4.2 j y _ hj hu,h5 y (List.mem_of_getElem? hj)⟩;have:=h8 j (by omega);rw[Go.Deep.add_add]at this;rw[this,hu]
     have hsp:a=⟨a.block,a.off,none⟩:=by
      have hg:(l.map (·.1))[0]? =some ((l.map (·.1))[0]'(by omega)):=List.getElem?_eq_getElem (by omega);obtain⟨us,_,_,_,h6,_⟩:=hmap 0 _ hg;have hg2:((l.map (·.1))[0]'(by omega))[0]? =some (((l.map (·.1))[0]'(by omega))[0]'(by omega)):=List.getElem?_eq_getElem (by omega);obtain⟨u,h3,_⟩:=hlist 0 _ 0 _ hg hg2;simp[Addr.add]at h3;have:=World.cell?_spot h3;cases a;simp_all
     have hadd:∀k,a.add k=⟨a.block,a.off+k,none⟩:=fun k=>by
      obtain⟨b,o,sp⟩:=a;cases hsp;unfold Addr.add;split
      ·rename_i hk0;subst hk0;rfl
      ·rfl
     have hgo:∀(i:Nat) c (j:Nat) y,(l.map (·.1))[i]? =some c->c[j]? =some y->w.cell? ⟨a.block,a.off+i*(G.ti e).size+j,none⟩=some ((w.cell? ⟨a.block,a.off+i*(G.ti e).size+j,none⟩).getD undef)/\
       y.one=true/\Rep w NoM y ((w.cell? ⟨a.block,a.off+i*(G.ti e).size+j,none⟩).getD undef):=by
      intro i c j y hi hj;obtain⟨u,h3,h4,h5⟩:=hlist i c j y hi hj;rw[hadd,<-Nat.add_assoc]at h3;rw[h3];exact⟨rfl,h5,h4⟩
     have:=Rep.sl (w:=w) (M:=NoM) (l.map (·.1)) (G.ti e).size a.block a.off cap (fun i j=>(w.cell? ⟨a.block,a.off+i*(G.ti e).size+j,none⟩).getD undef)
      (by intro hn;rw[hn]at hlen;simp at hlen;omega)
      (fun c hc=>by obtain⟨i,hi⟩:=List.getElem?_of_mem hc;obtain⟨_,_,_,_,h6,_⟩:=hmap i c hi;exact h6)
      (by omega)
      (fun i c j y hi hj=>⟨(hgo i c j y hi hj).2.1,(hgo i c j y hi hj).1,fun h=>h⟩)
      (fun i c j y hi hj=>(hgo i c j y hi hj).2.2)
     rw[hlen,<-hsp]at this;exact this
  ·rename_i fs hk;simp only[Bool.and_eq_true]at ho;obtain⟨ht,ho⟩:=ho;obtain⟨gs,hu,hgs⟩:=hG.st h0 hk;obtain⟨xs,m',rfl,_,hcl,hxl,hat⟩:=DataW.trod_struct hu h;rw[jew hG h0]at hcl;have hfield:∀p∈fs,∃ys,RepL w NoM ys ((cs.drop p.1).take (G.ti p.2).size)/\(∀y∈ys,y.one=true)/\ys.length=(G.ti p.2).size/\Fits G n p.2 ys:=by
    intro p hp;obtain⟨i,hi⟩:=List.getElem?_of_mem hp;rw[<-hgs,List.getElem?_map]at hi;obtain⟨f,hf,rfl⟩:=Option.map_eq_some_iff.1 hi;have hf':gs[i]? =some f:=by simpa using hf
    have h3:=hat i f hf';have hil:i<gs.size:=(Array.getElem?_eq_some_iff.1 hf').1;rw[List.getElem?_eq_getElem (by omega)]at h3;have hof:=List.all_eq_true.1 ho _ hp;have hs0:(G.ti f.type).size≠0:=by
     cases n with
     | zero=>simp[opens]at hof
     | succ n=>
      simp only[]at hof;unfold opens at hof;simp only[Bool.and_eq_true,bne_iff_ne,ne_eq]at hof;exact hof.1
    rw[jew hG hs0]at h3;exact jh9 hG n _ _ _ _ hof h3
   have build:∀(r:List (Nat×TypeId)) (k:Nat),(∀p∈r,p∈fs)->tileB G k r (G.ti t).size=true->k<=cs.length->∃zs,RepL w NoM zs (cs.drop k)/\(∀y∈zs,y.one=true)/\
     ∀p∈r,k<=p.1/\Fits G n p.2 ((zs.drop (p.1-k)).take (G.ti p.2).size):=by
    intro r
    induction r with
    | nil=>
     intro k _ htl _;simp only[tileB,beq_iff_eq]at htl;refine⟨[],?_,by simp,by simp⟩;rw[List.drop_of_length_le (by omega)];exact RepL.nil
    | cons p r ih=>
     obtain⟨o,u⟩:=p;intro k hm htl hkl;simp only[tileB,Bool.and_eq_true,beq_iff_eq]at htl;obtain⟨rfl,htl⟩:=htl;obtain⟨ys,h3,h4,h5,h6⟩:=hfield (o,u) (hm _ (List.mem_cons_self ..));have hle:o+(G.ti u).size<=cs.length:=by
      have:=h3.1;simp at this h5;omega
     obtain⟨zs,h7,h8,h9⟩:=ih _ (fun p hp=>hm p (List.mem_cons_of_mem _ hp)) htl hle;refine⟨ys++zs,?_,?_,?_⟩
     ·have:=h3.append h7;rw[<-List.drop_drop,List.take_append_drop]at this;exact this
     ·intro y hy;rcases List.mem_append.1 hy with h | h
      ·exact h4 y h
      ·exact h8 y h
     ·intro p hp;rcases List.mem_cons.1 hp with rfl | hp
      ·refine⟨Nat.le_refl _,?_⟩;simp only[Nat.sub_self,List.drop_zero];rw[<-h5]
       simpa using h6
      ·obtain⟨h10,h11⟩:=h9 p hp;refine⟨by omega,?_⟩;rw[List.drop_append,List.drop_of_length_le (by simp at h5;omega),List.nil_append];have e:p.1-o-ys.length=p.1-(o+(G.ti u).size):=by simp at h5;omega
       rw[e];exact h11
   obtain⟨zs,h7,h8,h9⟩:=build fs 0 (fun _ h=>h) ht (Nat.zero_le _);rw[List.drop_zero]at h7;refine⟨zs,h7,h8,by rw[h7.1,hcl],?_⟩;unfold Fits;rw[hk];exact⟨by rw[h7.1,hcl],fun p hp=>by simpa using (h9 p hp).2⟩
  ·cases ho
end
end
section
open Go.RowKit (Below)
open Go.ChangeShapes Go.WideShapes
def FitsA(G:Ctx)(n:Nat)(t:TypeId)(y:IV):Prop:=
 if aggK (G.ti t).kind=true then ∃xs,y= .agg xs/\Fits G n t xs else Fits G n t [y]
def FitsL(G:Ctx)(n:Nat):List TypeId->List IV->Prop
 | [],[]=>True
 | t::ts,y::ys=>FitsA G n t y/\FitsL G n ts ys
 | _,_=>False
section
variable{G:Ctx}{H:Type}{enc:TypeId×Value->H}{w:World}{base:Nat}{spare:Nat->Bool}{held:Bool}{r:Reach}{b0 n:Nat}
theorem opens_ne{t:TypeId}(h:opens G n t=true):(G.ti t).size≠0:=by
 cases n with
 | zero=>simp[opens]at h
 | succ n=>
  unfold opens at h;simp only[Bool.and_eq_true,bne_iff_ne,ne_eq]at h;exact h.1
theorem open_arg(hG:G.Ok){t:TypeId}{v:Value}{d:DataW H}{p:List MemPlace}(ho:opens G n t=true)(hv:Value.okWide G.P w r b0 t v)(h:DataW.Trod enc G.P w base spare held t v d p):
  ∃y,Rep w NoM y v/\FitsA G n t y:=by
 obtain⟨m,hm⟩:=h;have h0:=opens_ne ho;obtain⟨xs,h1,h2,h3,h4⟩:=jh9 hG n m t _ _ ho hm;have single:v.cells= #[v]->aggK (G.ti t).kind=false->∃y,Rep w NoM y v/\FitsA G n t y:=by
  intro hc hk;rw[hc]at h1;obtain⟨hl,hr⟩:=h1
  match xs,hl with
  | [y],_=>
   refine⟨y,hr 0 y v rfl rfl,?_⟩;unfold FitsA;rw[hk];exact h4
 have ho':=ho;cases n with
 | zero=>simp[opens]at ho
 | succ n=>
  unfold opens at ho';simp only[Bool.and_eq_true]at ho';obtain⟨_,ho'⟩:=ho';split at ho'
  ·rename_i k hk;obtain⟨i,rfl⟩:=okWide_int (hG.it h0 hk) hv;exact single rfl (by rw[hk];rfl)
  ·rename_i hk;obtain⟨i,rfl⟩:=okWide_bool (hG.bl h0 hk) hv;exact single rfl (by rw[hk];rfl)
  ·rename_i hk;obtain⟨i,rfl⟩:=okWide_string (hG.str h0 hk) hv;exact single rfl (by rw[hk];rfl)
  ·rename_i e hk;obtain⟨a,l,c,rfl⟩:=okWide_slice (hG.sl h0 hk) hv;exact single rfl (by rw[hk];rfl)
  ·rename_i fs hk;obtain⟨gs,hu,_⟩:=hG.st h0 hk;obtain⟨cs,rfl,_⟩:=okWide_struct hu hv;refine⟨.agg xs,RepL.agg (by simpa [Value.cells]using h1) h2,?_⟩;unfold FitsA;rw[if_pos (by rw[hk];rfl)];exact⟨xs,rfl,h4⟩
  ·cases ho'
theorem ji5(hG:G.Ok):∀{ts:List TypeId} {vs:List Value} {ds:List (DataW H)} {p:List MemPlace},(∀t∈ts,opens G n t=true)->
  (∀(j:Nat) t v,ts[j]? =some t->vs[j]? =some v->Value.okWide G.P w r b0 t v)->DataW.TrodAll enc G.P w base spare held ts vs ds p->∃ys,RepL w NoM ys vs/\FitsL G n ts ys
 | [],[],[],_,_,_,_=>⟨[],RepL.nil,trivial⟩
 | t::ts,v::vs,d::ds,_,ho,hv,⟨_,_,h1,h2,_⟩=>by
  obtain⟨y,h3,h4⟩:=open_arg hG (ho t (List.mem_cons_self ..)) (hv 0 t v rfl rfl) h1;obtain⟨ys,h5,h6⟩:=ji5 hG (fun t ht=>ho t (List.mem_cons_of_mem _ ht)) (fun j t v hj hk=>hv (j+1) t v (by simpa using hj) (by simpa using hk)) h2;exact⟨y::ys,RepL.cons h3 h5,h4,h6⟩
theorem jij{P:Program}(hl:laidOutB P=true){W W':World}(hb:Below W.heap.size W W'):∀{ts:List TypeId} {vs:List Value} {ds:List (DataW H)} {ps:List MemPlace},
  (∀t∈ts,P.readableRec t=true/\t<P.types.size)->DataW.TrodAll enc P W 0 (fun _=>true) true ts vs ds ps->(∀x∈ps,x.block<W.heap.size)->
  DataW.TrodAll enc P W' 0 (fun b=>decide (b<W.heap.size)) true ts vs ds ps
 | [],[],[],_,_,h,_=>h
 | t::ts,v::vs,d::ds,_,ht,⟨p,q,h1,h2,e⟩,hlt=>by
  subst e;obtain⟨h3,h4⟩:=ht t (List.mem_cons_self ..);exact⟨p,q,Go.RowKit.Below.trod hl h3 h4 h1 hb (fun x hx=>hlt x (List.mem_append_left _ hx)),
   jij hl hb (fun t h=>ht t (List.mem_cons_of_mem _ h)) h2 (fun x hx=>hlt x (List.mem_append_right _ hx)),rfl⟩
theorem jfn{P:Program}:∀{ts:List TypeId} {vs:List Value} {ds:List (DataW H)} {ps:List MemPlace},DataW.TrodAll enc P w base spare held ts vs ds ps->ds.length=ts.length
 | [],[],[],_,_=>rfl
 | _::_,_::_,_::_,_,⟨_,_,_,h2,_⟩=>by simp[jfn h2]
theorem law_calls(hG:G.Good)(hl:laidOutB G.P=true){f:FuncId}{fn:Func}{s:ChangeSpec}{tb:TypeId}(n:Nat)(ts:List TypeId)
  (hp:fn.params.toList=ts) (hrt:fn.resultTypes.toList=[tb]) (hsz:fn.resultTypes.size=1) (htb:G.P.underlying tb=some .bool)
  (hts:(ts.all fun t=>opens G n t&&G.P.readableRec t&&decide (t<G.P.types.size))=true)
  (hvars:s.vars=[]) (hspec:∀ds:List (DataW H),ds.length=ts.length->s.fn H ds={results:=[.lit (.bool true)],args:=ds})
  (hc:∀ys,FitsL G n ts ys->Ctr G.P f ys (· = .bool true)) {W:World} {args:Array Value} {ds gs:List (DataW H)} {before:List MemPlace}
  (hval:∀(j:Nat) t v,fn.params[j]? =some t->args[j]? =some v->Value.okWide G.P W .any b0 t v) (hW:DataW.Whole enc G.P fn.params.toList s.vars false W args.toList ds gs before):
  Calls G.P f args W fun e W'=>∃v,e= .returned v/\s.post enc G.P fn false true false false W args v W':=by
 have hts':∀t∈ts,opens G n t=true/\G.P.readableRec t=true/\t<G.P.types.size:=fun t ht=>by
  have:=List.all_eq_true.1 hts t ht;simp only[Bool.and_eq_true,decide_eq_true_eq]at this;exact⟨this.1.1,this.1.2,this.2⟩
 have hW0:=hW;obtain⟨p,q,hA,hV,hpq,hfz,hnd⟩:=hW;rw[hvars]at hV;obtain⟨rfl,rfl⟩:=trodVars_none hV;rw[hp]at hA;obtain⟨ys,h1,h2⟩:=ji5 hG.ok (fun t ht=>(hts' t ht).1) (fun j t v hj hk=>hval j t v (by rw[<-Array.getElem?_toList,hp];exact hj) (by rw[<-Array.getElem?_toList];exact hk)) hA;have hcall:=hc ys h2 W NoM args.toList (fun b o h=>h.elim) h1;rw[Array.toArray_toList]at hcall;refine hcall.mono fun e W' ⟨r,v,hr,he,hv,hb⟩=> ?_;subst hr;obtain rfl:=Rep.sc_inv hv;refine⟨_,he,?_⟩;have hsp:=hspec ds (jfn hA);have hlt:∀x∈before,x.block<W.heap.size:=fun x hx=>hW0.lt x hx;refine⟨ds,[],before,[],p,[],hW0,?_,?_,?_,World.keptBut_mono (fun p hp=>⟨hp,?_⟩) (hb.frame (· ∈before)),fun h=>by cases h⟩
 ·rw[hrt,hsz,List.append_nil,hsp];exact trodAll_mk1 (Go.RowKit.shut_bool htb _)
 ·rw[List.append_nil,hsp,hp];exact jij hl hb (fun t ht=>(hts' t ht).2) hA (fun x hx=>hlt x (by rw[hpq];simpa using hx))
 ·rw[List.append_nil,hsp,hvars];rfl
 ·rw[hpq,List.append_nil]at hp;exact .inr (.inl hp)
end
end
end Go.Abs
namespace Go.Proofs.Ythahgoopboilkaa
section
open Go.Abs
theorem jba{t:TypeId}(hk:(G.ti t).kind= .it .i64):∀{n:Nat} {xs:List IV},Fits G n t xs->∃i,xs=[.int i]
 | 0,_,h=>h.elim
 | n+1,xs,h=>by
  unfold Fits at h;rw[hk]at h;obtain⟨i,rfl,_⟩:=h;exact⟨i,rfl⟩
theorem list_of{α:Type}{f:α->List IV}:∀{es:List (List IV)},(∀c∈es,∃p,c=f p)->∃l:List α,es=l.map f
 | [],_=>⟨[],rfl⟩
 | c::es,h=>by
  obtain⟨p,rfl⟩:=h c (List.mem_cons_self ..);obtain⟨l,rfl⟩:=list_of fun c hc=>h c (List.mem_cons_of_mem _ hc);exact⟨p::l,rfl⟩
theorem jef{α:Type}(f:α->List IV){t e:TypeId}(hk:(G.ti t).kind= .sl e)(hf:∀{n:Nat} (c:List IV),Fits G n e c->∃p,c=f p):∀{n:Nat} {xs:List IV},Fits G n t xs->∃l:List α,xs=[.sl (l.map f)]
 | 0,_,h=>h.elim
 | n+1,xs,h=>by
  unfold Fits at h;rw[hk]at h;obtain⟨es,rfl,_,h⟩:=h;obtain⟨l,rfl⟩:=list_of fun c hc=>hf c (h c hc);exact⟨l,rfl⟩
theorem fits_ints{t e:TypeId}(hk:(G.ti t).kind= .sl e)(he:(G.ti e).kind= .it .i64){n:Nat}{xs:List IV}(h:Fits G n t xs):∃l:List Int,xs=[ints l]:=
 jef ic hk (fun _ hc=>jba he hc) h
theorem jiw{t:TypeId}{fs:List (Nat×TypeId)}(hk:(G.ti t).kind= .st fs):∀{n:Nat} {xs:List IV},Fits G n t xs->xs.length=(G.ti t).size/\∃m,∀p∈fs,Fits G m p.2 ((xs.drop p.1).take (G.ti p.2).size)
 | 0,_,h=>h.elim
 | n+1,xs,h=>by
  unfold Fits at h;rw[hk]at h;exact⟨h.1,n,h.2⟩
theorem fitsA_struct{t:TypeId}{n:Nat}{y:IV}(hk:aggK (G.ti t).kind=true)(h:FitsA G n t y):∃xs,y= .agg xs/\Fits G n t xs:=by
 unfold FitsA at h
 rwa [if_pos hk]at h
theorem jid{t:TypeId}{n:Nat}{y:IV}(hk:aggK (G.ti t).kind=false)(h:FitsA G n t y):Fits G n t [y]:=by
 unfold FitsA at h
 rwa [if_neg (by rw[hk];simp)]at h
theorem jc4{n:Nat}{t:TypeId}{ts:List TypeId}:∀{ys:List IV},FitsL G n (t::ts) ys->∃y ys',ys=y::ys'/\FitsA G n t y/\FitsL G n ts ys'
 | y::ys',h=>⟨y,ys',rfl,h⟩
theorem fitsL_nil{n:Nat}:∀{ys:List IV},FitsL G n [] ys->ys=[]
 | [],_=>rfl
end
section
open Go.Abs Go.LQ
theorem oq4{α:Type}:∀{l:List α},l.length=4->∃x0 x1 x2 x3,l=[x0,x1,x2,x3]
 | [x0,x1,x2,x3],_=>⟨x0,x1,x2,x3,rfl⟩
theorem oq5{α:Type}:∀{l:List α},l.length=5->∃x0 x1 x2 x3 x4,l=[x0,x1,x2,x3,x4]
 | [x0,x1,x2,x3,x4],_=>⟨x0,x1,x2,x3,x4,rfl⟩
theorem jjv{n:Nat}{xs:List IV}(h:Fits G n 66 xs):∃q:Quo,xs=qC q:=by
 obtain⟨hl,m,hf⟩:=jiw (t:=66) (fs:=[(0,3),(1,3),(2,3),(3,3)]) rfl h;obtain⟨x0,x1,x2,x3,rfl⟩:=oq4 (show xs.length=4 from hl);have h0:Fits G m 3 [x0]:=hf (0,3) (by simp);obtain⟨i0,e0⟩:=jba rfl h0;cases e0;have h1:Fits G m 3 [x1]:=hf (1,3) (by simp);obtain⟨i1,e1⟩:=jba rfl h1;cases e1;have h2:Fits G m 3 [x2]:=hf (2,3) (by simp);obtain⟨i2,e2⟩:=jba rfl h2;cases e2;have h3:Fits G m 3 [x3]:=hf (3,3) (by simp);obtain⟨i3,e3⟩:=jba rfl h3;cases e3;exact⟨⟨i0,i1,i2,i3⟩,rfl⟩
theorem fits_Trn{n:Nat}{xs:List IV}(h:Fits G n 34 xs):∃q:Trn,xs=xC q:=by
 obtain⟨hl,m,hf⟩:=jiw (t:=34) (fs:=[(0,3),(1,3),(2,3),(3,3),(4,3)]) rfl h;obtain⟨x0,x1,x2,x3,x4,rfl⟩:=oq5 (show xs.length=5 from hl);have h0:Fits G m 3 [x0]:=hf (0,3) (by simp);obtain⟨i0,e0⟩:=jba rfl h0;cases e0;have h1:Fits G m 3 [x1]:=hf (1,3) (by simp);obtain⟨i1,e1⟩:=jba rfl h1;cases e1;have h2:Fits G m 3 [x2]:=hf (2,3) (by simp);obtain⟨i2,e2⟩:=jba rfl h2;cases e2;have h3:Fits G m 3 [x3]:=hf (3,3) (by simp);obtain⟨i3,e3⟩:=jba rfl h3;cases e3;have h4:Fits G m 3 [x4]:=hf (4,3) (by simp);obtain⟨i4,e4⟩:=jba rfl h4;cases e4;exact⟨⟨i0,i1,i2,i3,i4⟩,rfl⟩
theorem fitsA_Rts{n:Nat}{y:IV}(h:FitsA G n 25 y):∃r:Rts,y= .agg (rtC r):=by
 obtain⟨xs,e,h'⟩:=fitsA_struct rfl h;subst e;obtain⟨hl,m,hf⟩:=jiw (t:=25) (fs:=[(0,3),(1,22),(2,23),(3,23)]) rfl h';obtain⟨x0,x1,x2,x3,rfl⟩:=oq4 (show xs.length=4 from hl);have h0:Fits G m 3 [x0]:=hf (0,3) (by simp);obtain⟨i0,e0⟩:=jba rfl h0;cases e0;have h1:Fits G m 22 [x1]:=hf (1,22) (by simp);obtain⟨C,e1⟩:=fits_ints rfl rfl h1;cases e1;have h2:Fits G m 23 [x2]:=hf (2,23) (by simp);obtain⟨H,e2⟩:=jef qC rfl (fun _ hc=>jjv hc) h2;cases e2;have h3:Fits G m 23 [x3]:=hf (3,23) (by simp);obtain⟨U,e3⟩:=jef qC rfl (fun _ hc=>jjv hc) h3;cases e3;exact⟨⟨i0,C,H,U⟩,rfl⟩
theorem fitsA_Trns{n:Nat}{y:IV}(h:FitsA G n 26 y):∃l:List Trn,y= .sl (l.map xC):=by
 obtain⟨l,e⟩:=jef xC rfl (fun _ hc=>fits_Trn hc) (jid rfl h);cases e;exact⟨l,rfl⟩
theorem jdk{n:Nat}{y:IV}(h:FitsA G n 3 y):∃i,y= .int i:=by
 obtain⟨i,e⟩:=jba rfl (jid rfl h);cases e;exact⟨i,rfl⟩
