/- A part of the proof. No further condition. -/
import Derived.Test.YthahgoopboilkaaKM13
set_option linter.all false
set_option maxRecDepth 10000000
set_option maxHeartbeats 16000000
namespace Go.Proofs.Ythahgoopboilkaa
section
open Go.Abs Go.LQ
attribute [local go_sem] ints ic qC
def dayT(l:List Quo)(i:Nat):Tab:=(l.take i).foldl (fun t q=>mput t [q.dep,q.day,0] [vof t [q.dep,q.day,0]+q.kg]) []
theorem jj4{l:List Quo}{i:Nat}(h:i<l.length):dayT l (i+1)=mput (dayT l i) [(l.getD i z0).dep,(l.getD i z0).day,0] [vof (dayT l i) [(l.getD i z0).dep,(l.getD i z0).day,0]+(l.getD i z0).kg]:=by
 unfold dayT;rw[jjs h,List.foldl_append];rfl
theorem jjk(l:List Quo):∀i,i<=l.length->Shape 3 (dayT l i)/\∀d y,vof (dayT l i) [d,y,0]=psum (l.take i) d y
 | 0,_=>⟨fun p hp=>by simp[dayT]at hp,fun d y=>by simp[dayT,psum,vof,mget]⟩
 | i+1,h=>by
  obtain⟨h1,h2⟩:=jjk l i (by omega);rw[jj4 (by omega),jjs (by omega)];refine⟨jc0 h1 rfl rfl,fun d y=> ?_⟩;rw[je7,je8,psum,psum,<-h2 d y];by_cases e:(l.getD i z0).dep=d/\(l.getD i z0).day=y
  ·obtain⟨e1,e2⟩:=e;rw[if_pos (by rw[e1,e2]),if_pos ⟨e1,e2⟩,e1,e2];omega
  ·rw[if_neg (fun h=>e (by simp only[List.cons.injEq,and_true]at h;exact⟨h.1.symm,h.2.symm⟩)),if_neg e];omega
theorem jc5{t:Tab}(h:Shape 3 t)(k:List Int):mget t k=some [vof t k]\/(mget t k=none/\vof t k=0):=by
 unfold vof;cases hm:mget t k with
 | none=>exact .inr ⟨rfl,rfl⟩
 | some v=>
  have:=(h _ (jiu hm)).2
  match v,this with
  | [x],_=>exact .inl rfl
theorem psum_bound{l:List Quo}(h:∀q∈l,1<=q.kg/\q.kg<=1000000)(d y:Int):0<=psum l d y/\psum l d y<=l.length*1000000:=by
 induction l with
 | nil=>simp[psum]
 | cons q l ih=>
  have h1:=ih fun q hq=>h q (List.mem_cons_of_mem _ hq);have h2:=h q List.mem_cons_self;rw[psum,List.length_cons];split<;>omega
section
variable{r:Rts}
theorem ck1(h:inR r.n 0 20=false):jao r=1:=by unfold jao;rw[if_pos h]
theorem ck2(h:inR r.n 0 20=true)(h2:20<(r.cap.length:Int)\/300<(r.held.length:Int)\/300<(r.used.length:Int)):jao r=6:=by unfold jao;rw[if_neg (by rw[h];decide),if_pos h2]
theorem ck3(h:inR r.n 0 20=true)(h2:¬(20<(r.cap.length:Int)\/300<(r.held.length:Int)\/300<(r.used.length:Int)))(h3:jb4 (capE r) r.cap.length≠0):jao r=20:=by
 unfold jao;rw[if_neg (by rw[h];decide),if_neg h2,if_pos h3]
theorem ck4(h:inR r.n 0 20=true)(h2:¬(20<(r.cap.length:Int)\/300<(r.held.length:Int)\/300<(r.used.length:Int)))(h3:jb4 (capE r) r.cap.length=0):
  jao r=if listE r r.held≠0 then listE r r.held else if listE r r.used≠0 then listE r r.used else if jb4 (dayE r) r.held.length≠0 then 20 else jb4 (useE r) r.used.length:=by
 unfold jao;rw[if_neg (by rw[h];decide),if_neg h2,if_neg (fun e=>e h3)]
end
theorem q_check0(r:Rts)(hc:r.cap.length<=100000)(hh:r.held.length<=100000)(hu:r.used.length<=100000)
  (h:¬(inR r.n 0 20=true/\¬(20<(r.cap.length:Int)\/300<(r.held.length:Int)\/300<(r.used.length:Int))/\jb4 (capE r) r.cap.length=0)):Ctr G.P 8 [.agg (rtC r)] (· = .int (jao r)):=by
 rcases h1:inR r.n 0 20 with _ | _
 ·have k1:=q_in r.n 0 20;rw[h1]at k1;rw[ck1 h1];unfold rtC;refine ja8 good _ _ [.tmp 2] Try.func8 rfl rfl (by decide+kernel) rfl ?_;simp only[go_sem];refine ja0 k1 (by decide) ?_;simp only[go_sem]
 have k1:=q_in r.n 0 20;rw[h1]at k1;by_cases h2:20<(r.cap.length:Int)\/300<(r.held.length:Int)\/300<(r.used.length:Int)
 ·rw[ck2 h1 h2];unfold rtC;rcases a1:decide (20<(r.cap.length:Int))with _ | _
  ·rcases a2:decide (300<(r.held.length:Int))with _ | _
   ·have a3:decide (300<(r.used.length:Int))=true:=decide_eq_true (by
     have:=of_decide_eq_false a1;have:=of_decide_eq_false a2;omega)
    refine ja8 good _ _ [.tmp 2] Try.func8 rfl rfl (by decide+kernel) rfl ?_;simp only[go_sem];refine ja0 k1 (by decide) ?_;simp only[a1,a2,a3,List.length_map,go_sem]
   ·refine ja8 good _ _ [.tmp 2] Try.func8 rfl rfl (by decide+kernel) rfl ?_;simp only[go_sem];refine ja0 k1 (by decide) ?_;simp only[a1,a2,List.length_map,go_sem]
  ·refine ja8 good _ _ [.tmp 2] Try.func8 rfl rfl (by decide+kernel) rfl ?_;simp only[go_sem];refine ja0 k1 (by decide) ?_;simp only[a1,List.length_map,go_sem]
 have h3:jb4 (capE r) r.cap.length≠0:=fun e=>h ⟨h1,h2,e⟩;have a1:decide (20<(r.cap.length:Int))=false:=decide_eq_false (by omega);have a2:decide (300<(r.held.length:Int))=false:=decide_eq_false (by omega);have a3:decide (300<(r.used.length:Int))=false:=decide_eq_false (by omega);rw[ck3 h1 h2 h3];have hcap:∀i,capE r i=if inR (r.cap.getD i 0) 0 1000000=false then 20 else 0:=fun i=>rfl
 have hfin:¬∀j,j<r.cap.length->capE r j=0:=fun hj=>h3 (jcp hj);obtain⟨rc,hrc⟩:∃rc,rc=r.cap:=⟨_,rfl⟩;rw[<-hrc]at hcap hfin hc;unfold rtC;rw[<-hrc]at a1⊢;refine ja8 good _ _ [.tmp 2] Try.func8 rfl rfl (by decide+kernel) rfl ?_;simp only[go_sem];refine ja0 k1 (by decide) ?_;simp only[a1,a2,a3,List.length_map,go_sem];refine jbb [37,38,39] [] (fun i:Nat=>⟨[(37,.im (ints rc)),(38,.im (.int rc.length)),(39,.im (.int i))],[],[]⟩)
  (fun i=>i<=rc.length/\∀j,j<i->capE r j=0) (fun i=>rc.length-i) 0 ?_ ⟨Nat.zero_le _,fun j hj=>absurd hj (by omega)⟩ ?_
 ·simp only[Int.natCast_zero,go_sem]
 intro i ⟨hi,he⟩;by_cases hp:(i:Int)<rc.length
 ·have hd:decide ((i:Int)<rc.length)=true:=decide_eq_true hp;have hi0:(0:Int)<=i:=by omega
  have hn2:((i:Nat):Int).toNat=i:=Int.toNat_natCast i;have hx:=get_i (l:=rc) (i:=i) (by omega);have hw:=jad (n:=(i:Int)+1) (by omega);have k2:=q_in (rc.getD i 0) 0 1000000;have hci:=hcap i;generalize rc.getD i 0=x at*;generalize inR x 0 1000000=b at*;simp only[hd,hi0,hp,hn2,List.getElem?_map,hx,List.length_map,go_sem];refine ja0 k2 (by decide) ?_;cases b
  ·simp only[go_sem]
  ·simp only[go_sem];refine jaa (i+1) ?_ (by omega) ⟨by omega,fun j hj=> ?_⟩
   ·simp only[hw,Int.natCast_add,go_sem]
   ·by_cases e:j=i
    ·rw[e,hci,if_neg (by decide)]
    ·exact he j (by omega)
 ·exact absurd (fun j hj=>he j (by omega)) hfin
theorem q_check1(r:Rts)(h1:inR r.n 0 20=true)(h2:¬(20<(r.cap.length:Int)\/300<(r.held.length:Int)\/300<(r.used.length:Int)))(h3:jb4 (capE r) r.cap.length=0):Ctr G.P 8 [.agg (rtC r)] (· = .int (jao r)):=by
 have k1:=q_in r.n 0 20;rw[h1]at k1;have hn:=inR_iff.1 h1;have hcapl:r.cap.length<=20:=by omega
 have hhl:r.held.length<=300:=by omega
 have hul:r.used.length<=300:=by omega
 have a1:decide (20<(r.cap.length:Int))=false:=decide_eq_false (by omega);have a2:decide (300<(r.held.length:Int))=false:=decide_eq_false (by omega);have a3:decide (300<(r.used.length:Int))=false:=decide_eq_false (by omega);have hcap:∀i,i<r.cap.length->inR (r.cap.getD i 0) 0 1000000=true:=fun i hi=>by
  have:=firstE_zero.1 h3 i hi;unfold capE at this;split at this
  ·cases this
  ·rename_i e;simpa using e
 have kh:=q_list r r.held (by omega) (by omega) (by omega);have ku:=q_list r r.used (by omega) (by omega) (by omega);have hH:listE r r.held=0->ListOk r r.held:=listE_zero.1;have hU:listE r r.used=0->ListOk r r.used:=listE_zero.1;have hday:∀i,dayE r i=if r.cap.getD (r.held.getD i z0).dep.toNat 0<psum (r.held.take (i+1)) (r.held.getD i z0).dep (r.held.getD i z0).day then 20 else 0:=fun i=>rfl
 have huse:∀i,useE r i=if vof (tabL r.held) (r.used.getD i z0).k<(r.used.getD i z0).kg then 7 else 0:=fun i=>rfl
 rw[ck4 h1 h2 h3];generalize listE r r.held=e1 at*;generalize listE r r.used=e2 at*;have hth:∀q∈r.held,r.there q.com q.dep q.day=true->0<=q.dep/\q.dep<r.cap.length:=fun q _ h=>(there_iff.1 h).2.1;have hHo:e1=0->(∀q∈r.held,(0<=q.dep/\q.dep<r.cap.length)/\(1<=q.kg/\q.kg<=1000000))/\Asc r.held:=fun h=>⟨fun q hq=>⟨hth q hq ((hH h).there q hq),(hH h).kg q hq⟩,(hH h).asc⟩;have he3:∀i,(∀j,j<i->dayE r j=0)->i<r.held.length->dayE r i≠0->jb4 (dayE r) r.held.length≠0:=fun i h h' h''=>by rw[jgi h h' h''];exact h''
 have he30:(∀j,j<r.held.length->dayE r j=0)->jb4 (dayE r) r.held.length=0:=jcp;have he4:∀i,(∀j,j<i->useE r j=0)->i<r.used.length->useE r i≠0->jb4 (useE r) r.used.length=useE r i:=fun i h h' h''=>jgi h h' h'';have he40:(∀j,j<r.used.length->useE r j=0)->jb4 (useE r) r.used.length=0:=jcp;generalize jb4 (dayE r) r.held.length=e3 at*;generalize jb4 (useE r) r.used.length=e4 at*;have kT:=fun h=>jg5 r.held h (by omega);unfold rtC at*;generalize dayE r=dE at*;generalize useE r=uE at*;generalize r.cap=rc at*;generalize r.held=H at*;generalize r.used=U at*;generalize r.n=rn at*;clear h1 h2 h3 hH hU hth;refine ja8 good _ _ [.tmp 2] Try.func8 rfl rfl (by decide+kernel) rfl ?_;simp only[go_sem];refine ja0 k1 (by decide) ?_;simp only[a1,a2,a3,List.length_map,go_sem];refine jbb [1,37,38,39] [1] (fun i:Nat=>⟨[(1,.loc 1 4 0 0),(37,.im (ints rc)),(38,.im (.int rc.length)),(39,.im (.int i))],[(1,4,[[.int rn,ints rc,.sl (H.map qC),.sl (U.map qC)]])],[]⟩)
  (fun i=>i<=rc.length) (fun i=>rc.length-i) 0 ?_ (Nat.zero_le _) ?_
 ·simp only[Int.natCast_zero,go_sem]
 intro i hi;by_cases hp:(i:Int)<rc.length
 ·have hd:decide ((i:Int)<rc.length)=true:=decide_eq_true hp;have hi0:(0:Int)<=i:=by omega
  have hn2:((i:Nat):Int).toNat=i:=Int.toNat_natCast i;have hx:=get_i (l:=rc) (i:=i) (by omega);have hw:=jad (n:=(i:Int)+1) (by omega);have k2:=q_in (rc.getD i 0) 0 1000000;rw[hcap i (by omega)]at k2;generalize rc.getD i 0=x at*;simp only[hd,hi0,hp,hn2,List.getElem?_map,hx,List.length_map,go_sem];refine ja0 k2 (by decide) ?_;simp only[go_sem];refine jaa (i+1) ?_ (by omega) (by omega);simp only[hw,Int.natCast_add,go_sem]
 have hd:decide ((i:Int)<rc.length)=false:=decide_eq_false hp;clear hcap;simp only[hd,go_sem];refine ja0 kh (by decide) ?_;by_cases g1:e1=0
 case neg=>
  have d1:decide (e1=0)=false:=decide_eq_false g1;rw[if_pos g1];simp only[d1,go_sem]
 obtain⟨hq,ha⟩:=hHo g1;have kT:=kT ha;subst g1;simp only[go_sem];refine ja0 ku (by decide) ?_;by_cases g2:e2=0
 case neg=>
  have d2:decide (e2=0)=false:=decide_eq_false g2;rw[if_neg (by decide),if_pos g2];simp only[d2,go_sem]
 subst g2;rw[if_neg (by decide),if_neg (by decide)];simp only[List.length_map,go_sem];refine jbb [1,7,63,64,65] [1,61] (fun i:Nat=>⟨[(1,.loc 1 4 0 0),(7,.mpo 61 (3,true) (dayT H i)),(63,.im (.sl (H.map qC))),(64,.im (.int H.length)),(65,.im (.int i))],[(1,4,[[.int rn,ints rc,.sl (H.map qC),.sl (U.map qC)]])],[(61,0,0)]⟩)
  (fun i=>i<=H.length/\∀j,j<i->dE j=0) (fun i=>H.length-i) 0 ?_ ⟨Nat.zero_le _,fun j hj=>absurd hj (by omega)⟩ ?_
 ·simp only[Int.natCast_zero,dayT,List.take_zero,List.foldl_nil,go_sem]
 intro i ⟨hi,he⟩;by_cases hp:(i:Int)<H.length
 ·have hd:decide ((i:Int)<H.length)=true:=decide_eq_true hp;have hi0:(0:Int)<=i:=by omega
  have hn2:((i:Nat):Int).toNat=i:=Int.toNat_natCast i;have hx:=getq (l:=H) (i:=i) (by omega);have hw:=jad (n:=(i:Int)+1) (by omega);obtain⟨⟨q1,q2⟩,q3,q4⟩:=hq _ (jeo (l:=H) (i:=i) (by omega));obtain⟨s1,s2⟩:=jjk H i (by omega);obtain⟨s3,s4⟩:=jjk H (i+1) (by omega);have hs:=(jj4 (l:=H) (i:=i) (by omega)).symm;have hdd:=hday i;rw[<-s4]at hdd;have hb:=psum_bound (l:=H.take i) (fun q hq'=>(hq q (List.mem_of_mem_take hq')).2) (H.getD i z0).dep (H.getD i z0).day;rw[<-s2]at hb;have hlen:(H.take i).length<=300:=by rw[List.length_take];omega
  have hv:=jad (n:=vof (dayT H i) [(H.getD i z0).dep,(H.getD i z0).day,0]+(H.getD i z0).kg) (by omega);have hm:=jc5 s1 [(H.getD i z0).dep,(H.getD i z0).day,0];have hm2:mget (dayT H (i+1)) [(H.getD i z0).dep,(H.getD i z0).day,0]=some [vof (dayT H (i+1)) [(H.getD i z0).dep,(H.getD i z0).day,0]]:=by
   rw[<-hs,jhw,if_pos rfl,je7,if_pos rfl]
  have hcx:=get_i (l:=rc) (i:=(H.getD i z0).dep.toNat) (by omega);generalize hqq:H.getD i z0=q at*;generalize hV:vof (dayT H i) [q.dep,q.day,0]=V at*;generalize hV2:vof (dayT H (i+1)) [q.dep,q.day,0]=V2 at*;generalize hT2:dayT H (i+1)=T2 at*;generalize hT1:dayT H i=T1 at*;generalize rc.getD q.dep.toNat 0=cx at*;simp only[hd,hi0,hp,hn2,List.getElem?_map,hx,hT1,List.length_map,go_sem];refine jdx 8 6 7 61 T1 [q.dep,q.day,0] rfl rfl rfl (by decide+kernel) (by decide) rfl rfl rfl (by decide+kernel) rfl ?_;rcases hm with hm | ⟨hm,hm0⟩
  ·simp only[hm,hv,hs,go_sem];refine jb0 10 (by decide+kernel) ?_;simp only[hm2,q1,q2,hcx,List.getElem?_map,List.length_map,go_sem];refine jcr (fun d3 h3=> ?_) (fun d3 h3=> ?_)
   ·rw[if_pos (he3 i he (by omega) (by rw[hdd,if_pos h3];decide))];simp only[go_sem]
   ·simp only[go_sem];refine jaa (i+1) ?_ (by omega) ⟨by omega,fun j hj=> ?_⟩
    ·simp only[hw,hT2,Int.natCast_add,go_sem]
    ·by_cases e:j=i
     ·rw[e,hdd,if_neg h3]
     ·exact he j (by omega)
  ·subst hm0;simp only[hm,hv,hs,go_sem];refine jb0 10 (by decide+kernel) ?_;simp only[hm2,q1,q2,hcx,List.getElem?_map,List.length_map,go_sem];refine jcr (fun d3 h3=> ?_) (fun d3 h3=> ?_)
   ·rw[if_pos (he3 i he (by omega) (by rw[hdd,if_pos h3];decide))];simp only[go_sem]
   ·simp only[go_sem];refine jaa (i+1) ?_ (by omega) ⟨by omega,fun j hj=> ?_⟩
    ·simp only[hw,hT2,Int.natCast_add,go_sem]
    ·by_cases e:j=i
     ·rw[e,hdd,if_neg h3]
     ·exact he j (by omega)
 have hd:decide ((i:Int)<H.length)=false:=decide_eq_false hp;obtain rfl:i=H.length:=by omega
 have he30:=he30 he;subst he30;rw[if_neg (by decide)];clear he he3 hday;simp only[hd,go_sem];refine ja0 kT (by decide) ?_;simp only[List.length_map,go_sem];refine jbb [11,97,98,99] [] (fun i:Nat=>⟨[(11,.im (.mp (3,true) (tabL H))),(97,.im (.sl (U.map qC))),(98,.im (.int U.length)),(99,.im (.int i))],[],[]⟩)
  (fun i=>i<=U.length/\∀j,j<i->uE j=0) (fun i=>U.length-i) 0 ?_ ⟨Nat.zero_le _,fun j hj=>absurd hj (by omega)⟩ ?_
 ·simp only[Int.natCast_zero,go_sem]
 intro i ⟨hi,he⟩;by_cases hp:(i:Int)<U.length
 ·have hd:decide ((i:Int)<U.length)=true:=decide_eq_true hp;have hi0:(0:Int)<=i:=by omega
  have hn2:((i:Nat):Int).toNat=i:=Int.toNat_natCast i;have hx:=getq (l:=U) (i:=i) (by omega);have hw:=jad (n:=(i:Int)+1) (by omega);have ho:=q_of (U.getD i z0);have hm:=jc5 (jat H) [(U.getD i z0).dep,(U.getD i z0).day,(U.getD i z0).com];have huu:=huse i;unfold Quo.k at huu;generalize U.getD i z0=q at*;generalize vof (tabL H) [q.dep,q.day,q.com]=V at*;simp only[hd,hi0,hp,hn2,List.getElem?_map,hx,List.length_map,go_sem];refine jb0 7 (by decide+kernel) ?_;simp only[go_sem];refine jal ho (by decide) ?_;rcases hm with hm | ⟨hm,hm0⟩
  ·simp only[hm,go_sem];refine jcr (fun d3 h3=> ?_) (fun d3 h3=> ?_)
   ·rw[if_pos h3]at huu;rw[he4 i he (by omega) (by rw[huu];decide),huu];simp only[go_sem]
   ·rw[if_neg h3]at huu;simp only[go_sem];refine jaa (i+1) ?_ (by omega) ⟨by omega,fun j hj=> ?_⟩
    ·simp only[hw,Int.natCast_add,go_sem]
    ·by_cases e:j=i
     ·rw[e,huu]
     ·exact he j (by omega)
  ·subst hm0;simp only[hm,go_sem];refine jcr (fun d3 h3=> ?_) (fun d3 h3=> ?_)
   ·rw[if_pos h3]at huu;rw[he4 i he (by omega) (by rw[huu];decide),huu];simp only[go_sem]
   ·rw[if_neg h3]at huu;simp only[go_sem];refine jaa (i+1) ?_ (by omega) ⟨by omega,fun j hj=> ?_⟩
    ·simp only[hw,Int.natCast_add,go_sem]
    ·by_cases e:j=i
     ·rw[e,huu]
     ·exact he j (by omega)
 have hd:decide ((i:Int)<U.length)=false:=decide_eq_false hp;obtain rfl:i=U.length:=by omega
 rw[he40 he];simp only[hd,go_sem]
theorem jdk(r:Rts)(hc:r.cap.length<=100000)(hh:r.held.length<=100000)(hu:r.used.length<=100000):Ctr G.P 8 [.agg (rtC r)] (· = .int (jao r)):=by
 by_cases h:inR r.n 0 20=true/\¬(20<(r.cap.length:Int)\/300<(r.held.length:Int)\/300<(r.used.length:Int))/\jb4 (capE r) r.cap.length=0
 ·exact q_check1 r h.1 h.2.1 h.2.2
 ·exact q_check0 r hc hh hu h
end
section
open Go.RowKit Go.Shelf Go.LQ
open Go.Abs (IV Rep RepL Ctr keyV elemV Ents Born)
def kC(q:Quo):List IV:=[.int q.dep,.int q.day,.int q.com]
def decK(v:Value):List Int:=match v with
 | .agg vs=>vs.toList.map fun x=>match x with | .int _ n=>n | _=>0
 | _=>[]
theorem ji7(k:List Int):decK (keyV k)=k:=by
 show List.map _ (List.map _ k)=k;rw[List.map_map];exact(List.map_congr_left fun n _=>rfl).trans (List.map_id k)
theorem dec_kv(x:KeyV):decK (.agg x.enc.toArray)=x.l:=rfl
def KeyV.q(x:KeyV):Quo:=⟨x.c,x.a,x.b,0⟩
theorem KeyV.q_k(x:KeyV):x.q.k=x.l:=rfl
theorem sorted_eq{t:LQ.Tab}(hs:Shape 3 t)(hd:Dist t){xs:List KeyV}(hp:(xs.map KeyV.l).Perm (t.map (·.1)))(hsort:∀(i j:Nat) (x y:KeyV),i<j->xs[i]? =some x->xs[j]? =some y->¬cmpL y.l x.l<0):
  xs.map KeyV.q=(quoL t).map fun q=>{q with kg:=0}:=by
 have hn:(xs.map KeyV.l).Nodup:=hp.nodup_iff.2 hd;refine jkl ?_ ?_ ?_
 ·have h1:=hp.map (fun k=>toQ (k,[0]));rw[List.map_map,List.map_map]at h1;have h2:=(jdj t).symm.map fun q=>{q with kg:=0};rw[List.map_map]at h2;exact h1.trans h2
 ·refine List.pairwise_map.2 (List.pairwise_iff_getElem.2 fun i j hi hj hij=> ?_);have h1:=hsort i j xs[i] xs[j] hij (List.getElem?_eq_getElem hi) (List.getElem?_eq_getElem hj);rw[KeyV.q_k,KeyV.q_k];have h2:=cmpL_flip xs[i].l xs[j].l;rcases cmpL_cases xs[i].l xs[j].l with e | e | e
  ·omega
  ·have:=List.pairwise_iff_getElem.1 hn i j (by simpa using hi) (by simpa using hj) hij;simp only[List.getElem_map]at this;exact absurd (cmpL_eq e) this
  ·omega
 ·exact List.pairwise_map.2 ((jhp hs hd).imp fun{a b} h=>h)
theorem jgl{kvs:LQ.Tab}{es:Array MapEntry}(h:Ents (3,true) kvs es):es.toList.map (·.key)=kvs.map fun p=>keyV p.1:=by
 have:=congrArg (List.map Prod.fst) h.2;rw[List.map_map,List.map_map]at this;exact this
theorem ents_key{kvs:LQ.Tab}{es:Array MapEntry}(h:Ents (3,true) kvs es):∀e∈es.toList,∃x:KeyV,e.key= .agg x.enc.toArray:=fun e he=>by
 have hm:e.key∈kvs.map fun p=>keyV p.1:=by rw[<-jgl h];exact List.mem_map.2 ⟨e,he,rfl⟩
 obtain⟨p,hp,e1⟩:=List.mem_map.1 hm;have hl:=h.1 p hp;obtain⟨k,v⟩:=p
 match k,hl with
 | [a,b,c],_=>exact⟨⟨a,b,c⟩,e1.symm⟩
theorem jk8{xs:List KeyV}{i j:Nat}{e:List IV}{x:IV}(h1:(xs.map fun x=>kC x.q)[i]? =some e)(h2:e[j]? =some x):∃y n,xs[i]? =some y/\j<3/\x= .int n/\y.enc[j]? =some (.int .i64 n):=by
 rw[List.getElem?_map,Option.map_eq_some_iff]at h1;obtain⟨y,hy,rfl⟩:=h1
 match j,h2 with
 | 0,h2=>cases h2;exact⟨y,y.a,hy,by decide,rfl,rfl⟩
 | 1,h2=>cases h2;exact⟨y,y.b,hy,by decide,rfl,rfl⟩
 | 2,h2=>cases h2;exact⟨y,y.c,hy,by decide,rfl,rfl⟩
 | j+3,h2=>simp[kC]at h2
theorem row_rep{w w':World}{M:Nat->Nat->Prop}(hM:∀b o,M b o->b<w.heap.size){v:Value}{xs:List KeyV}(h:w'.ownsRow w.heap.size 68 3 v xs.length (encs xs)):Rep w' M (.sl (xs.map fun x=>kC x.q)) v:=by
 rcases h.2 with ⟨rfl,h0⟩ | ⟨g,cap,cur,rfl,hg,hcur,hk1,hk2,hcs,htake⟩
 ·rw[List.length_eq_zero_iff.1 h0];exact .nil _ _
 ·by_cases hx:xs=[]
  ·subst hx;exact .nil _ _
  have hl:(xs.map fun x=>kC x.q).length=xs.length:=List.length_map ..;have key:=Rep.sl (w:=w') (M:=M) (xs.map fun x=>kC x.q) 3 g 0 cap (fun i j=>(encs xs).getD (i*3+j) undef) (fun e=>hx (by simpa using e)) (fun e he=>by obtain⟨x,_,rfl⟩:=List.mem_map.1 he;rfl) (by rw[hl];exact hk1)
   (fun i e j x h1 h2=>by
    obtain⟨y,n,hy,hj,rfl,hn⟩:=jk8 h1 h2;have hil:=(List.getElem?_eq_some_iff.1 hy).1;have h3:=jer hy hj;rw[hn]at h3;have h4:=h3;rw[<-htake,List.getElem?_take_of_lt (by omega),Array.getElem?_toList]at h4;refine⟨rfl,?_,fun hm=>by have:=hM _ _ hm;omega⟩;rw[show(0:Nat)+i*3+j=i*3+j by omega,List.getD_eq_getElem?_getD,h3];exact cell0 hcur h4)
   (fun i e j x h1 h2=>by
    obtain⟨y,n,hy,hj,rfl,hn⟩:=jk8 h1 h2;have h3:=jer hy hj;rw[hn]at h3;rw[List.getD_eq_getElem?_getD,h3];exact .sc _ rfl)
  rw[hl]at key;exact key
theorem sorted_ctr(t:LQ.Tab)(hs:Shape 3 t)(hd:Dist t)(hl:t.length<=1000000):
  Ctr Try.prog 38 [.clo 45 [.ip [.mp (3,true) t] 0],.clo 40 []] (· = .sl ((quoL t).map kC)):=fun w M vs hM hr=>by
 obtain⟨v1,_,rfl,r1,hr⟩:=hr.uncons;obtain⟨v2,_,rfl,r2,hr⟩:=hr.uncons;have:=hr.of_nil;subst this;obtain⟨us,rfl,hu⟩:=r1.clo_inv;obtain⟨u,_,hus,r3,hu⟩:=hu.uncons;have:=hu.of_nil;subst this;obtain⟨us2,rfl,hu2⟩:=r2.clo_inv;have hus2:=hu2.of_nil;have e1:us= #[u]:=Array.toList_inj.1 hus;have e2:us2= #[]:=Array.toList_inj.1 hus2;subst e1 e2;have fin:∀(b o:Nat) (ks:List Value),KeySeq w b o ks->ks=t.map (fun p=>keyV p.1)->Calls Try.prog 38 #[seqV b o,.func (.func 40) #[] #[]] w fun e w'=>∃r v,r= .sl ((quoL t).map kC)/\e= .returned v/\Rep w' M r v/\Below w.heap.size w w':=fun b o ks hks he=>by
  refine(sorted_calls hks).mono ?_;rintro e w' ⟨v,xs,rfl,⟨hp,hrow,hb⟩,hsort⟩;refine⟨_,v,rfl,rfl,?_,hb⟩;have h1:=hp.map decK;rw[he,List.map_map,List.map_map]at h1;have e3:xs.map (decK∘fun x:KeyV=>Value.agg x.enc.toArray)=xs.map KeyV.l:=List.map_congr_left fun x _=>dec_kv x;have e4:t.map (decK∘fun p=>keyV p.1)=t.map (·.1):=List.map_congr_left fun p _=>ji7 p.1;rw[e3,e4]at h1;have h2:=congrArg (List.map kC) (sorted_eq hs hd h1 hsort);rw[List.map_map,List.map_map]at h2;have h3:=row_rep hM hrow;rw[show(xs.map fun x=>kC x.q)=(quoL t).map kC from h2]at h3;exact h3
 cases r3 with
 | ip _ _ b o f h1 h2=>
  obtain⟨_,hc,hMn⟩:=h1 0 _ rfl;have hBm:b<w.heap.size:=World.block_lt_of_cell? (a:=⟨b,o+0,none⟩) w hc;have r4:=h2 0 _ rfl;generalize f 0=m at*;cases r4 with
  | mpn=>exact fin b (o+0) [] (keySeq_nil hBm hc) rfl
  | mp _ _ bm es c hb hMb hE hB=>
   refine fin b (o+0) _ (keySeq_map hB.1 hB.2 (ents_key hE) ?_ hBm hc hb) (jgl hE);have:=congrArg List.length hE.2;rw[List.length_map,List.length_map,Array.length_toList]at this;omega
end
section
open Go.Abs Go.LQ
attribute [local go_sem] ints ic qC rtC kC
theorem q_keys(t:LQ.Tab):Ctr G.P 39 [.mp (3,true) t] (· = .clo 45 [.ip [.mp (3,true) t] 0]):=by
 refine ja8 good _ _ [.tmp 2] Try.func39 rfl rfl (by decide+kernel) rfl ?_;simp only[go_sem]
theorem jjx(t:LQ.Tab)(hs:Shape 3 t)(hd:Dist t)(hl:t.length<=100000):Ctr G.P 27 [.mp (3,true) t] (· = .sl ((quoL t).map qC)):=by
 have kk:=q_keys t;have ks:Ctr G.P _ _ _:=sorted_ctr t hs hd (by omega);have hlen:=jho t;have hm:∀i,i<(quoL t).length->mget t [((quoL t).getD i z0).dep,((quoL t).getD i z0).day,((quoL t).getD i z0).com]=some [((quoL t).getD i z0).kg]:=fun i hi=>jfr hd ((jjw hs).1 (jeo hi));generalize quoL t=L at*;refine ja8 good _ _ [.tmp 2] Try.func27 rfl rfl (by decide+kernel) rfl ?_;simp only[go_sem];refine ja0 kk (by decide) ?_;simp only[go_sem];refine ja0 ks (by decide) ?_;simp only[List.length_map,go_sem];refine jbb [0,3,8,9,10] [26] (fun i:Nat=>⟨[(0,.im (.mp (3,true) t)),(3,if i=0 then .sx []else .vec 26 66 4 ((L.take i).map qC)),(8,.im (.sl (L.map kC))),(9,.im (.int L.length)),(10,.im (.int i))],[],if i=0 then []else [(26,4,i)]⟩)
  (fun i=>i<=L.length) (fun i=>L.length-i) 0 ?_ (Nat.zero_le _) ?_
 ·simp only[Int.natCast_zero,go_sem]
 intro i hi;by_cases hp:(i:Int)<L.length
 ·have hd:decide ((i:Int)<L.length)=true:=decide_eq_true hp;have hi0:(0:Int)<=i:=by omega
  have hn:((i:Nat):Int).toNat=i:=Int.toNat_natCast i;have hx:=getq (l:=L) (i:=i) (by omega);have hw:=jad (n:=(i:Int)+1) (by omega);have hmi:=hm i (by omega);have htk:=jjs (l:=L) (i:=i) (by omega);have htl:(L.take i).length=i:=by rw[List.length_take];omega
  have hlen:∀c∈(L.take i).map qC,c.length=4:=fun c hc=>by
   obtain⟨z,_,rfl⟩:=List.mem_map.1 hc;rfl
  generalize L.getD i z0=q at*;rcases i with _ | i
  ·simp only[Int.natCast_zero,Int.zero_add,Int.toNat_zero]at hd hp hn hw;simp only[hd,hi0,hp,hn,List.getElem?_map,hx,List.length_map,eq_self,Int.natCast_zero,go_sem];refine jb0 12 (by decide+kernel) ?_;simp only[hmi,eq_self,go_sem];refine⟨(fun c hc=>by cases hc),(fun c hc=>by rw[List.mem_singleton.1 hc];rfl),jaa 1 ?_ (by omega) (by omega)⟩;rw[List.take_zero,List.nil_append]at htk;have e1:((0+1:Nat)=0)=False:=by simp
   simp only[hw,htk,Int.natCast_add,Int.natCast_one,List.map_cons,List.map_nil,go_sem]
  ·have e0:((i+1:Nat)=0)=False:=by simp
   simp only[hd,hi0,hp,hn,List.getElem?_map,hx,List.length_map,eq_self,e0,go_sem];refine jb0 12 (by decide+kernel) ?_;simp only[hmi,eq_self,htl,go_sem];refine⟨hlen,(fun c hc=>by rw[List.mem_singleton.1 hc];rfl),by omega,jaa (i+1+1) ?_ (by omega) (by omega)⟩;have e1:((i+1+1:Nat)=0)=False:=by simp
   simp only[Int.natCast_add,Int.natCast_one]at hw;simp only[hw,e1,htk,Int.natCast_add,Int.natCast_one,List.map_append,List.map_cons,List.map_nil,go_sem]
 ·have hd:decide ((i:Int)<L.length)=false:=decide_eq_false hp;obtain rfl:i=L.length:=by omega
  rw[List.take_length];by_cases h0:L.length=0
  ·have hL:=List.length_eq_zero_iff.1 h0;subst hL;simp only[hd,eq_self,List.length_nil,List.map_nil,go_sem]
  ·have e0:(L.length=0)=False:=by simp[h0]
   simp only[hd,e0,go_sem]
end
end Go.Proofs.Ythahgoopboilkaa
namespace Go.Abs
section
section
variable{L R:Rows}{k d s b:Nat}{es:List (List IV)}
theorem jfv(h:blks L)(hd:d<100000):look L d=none:=by
 cases hl:look L d with
 | none=>rfl
 | some x=>obtain⟨b,e⟩:=h d x hl;unfold hp at e;omega
theorem filter_of_none(h:look L d=none):L.filter (fun p=>p.1 !=d)=L:=by
 induction L with
 | nil=>rfl
 | cons p L ih=>
  obtain⟨j,v⟩:=p;by_cases e:d=j
  ·subst e;rw[ja7]at h;cases h
  ·rw[ja5 _ _ e]at h;rw[List.filter_cons,ih h,if_pos (by simp only[bne_iff_ne,ne_eq];exact fun x=>e x.symm)]
theorem map_of_none(h:look L d=none):L.map (fun p=>if p.1=d then(p.1,s,es)else p)=L:=by
 induction L with
 | nil=>rfl
 | cons p L ih=>
  obtain⟨j,v⟩:=p;by_cases e:d=j
  ·subst e;rw[ja7]at h;cases h
  ·rw[ja5 _ _ e]at h;rw[List.map_cons,ih h,if_neg (fun x=>e x.symm)]
theorem jhe(h:blks L)(hd:d<100000):L.filter (fun p=>p.1 !=d)=L:=filter_of_none (jfv h hd)
theorem blk_map(h:blks L)(hd:d<100000):L.map (fun p=>if p.1=d then(p.1,s,es)else p)=L:=map_of_none (jfv h hd)
theorem jgq(h:blks L):blks ((hp b,s,es)::L):=fun j x hj=>by
 by_cases e:j=hp b
 ·exact⟨b,e⟩
 ·rw[ja5 _ _ e]at hj;exact h j x hj
theorem ji9:blks []:=fun _ _ h=>by cases h
theorem blks_del(h:blks L):blks (del L d):=fun j x hj=>by
 by_cases e:j=d
 ·subst e;rw[ja2]at hj;cases hj
 ·rw[ja3 _ e]at hj;exact h j x hj
theorem jbg:SubR [] R:=fun _ _ h=>by cases h
theorem jev{R':Rows}{p:Nat×Nat×List (List IV)}(h:look R' p.1=none)(hs:SubR R' R):SubR R' (p::R):=fun k x hk=>by
 obtain⟨j,v⟩:=p;rw[ja5 _ _ (fun e=>by subst e;rw[h]at hk;cases hk)];exact hs k x hk
end
section
variable{R:Rows}
theorem RetB_of{G:Ctx}{rs:List ResultVar}{st:St}{φ:AV->Rows->Prop}(L':Rows)(hb:blks L')(hs:SubR L' st.rows)(h:je6 G rs (fun r=>φ r L') st): @RetH G rs st ⟨φ⟩:=
 RetH_of L' (fun k x hk=>⟨by obtain⟨b,rfl⟩:=hb k x hk;unfold hp;omega,hs k x hk⟩) h
end
section
variable{α β:Type}{n:Nat}{f g:Nat->α}
end
theorem bF{L:Rows}(hb:blks L)(d:Nat)(h:d<100000):L.filter (fun p=>p.1 !=d)=L:=jhe hb h
theorem bN{L:Rows}(hb:blks L)(d:Nat)(h:d<100000):look L d=none:=jfv hb h
theorem bK{L:Rows}(hb:blks L)(d s:Nat)(es:List (List IV))(h:d<100000):L.map (fun p=>if p.1=d then(p.1,s,es)else p)=L:=blk_map hb h
end
section
open Go.RowKit (Below)
def isSp(o:Oper):Bool:=
 match o.op with
 | .call c=>match c.callee with
  | .value _=>true
  | .builtin b=>match b with
   | .append=>true
   | _=>false
  | _=>false
 | _=>false
def spY(G:Ctx)(st:St)(o:Oper)(T:AV->Rows->Prop):Prop:=if isSp o=true then sp G st o T else aq G st o fun av=>T av st.rows
def spListY(G:Ctx)(Rs:Rows)(K:St->Prop):List Oper->St->Prop
 | [],st=>K st
 | o::r,st=>o.guard=none/\spY G st o fun av R'=>(∀k x,look Rs k=some x->look R' k=some x)/\spListY G Rs K r ((⟨st.fr,R',st.toks⟩:St).put o.dst av)
section
variable{G:Ctx}{N:Nat}{w0:Base}{w w':World}{M0:Nat->Nat->Prop}{β:Nat->Option Nat}{st st':St}{a:Act}{ops:List Oper}
end
section
variable{G:Ctx}
def spListYN(G:Ctx)(ops:List Oper)(K:St->Prop)(Rs:Rows)(d:Nat)(z:List IV)(sps l:List Oper)(st:St):Prop:=
 spListY G Rs (fun s'=>NewH (fun s''=>alist G ops K l s'') s' z.length [z] d (fun b=> .loc (hp b) z.length 0 0)) sps st
theorem spListYN_nil(ops:List Oper)(K:St->Prop)(Rs:Rows)(d:Nat)(z:List IV)(l:List Oper)(st:St):spListYN G ops K Rs d z [] l st=NewP z.length [z] d (K:=⟨fun s=>alist G ops K l s⟩) (A:=⟨(st,fun b=> .loc (hp b) z.length 0 0)⟩):=rfl
end
attribute [go_sem ↓] spListYN_nil
end
section
open Go.RowKit (Below)
def jdi(G:Ctx)(t:TypeId)(p x:AV)(R:Rows)(T:AV->Rows->Prop):Prop:=
 match x,p.dp with
 | .im y,.loc d s i j=>match look R d with
  | some (s',es)=>match es[i]? with
   | some c=>s'=s/\(G.ti t).size≠0/\(cellsOf y).length=(G.ti t).size/\(cellsOf y).all IV.one=true/\j+(G.ti t).size<=c.length/\
     T jas (setRow R d s (es.set i (jah c j (cellsOf y))))
   | none=>False
  | none=>False
 | _,_=>False
def spZ(G:Ctx)(st:St)(o:Oper)(T:AV->Rows->Prop):Prop:=
 match o.op with
 | .store t p x=>jdi G t (evO st p) (evO st x) st.rows T
 | _=>if isSp o=true then sp G st o T else aq G st o fun av=>T av st.rows
def spZ1(G:Ctx)(st:St)(o:Oper)(T:AV->Rows->Prop):Prop:=
 match o.op with
 | .store t p x=>jdi G t (evO st p) (evO st x) st.rows T
 | _=>if isSp o=true then sp G st o T else ∃av,qVal G st o av/\T av st.rows
def jfb(ops:Array Oper):Nat->Nat->Nat->Bool
 | 0,j,i=>Region.waitsFor .any ops j i
 | f+1,j,i=>Region.waitsFor .any ops j i || (List.range j).any fun l=>Region.waitsFor .any ops j l&&jfb ops f l i
theorem waitsT_listed{ops:Array Oper}{n:Nat}{listed:Array Bool}(inv:HeadInv .any ops n listed)(hw:∀j i,Region.waitsFor .any ops j i=true->listed.getD j false=true->listed.getD i false=true):
  ∀(f j i:Nat),jfb ops f j i=true->listed.getD j false=true->listed.getD i false=true:=by
 intro f
 induction f with
 | zero=>exact fun j i h hl=>hw j i h hl
 | succ f ih=>
  intro j i h hl;rw[jfb,Bool.or_eq_true]at h;rcases h with h | h
  ·exact hw j i h hl
  ·obtain⟨l,_,h2⟩:=List.any_eq_true.1 h;rw[Bool.and_eq_true]at h2;exact ih l i h2.2 (hw j l h2.1 hl)
theorem spZ_1{G:Ctx}{st:St}{o:Oper}{T:AV->Rows->Prop}(h:spZ G st o T):spZ1 G st o T:=by
 unfold spZ at h;unfold spZ1;split at h
 ·exact h
 ·by_cases hs:isSp o=true
  ·rw[if_pos hs]at h⊢;exact h
  ·rw[if_neg hs]at h⊢;obtain⟨av,h1,h2⟩:=jce h;exact⟨av,h1,h2⟩
def isStZ(o:Oper):Bool:=
 match o.op with
 | .store _ _ _=>true
 | _=>false
def stZ(ops:Array Oper)(m:List Bool):Bool:=(List.range m.length).all fun i=>(List.range m.length).all fun j=> !(m.getD i false) || m.getD j false || (match ops[i]?,ops[j]? with
 | some oi,some oj=> !isStZ oi || !jd6 oj || Region.waitsFor .any ops i j
 | _,_=>true)
section
variable{G:Ctx}{N:Nat}{w0:Base}{w w':World}{M0:Nat->Nat->Prop}{β:Nat->Option Nat}{st st':St}{a:Act}{ops:List Oper}
theorem spZ_congr{o:Oper}{T:AV->Rows->Prop}(h:∀t∈o.looksAt ops.toArray,st.get t=st'.get t)(hr:st.rows=st'.rows)(ht:st.toks=st'.toks)(hs:spZ1 G st o T):spZ1 G st' o T:=by
 have hx:∀x∈o.op.operands,evO st x=evO st' x:=fun x hx=>jbc fun t ht=>h t (jac hx ht);unfold spZ1 at hs⊢;split at hs
 ·rename_i t p x ho;rw[ho]at hx;rw[<-hx p (by simp[Op.operands]),<-hx x (by simp[Op.operands]),<-hr];exact hs
 ·by_cases hp:isSp o=true
  ·rw[if_pos hp]at hs⊢;exact sp_congr h hr hs
  ·rw[if_neg hp]at hs⊢;obtain⟨av,h1,h2⟩:=hs;exact⟨av,jdz h hr ht h1,hr▸h2⟩
theorem spZ_sound(hG:G.Good)(h:Sim N w0 M0 β st a w){o:Oper}{T:AV->Rows->Prop}(hd:∀d,o.dst=some d->d<N)(hA:spZ1 G st o T){K':Act->World->Prop}{Q':Exit->Act->World->Prop}
  (hK:∀av R' β' a' w',T av R'->Sim N w0 M0 β' ((⟨st.fr,R',st.toks⟩:St).put o.dst av) a' w'->K' a' w'):o.wp G.P a w K' Q':=by
 unfold spZ1 at hA;split at hA
 ·rename_i t p x ho;have haop:aop G o (fun st'=>∃av R',st'=(⟨st.fr,R',st.toks⟩:St).put o.dst av/\T av R') st:=by
   unfold aop;rw[ho];dsimp only;unfold jdi at hA;split at hA
   ·rename_i y d s i j hx hp;have hl:st.lendO x=st:=by
     unfold St.lendO;rw[hx]
    rw[hl];unfold jhk;rw[hx,hp];dsimp only[ivE,ivOf];split at hA
    ·rename_i s' es hlk;rw[hlk];dsimp only;split at hA
     ·rename_i c hc;rw[hc];obtain⟨h1,h2,h3,h4,h5,h6⟩:=hA;exact⟨h1,h2,h3,h4,h5,_,_,rfl,h6⟩
     ·exact hA.elim
    ·exact hA.elim
   ·exact hA.elim
  refine jd7 hG h hd haop ?_;rintro st' β' a' w' ⟨av,R',rfl,hT⟩ hs;exact hK av R' β' a' w' hT hs
 ·by_cases hp:isSp o=true
  ·rw[if_pos hp]at hA;exact sp_sound hG h hd hA hK
  ·rw[if_neg hp]at hA;obtain⟨av,h1,h2⟩:=hA;refine jau hG h h1 fun v w2 hb hv=>hK av st.rows β _ w2 h2 ?_;exact(h.ext hb).put (dst:=o.dst) hd hv
end
section
variable{G:Ctx}
def jjm(G:Ctx)(t:TypeId)(p x:AV)(R:Rows)[T:Hold (Rows->Prop)]:Prop:=jdi G t p x R fun _ R'=>T.val R'
theorem jfc{t:TypeId}{p x:AV}{R:Rows}{T T':AV->Rows->Prop}(h:jdi G t p x R T)(hT:∀av R',T av R'->T' av R'):jdi G t p x R T':=by
 unfold jdi at h⊢;split at h
 ·split at h
  ·split at h
   ·obtain⟨h1,h2,h3,h4,h5,h6⟩:=h;exact⟨h1,h2,h3,h4,h5,hT _ _ h6⟩
   ·exact h.elim
  ·exact h.elim
 ·exact h.elim
theorem SpStore_loc(t:TypeId)(d s i j:Nat)(y:IV)(R:Rows)(T:Rows->Prop): @jjm G t (.loc d s i j) (.im y) R ⟨T⟩=Opt (look R d) (K:=⟨fun p=>Opt p.2[i]? (K:=⟨fun c=>p.1=s/\(G.ti t).size≠0/\(cellsOf y).length=(G.ti t).size/\(cellsOf y).all IV.one=true/\j+(G.ti t).size<=c.length/\
  T (setRow R d s (p.2.set i (jah c j (cellsOf y))))⟩)⟩):=by
 unfold jjm jdi Opt AV.dp;dsimp only;cases h:look R d with
 | none=>rfl
 | some p=>
  obtain⟨s',es⟩:=p;dsimp only;cases es[i]? <;>rfl
end
attribute [go_sem ↓] SpStore_loc
