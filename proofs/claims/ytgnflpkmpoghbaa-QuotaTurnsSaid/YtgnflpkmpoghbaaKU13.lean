/- A part of the proof. No further condition. -/
import Derived.Test.YtgnflpkmpoghbaaKU12
set_option linter.all false
set_option maxRecDepth 10000000
set_option maxHeartbeats 16000000
namespace Go.Proofs.Ytgnflpkmpoghbaa
section
open Go.Abs Go.LQ
attribute [local go_sem] ints ic qC rtC
theorem getq{l:List Quo}{i:Nat}(h:i<l.length):l[i]? =some (l.getD i z0):=by rw[gD _ h];exact List.getElem?_eq_getElem h
theorem jk1{l:List Quo}{i:Nat}(h:i<l.length):l.take (i+1)=l.take i++[l.getD i z0]:=by rw[List.take_add_one,getq h];rfl
def tabI(l:List Quo)(i:Nat):Tab:=(l.take i).foldl (fun t q=>mput t q.k [q.kg]) []
theorem tabI_succ{l:List Quo}{i:Nat}(h:i<l.length):tabI l (i+1)=mput (tabI l i) [(l.getD i z0).dep,(l.getD i z0).day,(l.getD i z0).com] [(l.getD i z0).kg]:=by
 unfold tabI;rw[jk1 h,List.foldl_append];rfl
theorem tabI_all{l:List Quo}(h:Asc l):tabI l l.length=tabL l:=by
 have:=jk2 h l.length (Nat.le_refl _);rw[List.take_length]at this;unfold tabI;rw[List.take_length];exact this
theorem ji4(l:List Quo)(ha:Asc l)(hl:l.length<=100000):CtrO G.P 17 [.sl (l.map qC)] (3,true) (tabL l):=by
 rw[<-tabI_all ha];refine ctro_go good _ _ [.tmp 2] Try.func17 rfl rfl (by decide+kernel) rfl ?_;simp only[List.length_map,go_sem];refine jbo [0,3,7,8,9] [6] (fun i:Nat=>⟨[(0,.im (.sl (l.map qC))),(3,.mpo 6 (3,true) (tabI l i)),(7,.im (.sl (l.map qC))),(8,.im (.int l.length)),(9,.im (.int i))],[],[(6,0,0)]⟩)
  (fun i=>i<=l.length) (fun i=>l.length-i) 0 ?_ (Nat.zero_le _) ?_
 ·simp only[Int.natCast_zero,tabI,List.take_zero,List.foldl_nil,go_sem]
 intro i hi;by_cases hp:(i:Int)<l.length
 ·have hd:decide ((i:Int)<l.length)=true:=decide_eq_true hp;have hi0:(0:Int)<=i:=by omega
  have hn:((i:Nat):Int).toNat=i:=Int.toNat_natCast i;have hx:=getq (l:=l) (i:=i) (by omega);have hw:=jb2 (n:=(i:Int)+1) (by omega);have ho:=q_of (l.getD i z0);have hs:=(tabI_succ (l:=l) (i:=i) (by omega)).symm;generalize l.getD i z0=q at*;generalize ht2:tabI l (i+1)=t2 at*;simp only[hd,hi0,hp,hn,List.getElem?_map,hx,List.length_map,go_sem];refine jbt 5 (by decide+kernel) ?_;simp only[go_sem];refine jal ho (by decide) ?_;simp only[hs,go_sem];refine jae (i+1) ?_ (by omega) (by omega);simp only[hw,ht2,Int.natCast_add,go_sem]
 ·have hd:decide ((i:Int)<l.length)=false:=decide_eq_false hp;obtain rfl:i=l.length:=by omega
  simp only[hd,go_sem]
theorem jgn(l:List Quo)(ha:Asc l)(hl:l.length<=100000):Ctr G.P 17 [.sl (l.map qC)] (· = .mp (3,true) (tabL l)):=(ji4 l ha hl).ctr
theorem q_list(r:Rts)(l:List Quo)(hn:0<=r.n/\r.n<=1000000)(hc:r.cap.length<=100000)(hl:l.length<=100000):Ctr G.P 16 [.agg (rtC r),.sl (l.map qC)] (· = .int (listE r l)):=by
 have hR:∃a b c d,rtC r=[.int a,.sl b,.sl c,.sl d]:=⟨_,_,_,_,rfl⟩;have kt:=fun c d y=>jjp r c d y hn hc;obtain⟨rn,rc,rh,ru,hR⟩:=hR;rw[hR]at kt⊢;refine jag good _ _ [.tmp 4] Try.func16 rfl rfl (by decide+kernel) rfl ?_;simp only[List.length_map,go_sem];refine jbo [1,2,9,10,11] [2] (fun i:Nat=>⟨[(1,.im (.sl (l.map qC))),(2,.loc 2 4 0 0),(9,.im (.sl (l.map qC))),(10,.im (.int l.length)),(11,.im (.int i))],[(2,4,[[.int rn,.sl rc,.sl rh,.sl ru]])],[]⟩)
  (fun i=>i<=l.length/\∀j,j<i->errQ r l j=0) (fun i=>l.length-i) 0 ?_ ⟨Nat.zero_le _,fun j hj=>absurd hj (by omega)⟩ ?_
 ·simp only[Int.natCast_zero,go_sem]
 intro i ⟨hi,he⟩;by_cases hp:(i:Int)<l.length
 ·have hd:decide ((i:Int)<l.length)=true:=decide_eq_true hp;have hi0:(0:Int)<=i:=by omega
  have hn2:((i:Nat):Int).toNat=i:=Int.toNat_natCast i;have hx:=getq (l:=l) (i:=i) (by omega);have hw:=jb2 (n:=(i:Int)+1) (by omega);have hw1:=jb2 (n:=(i:Int)-1) (by omega);have ho:=q_of (l.getD i z0);have k1:=kt (l.getD i z0).com (l.getD i z0).dep (l.getD i z0).day;have k2:=q_in (l.getD i z0).kg 1 1000000;have hE:∀e,errQ r l i=e->e≠0->listE r l=e:=fun e h1 h2=>by
   unfold listE;rw[jgy he (by omega) (by rw[h1];exact h2),h1]
  have hE0:errQ r l i=0->∀j,j<i+1->errQ r l j=0:=fun h j hj=>by
   by_cases e:j=i
   ·rw[e];exact h
   ·exact he j (by omega)
  have hdef:errQ r l i=if r.there (l.getD i z0).com (l.getD i z0).dep (l.getD i z0).day=false then 1 else if inR (l.getD i z0).kg 1 1000000=false then 3 else if 0<i/\0<=cmpL (l.getD (i-1) z0).k (l.getD i z0).k then 2 else 0:=rfl
  generalize hq:l.getD i z0=q at*;generalize r.there q.com q.dep q.day=b1 at*;generalize inR q.kg 1 1000000=b2 at*;simp only[hd,hi0,hp,hn2,List.getElem?_map,hx,List.length_map,go_sem];refine ja5 ho (by decide) ?_;simp only[go_sem];refine ja5 k1 (by decide) ?_;cases b1
  ·rw[hE 1 (by rw[hdef,if_pos rfl]) (by decide)];simp only[go_sem]
  simp only[go_sem];refine ja5 k2 (by decide) ?_;cases b2
  ·rw[hE 3 (by rw[hdef,if_neg (by decide),if_pos rfl]) (by decide)];simp only[go_sem]
  simp only[go_sem];by_cases h0:0<i
  ·have d0:decide ((0:Int)<i)=true:=decide_eq_true (by omega);have hy:=getq (l:=l) (i:=i-1) (by omega);have hop:=q_of (l.getD (i-1) z0);have kc:=q_cmpK (l.getD (i-1) z0) q;have hn3:((i:Int)-1).toNat=i-1:=by omega
   have h03:(0:Int)<=(i:Int)-1:=by omega
   have h04:(i:Int)-1<l.length:=by omega
   generalize l.getD (i-1) z0=p at*;simp only[d0,hw1,h03,h04,hn3,List.getElem?_map,hy,List.length_map,go_sem];refine ja5 hop (by decide) ?_;simp only[go_sem];refine DrawLe_of (jkg _ [8,7]) ?_;simp only[go_sem];refine jbt 4 (by decide+kernel) ?_;simp only[List.map_cons,List.map_nil,go_sem];refine jal kc (by decide) ?_;simp only[go_sem];refine jd3 (fun d2 h2=> ?_) (fun d2 h2=> ?_)
   ·rw[hE 2 (by rw[hdef,if_neg (by decide),if_neg (by decide),if_pos ⟨h0,h2⟩]) (by decide)];simp only[go_sem]
   ·simp only[go_sem];refine jae (i+1) ?_ (by omega) ⟨by omega,hE0 (by rw[hdef,if_neg (by decide),if_neg (by decide),if_neg (fun h=>h2 h.2)])⟩;simp only[hw,Int.natCast_add,go_sem]
  ·have d0:decide ((0:Int)<i)=false:=decide_eq_false (by omega);simp only[d0,go_sem];refine jae (i+1) ?_ (by omega) ⟨by omega,hE0 (by rw[hdef,if_neg (by decide),if_neg (by decide),if_neg (fun h=>h0 h.1)])⟩;simp only[hw,Int.natCast_add,go_sem]
 ·have hd:decide ((i:Int)<l.length)=false:=decide_eq_false hp;obtain rfl:i=l.length:=by omega
  have h0:listE r l=0:=jcy he;rw[h0];simp only[hd,go_sem]
end
section
open Go.Abs Go.LQ
attribute [local go_sem] ints ic qC
def dayT(l:List Quo)(i:Nat):Tab:=(l.take i).foldl (fun t q=>mput t [q.dep,q.day,0] [vof t [q.dep,q.day,0]+q.kg]) []
theorem jjd{l:List Quo}{i:Nat}(h:i<l.length):dayT l (i+1)=mput (dayT l i) [(l.getD i z0).dep,(l.getD i z0).day,0] [vof (dayT l i) [(l.getD i z0).dep,(l.getD i z0).day,0]+(l.getD i z0).kg]:=by
 unfold dayT;rw[jk1 h,List.foldl_append];rfl
theorem jjs(l:List Quo):∀i,i<=l.length->Shape 3 (dayT l i)/\∀d y,vof (dayT l i) [d,y,0]=psum (l.take i) d y
 | 0,_=>⟨fun p hp=>by simp[dayT]at hp,fun d y=>by simp[dayT,psum,vof,mget]⟩
 | i+1,h=>by
  obtain⟨h1,h2⟩:=jjs l i (by omega);rw[jjd (by omega),jk1 (by omega)];refine⟨jde h1 rfl rfl,fun d y=> ?_⟩;rw[jfi,jek,psum,psum,<-h2 d y];by_cases e:(l.getD i z0).dep=d/\(l.getD i z0).day=y
  ·obtain⟨e1,e2⟩:=e;rw[if_pos (by rw[e1,e2]),if_pos ⟨e1,e2⟩,e1,e2];omega
  ·rw[if_neg (fun h=>e (by simp only[List.cons.injEq,and_true]at h;exact⟨h.1.symm,h.2.symm⟩)),if_neg e];omega
theorem jce{t:Tab}(h:Shape 3 t)(k:List Int):mget t k=some [vof t k]\/(mget t k=none/\vof t k=0):=by
 unfold vof;cases hm:mget t k with
 | none=>exact .inr ⟨rfl,rfl⟩
 | some v=>
  have:=(h _ (jj4 hm)).2
  match v,this with
  | [x],_=>exact .inl rfl
theorem psum_bound{l:List Quo}(h:∀q∈l,1<=q.kg/\q.kg<=1000000)(d y:Int):0<=psum l d y/\psum l d y<=l.length*1000000:=by
 induction l with
 | nil=>simp[psum]
 | cons q l ih=>
  have h1:=ih fun q hq=>h q (List.mem_cons_of_mem _ hq);have h2:=h q List.mem_cons_self;rw[psum,List.length_cons];split<;>omega
section
variable{r:Rts}
theorem ck1(h:inR r.n 0 20=false):jao r=1:=by unfold jao;rw[if_pos h]
theorem ck2(h:inR r.n 0 20=true)(h2:20<(r.cap.length:Int)\/300<(r.held.length:Int)\/300<(r.used.length:Int)):jao r=6:=by unfold jao;rw[if_neg (by rw[h];decide),if_pos h2]
theorem ck3(h:inR r.n 0 20=true)(h2:¬(20<(r.cap.length:Int)\/300<(r.held.length:Int)\/300<(r.used.length:Int)))(h3:jba (capE r) r.cap.length≠0):jao r=20:=by
 unfold jao;rw[if_neg (by rw[h];decide),if_neg h2,if_pos h3]
theorem ck4(h:inR r.n 0 20=true)(h2:¬(20<(r.cap.length:Int)\/300<(r.held.length:Int)\/300<(r.used.length:Int)))(h3:jba (capE r) r.cap.length=0):
  jao r=if listE r r.held≠0 then listE r r.held else if listE r r.used≠0 then listE r r.used else if jba (dayE r) r.held.length≠0 then 20 else jba (useE r) r.used.length:=by
 unfold jao;rw[if_neg (by rw[h];decide),if_neg h2,if_neg (fun e=>e h3)]
end
theorem q_check0(r:Rts)(hc:r.cap.length<=100000)(hh:r.held.length<=100000)(hu:r.used.length<=100000)
  (h:¬(inR r.n 0 20=true/\¬(20<(r.cap.length:Int)\/300<(r.held.length:Int)\/300<(r.used.length:Int))/\jba (capE r) r.cap.length=0)):Ctr G.P 6 [.agg (rtC r)] (· = .int (jao r)):=by
 rcases h1:inR r.n 0 20 with _ | _
 ·have k1:=q_in r.n 0 20;rw[h1]at k1;rw[ck1 h1];unfold rtC;refine jag good _ _ [.tmp 2] Try.func6 rfl rfl (by decide+kernel) rfl ?_;simp only[go_sem];refine ja5 k1 (by decide) ?_;simp only[go_sem]
 have k1:=q_in r.n 0 20;rw[h1]at k1;by_cases h2:20<(r.cap.length:Int)\/300<(r.held.length:Int)\/300<(r.used.length:Int)
 ·rw[ck2 h1 h2];unfold rtC;rcases a1:decide (20<(r.cap.length:Int))with _ | _
  ·rcases a2:decide (300<(r.held.length:Int))with _ | _
   ·have a3:decide (300<(r.used.length:Int))=true:=decide_eq_true (by
     have:=of_decide_eq_false a1;have:=of_decide_eq_false a2;omega)
    refine jag good _ _ [.tmp 2] Try.func6 rfl rfl (by decide+kernel) rfl ?_;simp only[go_sem];refine ja5 k1 (by decide) ?_;simp only[a1,a2,a3,List.length_map,go_sem]
   ·refine jag good _ _ [.tmp 2] Try.func6 rfl rfl (by decide+kernel) rfl ?_;simp only[go_sem];refine ja5 k1 (by decide) ?_;simp only[a1,a2,List.length_map,go_sem]
  ·refine jag good _ _ [.tmp 2] Try.func6 rfl rfl (by decide+kernel) rfl ?_;simp only[go_sem];refine ja5 k1 (by decide) ?_;simp only[a1,List.length_map,go_sem]
 have h3:jba (capE r) r.cap.length≠0:=fun e=>h ⟨h1,h2,e⟩;have a1:decide (20<(r.cap.length:Int))=false:=decide_eq_false (by omega);have a2:decide (300<(r.held.length:Int))=false:=decide_eq_false (by omega);have a3:decide (300<(r.used.length:Int))=false:=decide_eq_false (by omega);rw[ck3 h1 h2 h3];have hcap:∀i,capE r i=if inR (r.cap.getD i 0) 0 1000000=false then 20 else 0:=fun i=>rfl
 have hfin:¬∀j,j<r.cap.length->capE r j=0:=fun hj=>h3 (jcy hj);obtain⟨rc,hrc⟩:∃rc,rc=r.cap:=⟨_,rfl⟩;rw[<-hrc]at hcap hfin hc;unfold rtC;rw[<-hrc]at a1⊢;refine jag good _ _ [.tmp 2] Try.func6 rfl rfl (by decide+kernel) rfl ?_;simp only[go_sem];refine ja5 k1 (by decide) ?_;simp only[a1,a2,a3,List.length_map,go_sem];refine jbo [37,38,39] [] (fun i:Nat=>⟨[(37,.im (ints rc)),(38,.im (.int rc.length)),(39,.im (.int i))],[],[]⟩)
  (fun i=>i<=rc.length/\∀j,j<i->capE r j=0) (fun i=>rc.length-i) 0 ?_ ⟨Nat.zero_le _,fun j hj=>absurd hj (by omega)⟩ ?_
 ·simp only[Int.natCast_zero,go_sem]
 intro i ⟨hi,he⟩;by_cases hp:(i:Int)<rc.length
 ·have hd:decide ((i:Int)<rc.length)=true:=decide_eq_true hp;have hi0:(0:Int)<=i:=by omega
  have hn2:((i:Nat):Int).toNat=i:=Int.toNat_natCast i;have hx:=get_i (l:=rc) (i:=i) (by omega);have hw:=jb2 (n:=(i:Int)+1) (by omega);have k2:=q_in (rc.getD i 0) 0 1000000;have hci:=hcap i;generalize rc.getD i 0=x at*;generalize inR x 0 1000000=b at*;simp only[hd,hi0,hp,hn2,List.getElem?_map,hx,List.length_map,go_sem];refine ja5 k2 (by decide) ?_;cases b
  ·simp only[go_sem]
  ·simp only[go_sem];refine jae (i+1) ?_ (by omega) ⟨by omega,fun j hj=> ?_⟩
   ·simp only[hw,Int.natCast_add,go_sem]
   ·by_cases e:j=i
    ·rw[e,hci,if_neg (by decide)]
    ·exact he j (by omega)
 ·exact absurd (fun j hj=>he j (by omega)) hfin
theorem q_check1(r:Rts)(h1:inR r.n 0 20=true)(h2:¬(20<(r.cap.length:Int)\/300<(r.held.length:Int)\/300<(r.used.length:Int)))(h3:jba (capE r) r.cap.length=0):Ctr G.P 6 [.agg (rtC r)] (· = .int (jao r)):=by
 have k1:=q_in r.n 0 20;rw[h1]at k1;have hn:=inR_iff.1 h1;have hcapl:r.cap.length<=20:=by omega
 have hhl:r.held.length<=300:=by omega
 have hul:r.used.length<=300:=by omega
 have a1:decide (20<(r.cap.length:Int))=false:=decide_eq_false (by omega);have a2:decide (300<(r.held.length:Int))=false:=decide_eq_false (by omega);have a3:decide (300<(r.used.length:Int))=false:=decide_eq_false (by omega);have hcap:∀i,i<r.cap.length->inR (r.cap.getD i 0) 0 1000000=true:=fun i hi=>by
  have:=firstE_zero.1 h3 i hi;unfold capE at this;split at this
  ·cases this
  ·rename_i e;simpa using e
 have kh:=q_list r r.held (by omega) (by omega) (by omega);have ku:=q_list r r.used (by omega) (by omega) (by omega);have hH:listE r r.held=0->ListOk r r.held:=listE_zero.1;have hU:listE r r.used=0->ListOk r r.used:=listE_zero.1;have hday:∀i,dayE r i=if r.cap.getD (r.held.getD i z0).dep.toNat 0<psum (r.held.take (i+1)) (r.held.getD i z0).dep (r.held.getD i z0).day then 20 else 0:=fun i=>rfl
 have huse:∀i,useE r i=if vof (tabL r.held) (r.used.getD i z0).k<(r.used.getD i z0).kg then 7 else 0:=fun i=>rfl
 rw[ck4 h1 h2 h3];generalize listE r r.held=e1 at*;generalize listE r r.used=e2 at*;have hth:∀q∈r.held,r.there q.com q.dep q.day=true->0<=q.dep/\q.dep<r.cap.length:=fun q _ h=>(there_iff.1 h).2.1;have hHo:e1=0->(∀q∈r.held,(0<=q.dep/\q.dep<r.cap.length)/\(1<=q.kg/\q.kg<=1000000))/\Asc r.held:=fun h=>⟨fun q hq=>⟨hth q hq ((hH h).there q hq),(hH h).kg q hq⟩,(hH h).asc⟩;have he3:∀i,(∀j,j<i->dayE r j=0)->i<r.held.length->dayE r i≠0->jba (dayE r) r.held.length≠0:=fun i h h' h''=>by rw[jgy h h' h''];exact h''
 have he30:(∀j,j<r.held.length->dayE r j=0)->jba (dayE r) r.held.length=0:=jcy;have he4:∀i,(∀j,j<i->useE r j=0)->i<r.used.length->useE r i≠0->jba (useE r) r.used.length=useE r i:=fun i h h' h''=>jgy h h' h'';have he40:(∀j,j<r.used.length->useE r j=0)->jba (useE r) r.used.length=0:=jcy;generalize jba (dayE r) r.held.length=e3 at*;generalize jba (useE r) r.used.length=e4 at*;have kT:=fun h=>jgn r.held h (by omega);unfold rtC at*;generalize dayE r=dE at*;generalize useE r=uE at*;generalize r.cap=rc at*;generalize r.held=H at*;generalize r.used=U at*;generalize r.n=rn at*;clear h1 h2 h3 hH hU hth;refine jag good _ _ [.tmp 2] Try.func6 rfl rfl (by decide+kernel) rfl ?_;simp only[go_sem];refine ja5 k1 (by decide) ?_;simp only[a1,a2,a3,List.length_map,go_sem];refine jbo [1,37,38,39] [1] (fun i:Nat=>⟨[(1,.loc 1 4 0 0),(37,.im (ints rc)),(38,.im (.int rc.length)),(39,.im (.int i))],[(1,4,[[.int rn,ints rc,.sl (H.map qC),.sl (U.map qC)]])],[]⟩)
  (fun i=>i<=rc.length) (fun i=>rc.length-i) 0 ?_ (Nat.zero_le _) ?_
 ·simp only[Int.natCast_zero,go_sem]
 intro i hi;by_cases hp:(i:Int)<rc.length
 ·have hd:decide ((i:Int)<rc.length)=true:=decide_eq_true hp;have hi0:(0:Int)<=i:=by omega
  have hn2:((i:Nat):Int).toNat=i:=Int.toNat_natCast i;have hx:=get_i (l:=rc) (i:=i) (by omega);have hw:=jb2 (n:=(i:Int)+1) (by omega);have k2:=q_in (rc.getD i 0) 0 1000000;rw[hcap i (by omega)]at k2;generalize rc.getD i 0=x at*;simp only[hd,hi0,hp,hn2,List.getElem?_map,hx,List.length_map,go_sem];refine ja5 k2 (by decide) ?_;simp only[go_sem];refine jae (i+1) ?_ (by omega) (by omega);simp only[hw,Int.natCast_add,go_sem]
 have hd:decide ((i:Int)<rc.length)=false:=decide_eq_false hp;clear hcap;simp only[hd,go_sem];refine ja5 kh (by decide) ?_;by_cases g1:e1=0
 case neg=>
  have d1:decide (e1=0)=false:=decide_eq_false g1;rw[if_pos g1];simp only[d1,go_sem]
 obtain⟨hq,ha⟩:=hHo g1;have kT:=kT ha;subst g1;simp only[go_sem];refine ja5 ku (by decide) ?_;by_cases g2:e2=0
 case neg=>
  have d2:decide (e2=0)=false:=decide_eq_false g2;rw[if_neg (by decide),if_pos g2];simp only[d2,go_sem]
 subst g2;rw[if_neg (by decide),if_neg (by decide)];simp only[List.length_map,go_sem];refine jbo [1,7,63,64,65] [1,61] (fun i:Nat=>⟨[(1,.loc 1 4 0 0),(7,.mpo 61 (3,true) (dayT H i)),(63,.im (.sl (H.map qC))),(64,.im (.int H.length)),(65,.im (.int i))],[(1,4,[[.int rn,ints rc,.sl (H.map qC),.sl (U.map qC)]])],[(61,0,0)]⟩)
  (fun i=>i<=H.length/\∀j,j<i->dE j=0) (fun i=>H.length-i) 0 ?_ ⟨Nat.zero_le _,fun j hj=>absurd hj (by omega)⟩ ?_
 ·simp only[Int.natCast_zero,dayT,List.take_zero,List.foldl_nil,go_sem]
 intro i ⟨hi,he⟩;by_cases hp:(i:Int)<H.length
 ·have hd:decide ((i:Int)<H.length)=true:=decide_eq_true hp;have hi0:(0:Int)<=i:=by omega
  have hn2:((i:Nat):Int).toNat=i:=Int.toNat_natCast i;have hx:=getq (l:=H) (i:=i) (by omega);have hw:=jb2 (n:=(i:Int)+1) (by omega);obtain⟨⟨q1,q2⟩,q3,q4⟩:=hq _ (jf7 (l:=H) (i:=i) (by omega));obtain⟨s1,s2⟩:=jjs H i (by omega);obtain⟨s3,s4⟩:=jjs H (i+1) (by omega);have hs:=(jjd (l:=H) (i:=i) (by omega)).symm;have hdd:=hday i;rw[<-s4]at hdd;have hb:=psum_bound (l:=H.take i) (fun q hq'=>(hq q (List.mem_of_mem_take hq')).2) (H.getD i z0).dep (H.getD i z0).day;rw[<-s2]at hb;have hlen:(H.take i).length<=300:=by rw[List.length_take];omega
  have hv:=jb2 (n:=vof (dayT H i) [(H.getD i z0).dep,(H.getD i z0).day,0]+(H.getD i z0).kg) (by omega);have hm:=jce s1 [(H.getD i z0).dep,(H.getD i z0).day,0];have hm2:mget (dayT H (i+1)) [(H.getD i z0).dep,(H.getD i z0).day,0]=some [vof (dayT H (i+1)) [(H.getD i z0).dep,(H.getD i z0).day,0]]:=by
   rw[<-hs,jib,if_pos rfl,jfi,if_pos rfl]
  have hcx:=get_i (l:=rc) (i:=(H.getD i z0).dep.toNat) (by omega);generalize hqq:H.getD i z0=q at*;generalize hV:vof (dayT H i) [q.dep,q.day,0]=V at*;generalize hV2:vof (dayT H (i+1)) [q.dep,q.day,0]=V2 at*;generalize hT2:dayT H (i+1)=T2 at*;generalize hT1:dayT H i=T1 at*;generalize rc.getD q.dep.toNat 0=cx at*;simp only[hd,hi0,hp,hn2,List.getElem?_map,hx,hT1,List.length_map,go_sem];refine je1 8 6 7 61 T1 [q.dep,q.day,0] rfl rfl rfl (by decide+kernel) (by decide) rfl rfl rfl (by decide+kernel) rfl ?_;rcases hm with hm | ⟨hm,hm0⟩
  ·simp only[hm,hv,hs,go_sem];refine jbt 10 (by decide+kernel) ?_;simp only[hm2,q1,q2,hcx,List.getElem?_map,List.length_map,go_sem];refine jd3 (fun d3 h3=> ?_) (fun d3 h3=> ?_)
   ·rw[if_pos (he3 i he (by omega) (by rw[hdd,if_pos h3];decide))];simp only[go_sem]
   ·simp only[go_sem];refine jae (i+1) ?_ (by omega) ⟨by omega,fun j hj=> ?_⟩
    ·simp only[hw,hT2,Int.natCast_add,go_sem]
    ·by_cases e:j=i
     ·rw[e,hdd,if_neg h3]
     ·exact he j (by omega)
  ·subst hm0;simp only[hm,hv,hs,go_sem];refine jbt 10 (by decide+kernel) ?_;simp only[hm2,q1,q2,hcx,List.getElem?_map,List.length_map,go_sem];refine jd3 (fun d3 h3=> ?_) (fun d3 h3=> ?_)
   ·rw[if_pos (he3 i he (by omega) (by rw[hdd,if_pos h3];decide))];simp only[go_sem]
   ·simp only[go_sem];refine jae (i+1) ?_ (by omega) ⟨by omega,fun j hj=> ?_⟩
    ·simp only[hw,hT2,Int.natCast_add,go_sem]
    ·by_cases e:j=i
     ·rw[e,hdd,if_neg h3]
     ·exact he j (by omega)
 have hd:decide ((i:Int)<H.length)=false:=decide_eq_false hp;obtain rfl:i=H.length:=by omega
 have he30:=he30 he;subst he30;rw[if_neg (by decide)];clear he he3 hday;simp only[hd,go_sem];refine ja5 kT (by decide) ?_;simp only[List.length_map,go_sem];refine jbo [11,97,98,99] [] (fun i:Nat=>⟨[(11,.im (.mp (3,true) (tabL H))),(97,.im (.sl (U.map qC))),(98,.im (.int U.length)),(99,.im (.int i))],[],[]⟩)
  (fun i=>i<=U.length/\∀j,j<i->uE j=0) (fun i=>U.length-i) 0 ?_ ⟨Nat.zero_le _,fun j hj=>absurd hj (by omega)⟩ ?_
 ·simp only[Int.natCast_zero,go_sem]
 intro i ⟨hi,he⟩;by_cases hp:(i:Int)<U.length
 ·have hd:decide ((i:Int)<U.length)=true:=decide_eq_true hp;have hi0:(0:Int)<=i:=by omega
  have hn2:((i:Nat):Int).toNat=i:=Int.toNat_natCast i;have hx:=getq (l:=U) (i:=i) (by omega);have hw:=jb2 (n:=(i:Int)+1) (by omega);have ho:=q_of (U.getD i z0);have hm:=jce (jaq H) [(U.getD i z0).dep,(U.getD i z0).day,(U.getD i z0).com];have huu:=huse i;unfold Quo.k at huu;generalize U.getD i z0=q at*;generalize vof (tabL H) [q.dep,q.day,q.com]=V at*;simp only[hd,hi0,hp,hn2,List.getElem?_map,hx,List.length_map,go_sem];refine jbt 7 (by decide+kernel) ?_;simp only[go_sem];refine jal ho (by decide) ?_;rcases hm with hm | ⟨hm,hm0⟩
  ·simp only[hm,go_sem];refine jd3 (fun d3 h3=> ?_) (fun d3 h3=> ?_)
   ·rw[if_pos h3]at huu;rw[he4 i he (by omega) (by rw[huu];decide),huu];simp only[go_sem]
   ·rw[if_neg h3]at huu;simp only[go_sem];refine jae (i+1) ?_ (by omega) ⟨by omega,fun j hj=> ?_⟩
    ·simp only[hw,Int.natCast_add,go_sem]
    ·by_cases e:j=i
     ·rw[e,huu]
     ·exact he j (by omega)
  ·subst hm0;simp only[hm,go_sem];refine jd3 (fun d3 h3=> ?_) (fun d3 h3=> ?_)
   ·rw[if_pos h3]at huu;rw[he4 i he (by omega) (by rw[huu];decide),huu];simp only[go_sem]
   ·rw[if_neg h3]at huu;simp only[go_sem];refine jae (i+1) ?_ (by omega) ⟨by omega,fun j hj=> ?_⟩
    ·simp only[hw,Int.natCast_add,go_sem]
    ·by_cases e:j=i
     ·rw[e,huu]
     ·exact he j (by omega)
 have hd:decide ((i:Int)<U.length)=false:=decide_eq_false hp;obtain rfl:i=U.length:=by omega
 rw[he40 he];simp only[hd,go_sem]
theorem jdq(r:Rts)(hc:r.cap.length<=100000)(hh:r.held.length<=100000)(hu:r.used.length<=100000):Ctr G.P 6 [.agg (rtC r)] (· = .int (jao r)):=by
 by_cases h:inR r.n 0 20=true/\¬(20<(r.cap.length:Int)\/300<(r.held.length:Int)\/300<(r.used.length:Int))/\jba (capE r) r.cap.length=0
 ·exact q_check1 r h.1 h.2.1 h.2.2
 ·exact q_check0 r hc hh hu h
end
section
open Go.RowKit Go.Shelf Go.LQ
open Go.Abs (IV Rep RepL Ctr keyV elemV Ents Born)
def kC(q:Quo):List IV:=[.int q.dep,.int q.day,.int q.com]
def decK(v:Value):List Int:=match v with
 | .agg vs=>vs.toList.map fun x=>match x with | .int _ n=>n | _=>0
 | _=>[]
theorem jii(k:List Int):decK (keyV k)=k:=by
 show List.map _ (List.map _ k)=k;rw[List.map_map];exact(List.map_congr_left fun n _=>rfl).trans (List.map_id k)
theorem dec_kv(x:KeyV):decK (.agg x.enc.toArray)=x.l:=rfl
def KeyV.q(x:KeyV):Quo:=⟨x.c,x.a,x.b,0⟩
theorem KeyV.q_k(x:KeyV):x.q.k=x.l:=rfl
theorem sorted_eq{t:LQ.Tab}(hs:Shape 3 t)(hd:Dist t){xs:List KeyV}(hp:(xs.map KeyV.l).Perm (t.map (·.1)))(hsort:∀(i j:Nat) (x y:KeyV),i<j->xs[i]? =some x->xs[j]? =some y->¬cmpL y.l x.l<0):
  xs.map KeyV.q=(quoL t).map fun q=>{q with kg:=0}:=by
 have hn:(xs.map KeyV.l).Nodup:=hp.nodup_iff.2 hd;refine jik ?_ ?_ ?_
 ·have h1:=hp.map (fun k=>toQ (k,[0]));rw[List.map_map,List.map_map]at h1;have h2:=(jdp t).symm.map fun q=>{q with kg:=0};rw[List.map_map]at h2;exact h1.trans h2
 ·refine List.pairwise_map.2 (List.pairwise_iff_getElem.2 fun i j hi hj hij=> ?_);have h1:=hsort i j xs[i] xs[j] hij (List.getElem?_eq_getElem hi) (List.getElem?_eq_getElem hj);rw[KeyV.q_k,KeyV.q_k];have h2:=cmpL_flip xs[i].l xs[j].l;rcases cmpL_cases xs[i].l xs[j].l with e | e | e
  ·omega
  ·have:=List.pairwise_iff_getElem.1 hn i j (by simpa using hi) (by simpa using hj) hij;simp only[List.getElem_map]at this;exact absurd (cmpL_eq e) this
  ·omega
 ·exact List.pairwise_map.2 ((ji3 hs hd).imp fun{a b} h=>h)
theorem jh1{kvs:LQ.Tab}{es:Array MapEntry}(h:Ents (3,true) kvs es):es.toList.map (·.key)=kvs.map fun p=>keyV p.1:=by
 have:=congrArg (List.map Prod.fst) h.2;rw[List.map_map,List.map_map]at this;exact this
theorem ents_key{kvs:LQ.Tab}{es:Array MapEntry}(h:Ents (3,true) kvs es):∀e∈es.toList,∃x:KeyV,e.key= .agg x.enc.toArray:=fun e he=>by
 have hm:e.key∈kvs.map fun p=>keyV p.1:=by rw[<-jh1 h];exact List.mem_map.2 ⟨e,he,rfl⟩
 obtain⟨p,hp,e1⟩:=List.mem_map.1 hm;have hl:=h.1 p hp;obtain⟨k,v⟩:=p
 match k,hl with
 | [a,b,c],_=>exact⟨⟨a,b,c⟩,e1.symm⟩
theorem jki{xs:List KeyV}{i j:Nat}{e:List IV}{x:IV}(h1:(xs.map fun x=>kC x.q)[i]? =some e)(h2:e[j]? =some x):∃y n,xs[i]? =some y/\j<3/\x= .int n/\y.enc[j]? =some (.int .i64 n):=by
 rw[List.getElem?_map,Option.map_eq_some_iff]at h1;obtain⟨y,hy,rfl⟩:=h1
 match j,h2 with
 | 0,h2=>cases h2;exact⟨y,y.a,hy,by decide,rfl,rfl⟩
 | 1,h2=>cases h2;exact⟨y,y.b,hy,by decide,rfl,rfl⟩
 | 2,h2=>cases h2;exact⟨y,y.c,hy,by decide,rfl,rfl⟩
 | j+3,h2=>simp[kC]at h2
theorem row_rep{w w':World}{M:Nat->Nat->Prop}(hM:∀b o,M b o->b<w.heap.size){v:Value}{xs:List KeyV}(h:w'.ownsRow w.heap.size 49 3 v xs.length (encs xs)):Rep w' M (.sl (xs.map fun x=>kC x.q)) v:=by
 rcases h.2 with ⟨rfl,h0⟩ | ⟨g,cap,cur,rfl,hg,hcur,hk1,hk2,hcs,htake⟩
 ·rw[List.length_eq_zero_iff.1 h0];exact .nil _ _
 ·by_cases hx:xs=[]
  ·subst hx;exact .nil _ _
  have hl:(xs.map fun x=>kC x.q).length=xs.length:=List.length_map ..;have key:=Rep.sl (w:=w') (M:=M) (xs.map fun x=>kC x.q) 3 g 0 cap (fun i j=>(encs xs).getD (i*3+j) undef) (fun e=>hx (by simpa using e)) (fun e he=>by obtain⟨x,_,rfl⟩:=List.mem_map.1 he;rfl) (by rw[hl];exact hk1)
   (fun i e j x h1 h2=>by
    obtain⟨y,n,hy,hj,rfl,hn⟩:=jki h1 h2;have hil:=(List.getElem?_eq_some_iff.1 hy).1;have h3:=jfa hy hj;rw[hn]at h3;have h4:=h3;rw[<-htake,List.getElem?_take_of_lt (by omega),Array.getElem?_toList]at h4;refine⟨rfl,?_,fun hm=>by have:=hM _ _ hm;omega⟩;rw[show(0:Nat)+i*3+j=i*3+j by omega,List.getD_eq_getElem?_getD,h3];exact cell0 hcur h4)
   (fun i e j x h1 h2=>by
    obtain⟨y,n,hy,hj,rfl,hn⟩:=jki h1 h2;have h3:=jfa hy hj;rw[hn]at h3;rw[List.getD_eq_getElem?_getD,h3];exact .sc _ rfl)
  rw[hl]at key;exact key
theorem sorted_ctr(t:LQ.Tab)(hs:Shape 3 t)(hd:Dist t)(hl:t.length<=1000000):
  Ctr Try.prog 26 [.clo 32 [.ip [.mp (3,true) t] 0],.clo 28 []] (· = .sl ((quoL t).map kC)):=fun w M vs hM hr=>by
 obtain⟨v1,_,rfl,r1,hr⟩:=hr.uncons;obtain⟨v2,_,rfl,r2,hr⟩:=hr.uncons;have:=hr.of_nil;subst this;obtain⟨us,rfl,hu⟩:=r1.clo_inv;obtain⟨u,_,hus,r3,hu⟩:=hu.uncons;have:=hu.of_nil;subst this;obtain⟨us2,rfl,hu2⟩:=r2.clo_inv;have hus2:=hu2.of_nil;have e1:us= #[u]:=Array.toList_inj.1 hus;have e2:us2= #[]:=Array.toList_inj.1 hus2;subst e1 e2;have fin:∀(b o:Nat) (ks:List Value),KeySeq w b o ks->ks=t.map (fun p=>keyV p.1)->Calls Try.prog 26 #[seqV b o,.func (.func 28) #[] #[]] w fun e w'=>∃r v,r= .sl ((quoL t).map kC)/\e= .returned v/\Rep w' M r v/\Below w.heap.size w w':=fun b o ks hks he=>by
  refine(sorted_calls hks).mono ?_;rintro e w' ⟨v,xs,rfl,⟨hp,hrow,hb⟩,hsort⟩;refine⟨_,v,rfl,rfl,?_,hb⟩;have h1:=hp.map decK;rw[he,List.map_map,List.map_map]at h1;have e3:xs.map (decK∘fun x:KeyV=>Value.agg x.enc.toArray)=xs.map KeyV.l:=List.map_congr_left fun x _=>dec_kv x;have e4:t.map (decK∘fun p=>keyV p.1)=t.map (·.1):=List.map_congr_left fun p _=>jii p.1;rw[e3,e4]at h1;have h2:=congrArg (List.map kC) (sorted_eq hs hd h1 hsort);rw[List.map_map,List.map_map]at h2;have h3:=row_rep hM hrow;rw[show(xs.map fun x=>kC x.q)=(quoL t).map kC from h2]at h3;exact h3
 cases r3 with
 | ip _ _ b o f h1 h2=>
  obtain⟨_,hc,hMn⟩:=h1 0 _ rfl;have hBm:b<w.heap.size:=World.block_lt_of_cell? (a:=⟨b,o+0,none⟩) w hc;have r4:=h2 0 _ rfl;generalize f 0=m at*;cases r4 with
  | mpn=>exact fin b (o+0) [] (keySeq_nil hBm hc) rfl
  | mp _ _ bm es c hb hMb hE hB=>
   refine fin b (o+0) _ (keySeq_map hB.1 hB.2 (ents_key hE) ?_ hBm hc hb) (jh1 hE);have:=congrArg List.length hE.2;rw[List.length_map,List.length_map,Array.length_toList]at this;omega
end
section
open Go.Abs Go.LQ
attribute [local go_sem] ints ic qC rtC kC
theorem q_keys(t:LQ.Tab):Ctr G.P 27 [.mp (3,true) t] (· = .clo 32 [.ip [.mp (3,true) t] 0]):=by
 refine jag good _ _ [.tmp 2] Try.func27 rfl rfl (by decide+kernel) rfl ?_;simp only[go_sem]
theorem jk6(t:LQ.Tab)(hs:Shape 3 t)(hd:Dist t)(hl:t.length<=100000):Ctr G.P 21 [.mp (3,true) t] (· = .sl ((quoL t).map qC)):=by
 have kk:=q_keys t;have ks:Ctr G.P _ _ _:=sorted_ctr t hs hd (by omega);have hlen:=ji2 t;have hm:∀i,i<(quoL t).length->mget t [((quoL t).getD i z0).dep,((quoL t).getD i z0).day,((quoL t).getD i z0).com]=some [((quoL t).getD i z0).kg]:=fun i hi=>jcn hd ((ji1 hs).1 (jf7 hi));generalize quoL t=L at*;refine jag good _ _ [.tmp 2] Try.func21 rfl rfl (by decide+kernel) rfl ?_;simp only[go_sem];refine ja5 kk (by decide) ?_;simp only[go_sem];refine ja5 ks (by decide) ?_;simp only[List.length_map,go_sem];refine jbo [0,3,8,9,10] [26] (fun i:Nat=>⟨[(0,.im (.mp (3,true) t)),(3,if i=0 then .sx []else .vec 26 47 4 ((L.take i).map qC)),(8,.im (.sl (L.map kC))),(9,.im (.int L.length)),(10,.im (.int i))],[],if i=0 then []else [(26,4,i)]⟩)
  (fun i=>i<=L.length) (fun i=>L.length-i) 0 ?_ (Nat.zero_le _) ?_
 ·simp only[Int.natCast_zero,go_sem]
 intro i hi;by_cases hp:(i:Int)<L.length
 ·have hd:decide ((i:Int)<L.length)=true:=decide_eq_true hp;have hi0:(0:Int)<=i:=by omega
  have hn:((i:Nat):Int).toNat=i:=Int.toNat_natCast i;have hx:=getq (l:=L) (i:=i) (by omega);have hw:=jb2 (n:=(i:Int)+1) (by omega);have hmi:=hm i (by omega);have htk:=jk1 (l:=L) (i:=i) (by omega);have htl:(L.take i).length=i:=by rw[List.length_take];omega
  have hlen:∀c∈(L.take i).map qC,c.length=4:=fun c hc=>by
   obtain⟨z,_,rfl⟩:=List.mem_map.1 hc;rfl
  generalize L.getD i z0=q at*;rcases i with _ | i
  ·simp only[Int.natCast_zero,Int.zero_add,Int.toNat_zero]at hd hp hn hw;simp only[hd,hi0,hp,hn,List.getElem?_map,hx,List.length_map,eq_self,Int.natCast_zero,go_sem];refine jbt 12 (by decide+kernel) ?_;simp only[hmi,eq_self,go_sem];refine⟨(fun c hc=>by cases hc),(fun c hc=>by rw[List.mem_singleton.1 hc];rfl),jae 1 ?_ (by omega) (by omega)⟩;rw[List.take_zero,List.nil_append]at htk;have e1:((0+1:Nat)=0)=False:=by simp
   simp only[hw,htk,Int.natCast_add,Int.natCast_one,List.map_cons,List.map_nil,go_sem]
  ·have e0:((i+1:Nat)=0)=False:=by simp
   simp only[hd,hi0,hp,hn,List.getElem?_map,hx,List.length_map,eq_self,e0,go_sem];refine jbt 12 (by decide+kernel) ?_;simp only[hmi,eq_self,htl,go_sem];refine⟨hlen,(fun c hc=>by rw[List.mem_singleton.1 hc];rfl),by omega,jae (i+1+1) ?_ (by omega) (by omega)⟩;have e1:((i+1+1:Nat)=0)=False:=by simp
   simp only[Int.natCast_add,Int.natCast_one]at hw;simp only[hw,e1,htk,Int.natCast_add,Int.natCast_one,List.map_append,List.map_cons,List.map_nil,go_sem]
 ·have hd:decide ((i:Int)<L.length)=false:=decide_eq_false hp;obtain rfl:i=L.length:=by omega
  rw[List.take_length];by_cases h0:L.length=0
  ·have hL:=List.length_eq_zero_iff.1 h0;subst hL;simp only[hd,eq_self,List.length_nil,List.map_nil,go_sem]
  ·have e0:(L.length=0)=False:=by simp[h0]
   simp only[hd,e0,go_sem]
end
section
open Go.Abs Go.LQ
attribute [local go_sem] ints ic qC rtC kC
theorem q_cloneI(l:List Int)(hl:l.length<=100000):Ctr G.P 24 [.sl (l.map ic)] (· = .sl (l.map ic)):=by
 have h4:∀c∈l.map ic,c.length=1:=fun c hc=>by
  obtain⟨z,_,rfl⟩:=List.mem_map.1 hc;rfl
 have hl2:(l.map ic).length<=100000:=by rw[List.length_map];exact hl
 generalize l.map ic=es at*;refine jag good _ _ [.tmp 2] Try.func24 rfl rfl (by decide+kernel) rfl ?_;simp only[go_sem];refine NilP_of (fun h=> ?_) ?_
 ·subst h;simp only[go_sem]
 ·simp only[go_sem];exact⟨by simp,h4,by omega⟩
theorem jk8(l:List Quo)(hl:l.length<=100000):Ctr G.P 25 [.sl (l.map qC)] (· = .sl (l.map qC)):=by
 have h4:∀c∈l.map qC,c.length=4:=fun c hc=>by
  obtain⟨z,_,rfl⟩:=List.mem_map.1 hc;rfl
 have hl2:(l.map qC).length<=100000:=by rw[List.length_map];exact hl
 generalize l.map qC=es at*;refine jag good _ _ [.tmp 2] Try.func25 rfl rfl (by decide+kernel) rfl ?_;simp only[go_sem];refine NilP_of (fun h=> ?_) ?_
 ·subst h;simp only[go_sem]
 ·simp only[go_sem];exact⟨by simp,h4,by omega⟩
theorem jk7(r:Rts)(hc:r.cap.length<=100000)(hh:r.held.length<=100000)(hu:r.used.length<=100000):Ctr G.P 20 [.agg (rtC r)] (· = .agg (rtC r)):=by
 have k1:=q_cloneI r.cap hc;have k2:=jk8 r.held hh;have k3:=jk8 r.used hu;unfold rtC ints;generalize r.cap.map ic=c1 at*;generalize r.held.map qC=c2 at*;generalize r.used.map qC=c3 at*;refine jag good _ _ [.cell 2 25] Try.func20 rfl rfl (by decide+kernel) rfl ?_;simp only[go_sem];refine jbt 10 (by decide+kernel) ?_;simp only[go_sem];refine jal k1 (by decide) ?_;simp only[go_sem];refine jal k2 (by decide) ?_;simp only[go_sem];refine jal k3 (by decide) ?_;simp only[go_sem]
theorem right_sub{r:Rts}(h:RightQ r)(c d y:Int):IntKind.i64.wrap (vof (tabL r.held) [d,y,c]-vof (tabL r.used) [d,y,c])=vof (tabL r.held) [d,y,c]-vof (tabL r.used) [d,y,c]:=by
 have h1:=jcs h.held (k:=[d,y,c]);have h2:=h.vof_cap [d,y,c];have h3:=jcs h.used (k:=[d,y,c]);have h4:=h.use_le [d,y,c];exact jb2 (by omega)
theorem q_held(r:Rts)(c d y:Int)(hc:r.cap.length<=100000)(hh:r.held.length<=100000)(hu:r.used.length<=100000):Ctr G.P 14 [.agg (rtC r),.int c,.int d,.int y] (· = .int (heldQ r c d y)):=by
 have k:=jdq r hc hh hu;have kt:=fun h=>jgn r.held h hh;have h0:jao r=0->Asc r.held:=fun h=>(checkQ_zero.1 h).held.asc;unfold heldQ;generalize jao r=e at*;unfold rtC at*;by_cases he:e=0
 ·subst he;have ka:=kt (h0 rfl);have hm:=jce (jaq r.held) [d,y,c];rw[if_neg (by decide)];generalize vof (tabL r.held) [d,y,c]=v at*;refine jag good _ _ [.tmp 8] Try.func14 rfl rfl (by decide+kernel) rfl ?_;simp only[go_sem];refine ja5 k (by decide) ?_;simp only[go_sem];refine ja5 ka (by decide) ?_;rcases hm with hm | ⟨hm,rfl⟩
  ·simp only[hm,go_sem]
  ·simp only[hm,go_sem]
 ·have hd:decide (e=0)=false:=decide_eq_false he;rw[if_pos he];refine jag good _ _ [.tmp 8] Try.func14 rfl rfl (by decide+kernel) rfl ?_;simp only[go_sem];refine ja5 k (by decide) ?_;simp only[hd,go_sem]
theorem q_left(r:Rts)(c d y:Int)(hc:r.cap.length<=100000)(hh:r.held.length<=100000)(hu:r.used.length<=100000):Ctr G.P 13 [.agg (rtC r),.int c,.int d,.int y] (· = .int (leftQ r c d y)):=by
 have k:=jdq r hc hh hu;have kt:=fun h=>jgn r.held h hh;have ku:=fun h=>jgn r.used h hu;have h0:jao r=0->RightQ r:=fun h=>checkQ_zero.1 h;unfold leftQ;generalize jao r=e at*;unfold rtC at*;by_cases he:e=0
 ·subst he;have hr:=h0 rfl;have ka:=kt hr.held.asc;have kb:=ku hr.used.asc;have hm:=jce (jaq r.held) [d,y,c];have hn:=jce (jaq r.used) [d,y,c];have hw:=right_sub hr c d y;rw[if_neg (by decide)];generalize vof (tabL r.held) [d,y,c]=v at*;generalize vof (tabL r.used) [d,y,c]=u at*;refine jag good _ _ [.tmp 8] Try.func13 rfl rfl (by decide+kernel) rfl ?_;simp only[go_sem];refine ja5 k (by decide) ?_;simp only[go_sem];refine jbt 12 (by decide+kernel) ?_;simp only[go_sem];refine jal ka (by decide) ?_;rcases hm with hm | ⟨hm,rfl⟩
  ·simp only[hm,go_sem];refine jal kb (by decide) ?_;rcases hn with hn | ⟨hn,rfl⟩
   ·simp only[hn,hw,go_sem]
   ·simp only[hn,hw,go_sem]
  ·simp only[hm,go_sem];refine jal kb (by decide) ?_;rcases hn with hn | ⟨hn,rfl⟩
   ·simp only[hn,hw,go_sem]
   ·simp only[hn,show IntKind.i64.wrap (0-0)=0 from rfl,show IntKind.i64.wrap 0=0 from rfl,show(0:Int)-0=0 from rfl,go_sem]
 ·have hd:decide (e=0)=false:=decide_eq_false he;rw[if_pos he];refine jag good _ _ [.tmp 8] Try.func13 rfl rfl (by decide+kernel) rfl ?_;simp only[go_sem];refine ja5 k (by decide) ?_;simp only[hd,go_sem]
end
section
open Go.Abs Go.LQ
attribute [local go_sem] ints ic qC rtC kC
theorem ut_shape(r:Rts)(c d y k:Int):Shape 3 (r.useT c d y k):=jde (jaq _) rfl rfl
theorem use_case(r:Rts)(c d y k:Int):(∃e,(jao r≠0\/r.there c d y=false)/\e=1/\useQ r c d y k=(Rts.zero,e))\/
  (RightQ r/\jao r=0/\r.there c d y=true/\((inR k 1 1000000=false/\useQ r c d y k=(Rts.zero,3))\/(inR k 1 1000000=true/\((leftQ r c d y<k/\useQ r c d y k=(Rts.zero,20))\/
   (k<=leftQ r c d y/\((300<((r.useT c d y k).length:Int)/\useQ r c d y k=(Rts.zero,6))\/(((r.useT c d y k).length:Int)<=300/\useQ r c d y k=(r.spent c d y k,0)))))))):=by
 by_cases h1:jao r≠0\/r.there c d y=false
 ·exact .inl ⟨1,h1,rfl,by unfold useQ;rw[if_pos h1]⟩
 ·have h2:jao r=0:=Decidable.byContradiction fun e=>h1 (.inl e);have h3:r.there c d y=true:=by
   cases h:r.there c d y with
   | true=>rfl
   | false=>exact absurd (.inr h) h1
  refine .inr ⟨checkQ_zero.1 h2,h2,h3,?_⟩;unfold useQ;rw[if_neg h1];by_cases h4:inR k 1 1000000=false
  ·exact .inl ⟨h4,by rw[if_pos h4]⟩
  ·rw[if_neg h4];refine .inr ⟨by simpa using h4,?_⟩;by_cases h5:leftQ r c d y<k
   ·exact .inl ⟨h5,by rw[if_pos h5]⟩
   ·rw[if_neg h5];refine .inr ⟨by omega,?_⟩;by_cases h6:300<((r.useT c d y k).length:Int)
    ·exact .inl ⟨h6,by rw[if_pos h6]⟩
    ·exact .inr ⟨by omega,by rw[if_neg h6]⟩
theorem use_sum{r:Rts}(h:RightQ r){k:Int}(hk:inR k 1 1000000=true)(c d y:Int):IntKind.i64.wrap (vof (tabL r.used) [d,y,c]+k)=vof (tabL r.used) [d,y,c]+k:=by
 have h2:=h.vof_cap [d,y,c];have h3:=jcs h.used (k:=[d,y,c]);have h4:=h.use_le [d,y,c];have h5:=inR_iff.1 hk;exact jb2 (by omega)
theorem q_use(r:Rts)(c d y k:Int)(hc:r.cap.length<=100000)(hh:r.held.length<=100000)(hu:r.used.length<=100000)(hn:0<=r.n/\r.n<=1000000):
  Ctr G.P 11 [.agg (rtC r),.int c,.int d,.int y,.int k] (· = .tup [.agg (rtC (useQ r c d y k).1),.int (useQ r c d y k).2]):=by
 have k1:=jdq r hc hh hu;have k2:=jjp r c d y hn hc;have k3:=q_in k 1 1000000;have k4:=q_left r c d y hc hh hu;have kcp:=jk7 r hc hh hu;rcases use_case r c d y k with ⟨e,h1,rfl,he⟩ | ⟨hr,h1,h2,H⟩
 ·rw[he];by_cases hz:jao r=0
  ·have ht:r.there c d y=false:=h1.resolve_left (fun h=>h hz);rw[hz]at k1;rw[ht]at k2;unfold rtC ints at*;refine jag good _ _ [.cell 10 25,.tmp 11] Try.func11 rfl rfl (by decide+kernel) rfl ?_;simp only[go_sem];refine ja5 k1 (by decide) ?_;simp only[go_sem];refine ja5 k2 (by decide) ?_;simp only[go_sem];rfl
  ·have hd:decide (jao r=0)=false:=decide_eq_false hz;unfold rtC ints at*;refine jag good _ _ [.cell 10 25,.tmp 11] Try.func11 rfl rfl (by decide+kernel) rfl ?_;simp only[go_sem];refine ja5 k1 (by decide) ?_;simp only[hd,go_sem];rfl
 ·have kT:=ji4 r.used hr.used.asc hu;have hm:=jce (jaq r.used) [d,y,c];have hsum:=fun h=>use_sum hr (k:=k) h c d y;have hl3:=hr.lens;have hul:=jia (tabL r.used) [d,y,c] [vof (tabL r.used) [d,y,c]+k];have htl:(tabL r.used).length=r.used.length:=List.length_map ..;have kq:=jk6 (r.useT c d y k) (ut_shape r c d y k) (jgp hr.used.asc.dist _ _) (by unfold Rts.useT;omega);unfold Rts.useT at*;rw[h1]at k1;rw[h2]at k2;rcases H with ⟨h4,hu4⟩ | ⟨h4,H⟩
  ·rw[hu4];rw[h4]at k3;unfold rtC ints at*;refine jag good _ _ [.cell 10 25,.tmp 11] Try.func11 rfl rfl (by decide+kernel) rfl ?_;simp only[go_sem];refine ja5 k1 (by decide) ?_;simp only[go_sem];refine ja5 k2 (by decide) ?_;simp only[go_sem];refine ja5 k3 (by decide) ?_;simp only[go_sem];rfl
  rw[h4]at k3;rcases H with ⟨h5,hu5⟩ | ⟨h5,H⟩
  ·rw[hu5];have d5:decide (leftQ r c d y<k)=true:=decide_eq_true h5;unfold rtC ints at*;refine jag good _ _ [.cell 10 25,.tmp 11] Try.func11 rfl rfl (by decide+kernel) rfl ?_;simp only[go_sem];refine ja5 k1 (by decide) ?_;simp only[go_sem];refine ja5 k2 (by decide) ?_;simp only[go_sem];refine ja5 k3 (by decide) ?_;simp only[go_sem];refine ja5 k4 (by decide) ?_;simp only[d5,go_sem];rfl
  have d5:decide (leftQ r c d y<k)=false:=decide_eq_false (by omega);have hsum:=hsum h4;have hq:∀R,useQ r c d y k=R->useQ r c d y k=R:=fun _ h=>h;have hsp:r.spent c d y k=⟨r.n,r.cap,r.held,quoL (mput (tabL r.used) [d,y,c] [vof (tabL r.used) [d,y,c]+k])⟩:=rfl;rw[hsp]at H;clear hsp hq hul htl h5;generalize useQ r c d y k=res at*;generalize hv:vof (tabL r.used) [d,y,c]=v at*;generalize hU:mput (tabL r.used) [d,y,c] [v+k]=U at*;unfold rtC ints at*;refine jag good _ _ [.cell 10 25,.tmp 11] Try.func11 rfl rfl (by decide+kernel) rfl ?_;simp only[go_sem];refine ja5 k1 (by decide) ?_;simp only[go_sem];refine ja5 k2 (by decide) ?_;simp only[go_sem];refine ja5 k3 (by decide) ?_;simp only[go_sem];refine ja5 k4 (by decide) ?_;simp only[d5,go_sem];refine CallP_o kT (by decide) ?_;simp only[go_sem];refine je1 10 8 9 43 (tabL r.used) [d,y,c] rfl rfl rfl (by decide+kernel) (by decide) rfl rfl rfl (by decide+kernel) rfl ?_;rcases hm with hm | ⟨hm,rfl⟩
  ·simp only[hm,hsum,hU,go_sem];rcases H with ⟨h6,rfl⟩ | ⟨h6,rfl⟩
   ·have d6:decide (300<(U.length:Int))=true:=decide_eq_true h6;simp only[d6,go_sem];rfl
   ·have d6:decide (300<(U.length:Int))=false:=decide_eq_false (by omega);simp only[d6,go_sem];refine ja5 kcp (by decide) ?_;simp only[go_sem];refine ja5 (by rw[<-hU]at kq;exact kq) (by decide) ?_;simp only[hU,go_sem]
  ·have hsum0:IntKind.i64.wrap k=k:=by rw[Int.zero_add]at hsum;exact hsum
   rw[Int.zero_add]at hU;simp only[hm,hsum,hsum0,hU,Int.zero_add,go_sem];rcases H with ⟨h6,rfl⟩ | ⟨h6,rfl⟩
   ·have d6:decide (300<(U.length:Int))=true:=decide_eq_true h6;simp only[d6,go_sem];rfl
   ·have d6:decide (300<(U.length:Int))=false:=decide_eq_false (by omega);simp only[d6,go_sem];refine ja5 kcp (by decide) ?_;simp only[go_sem];refine ja5 (by rw[<-hU]at kq;exact kq) (by decide) ?_;simp only[hU,go_sem]
end
end Go.Proofs.Ytgnflpkmpoghbaa
namespace Go.Abs
section
section
variable{L R:Rows}{k d s b:Nat}{es:List (List IV)}
theorem jac(h:blks L):blks ((hp b,s,es)::L):=fun j x hj=>by
 by_cases e:j=hp b
 ·exact⟨b,e⟩
 ·rw[ja3 _ _ e]at hj;exact h j x hj
theorem jai:blks []:=fun _ _ h=>by cases h
theorem ja1:SubR [] R:=fun _ _ h=>by cases h
end
section
variable{R:Rows}
end
section
variable{α β:Type}{n:Nat}{f g:Nat->α}
end
end
section
open Go.RowKit (Below)
def isSp(o:Oper):Bool:=
 match o.op with
 | .call c=>match c.callee with
  | .value _=>true
  | .builtin b=>match b with
   | .append=>true
   | _=>false
  | _=>false
 | _=>false
def spY(G:Ctx)(st:St)(o:Oper)(T:AV->Rows->Prop):Prop:=if isSp o=true then sp G st o T else aq G st o fun av=>T av st.rows
def spListY(G:Ctx)(Rs:Rows)(K:St->Prop):List Oper->St->Prop
 | [],st=>K st
 | o::r,st=>o.guard=none/\spY G st o fun av R'=>(∀k x,look Rs k=some x->look R' k=some x)/\spListY G Rs K r ((⟨st.fr,R',st.toks⟩:St).put o.dst av)
section
variable{G:Ctx}{N:Nat}{w0:Base}{w w':World}{M0:Nat->Nat->Prop}{β:Nat->Option Nat}{st st':St}{a:Act}{ops:List Oper}
end
section
variable{G:Ctx}
def spListYN(G:Ctx)(ops:List Oper)(K:St->Prop)(Rs:Rows)(d:Nat)(z:List IV)(sps l:List Oper)(st:St):Prop:=
 spListY G Rs (fun s'=>NewH (fun s''=>alist G ops K l s'') s' z.length [z] d (fun b=> .loc (hp b) z.length 0 0)) sps st
theorem spListYN_nil(ops:List Oper)(K:St->Prop)(Rs:Rows)(d:Nat)(z:List IV)(l:List Oper)(st:St):spListYN G ops K Rs d z [] l st=NewP z.length [z] d (K:=⟨fun s=>alist G ops K l s⟩) (A:=⟨(st,fun b=> .loc (hp b) z.length 0 0)⟩):=rfl
end
attribute [go_sem ↓] spListYN_nil
end
section
open Go.RowKit (Below)
def jdo(G:Ctx)(t:TypeId)(p x:AV)(R:Rows)(T:AV->Rows->Prop):Prop:=
 match x,p.dp with
 | .im y,.loc d s i j=>match look R d with
  | some (s',es)=>match es[i]? with
   | some c=>s'=s/\(G.ti t).size≠0/\(cellsOf y).length=(G.ti t).size/\(cellsOf y).all IV.one=true/\j+(G.ti t).size<=c.length/\
     T jb6 (setRow R d s (es.set i (jah c j (cellsOf y))))
   | none=>False
  | none=>False
 | _,_=>False
def spZ(G:Ctx)(st:St)(o:Oper)(T:AV->Rows->Prop):Prop:=
 match o.op with
 | .store t p x=>jdo G t (evO st p) (evO st x) st.rows T
 | _=>if isSp o=true then sp G st o T else aq G st o fun av=>T av st.rows
def spZ1(G:Ctx)(st:St)(o:Oper)(T:AV->Rows->Prop):Prop:=
 match o.op with
 | .store t p x=>jdo G t (evO st p) (evO st x) st.rows T
 | _=>if isSp o=true then sp G st o T else ∃av,qVal G st o av/\T av st.rows
def jft(ops:Array Oper):Nat->Nat->Nat->Bool
 | 0,j,i=>Region.waitsFor .any ops j i
 | f+1,j,i=>Region.waitsFor .any ops j i || (List.range j).any fun l=>Region.waitsFor .any ops j l&&jft ops f l i
theorem waitsT_listed{ops:Array Oper}{n:Nat}{listed:Array Bool}(inv:HeadInv .any ops n listed)(hw:∀j i,Region.waitsFor .any ops j i=true->listed.getD j false=true->listed.getD i false=true):
  ∀(f j i:Nat),jft ops f j i=true->listed.getD j false=true->listed.getD i false=true:=by
 intro f
 induction f with
 | zero=>exact fun j i h hl=>hw j i h hl
 | succ f ih=>
  intro j i h hl;rw[jft,Bool.or_eq_true]at h;rcases h with h | h
  ·exact hw j i h hl
  ·obtain⟨l,_,h2⟩:=List.any_eq_true.1 h;rw[Bool.and_eq_true]at h2;exact ih l i h2.2 (hw j l h2.1 hl)
theorem spZ_1{G:Ctx}{st:St}{o:Oper}{T:AV->Rows->Prop}(h:spZ G st o T):spZ1 G st o T:=by
 unfold spZ at h;unfold spZ1;split at h
 ·exact h
 ·by_cases hs:isSp o=true
  ·rw[if_pos hs]at h⊢;exact h
  ·rw[if_neg hs]at h⊢;obtain⟨av,h1,h2⟩:=jda h;exact⟨av,h1,h2⟩
section
variable{G:Ctx}{N:Nat}{w0:Base}{w w':World}{M0:Nat->Nat->Prop}{β:Nat->Option Nat}{st st':St}{a:Act}{ops:List Oper}
theorem spZ_congr{o:Oper}{T:AV->Rows->Prop}(h:∀t∈o.looksAt ops.toArray,st.get t=st'.get t)(hr:st.rows=st'.rows)(ht:st.toks=st'.toks)(hs:spZ1 G st o T):spZ1 G st' o T:=by
 have hx:∀x∈o.op.operands,evO st x=evO st' x:=fun x hx=>jbr fun t ht=>h t (jaj hx ht);unfold spZ1 at hs⊢;split at hs
 ·rename_i t p x ho;rw[ho]at hx;rw[<-hx p (by simp[Op.operands]),<-hx x (by simp[Op.operands]),<-hr];exact hs
 ·by_cases hp:isSp o=true
  ·rw[if_pos hp]at hs⊢;exact sp_congr h hr hs
  ·rw[if_neg hp]at hs⊢;obtain⟨av,h1,h2⟩:=hs;exact⟨av,je6 h hr ht h1,hr▸h2⟩
theorem spZ_sound(hG:G.Good)(h:Sim N w0 M0 β st a w){o:Oper}{T:AV->Rows->Prop}(hd:∀d,o.dst=some d->d<N)(hA:spZ1 G st o T){K':Act->World->Prop}{Q':Exit->Act->World->Prop}
  (hK:∀av R' β' a' w',T av R'->Sim N w0 M0 β' ((⟨st.fr,R',st.toks⟩:St).put o.dst av) a' w'->K' a' w'):o.wp G.P a w K' Q':=by
 unfold spZ1 at hA;split at hA
 ·rename_i t p x ho;have haop:aop G o (fun st'=>∃av R',st'=(⟨st.fr,R',st.toks⟩:St).put o.dst av/\T av R') st:=by
   unfold aop;rw[ho];dsimp only;unfold jdo at hA;split at hA
   ·rename_i y d s i j hx hp;have hl:st.lendO x=st:=by
     unfold St.lendO;rw[hx]
    rw[hl];unfold jhy;rw[hx,hp];dsimp only[ivE,ivOf];split at hA
    ·rename_i s' es hlk;rw[hlk];dsimp only;split at hA
     ·rename_i c hc;rw[hc];obtain⟨h1,h2,h3,h4,h5,h6⟩:=hA;exact⟨h1,h2,h3,h4,h5,_,_,rfl,h6⟩
     ·exact hA.elim
    ·exact hA.elim
   ·exact hA.elim
  refine jdg hG h hd haop ?_;rintro st' β' a' w' ⟨av,R',rfl,hT⟩ hs;exact hK av R' β' a' w' hT hs
 ·by_cases hp:isSp o=true
  ·rw[if_pos hp]at hA;exact sp_sound hG h hd hA hK
  ·rw[if_neg hp]at hA;obtain⟨av,h1,h2⟩:=hA;refine jb8 hG h h1 fun v w2 hb hv=>hK av st.rows β _ w2 h2 ?_;exact(h.ext hb).put (dst:=o.dst) hd hv
end
section
variable{G:Ctx}
def jjv(G:Ctx)(t:TypeId)(p x:AV)(R:Rows)[T:Hold (Rows->Prop)]:Prop:=jdo G t p x R fun _ R'=>T.val R'
theorem jfu{t:TypeId}{p x:AV}{R:Rows}{T T':AV->Rows->Prop}(h:jdo G t p x R T)(hT:∀av R',T av R'->T' av R'):jdo G t p x R T':=by
 unfold jdo at h⊢;split at h
 ·split at h
  ·split at h
   ·obtain⟨h1,h2,h3,h4,h5,h6⟩:=h;exact⟨h1,h2,h3,h4,h5,hT _ _ h6⟩
   ·exact h.elim
  ·exact h.elim
 ·exact h.elim
theorem SpStore_loc(t:TypeId)(d s i j:Nat)(y:IV)(R:Rows)(T:Rows->Prop): @jjv G t (.loc d s i j) (.im y) R ⟨T⟩=Opt (look R d) (K:=⟨fun p=>Opt p.2[i]? (K:=⟨fun c=>p.1=s/\(G.ti t).size≠0/\(cellsOf y).length=(G.ti t).size/\(cellsOf y).all IV.one=true/\j+(G.ti t).size<=c.length/\
  T (setRow R d s (p.2.set i (jah c j (cellsOf y))))⟩)⟩):=by
 unfold jjv jdo Opt AV.dp;dsimp only;cases h:look R d with
 | none=>rfl
 | some p=>
  obtain⟨s',es⟩:=p;dsimp only;cases es[i]? <;>rfl
end
attribute [go_sem ↓] SpStore_loc
end
section
open Go.RowKit (Below)
inductive OT where
 | fin:OT
 | none:OT
 | alt:Nat->OT->OT->OT
def OT.heads:OT->List Nat
 | .alt i _ r=>i::r.heads
 | _=>[]
def OT.emp:OT->Bool
 | .fin=>true
 | _=>false
def OT.cov(ops:Array Oper)(t:OT)(rem:List Nat):Bool:=(t.emp==rem.isEmpty)&&rem.all fun i=>t.heads.contains i || rem.any fun j=>jft ops 3 i j
def OT.ok(ops:Array Oper):OT->List Nat->Bool
 | .alt i s r,rem=>s.cov ops (rem.filter (· !=i))&&s.ok ops (rem.filter (· !=i))&&r.ok ops rem
 | _,_=>true
def okT(ops:Array Oper)(t:OT)(rem:List Nat):Bool:=t.cov ops rem&&t.ok ops rem
def spMk(G:Ctx)(d:Nat)(t:TypeId)(l c:AV)(R:Rows)(T:AV->Rows->Prop):Prop:=
 match l,c with
 | .im (.sc (.int _ n)),.im (.sc (.int _ m))=>match(G.ti t).kind with
  | .sl e=>match jbi G e with
   | some z=>G.perm.contains d=true/\(G.ti t).size≠0/\n=m/\0<=n/\n*(G.ti e).bytes<=140737488355328/\(G.ti e).bytes≠0/\
     ∀b,look R (hp b)=none->T (.im (.ref b e (G.ti e).size (List.replicate n.toNat z).length)) ((hp b,(G.ti e).size,List.replicate n.toNat z)::R)
   | none=>False
  | _=>False
 | _,_=>False
def spN(G:Ctx)(st:St)(o:Oper)(T:AV->Rows->Prop):Prop:=
 match o.op with
 | .alloc t=>match o.dst,jbi G t with
  | some d,some z=>G.perm.contains d=true/\∀b,look st.rows (hp b)=none->T (.loc (hp b) z.length 0 0) ((hp b,z.length,[z])::st.rows)
  | _,_=>False
 | .makeSlice t l c=>match o.dst with
  | some d=>spMk G d t (evO st l) (evO st c) st.rows T
  | none=>False
 | _=>spZ G st o T
def spN1(G:Ctx)(st:St)(o:Oper)(T:AV->Rows->Prop):Prop:=
 match o.op with
 | .alloc t=>match o.dst,jbi G t with
  | some d,some z=>G.perm.contains d=true/\∀b,look st.rows (hp b)=none->T (.loc (hp b) z.length 0 0) ((hp b,z.length,[z])::st.rows)
  | _,_=>False
 | .makeSlice t l c=>match o.dst with
  | some d=>spMk G d t (evO st l) (evO st c) st.rows T
  | none=>False
 | _=>spZ1 G st o T
def gOk(ops:List Oper)(st:St)(o:Oper):Prop:=match o.guard with
 | none=>True
 | some (j,want)=>jbj st ops j=some (some want)
theorem gOk_congr{ops:List Oper}{st st':St}{o:Oper}(h:∀t∈o.looksAt ops.toArray,st.get t=st'.get t)(hg:gOk ops st o):gOk ops st' o:=by
 unfold gOk at hg⊢;cases hgd:o.guard with
 | none=>trivial
 | some p=>
  obtain⟨j,want⟩:=p;rw[hgd]at hg;dsimp only at hg⊢;rw[<-hg];unfold jbj;cases ho:ops[j]? with
  | none=>rfl
  | some oj=>
   cases hd:oj.dst with
   | none=>simp only[hd]
   | some t=>
    have:t∈o.looksAt ops.toArray:=by
     have ho':ops.toArray[j]? =some oj:=by simpa using ho
     simp[Oper.looksAt,hgd,ho',ho,hd]
    simp only[hd,h t this]
theorem gOk_wanted{N:Nat}{w0:Base}{M0:Nat->Nat->Prop}{β:Nat->Option Nat}{st:St}{a:Act}{w:World}{ops:List Oper}{o:Oper}(h:Sim N w0 M0 β st a w)(hg:gOk ops st o):Region.wanted o (yielded ops.toArray a.tmps)=true:=by
 unfold gOk at hg;cases hgd:o.guard with
 | none=>simp[Region.wanted,hgd]
 | some p=>
  obtain⟨j,want⟩:=p;rw[hgd]at hg;simp[Region.wanted,hgd,jc6 h hg]
theorem okT_nil{ops:Array Oper}{t:OT}(h:okT ops t []=true):t= .fin:=by
 cases t with
 | fin=>rfl
 | none=>cases h
 | alt i s r=>cases h
theorem okT_head{ops:Array Oper}{t:OT}{rem:List Nat}{i:Nat}(h:okT ops t rem=true)(hi:i∈rem)(hw:∀j∈rem,jft ops 3 i j=false):i∈t.heads:=by
 unfold okT OT.cov at h;rw[Bool.and_eq_true,Bool.and_eq_true]at h;have:=List.all_eq_true.1 h.1.2 i hi;rw[Bool.or_eq_true]at this;rcases this with h | h
 ·simpa using h
 ·obtain⟨j,hj,e⟩:=List.any_eq_true.1 h;rw[hw j hj]at e;cases e
theorem spN_1{G:Ctx}{st:St}{o:Oper}{T:AV->Rows->Prop}(h:spN G st o T):spN1 G st o T:=by
 unfold spN at h;unfold spN1;split at h
 ·exact h
 ·exact h
 ·exact spZ_1 h
section
variable{G:Ctx}{kp:Bool}{N:Nat}{w0:Base}{w w':World}{M0:Nat->Nat->Prop}{β:Nat->Option Nat}{st st':St}{a:Act}{ops:List Oper}
theorem spN_congr{o:Oper}{T:AV->Rows->Prop}(h:∀t∈o.looksAt ops.toArray,st.get t=st'.get t)(hr:st.rows=st'.rows)(ht:st.toks=st'.toks)(hs:spN1 G st o T):spN1 G st' o T:=by
 have hx:∀x∈o.op.operands,evO st x=evO st' x:=fun x hx=>jbr fun t ht=>h t (jaj hx ht);unfold spN1 at hs⊢;split at hs
 ·rw[<-hr];exact hs
 ·rename_i t l c ho;rw[ho]at hx;rw[<-hx l (by simp[Op.operands]),<-hx c (by simp[Op.operands]),<-hr];exact hs
 ·exact spZ_congr h hr ht hs
theorem spN_sound(hG:G.Good)(h:Sim N w0 M0 β st a w){o:Oper}{T:AV->Rows->Prop}(hd:∀d,o.dst=some d->d<N)(hA:spN1 G st o T){K':Act->World->Prop}{Q':Exit->Act->World->Prop}
  (hK:∀av R' β' a' w',T av R'->Sim N w0 M0 β' ((⟨st.fr,R',st.toks⟩:St).put o.dst av) a' w'->K' a' w'):o.wp G.P a w K' Q':=by
 unfold spN1 at hA;split at hA
 ·rename_i t ho;have haop:aop G o (fun st'=>∃av R',st'=(⟨st.fr,R',st.toks⟩:St).put o.dst av/\T av R') st:=by
   unfold aop;rw[ho];dsimp only;split at hA
   ·rename_i d z h1 h2;rw[h1,h2];dsimp only;rw[if_pos hA.1];exact fun b hb=>⟨_,_,rfl,hA.2 b hb⟩
   ·exact hA.elim
  refine jdg hG h hd haop ?_;rintro st' β' a' w' ⟨av,R',rfl,hT⟩ hs;exact hK av R' β' a' w' hT hs
 ·rename_i t l c ho;have haop:aop G o (fun st'=>∃av R',st'=(⟨st.fr,R',st.toks⟩:St).put o.dst av/\T av R') st:=by
   unfold aop;rw[ho];dsimp only;split at hA
   ·rename_i d h1;rw[h1];unfold spMk at hA;unfold aMake;split at hA
    ·rename_i k n k' m h2 h3;rw[h2,h3];dsimp only;split at hA
     ·rename_i e h4;rw[h4];dsimp only;split at hA
      ·rename_i z h5;rw[h5];obtain⟨a1,a2,a3,a4,a5,a6,a7⟩:=hA;refine⟨a2,a3,a4,a5,a6,?_⟩;rw[if_pos a1];exact fun b hb=>⟨_,_,rfl,a7 b hb⟩
      ·exact hA.elim
     ·exact hA.elim
    ·exact hA.elim
   ·exact hA.elim
  refine jdg hG h hd haop ?_;rintro st' β' a' w' ⟨av,R',rfl,hT⟩ hs;exact hK av R' β' a' w' hT hs
 ·exact spZ_sound hG h hd hA hK
end
section
variable{G:Ctx}{kp:Bool}
def NewT(R:Rows)[T:Hold (Nat->Prop)]:Prop:=∀b,look R (hp b)=none->T.val b
theorem jaz{R:Rows}{T:Nat->Prop}(h:∀b,look R (hp b)=none->T b): @NewT R ⟨T⟩:=h
end
theorem ja0{L R:Rows}{d:Nat}{v:Nat×List (List IV)}(h:look R d=some v)(hs:SubR L R):SubR ((d,v)::L) R:=fun k x hk=>by
 by_cases e:k=d
 ·subst e;rw[ja8]at hk;cases hk;exact h
 ·rw[ja3 _ _ e]at hk;exact hs k x hk
theorem mem_look{R:Rows}{d:Nat}(h:R.any (fun p=>p.1==d)=true):look R d≠none:=by
 induction R with
 | nil=>cases h
 | cons p R ih=>
  obtain⟨k,v⟩:=p;by_cases e:d=k
  ·subst e;rw[ja8];exact fun h=>by cases h
  ·rw[ja3 _ _ e];refine ih ?_;rw[List.any_cons,Bool.or_eq_true]at h;exact h.resolve_left fun h=>e (beq_iff_eq.1 h).symm
theorem jaw{R:Rows}{b X:Nat}(h:look R (hp b)=none)(hX:R.any (fun p=>p.1==hp X)=true):b≠X:=fun e=>by rw[e]at h;exact mem_look hX h
end
section
section
variable{G:Ctx}{N:Nat}{w0:Base}{M0:Nat->Nat->Prop}
theorem SemC.seq{x y:Code}{Q:Exit->St->Prop}{st:St}(h:SemC G N x (fun e s=>match e with | .normal=>SemC G N y Q s | e=>Q e s) st):SemC G N (x.seq y) Q st:=fun w0 M0 β a w hs=>by
 refine wp_seq (wp_mono (h w0 M0 β a w hs) fun e a' w' hq=> ?_);obtain⟨β',st',hq,hs'⟩:=hq;cases e with
 | normal=>exact hq w0 M0 β' a' w' hs'
 | _=>exact⟨β',st',hq,hs'⟩
