/- A part of the proof. No further condition. -/
import Derived.Test.YtjcjcpebocbonaaGreatKZ44
import Derived.Maps.OwnIn
set_option linter.all false
set_option maxRecDepth 10000000
set_option maxHeartbeats 16000000
namespace Go.Proofs.YtjcjcpebocbonaaGreat
section
set_option maxRecDepth 1000000
open Go.RowKit Go.Shelf Go.Sort
attribute [local go_sem] Oper.semAt_some
abbrev seqV(Bm om:Nat):Value:= .func (.func 108) #[] #[.pointer (some ⟨Bm,om,none⟩)]
def KeysOut(w w':World)(ks:List Value)(v:Value)(xs:List KeyV):Prop:=
 (xs.map (fun x:KeyV=>Value.agg x.enc.toArray)).Perm ks/\w'.ownsRow w.heap.size 80 3 v xs.length (encs xs)/\Below w.heap.size w w'
theorem collect_calls{w:World}{Bm om:Nat}{ks:List Value}(h:KeySeq w Bm om ks):Calls Tryz.prog 106 #[seqV Bm om] w fun e w'=>∃v xs,e= .returned v/\KeysOut w w' ks v xs:=by
 have hA:=(callsIn_wide (n:=10)).1 (appendSeq_in Bm om ks w h)
 go_enter Tryz.func106,Tryz.ntmps106
 go_wp2_with (go_at_call 128;refine hA.mono ?_;rintro e w' ⟨v,xs,rfl,hS,a1,hb⟩)
 go_ret
 exact⟨v,xs,rfl,hS,a1,hb⟩
theorem sort0Q(p:Option Addr)(c:Nat)(v:Value)(w:World):Calls Tryz.prog 107 #[.slice p 0 c,v] w fun e w'=>e= .returned (.tuple #[])/\w'=w:=AnyF.slices_SortFunc_none js5 p c v w
theorem jox:∀xs:List KeyV,(encs xs).length=xs.length*3
 | []=>rfl
 | x::xs=>by
  have:=jox xs;unfold encs at*;rw[vc,zB,this,List.length_cons];show 3+_=_;omega
theorem jj4:∀{xs:List KeyV} {i j:Nat} {x:KeyV},xs[i]? =some x->j<3->(encs xs)[i*3+j]? =x.enc[j]?
 | [],_,_,_,h,_=>by simp at h
 | y::xs,0,j,x,h,hj=>by
  cases h;unfold encs;rw[vc,vX,qi,zK (by show j<3;exact hj)]
 | y::xs,i+1,j,x,h,hj=>by
  have:=jj4 (xs:=xs) (i:=i) (j:=j) (x:=x) (by simpa using h) hj;unfold encs at*;rw[vc,zP (by show 3<=_;omega),<-this];congr 1;show _-3=_;omega
theorem sortK_calls{w:World}{n₀:Nat}{v:Value}{xs:List KeyV}(b2:w.ownsRow n₀ 80 3 v xs.length (encs xs))(hl:xs.length<=1000000):
  Calls Tryz.prog 107 #[v,.func (.func 82) #[] #[]] w fun e w'=>e= .returned (.tuple #[])/\∃ys:List KeyV,ys.Perm xs/\(∀(i j:Nat) (x y:KeyV),i<j->ys[i]? =some x->ys[j]? =some y->¬LQ.cmpL y.l x.l<0)/\w'.ownsRow n₀ 80 3 v ys.length (encs ys)/\Below n₀ w w':=by
 rcases b2.2 with ⟨rfl,h0⟩ | ⟨g,cap,cur,rfl,hg,a1,b5,b7,b9,b3⟩
 ·have hx:xs=[]:=qY.1 h0;subst hx;refine(sort0Q none 0 _ w).mono ?_;rintro e w' ⟨rfl,rfl⟩;exact⟨rfl,[],yQ _,fun i j x y _ h=>by simp at h,b2,Below.refl _ _⟩
 have c0:∀i j x,xs[i]? =some x->j<3->cur[i*3+j]? =x.enc[j]? :=fun i j x hi hj=>by
  have c3:=(zr.1 hi).1;have h1:=jj4 hi hj;rw[<-b3,vf (by omega),zR]at h1;exact h1
 have hH:HoldsK KeyV.enc 3 w g 0 xs.toArray:=by
  unfold HoldsK Holds;intro t ht;rw[size_flatK,qP]at ht;have hi:t/3<xs.length:=by omega
  have hj:t % 3<3:=by omega
  have b4:t/3*3+t % 3=t:=by omega
  have g2:=c0 (t/3) (t % 3) _ (zw hi) hj;have b0:(xs[t/3]).enc.length=3:=rfl;rw[b4,zw (by rw[b0];exact hj)]at g2;refine⟨?_,frozen0 a1⟩;rw[qi,cell0 a1 g2,get_flatK _ _ _ _ (by rw[qP];exact ht),jj xs.toArray _ (by simpa using hi)];have e1:xs.toArray[t/3]'(by simpa using hi)=xs[t/3]:=by simp
  rw[e1,jj _ _ (by rw[b0];exact hj)];rfl
 have hblk:g<w.heap.size:=(zm.1 a1).1;have a7:=sort_callsQ g 0 cap xs.toArray w hH hblk (by simp;omega);rw[qP]at a7;refine a7.mono ?_;rintro e w' ⟨rfl,d',n,os,⟨a8,_,hp2⟩,a6,rfl⟩;have a8:d'.size=xs.length:=by simpa using a8
 have b6:d'.toList.Perm xs:=by
  have e1:(d'.extract 0 xs.length)=d':=by rw[<-a8];simp
  have e2:(xs.toArray.extract 0 xs.length)=xs.toArray:=by simp
  rw[e1,e2]at hp2
  simpa using hp2
 have b1:d'.toList.length=xs.length:=by rw[Array.length_toList];exact a8
 refine⟨rfl,d'.toList,b6,fun i j x y b8 h1 h2=> ?_,⟨?_,.inr ⟨g,cap,_,by rw[b1],hg,jr8 a1,by rw[b1];exact b5,b7,?_,?_⟩⟩,⟨rfl,rfl,rfl,sw_size,fun k hk=>jhq (by omega) ?_⟩⟩
 ·have hi:=(zr.1 h1).1;have hj:=(zr.1 h2).1;rw[Array.length_toList]at hi hj;have:=a6 i j (zG _) b8 (by omega);rw[KeyV.lt]at this;have:=zJ this;rw[jj d' i hi,jj d' j hj]at this;rw[zR,qn hi]at h1;rw[zR,qn hj]at h2;cases h1;cases h2;exact this
 ·exact jox _
 ·unfold putCells;rw[Array.size_mapIdx];exact b9
 ·rw[b1];refine ju fun t=> ?_;by_cases ht:t<xs.length*3
  ·have hi:t/3<d'.size:=by omega
   have hj:t % 3<3:=by omega
   have b4:t/3*3+t % 3=t:=by omega
   have h1:d'[t/3]? =some d'[t/3]:=qn hi;have b0:(d'[t/3]).enc.length=3:=rfl;have h2:(d'[t/3]).enc[t % 3]? =some ((d'[t/3]).enc[t % 3]'(by rw[b0];exact hj)):=zw _;have h3:=sw_cell (cur:=cur) (enc:=KeyV.enc) (k:=3) (fun x=>rfl) h1 h2 (by
    have:=qj 3 b5;omega)
   have h4:=jj4 (xs:=d'.toList) (i:=t/3) (j:=t % 3) (by rw[zR];exact h1) hj;rw[b4]at h3 h4;rw[vf ht,zR,h3,h4,h2]
  ·rw[qo (by rw[qb];omega),qo (by rw[jox,b1];omega)]
 ·omega
theorem sorted_calls{w:World}{Bm om:Nat}{ks:List Value}(h:KeySeq w Bm om ks):
  Calls Tryz.prog 80 #[seqV Bm om,.func (.func 82) #[] #[]] w fun e w'=>∃v xs,e= .returned v/\KeysOut w w' ks v xs/\(∀(i j:Nat) (x y:KeyV),i<j->xs[i]? =some x->xs[j]? =some y->¬LQ.cmpL y.l x.l<0):=by
 have hC:=collect_calls h;have hlen:=h.len;have hS:=fun(w1:World) (v:Value) (xs:List KeyV) (h1:w1.ownsRow w.heap.size 80 3 v xs.length (encs xs)) (h2:xs.length<=1000000)=>sortK_calls h1 h2;clear h
 go_enter Tryz.func80,Tryz.ntmps80
 go_wp2_with (first
  | (go_at_call 106;refine hC.mono ?_;rintro e w1 ⟨v,xs,rfl,hp,a6,hb⟩)
  | (go_at_call 107;refine(hS _ _ xs a6 (by have:=hp.length_eq;simp at this;omega)).mono ?_;rintro e w2 ⟨rfl,ys,a8,a7,a1,b0⟩))
 go_ret
 exact⟨v,rfl,ys,⟨(a8.map _).trans hp,a1,hb.trans b0⟩,fun i j x y a b c=>a7 i j x y a b c⟩
end
section
set_option maxRecDepth 1000000
open Go.Abs Go.LQ
attribute [local go_sem] ints ic qC rtC
theorem getq{l:List Quo}{i:Nat}(h:i<l.length):l[i]? =some (l.getD i z0):=by rw[gD _ h];exact zw h
theorem js0{l:List Quo}{i:Nat}(h:i<l.length):l.take (i+1)=l.take i++[l.getD i z0]:=by rw[yo,getq h];rfl
def tabI(l:List Quo)(i:Nat):Tab:=(l.take i).foldl (fun t q=>mput t q.k [q.kg]) []
theorem tabI_succ{l:List Quo}{i:Nat}(h:i<l.length):tabI l (i+1)=mput (tabI l i) [(l.getD i z0).dep,(l.getD i z0).day,(l.getD i z0).com] [(l.getD i z0).kg]:=by
 unfold tabI;rw[js0 h,jU];rfl
theorem tabI_all{l:List Quo}(h:Asc l):tabI l l.length=tabL l:=by
 have:=js1 h l.length (zu _);rw[qE]at this;unfold tabI;rw[qE];exact this
theorem jo9(l:List Quo)(ha:Asc l)(hl:l.length<=100000):CtrO G.P 28 [.sl (l.map qC)] (3,true) (tabL l):=by
 rw[<-tabI_all ha];refine ctro_go good _ _ [.tmp 2] Tryz.func28 rfl rfl (by decide+kernel) rfl ?_;simp only[za,go_sem];refine jai [0,3,7,8,9] [6] (fun i:Nat=>⟨[(0,.im (.sl (l.map qC))),(3,.mpo 6 (3,true) (tabI l i)),(7,.im (.sl (l.map qC))),(8,.im (.int l.length)),(9,.im (.int i))],[],[(6,0,0)]⟩)
  (fun i=>i<=l.length) (fun i=>l.length-i) 0 ?_ (zG _) ?_
 ·simp only[Int.natCast_zero,tabI,List.take_zero,List.foldl_nil,go_sem]
 intro i hi;by_cases hp:(i:Int)<l.length
 ·have hd:decide ((i:Int)<l.length)=true:=zp hp;have a6:(0:Int)<=i:=by omega
  have hn:((i:Nat):Int).toNat=i:=Int.toNat_natCast i;have hx:=getq (l:=l) (i:=i) (by omega);have hw:=ja8 ((i:Int)+1);have ho:=q_of (l.getD i z0);have hs:=(tabI_succ (l:=l) (i:=i) (by omega)).symm;generalize l.getD i z0=q at*;generalize a1:tabI l (i+1)=t2 at*;simp only[hd,a6,hp,hn,zq,hx,za,go_sem];refine jaf 5 ?_;simp only[go_sem];refine ja3 ho (by decide) ?_;simp only[hs,go_sem];refine ja7 (i+1) ?_ (by omega) (by omega);simp only[hw,a1,Int.natCast_add,go_sem]
 ·have hd:decide ((i:Int)<l.length)=false:=ze hp;obtain rfl:i=l.length:=by omega
  simp only[hd,go_sem]
theorem jla(l:List Quo)(ha:Asc l)(hl:l.length<=100000):Ctr G.P 28 [.sl (l.map qC)] (· = .mp (3,true) (tabL l)):=(jo9 l ha hl).ctr
theorem q_list(r:Rts)(l:List Quo)(hn:0<=r.n/\r.n<=1000000)(hc:r.cap.length<=100000)(hl:l.length<=100000):Ctr G.P 27 [.agg (rtC r),.sl (l.map qC)] (· = .int (listE r l)):=by
 have hR:∃a b c d,rtC r=[.int a,.sl b,.sl c,.sl d]:=⟨_,_,_,_,rfl⟩;have kt:=fun c d y=>jrc r c d y hn hc;obtain⟨rn,rc,rh,ru,hR⟩:=hR;rw[hR]at kt⊢;refine ja4 [.tmp 4] Tryz.func27 ?_;simp only[za,go_sem];refine jai [1,2,9,10,11] [2] (fun i:Nat=>⟨[(1,.im (.sl (l.map qC))),(2,.loc 2 4 0 0),(9,.im (.sl (l.map qC))),(10,.im (.int l.length)),(11,.im (.int i))],[(2,4,[[.int rn,.sl rc,.sl rh,.sl ru]])],[]⟩)
  (fun i=>i<=l.length/\∀j,j<i->errQ r l j=0) (fun i=>l.length-i) 0 ?_ ⟨zG _,fun j hj=>absurd hj (by omega)⟩ ?_
 ·simp only[Int.natCast_zero,go_sem]
 intro i ⟨hi,he⟩;by_cases hp:(i:Int)<l.length
 ·have hd:decide ((i:Int)<l.length)=true:=zp hp;have b3:(0:Int)<=i:=by omega
  have hn2:((i:Nat):Int).toNat=i:=Int.toNat_natCast i;have hx:=getq (l:=l) (i:=i) (by omega);have hw:=ja8 ((i:Int)+1);have a7:=ja8 ((i:Int)-1);have ho:=q_of (l.getD i z0);have k1:=kt (l.getD i z0).com (l.getD i z0).dep (l.getD i z0).day;have k2:=q_in (l.getD i z0).kg 1 1000000;have hE:∀e,errQ r l i=e->e≠0->listE r l=e:=fun e h1 h2=>by
   unfold listE;rw[jm0 he (by omega) (by rw[h1];exact h2),h1]
  have a6:errQ r l i=0->∀j,j<i+1->errQ r l j=0:=fun h j hj=>by
   by_cases e:j=i
   ·rw[e];exact h
   ·exact he j (by omega)
  have a1:errQ r l i=if r.there (l.getD i z0).com (l.getD i z0).dep (l.getD i z0).day=false then 1 else if inR (l.getD i z0).kg 1 1000000=false then 3 else if 0<i/\0<=cmpL (l.getD (i-1) z0).k (l.getD i z0).k then 2 else 0:=rfl
  generalize hq:l.getD i z0=q at*;generalize r.there q.com q.dep q.day=b1 at*;generalize inR q.kg 1 1000000=b2 at*;simp only[hd,b3,hp,hn2,zq,hx,za,go_sem];refine ja0 ho ?_;simp only[go_sem];refine ja0 k1 ?_;cases b1
  ·rw[hE 1 (by rw[a1,zh rfl]) (by decide)];simp only[go_sem]
  simp only[go_sem];refine ja0 k2 ?_;cases b2
  ·rw[hE 3 (by rw[a1,zl (by decide),zh rfl]) (by decide)];simp only[go_sem]
  simp only[go_sem];by_cases h0:0<i
  ·have d0:decide ((0:Int)<i)=true:=dTo;have hy:=getq (l:=l) (i:=i-1) (by omega);have a8:=q_of (l.getD (i-1) z0);have kc:=q_cmpK (l.getD (i-1) z0) q;have b0:((i:Int)-1).toNat=i-1:=by omega
   have b5:(0:Int)<=(i:Int)-1:=by omega
   have b4:(i:Int)-1<l.length:=by omega
   generalize l.getD (i-1) z0=p at*;simp only[d0,a7,b5,b4,b0,zq,hy,za,go_sem];refine ja0 a8 ?_;simp only[go_sem];refine DrawLe_of (jsr _ [8,7]) ?_;simp only[go_sem];refine jaf 4 ?_;simp only[zt,zF,go_sem];refine ja3 kc (by decide) ?_;simp only[go_sem];refine jbq (fun d2 h2=> ?_) (fun d2 h2=> ?_)
   ·rw[hE 2 (by rw[a1,zl (by decide),zl (by decide),zh ⟨h0,h2⟩]) (by decide)];simp only[go_sem]
   ·simp only[go_sem];refine ja7 (i+1) ?_ (by omega) ⟨by omega,a6 (by rw[a1,zl (by decide),zl (by decide),zl (fun h=>h2 h.2)])⟩;simp only[hw,Int.natCast_add,go_sem]
  ·have d0:decide ((0:Int)<i)=false:=dFo;simp only[d0,go_sem];refine ja7 (i+1) ?_ (by omega) ⟨by omega,a6 (by rw[a1,zl (by decide),zl (by decide),zl (fun h=>h0 h.1)])⟩;simp only[hw,Int.natCast_add,go_sem]
 ·have hd:decide ((i:Int)<l.length)=false:=ze hp;obtain rfl:i=l.length:=by omega
  have h0:listE r l=0:=jfd he;rw[h0];simp only[hd,go_sem]
end
section
set_option maxRecDepth 1000000
open Go.Abs Go.LQ
attribute [local go_sem] ints ic qC
def dayT(l:List Quo)(i:Nat):Tab:=(l.take i).foldl (fun t q=>mput t [q.dep,q.day,0] [vof t [q.dep,q.day,0]+q.kg]) []
theorem jqu{l:List Quo}{i:Nat}(h:i<l.length):dayT l (i+1)=mput (dayT l i) [(l.getD i z0).dep,(l.getD i z0).day,0] [vof (dayT l i) [(l.getD i z0).dep,(l.getD i z0).day,0]+(l.getD i z0).kg]:=by
 unfold dayT;rw[js0 h,jU];rfl
theorem jrh(l:List Quo):∀i,i<=l.length->Shape 3 (dayT l i)/\∀d y,vof (dayT l i) [d,y,0]=psum (l.take i) d y
 | 0,_=>⟨fun p hp=>by simp[dayT]at hp,fun d y=>by simp[dayT,psum,vof,mget]⟩
 | i+1,h=>by
  obtain⟨h1,h2⟩:=jrh l i (by omega);rw[jqu (by omega),js0 (by omega)];refine⟨jg3 h1 rfl rfl,fun d y=> ?_⟩;rw[jjh,jib,psum,psum,<-h2 d y];by_cases e:(l.getD i z0).dep=d/\(l.getD i z0).day=y
  ·obtain⟨e1,e2⟩:=e;rw[zh (by rw[e1,e2]),zh ⟨e1,e2⟩,e1,e2];omega
  ·rw[zl (fun h=>e (by simp only[yT,vD]at h;exact⟨h.1.symm,h.2.symm⟩)),zl e];omega
theorem jeh{t:Tab}(h:Shape 3 t)(k:List Int):mget t k=some [vof t k]\/(mget t k=none/\vof t k=0):=by
 unfold vof;cases hm:mget t k with
 | none=>exact .inr ⟨rfl,rfl⟩
 | some v=>
  have:=(h _ (jqh hm)).2
  match v,this with
  | [x],_=>exact .inl rfl
theorem psum_bound{l:List Quo}(h:∀q∈l,1<=q.kg/\q.kg<=1000000)(d y:Int):0<=psum l d y/\psum l d y<=l.length*1000000:=by
 induction l with
 | nil=>simp[psum]
 | cons q l ih=>
  have h1:=ih fun q hq=>h q (zW _ hq);have h2:=h q zU;rw[psum,List.length_cons];split<;>omega
section
variable{r:Rts}
theorem ck1(h:inR r.n 0 20=false):jc3 r=1:=by unfold jc3;rw[zh h]
theorem ck2(h:inR r.n 0 20=true)(h2:20<(r.cap.length:Int)\/300<(r.held.length:Int)\/300<(r.used.length:Int)):jc3 r=6:=by unfold jc3;rw[zl (by rw[h];decide),zh h2]
theorem ck3(h:inR r.n 0 20=true)(h2:¬(20<(r.cap.length:Int)\/300<(r.held.length:Int)\/300<(r.used.length:Int)))(h3:jct (capE r) r.cap.length≠0):jc3 r=20:=by
 unfold jc3;rw[zl (by rw[h];decide),zl h2,zh h3]
theorem ck4(h:inR r.n 0 20=true)(h2:¬(20<(r.cap.length:Int)\/300<(r.held.length:Int)\/300<(r.used.length:Int)))(h3:jct (capE r) r.cap.length=0):
  jc3 r=if listE r r.held≠0 then listE r r.held else if listE r r.used≠0 then listE r r.used else if jct (dayE r) r.held.length≠0 then 20 else jct (useE r) r.used.length:=by
 unfold jc3;rw[zl (by rw[h];decide),zl h2,zl (fun e=>e h3)]
end
theorem q_check0(r:Rts)(hc:r.cap.length<=100000)(hh:r.held.length<=100000)(hu:r.used.length<=100000)
  (h:¬(inR r.n 0 20=true/\¬(20<(r.cap.length:Int)\/300<(r.held.length:Int)\/300<(r.used.length:Int))/\jct (capE r) r.cap.length=0)):Ctr G.P 9 [.agg (rtC r)] (· = .int (jc3 r)):=by
 rcases h1:inR r.n 0 20 with _ | _
 ·have k1:=q_in r.n 0 20;rw[h1]at k1;rw[ck1 h1];unfold rtC;refine ja4 [.tmp 2] Tryz.func9 ?_;simp only[go_sem];refine ja0 k1 ?_;simp only[go_sem]
 have k1:=q_in r.n 0 20;rw[h1]at k1;by_cases h2:20<(r.cap.length:Int)\/300<(r.held.length:Int)\/300<(r.used.length:Int)
 ·rw[ck2 h1 h2];unfold rtC;rcases a1:decide (20<(r.cap.length:Int))with _ | _
  ·rcases a2:decide (300<(r.held.length:Int))with _ | _
   ·have a3:decide (300<(r.used.length:Int))=true:=zp (by
     have:=zJ a1;have:=zJ a2;omega)
    refine ja4 [.tmp 2] Tryz.func9 ?_;simp only[go_sem];refine ja0 k1 ?_;simp only[a1,a2,a3,za,go_sem]
   ·refine ja4 [.tmp 2] Tryz.func9 ?_;simp only[go_sem];refine ja0 k1 ?_;simp only[a1,a2,za,go_sem]
  ·refine ja4 [.tmp 2] Tryz.func9 ?_;simp only[go_sem];refine ja0 k1 ?_;simp only[a1,za,go_sem]
 have h3:jct (capE r) r.cap.length≠0:=fun e=>h ⟨h1,h2,e⟩;have a1:decide (20<(r.cap.length:Int))=false:=dFo;have a2:decide (300<(r.held.length:Int))=false:=dFo;have a3:decide (300<(r.used.length:Int))=false:=dFo;rw[ck3 h1 h2 h3];have a7:∀i,capE r i=if inR (r.cap.getD i 0) 0 1000000=false then 20 else 0:=fun i=>rfl
 have a6:¬∀j,j<r.cap.length->capE r j=0:=fun hj=>h3 (jfd hj);obtain⟨rc,hrc⟩:∃rc,rc=r.cap:=⟨_,rfl⟩;rw[<-hrc]at a7 a6 hc;unfold rtC;rw[<-hrc]at a1⊢;refine ja4 [.tmp 2] Tryz.func9 ?_;simp only[go_sem];refine ja0 k1 ?_;simp only[a1,a2,a3,za,go_sem];refine jai [37,38,39] [] (fun i:Nat=>⟨[(37,.im (ints rc)),(38,.im (.int rc.length)),(39,.im (.int i))],[],[]⟩)
  (fun i=>i<=rc.length/\∀j,j<i->capE r j=0) (fun i=>rc.length-i) 0 ?_ ⟨zG _,fun j hj=>absurd hj (by omega)⟩ ?_
 ·simp only[Int.natCast_zero,go_sem]
 intro i ⟨hi,he⟩;by_cases hp:(i:Int)<rc.length
 ·have hd:decide ((i:Int)<rc.length)=true:=zp hp;have a8:(0:Int)<=i:=by omega
  have hn2:((i:Nat):Int).toNat=i:=Int.toNat_natCast i;have hx:=get_i (l:=rc) (i:=i) (by omega);have hw:=ja8 ((i:Int)+1);have k2:=q_in (rc.getD i 0) 0 1000000;have b0:=a7 i;generalize rc.getD i 0=x at*;generalize inR x 0 1000000=b at*;simp only[hd,a8,hp,hn2,zq,hx,za,go_sem];refine ja0 k2 ?_;cases b
  ·simp only[go_sem]
  ·simp only[go_sem];refine ja7 (i+1) ?_ (by omega) ⟨by omega,fun j hj=> ?_⟩
   ·simp only[hw,Int.natCast_add,go_sem]
   ·by_cases e:j=i
    ·rw[e,b0,zl (by decide)]
    ·exact he j (by omega)
 ·exact absurd (fun j hj=>he j (by omega)) a6
theorem q_check1(r:Rts)(h1:inR r.n 0 20=true)(h2:¬(20<(r.cap.length:Int)\/300<(r.held.length:Int)\/300<(r.used.length:Int)))(h3:jct (capE r) r.cap.length=0):Ctr G.P 9 [.agg (rtC r)] (· = .int (jc3 r)):=by
 have k1:=q_in r.n 0 20;rw[h1]at k1;have hn:=inR_iff.1 h1;have c5:r.cap.length<=20:=by omega
 have e0:r.held.length<=300:=by omega
 have c8:r.used.length<=300:=by omega
 have a1:decide (20<(r.cap.length:Int))=false:=dFo;have a2:decide (300<(r.held.length:Int))=false:=dFo;have a3:decide (300<(r.used.length:Int))=false:=dFo;have b3:∀i,i<r.cap.length->inR (r.cap.getD i 0) 0 1000000=true:=fun i hi=>by
  have:=firstE_zero.1 h3 i hi;unfold capE at this;split at this
  ·cases this
  ·rename_i e;simpa using e
 have kh:=q_list r r.held (by omega) (by omega) (by omega);have ku:=q_list r r.used (by omega) (by omega) (by omega);have hH:listE r r.held=0->ListOk r r.held:=listE_zero.1;have hU:listE r r.used=0->ListOk r r.used:=listE_zero.1;have b2:∀i,dayE r i=if r.cap.getD (r.held.getD i z0).dep.toNat 0<psum (r.held.take (i+1)) (r.held.getD i z0).dep (r.held.getD i z0).day then 20 else 0:=fun i=>rfl
 have b5:∀i,useE r i=if vof (tabL r.held) (r.used.getD i z0).k<(r.used.getD i z0).kg then 7 else 0:=fun i=>rfl
 rw[ck4 h1 h2 h3];generalize listE r r.held=e1 at*;generalize listE r r.used=e2 at*;have b6:∀q∈r.held,r.there q.com q.dep q.day=true->0<=q.dep/\q.dep<r.cap.length:=fun q _ h=>(there_iff.1 h).2.1;have c7:e1=0->(∀q∈r.held,(0<=q.dep/\q.dep<r.cap.length)/\(1<=q.kg/\q.kg<=1000000))/\Asc r.held:=fun h=>⟨fun q hq=>⟨b6 q hq ((hH h).there q hq),(hH h).kg q hq⟩,(hH h).asc⟩;have b4:∀i,(∀j,j<i->dayE r j=0)->i<r.held.length->dayE r i≠0->jct (dayE r) r.held.length≠0:=fun i h h' b1=>by rw[jm0 h h' b1];exact b1
 have a8:(∀j,j<r.held.length->dayE r j=0)->jct (dayE r) r.held.length=0:=jfd;have b9:∀i,(∀j,j<i->useE r j=0)->i<r.used.length->useE r i≠0->jct (useE r) r.used.length=useE r i:=fun i h h' b1=>jm0 h h' b1;have b8:(∀j,j<r.used.length->useE r j=0)->jct (useE r) r.used.length=0:=jfd;generalize jct (dayE r) r.held.length=e3 at*;generalize jct (useE r) r.used.length=e4 at*;have kT:=fun h=>jla r.held h (by omega);unfold rtC at*;generalize dayE r=dE at*;generalize useE r=uE at*;generalize r.cap=rc at*;generalize r.held=H at*;generalize r.used=U at*;generalize r.n=rn at*;clear h1 h2 h3 hH hU b6;refine ja4 [.tmp 2] Tryz.func9 ?_;simp only[go_sem];refine ja0 k1 ?_;simp only[a1,a2,a3,za,go_sem];refine jai [1,37,38,39] [1] (fun i:Nat=>⟨[(1,.loc 1 4 0 0),(37,.im (ints rc)),(38,.im (.int rc.length)),(39,.im (.int i))],[(1,4,[[.int rn,ints rc,.sl (H.map qC),.sl (U.map qC)]])],[]⟩)
  (fun i=>i<=rc.length) (fun i=>rc.length-i) 0 ?_ (zG _) ?_
 ·simp only[Int.natCast_zero,go_sem]
 intro i hi;by_cases hp:(i:Int)<rc.length
 ·have hd:decide ((i:Int)<rc.length)=true:=zp hp;have a7:(0:Int)<=i:=by omega
  have hn2:((i:Nat):Int).toNat=i:=Int.toNat_natCast i;have hx:=get_i (l:=rc) (i:=i) (by omega);have hw:=ja8 ((i:Int)+1);have k2:=q_in (rc.getD i 0) 0 1000000;rw[b3 i (by omega)]at k2;generalize rc.getD i 0=x at*;simp only[hd,a7,hp,hn2,zq,hx,za,go_sem];refine ja0 k2 ?_;simp only[go_sem];refine ja7 (i+1) ?_ (by omega) (by omega);simp only[hw,Int.natCast_add,go_sem]
 have hd:decide ((i:Int)<rc.length)=false:=ze hp;clear b3;simp only[hd,go_sem];refine ja0 kh ?_;by_cases g1:e1=0
 case neg=>
  have d1:decide (e1=0)=false:=ze g1;rw[zh g1];simp only[d1,go_sem]
 obtain⟨hq,ha⟩:=c7 g1;have kT:=kT ha;subst g1;simp only[go_sem];refine ja0 ku ?_;by_cases g2:e2=0
 case neg=>
  have d2:decide (e2=0)=false:=ze g2;rw[zl (by decide),zh g2];simp only[d2,go_sem]
 subst g2;rw[zl (by decide),zl (by decide)];simp only[za,go_sem];refine jai [1,7,63,64,65] [1,61] (fun i:Nat=>⟨[(1,.loc 1 4 0 0),(7,.mpo 61 (3,true) (dayT H i)),(63,.im (.sl (H.map qC))),(64,.im (.int H.length)),(65,.im (.int i))],[(1,4,[[.int rn,ints rc,.sl (H.map qC),.sl (U.map qC)]])],[(61,0,0)]⟩)
  (fun i=>i<=H.length/\∀j,j<i->dE j=0) (fun i=>H.length-i) 0 ?_ ⟨zG _,fun j hj=>absurd hj (by omega)⟩ ?_
 ·simp only[Int.natCast_zero,dayT,List.take_zero,List.foldl_nil,go_sem]
 intro i ⟨hi,he⟩;by_cases hp:(i:Int)<H.length
 ·have hd:decide ((i:Int)<H.length)=true:=zp hp;have a7:(0:Int)<=i:=by omega
  have hn2:((i:Nat):Int).toNat=i:=Int.toNat_natCast i;have hx:=getq (l:=H) (i:=i) (by omega);have hw:=ja8 ((i:Int)+1);obtain⟨⟨q1,q2⟩,q3,q4⟩:=hq _ (jj2 (l:=H) (i:=i) (by omega));obtain⟨s1,s2⟩:=jrh H i (by omega);obtain⟨s3,s4⟩:=jrh H (i+1) (by omega);have hs:=(jqu (l:=H) (i:=i) (by omega)).symm;have b0:=b2 i;rw[<-s4]at b0;have hb:=psum_bound (l:=H.take i) (fun q c4=>(hq q (yz c4)).2) (H.getD i z0).dep (H.getD i z0).day;rw[<-s2]at hb;have hlen:(H.take i).length<=300:=by rw[qb];omega
  have hv:=ja8 (vof (dayT H i) [(H.getD i z0).dep,(H.getD i z0).day,0]+(H.getD i z0).kg);have hm:=jeh s1 [(H.getD i z0).dep,(H.getD i z0).day,0];have b7:mget (dayT H (i+1)) [(H.getD i z0).dep,(H.getD i z0).day,0]=some [vof (dayT H (i+1)) [(H.getD i z0).dep,(H.getD i z0).day,0]]:=by
   rw[<-hs,jom,zh rfl,jjh,zh rfl]
  have c0:=get_i (l:=rc) (i:=(H.getD i z0).dep.toNat) (by omega);generalize c9:H.getD i z0=q at*;generalize hV:vof (dayT H i) [q.dep,q.day,0]=V at*;generalize e5:vof (dayT H (i+1)) [q.dep,q.day,0]=V2 at*;generalize c3:dayT H (i+1)=T2 at*;generalize c6:dayT H i=T1 at*;generalize rc.getD q.dep.toNat 0=cx at*;simp only[hd,a7,hp,hn2,zq,hx,c6,za,go_sem];refine jhl 8 6 7 61 T1 [q.dep,q.day,0] rfl rfl rfl (by decide+kernel) (by decide) rfl rfl rfl (by decide+kernel) rfl ?_;rcases hm with hm | ⟨hm,hm0⟩
  ·simp only[hm,hv,hs,go_sem];refine jaf 10 ?_;simp only[b7,q1,q2,c0,zq,za,go_sem];refine jbq (fun d3 h3=> ?_) (fun d3 h3=> ?_)
   ·rw[zh (b4 i he (by omega) (by rw[b0,zh h3];decide))];simp only[go_sem]
   ·simp only[go_sem];refine ja7 (i+1) ?_ (by omega) ⟨by omega,fun j hj=> ?_⟩
    ·simp only[hw,c3,Int.natCast_add,go_sem]
    ·by_cases e:j=i
     ·rw[e,b0,zl h3]
     ·exact he j (by omega)
  ·subst hm0;simp only[hm,hv,hs,go_sem];refine jaf 10 ?_;simp only[b7,q1,q2,c0,zq,za,go_sem];refine jbq (fun d3 h3=> ?_) (fun d3 h3=> ?_)
   ·rw[zh (b4 i he (by omega) (by rw[b0,zh h3];decide))];simp only[go_sem]
   ·simp only[go_sem];refine ja7 (i+1) ?_ (by omega) ⟨by omega,fun j hj=> ?_⟩
    ·simp only[hw,c3,Int.natCast_add,go_sem]
    ·by_cases e:j=i
     ·rw[e,b0,zl h3]
     ·exact he j (by omega)
 have hd:decide ((i:Int)<H.length)=false:=ze hp;obtain rfl:i=H.length:=by omega
 have a8:=a8 he;subst a8;rw[zl (by decide)];clear he b4 b2;simp only[hd,go_sem];refine ja0 kT ?_;simp only[za,go_sem];refine jai [11,97,98,99] [] (fun i:Nat=>⟨[(11,.im (.mp (3,true) (tabL H))),(97,.im (.sl (U.map qC))),(98,.im (.int U.length)),(99,.im (.int i))],[],[]⟩)
  (fun i=>i<=U.length/\∀j,j<i->uE j=0) (fun i=>U.length-i) 0 ?_ ⟨zG _,fun j hj=>absurd hj (by omega)⟩ ?_
 ·simp only[Int.natCast_zero,go_sem]
 intro i ⟨hi,he⟩;by_cases hp:(i:Int)<U.length
 ·have hd:decide ((i:Int)<U.length)=true:=zp hp;have a7:(0:Int)<=i:=by omega
  have hn2:((i:Nat):Int).toNat=i:=Int.toNat_natCast i;have hx:=getq (l:=U) (i:=i) (by omega);have hw:=ja8 ((i:Int)+1);have ho:=q_of (U.getD i z0);have hm:=jeh (jcr H) [(U.getD i z0).dep,(U.getD i z0).day,(U.getD i z0).com];have a6:=b5 i;unfold Quo.k at a6;generalize U.getD i z0=q at*;generalize vof (tabL H) [q.dep,q.day,q.com]=V at*;simp only[hd,a7,hp,hn2,zq,hx,za,go_sem];refine jaf 7 ?_;simp only[go_sem];refine ja3 ho (by decide) ?_;rcases hm with hm | ⟨hm,hm0⟩
  ·simp only[hm,go_sem];refine jbq (fun d3 h3=> ?_) (fun d3 h3=> ?_)
   ·rw[zh h3]at a6;rw[b9 i he (by omega) (by rw[a6];decide),a6];simp only[go_sem]
   ·rw[zl h3]at a6;simp only[go_sem];refine ja7 (i+1) ?_ (by omega) ⟨by omega,fun j hj=> ?_⟩
    ·simp only[hw,Int.natCast_add,go_sem]
    ·by_cases e:j=i
     ·rw[e,a6]
     ·exact he j (by omega)
  ·subst hm0;simp only[hm,go_sem];refine jbq (fun d3 h3=> ?_) (fun d3 h3=> ?_)
   ·rw[zh h3]at a6;rw[b9 i he (by omega) (by rw[a6];decide),a6];simp only[go_sem]
   ·rw[zl h3]at a6;simp only[go_sem];refine ja7 (i+1) ?_ (by omega) ⟨by omega,fun j hj=> ?_⟩
    ·simp only[hw,Int.natCast_add,go_sem]
    ·by_cases e:j=i
     ·rw[e,a6]
     ·exact he j (by omega)
 have hd:decide ((i:Int)<U.length)=false:=ze hp;obtain rfl:i=U.length:=by omega
 rw[b8 he];simp only[hd,go_sem]
theorem jia(r:Rts)(hc:r.cap.length<=100000)(hh:r.held.length<=100000)(hu:r.used.length<=100000):Ctr G.P 9 [.agg (rtC r)] (· = .int (jc3 r)):=by
 by_cases h:inR r.n 0 20=true/\¬(20<(r.cap.length:Int)\/300<(r.held.length:Int)\/300<(r.used.length:Int))/\jct (capE r) r.cap.length=0
 ·exact q_check1 r h.1 h.2.1 h.2.2
 ·exact q_check0 r hc hh hu h
end
section
set_option maxRecDepth 1000000
open Go.RowKit Go.Shelf Go.LQ
open Go.Abs (IV Rep RepL Ctr keyV elemV Ents Born)
def kC(q:Quo):List IV:=[.int q.dep,.int q.day,.int q.com]
def decK(v:Value):List Int:=match v with
 | .agg vs=>vs.toList.map fun x=>match x with | .int _ n=>n | _=>0
 | _=>[]
theorem jp1(k:List Int):decK (keyV k)=k:=by
 show List.map _ (List.map _ k)=k;rw[qN];exact(qV fun n _=>rfl).trans (List.map_id k)
theorem dec_kv(x:KeyV):decK (.agg x.enc.toArray)=x.l:=rfl
def KeyV.q(x:KeyV):Quo:=⟨x.c,x.a,x.b,0⟩
theorem KeyV.q_k(x:KeyV):x.q.k=x.l:=rfl
theorem sorted_eq{t:LQ.Tab}(hs:Shape 3 t)(hd:Dist t){xs:List KeyV}(hp:(xs.map KeyV.l).Perm (t.map (·.1)))(a1:∀(i j:Nat) (x y:KeyV),i<j->xs[i]? =some x->xs[j]? =some y->¬cmpL y.l x.l<0):
  xs.map KeyV.q=(quoL t).map fun q=>{q with kg:=0}:=by
 have hn:(xs.map KeyV.l).Nodup:=hp.nodup_iff.2 hd;refine jtf ?_ ?_ ?_
 ·have h1:=hp.map (fun k=>toQ (k,[0]));rw[qN,qN]at h1;have h2:=(jl9 t).symm.map fun q=>{q with kg:=0};rw[qN]at h2;exact h1.trans h2
 ·refine jr.2 (yJ.2 fun i j hi hj a6=> ?_);have h1:=a1 i j xs[i] xs[j] a6 (zw hi) (zw hj);rw[KeyV.q_k,KeyV.q_k];have h2:=cmpL_flip xs[i].l xs[j].l;rcases cmpL_cases xs[i].l xs[j].l with e | e | e
  ·omega
  ·have:=yJ.1 hn i j (by simpa using hi) (by simpa using hj) a6;simp only[wc]at this;exact absurd (cmpL_eq e) this
  ·omega
 ·exact jr.2 ((quoL_asc hs hd).imp fun{a b} h=>h)
theorem jm7{kvs:LQ.Tab}{es:Array MapEntry}(h:Ents (3,true) kvs es):es.toList.map (·.key)=kvs.map fun p=>keyV p.1:=by
 have:=zS (List.map Prod.fst) h.2;rw[qN,qN]at this;exact this
theorem ents_key{kvs:LQ.Tab}{es:Array MapEntry}(h:Ents (3,true) kvs es):∀e∈es.toList,∃x:KeyV,e.key= .agg x.enc.toArray:=fun e he=>by
 have hm:e.key∈kvs.map fun p=>keyV p.1:=by rw[<-jm7 h];exact z8.2 ⟨e,he,rfl⟩
 obtain⟨p,hp,e1⟩:=z8.1 hm;have hl:=h.1 p hp;obtain⟨k,v⟩:=p
 match k,hl with
 | [a,b,c],_=>exact⟨⟨a,b,c⟩,e1.symm⟩
theorem jsu{xs:List KeyV}{i j:Nat}{e:List IV}{x:IV}(h1:(xs.map fun x=>kC x.q)[i]? =some e)(h2:e[j]? =some x):∃y n,xs[i]? =some y/\j<3/\x= .int n/\y.enc[j]? =some (.int .i64 n):=by
 rw[zq,qz]at h1;obtain⟨y,hy,rfl⟩:=h1
 match j,h2 with
 | 0,h2=>cases h2;exact⟨y,y.a,hy,by decide,rfl,rfl⟩
 | 1,h2=>cases h2;exact⟨y,y.b,hy,by decide,rfl,rfl⟩
 | 2,h2=>cases h2;exact⟨y,y.c,hy,by decide,rfl,rfl⟩
 | j+3,h2=>simp[kC]at h2
theorem row_rep{w w':World}{M:Nat->Nat->Prop}(hM:∀b o,M b o->b<w.heap.size){v:Value}{xs:List KeyV}(h:w'.ownsRow w.heap.size 80 3 v xs.length (encs xs)):Rep w' M (.sl (xs.map fun x=>kC x.q)) v:=by
 rcases h.2 with ⟨rfl,h0⟩ | ⟨g,cap,cur,rfl,hg,a6,a7,a8,b1,a1⟩
 ·rw[qY.1 h0];exact .nil _ _
 ·by_cases hx:xs=[]
  ·subst hx;exact .nil _ _
  have hl:(xs.map fun x=>kC x.q).length=xs.length:=za ..;have key:=Rep.sl (w:=w') (M:=M) (xs.map fun x=>kC x.q) 3 g 0 cap (fun i j=>(encs xs).getD (i*3+j) undef) (fun e=>hx (by simpa using e)) (fun e he=>by obtain⟨x,_,rfl⟩:=z8.1 he;rfl) (by rw[hl];exact a7)
   (fun i e j x h1 h2=>by
    obtain⟨y,n,hy,hj,rfl,hn⟩:=jsu h1 h2;have b0:=(zr.1 hy).1;have h3:=jj4 hy hj;rw[hn]at h3;have h4:=h3;rw[<-a1,vf (by omega),zR]at h4;refine⟨rfl,?_,fun hm=>by have:=hM _ _ hm;omega⟩;rw[show(0:Nat)+i*3+j=i*3+j by omega,zX,h3];exact cell0 a6 h4)
   (fun i e j x h1 h2=>by
    obtain⟨y,n,hy,hj,rfl,hn⟩:=jsu h1 h2;have h3:=jj4 hy hj;rw[hn]at h3;rw[zX,h3];exact .sc _ rfl)
  rw[hl]at key;exact key
theorem sorted_ctr(t:LQ.Tab)(hs:Shape 3 t)(hd:Dist t)(hl:t.length<=1000000):
  Ctr Tryz.prog 80 [.clo 108 [.ip [.mp (3,true) t] 0],.clo 82 []] (· = .sl ((quoL t).map kC)):=fun w M vs hM hr=>by
 obtain⟨v1,_,rfl,r1,hr⟩:=hr.uncons;obtain⟨v2,_,rfl,r2,hr⟩:=hr.uncons;have:=hr.of_nil;subst this;obtain⟨us,rfl,hu⟩:=r1.clo_inv;obtain⟨u,_,b1,r3,hu⟩:=hu.uncons;have:=hu.of_nil;subst this;obtain⟨b0,rfl,b2⟩:=r2.clo_inv;have a6:=b2.of_nil;have e1:us= #[u]:=Array.toList_inj.1 b1;have e2:b0= #[]:=Array.toList_inj.1 a6;subst e1 e2;have fin:∀(b o:Nat) (ks:List Value),KeySeq w b o ks->ks=t.map (fun p=>keyV p.1)->Calls Tryz.prog 80 #[seqV b o,.func (.func 82) #[] #[]] w fun e w'=>∃r v,r= .sl ((quoL t).map kC)/\e= .returned v/\Rep w' M r v/\Below w.heap.size w w':=fun b o ks b3 he=>by
  refine(sorted_calls b3).mono ?_;rintro e w' ⟨v,xs,rfl,⟨hp,a7,hb⟩,a1⟩;refine⟨_,v,rfl,rfl,?_,hb⟩;have h1:=hp.map decK;rw[he,qN,qN]at h1;have e3:xs.map (decK∘fun x:KeyV=>Value.agg x.enc.toArray)=xs.map KeyV.l:=qV fun x _=>dec_kv x;have e4:t.map (decK∘fun p=>keyV p.1)=t.map (·.1):=qV fun p _=>jp1 p.1;rw[e3,e4]at h1;have h2:=zS (List.map kC) (sorted_eq hs hd h1 a1);rw[qN,qN]at h2;have h3:=row_rep hM a7;rw[show(xs.map fun x=>kC x.q)=(quoL t).map kC from h2]at h3;exact h3
 cases r3 with
 | ip _ _ b o f h1 h2=>
  obtain⟨_,hc,b4⟩:=h1 0 _ rfl;have a8:b<w.heap.size:=World.block_lt_of_cell? (a:=⟨b,o+0,none⟩) w hc;have r4:=h2 0 _ rfl;generalize f 0=m at*;cases r4 with
  | mpn=>exact fin b (o+0) [] (keySeq_nil a8 hc) rfl
  | mp _ _ bm es c hb hMb hE hB=>
   refine fin b (o+0) _ (keySeq_map hB.1 hB.2 (ents_key hE) ?_ a8 hc hb) (jm7 hE);have:=zS List.length hE.2;rw[za,za,Array.length_toList]at this;omega
end
section
set_option maxRecDepth 1000000
open Go.Abs Go.LQ
attribute [local go_sem] ints ic qC rtC kC
theorem q_keys(t:LQ.Tab):Ctr G.P 81 [.mp (3,true) t] (· = .clo 108 [.ip [.mp (3,true) t] 0]):=by
 refine ja4 [.tmp 2] Tryz.func81 ?_;simp only[go_sem]
theorem js7(t:LQ.Tab)(hs:Shape 3 t)(hd:Dist t)(hl:t.length<=100000):Ctr G.P 52 [.mp (3,true) t] (· = .sl ((quoL t).map qC)):=by
 have kk:=q_keys t;have ks:Ctr G.P _ _ _:=sorted_ctr t hs hd (by omega);have hlen:=quoL_len t;have hm:∀i,i<(quoL t).length->mget t [((quoL t).getD i z0).dep,((quoL t).getD i z0).day,((quoL t).getD i z0).com]=some [((quoL t).getD i z0).kg]:=fun i hi=>jon hd ((quoL_mem hs).1 (jj2 hi));generalize quoL t=L at*;refine ja4 [.tmp 2] Tryz.func52 ?_;simp only[go_sem];refine ja0 kk ?_;simp only[go_sem];refine ja0 ks ?_;simp only[za,go_sem];refine jai [0,3,8,9,10] [26] (fun i:Nat=>⟨[(0,.im (.mp (3,true) t)),(3,if i=0 then .sx []else .vec 26 78 4 ((L.take i).map qC)),(8,.im (.sl (L.map kC))),(9,.im (.int L.length)),(10,.im (.int i))],[],if i=0 then []else [(26,4,i)]⟩)
  (fun i=>i<=L.length) (fun i=>L.length-i) 0 ?_ (zG _) ?_
 ·simp only[Int.natCast_zero,go_sem]
 intro i hi;by_cases hp:(i:Int)<L.length
 ·have hd:decide ((i:Int)<L.length)=true:=zp hp;have a7:(0:Int)<=i:=by omega
  have hn:((i:Nat):Int).toNat=i:=Int.toNat_natCast i;have hx:=getq (l:=L) (i:=i) (by omega);have hw:=ja8 ((i:Int)+1);have a6:=hm i (by omega);have a1:=js0 (l:=L) (i:=i) (by omega);have a8:(L.take i).length=i:=by rw[qb];omega
  have hlen:∀c∈(L.take i).map qC,c.length=4:=fun c hc=>by
   obtain⟨z,_,rfl⟩:=z8.1 hc;rfl
  generalize L.getD i z0=q at*;rcases i with _ | i
  ·simp only[Int.natCast_zero,ja,Int.toNat_zero]at hd hp hn hw;simp only[hd,a7,hp,hn,zq,hx,za,jm,Int.natCast_zero,go_sem];refine jaf 12 ?_;simp only[a6,jm,go_sem];refine⟨(fun c hc=>by cases hc),(fun c hc=>by rw[zE.1 hc];rfl),ja7 1 ?_ (by omega) (by omega)⟩;rw[List.take_zero,List.nil_append]at a1;have e1:((0+1:Nat)=0)=False:=by simp
   simp only[hw,a1,Int.natCast_add,Int.natCast_one,zt,zF,go_sem]
  ·have e0:((i+1:Nat)=0)=False:=by simp
   simp only[hd,a7,hp,hn,zq,hx,za,jm,e0,go_sem];refine jaf 12 ?_;simp only[a6,jm,a8,go_sem];refine⟨hlen,(fun c hc=>by rw[zE.1 hc];rfl),by omega,ja7 (i+1+1) ?_ (by omega) (by omega)⟩;have e1:((i+1+1:Nat)=0)=False:=by simp
   simp only[Int.natCast_add,Int.natCast_one]at hw;simp only[hw,e1,a1,Int.natCast_add,Int.natCast_one,qv,zt,zF,go_sem]
 ·have hd:decide ((i:Int)<L.length)=false:=ze hp;obtain rfl:i=L.length:=by omega
  rw[qE];by_cases h0:L.length=0
  ·have hL:=qY.1 h0;subst hL;simp only[hd,jm,List.length_nil,zF,go_sem]
  ·have e0:(L.length=0)=False:=by simp[h0]
   simp only[hd,e0,go_sem]
end
section
set_option maxRecDepth 1000000
open Go.Abs Go.LQ
attribute [local go_sem] ints ic qC rtC kC
theorem q_cloneI(l:List Int)(hl:l.length<=100000):Ctr G.P 78 [.sl (l.map ic)] (· = .sl (l.map ic)):=by
 have h4:∀c∈l.map ic,c.length=1:=fun c hc=>by
  obtain⟨z,_,rfl⟩:=z8.1 hc;rfl
 have a1:(l.map ic).length<=100000:=by rw[za];exact hl
 generalize l.map ic=es at*;refine ja4 [.tmp 2] Tryz.func78 ?_;simp only[go_sem];refine jpb (fun h=> ?_) ?_
 ·subst h;simp only[go_sem]
 ·simp only[go_sem];exact⟨by simp,h4,by omega⟩
theorem js9(l:List Quo)(hl:l.length<=100000):Ctr G.P 79 [.sl (l.map qC)] (· = .sl (l.map qC)):=by
 have h4:∀c∈l.map qC,c.length=4:=fun c hc=>by
  obtain⟨z,_,rfl⟩:=z8.1 hc;rfl
 have a1:(l.map qC).length<=100000:=by rw[za];exact hl
 generalize l.map qC=es at*;refine ja4 [.tmp 2] Tryz.func79 ?_;simp only[go_sem];refine jpb (fun h=> ?_) ?_
 ·subst h;simp only[go_sem]
 ·simp only[go_sem];exact⟨by simp,h4,by omega⟩
theorem js8(r:Rts)(hc:r.cap.length<=100000)(hh:r.held.length<=100000)(hu:r.used.length<=100000):Ctr G.P 51 [.agg (rtC r)] (· = .agg (rtC r)):=by
 have k1:=q_cloneI r.cap hc;have k2:=js9 r.held hh;have k3:=js9 r.used hu;unfold rtC ints;generalize r.cap.map ic=c1 at*;generalize r.held.map qC=c2 at*;generalize r.used.map qC=c3 at*;refine ja4 [.cell 2 25] Tryz.func51 ?_;simp only[go_sem];refine jaf 10 ?_;simp only[go_sem];refine ja3 k1 (by decide) ?_;simp only[go_sem];refine ja3 k2 (by decide) ?_;simp only[go_sem];refine ja3 k3 (by decide) ?_;simp only[go_sem]
theorem right_sub{r:Rts}(h:RightQ r)(c d y:Int):IntKind.i64.wrap (vof (tabL r.held) [d,y,c]-vof (tabL r.used) [d,y,c])=vof (tabL r.held) [d,y,c]-vof (tabL r.used) [d,y,c]:=by
 have h1:=jh0 h.held (k:=[d,y,c]);have h2:=h.vof_cap [d,y,c];have h3:=jh0 h.used (k:=[d,y,c]);have h4:=h.use_le [d,y,c];exact jdi (by omega)
theorem q_held(r:Rts)(c d y:Int)(hc:r.cap.length<=100000)(hh:r.held.length<=100000)(hu:r.used.length<=100000):Ctr G.P 23 [.agg (rtC r),.int c,.int d,.int y] (· = .int (heldQ r c d y)):=by
 have k:=jia r hc hh hu;have kt:=fun h=>jla r.held h hh;have h0:jc3 r=0->Asc r.held:=fun h=>(checkQ_zero.1 h).held.asc;unfold heldQ;generalize jc3 r=e at*;unfold rtC at*;by_cases he:e=0
 ·subst he;have ka:=kt (h0 rfl);have hm:=jeh (jcr r.held) [d,y,c];rw[zl (by decide)];generalize vof (tabL r.held) [d,y,c]=v at*;refine ja4 [.tmp 8] Tryz.func23 ?_;simp only[go_sem];refine ja0 k ?_;simp only[go_sem];refine ja0 ka ?_;rcases hm with hm | ⟨hm,rfl⟩
  ·simp only[hm,go_sem]
  ·simp only[hm,go_sem]
 ·have hd:decide (e=0)=false:=ze he;rw[zh he];refine ja4 [.tmp 8] Tryz.func23 ?_;simp only[go_sem];refine ja0 k ?_;simp only[hd,go_sem]
theorem q_left(r:Rts)(c d y:Int)(hc:r.cap.length<=100000)(hh:r.held.length<=100000)(hu:r.used.length<=100000):Ctr G.P 22 [.agg (rtC r),.int c,.int d,.int y] (· = .int (leftQ r c d y)):=by
 have k:=jia r hc hh hu;have kt:=fun h=>jla r.held h hh;have ku:=fun h=>jla r.used h hu;have h0:jc3 r=0->RightQ r:=fun h=>checkQ_zero.1 h;unfold leftQ;generalize jc3 r=e at*;unfold rtC at*;by_cases he:e=0
 ·subst he;have hr:=h0 rfl;have ka:=kt hr.held.asc;have kb:=ku hr.used.asc;have hm:=jeh (jcr r.held) [d,y,c];have hn:=jeh (jcr r.used) [d,y,c];have hw:=right_sub hr c d y;rw[zl (by decide)];generalize vof (tabL r.held) [d,y,c]=v at*;generalize vof (tabL r.used) [d,y,c]=u at*;refine ja4 [.tmp 8] Tryz.func22 ?_;simp only[go_sem];refine ja0 k ?_;simp only[go_sem];refine jaf 12 ?_;simp only[go_sem];refine ja3 ka (by decide) ?_;rcases hm with hm | ⟨hm,rfl⟩
  ·simp only[hm,go_sem];refine ja3 kb (by decide) ?_;rcases hn with hn | ⟨hn,rfl⟩
   ·simp only[hn,hw,go_sem]
   ·simp only[hn,hw,go_sem]
  ·simp only[hm,go_sem];refine ja3 kb (by decide) ?_;rcases hn with hn | ⟨hn,rfl⟩
   ·simp only[hn,hw,go_sem]
   ·simp only[hn,show IntKind.i64.wrap (0-0)=0 from rfl,show IntKind.i64.wrap 0=0 from rfl,show(0:Int)-0=0 from rfl,go_sem]
 ·have hd:decide (e=0)=false:=ze he;rw[zh he];refine ja4 [.tmp 8] Tryz.func22 ?_;simp only[go_sem];refine ja0 k ?_;simp only[hd,go_sem]
end
section
set_option maxRecDepth 1000000
open Go.Abs Go.LQ
attribute [local go_sem] ints ic qC rtC kC
theorem ut_shape(r:Rts)(c d y k:Int):Shape 3 (r.useT c d y k):=jg3 (jcr _) rfl rfl
theorem use_case(r:Rts)(c d y k:Int):(∃e,(jc3 r≠0\/r.there c d y=false)/\e=1/\useQ r c d y k=(Rts.zero,e))\/
  (RightQ r/\jc3 r=0/\r.there c d y=true/\((inR k 1 1000000=false/\useQ r c d y k=(Rts.zero,3))\/(inR k 1 1000000=true/\((leftQ r c d y<k/\useQ r c d y k=(Rts.zero,20))\/
   (k<=leftQ r c d y/\((300<((r.useT c d y k).length:Int)/\useQ r c d y k=(Rts.zero,6))\/(((r.useT c d y k).length:Int)<=300/\useQ r c d y k=(r.spent c d y k,0)))))))):=by
 by_cases h1:jc3 r≠0\/r.there c d y=false
 ·exact .inl ⟨1,h1,rfl,by unfold useQ;rw[zh h1]⟩
 ·have h2:jc3 r=0:=Decidable.byContradiction fun e=>h1 (.inl e);have h3:r.there c d y=true:=by
   cases h:r.there c d y with
   | true=>rfl
   | false=>exact absurd (.inr h) h1
  refine .inr ⟨checkQ_zero.1 h2,h2,h3,?_⟩;unfold useQ;rw[zl h1];by_cases h4:inR k 1 1000000=false
  ·exact .inl ⟨h4,by rw[zh h4]⟩
  ·rw[zl h4];refine .inr ⟨by simpa using h4,?_⟩;by_cases h5:leftQ r c d y<k
   ·exact .inl ⟨h5,by rw[zh h5]⟩
   ·rw[zl h5];refine .inr ⟨by omega,?_⟩;by_cases h6:300<((r.useT c d y k).length:Int)
    ·exact .inl ⟨h6,by rw[zh h6]⟩
    ·exact .inr ⟨by omega,by rw[zl h6]⟩
theorem use_sum{r:Rts}(h:RightQ r){k:Int}(hk:inR k 1 1000000=true)(c d y:Int):IntKind.i64.wrap (vof (tabL r.used) [d,y,c]+k)=vof (tabL r.used) [d,y,c]+k:=by
 have h2:=h.vof_cap [d,y,c];have h3:=jh0 h.used (k:=[d,y,c]);have h4:=h.use_le [d,y,c];have h5:=inR_iff.1 hk;exact jdi (by omega)
theorem q_use(r:Rts)(c d y k:Int)(hc:r.cap.length<=100000)(hh:r.held.length<=100000)(hu:r.used.length<=100000)(hn:0<=r.n/\r.n<=1000000):
  Ctr G.P 19 [.agg (rtC r),.int c,.int d,.int y,.int k] (· = .tup [.agg (rtC (useQ r c d y k).1),.int (useQ r c d y k).2]):=by
 have k1:=jia r hc hh hu;have k2:=jrc r c d y hn hc;have k3:=q_in k 1 1000000;have k4:=q_left r c d y hc hh hu;have a7:=js8 r hc hh hu;rcases use_case r c d y k with ⟨e,h1,rfl,he⟩ | ⟨hr,h1,h2,H⟩
 ·rw[he];by_cases hz:jc3 r=0
  ·have ht:r.there c d y=false:=h1.resolve_left (fun h=>h hz);rw[hz]at k1;rw[ht]at k2;unfold rtC ints at*;refine ja4 [.cell 10 25,.tmp 11] Tryz.func19 ?_;simp only[go_sem];refine ja0 k1 ?_;simp only[go_sem];refine ja0 k2 ?_;simp only[go_sem];rfl
  ·have hd:decide (jc3 r=0)=false:=ze hz;unfold rtC ints at*;refine ja4 [.cell 10 25,.tmp 11] Tryz.func19 ?_;simp only[go_sem];refine ja0 k1 ?_;simp only[hd,go_sem];rfl
 ·have kT:=jo9 r.used hr.used.asc hu;have hm:=jeh (jcr r.used) [d,y,c];have a1:=fun h=>use_sum hr (k:=k) h c d y;have b4:=hr.lens;have b0:=jok (tabL r.used) [d,y,c] [vof (tabL r.used) [d,y,c]+k];have b3:(tabL r.used).length=r.used.length:=za ..;have kq:=js7 (r.useT c d y k) (ut_shape r c d y k) (jli hr.used.asc.dist _ _) (by unfold Rts.useT;omega);unfold Rts.useT at*;rw[h1]at k1;rw[h2]at k2;rcases H with ⟨h4,b2⟩ | ⟨h4,H⟩
  ·rw[b2];rw[h4]at k3;unfold rtC ints at*;refine ja4 [.cell 10 25,.tmp 11] Tryz.func19 ?_;simp only[go_sem];refine ja0 k1 ?_;simp only[go_sem];refine ja0 k2 ?_;simp only[go_sem];refine ja0 k3 ?_;simp only[go_sem];rfl
  rw[h4]at k3;rcases H with ⟨h5,b1⟩ | ⟨h5,H⟩
  ·rw[b1];have d5:decide (leftQ r c d y<k)=true:=zp h5;unfold rtC ints at*;refine ja4 [.cell 10 25,.tmp 11] Tryz.func19 ?_;simp only[go_sem];refine ja0 k1 ?_;simp only[go_sem];refine ja0 k2 ?_;simp only[go_sem];refine ja0 k3 ?_;simp only[go_sem];refine ja0 k4 ?_;simp only[d5,go_sem];rfl
  have d5:decide (leftQ r c d y<k)=false:=dFo;have a1:=a1 h4;have hq:∀R,useQ r c d y k=R->useQ r c d y k=R:=fun _ h=>h;have a8:r.spent c d y k=⟨r.n,r.cap,r.held,quoL (mput (tabL r.used) [d,y,c] [vof (tabL r.used) [d,y,c]+k])⟩:=rfl;rw[a8]at H;clear a8 hq b0 b3 h5;generalize useQ r c d y k=res at*;generalize hv:vof (tabL r.used) [d,y,c]=v at*;generalize hU:mput (tabL r.used) [d,y,c] [v+k]=U at*;unfold rtC ints at*;refine ja4 [.cell 10 25,.tmp 11] Tryz.func19 ?_;simp only[go_sem];refine ja0 k1 ?_;simp only[go_sem];refine ja0 k2 ?_;simp only[go_sem];refine ja0 k3 ?_;simp only[go_sem];refine ja0 k4 ?_;simp only[d5,go_sem];refine CallP_o kT (by decide) ?_;simp only[go_sem];refine jhl 10 8 9 43 (tabL r.used) [d,y,c] rfl rfl rfl (by decide+kernel) (by decide) rfl rfl rfl (by decide+kernel) rfl ?_;rcases hm with hm | ⟨hm,rfl⟩
  ·simp only[hm,a1,hU,go_sem];rcases H with ⟨h6,rfl⟩ | ⟨h6,rfl⟩
   ·have d6:decide (300<(U.length:Int))=true:=zp h6;simp only[d6,go_sem];rfl
   ·have d6:decide (300<(U.length:Int))=false:=dFo;simp only[d6,go_sem];refine ja0 a7 ?_;simp only[go_sem];refine ja0 (by rw[<-hU]at kq;exact kq) ?_;simp only[hU,go_sem]
  ·have a6:IntKind.i64.wrap k=k:=by rw[ja]at a1;exact a1
   rw[ja]at hU;simp only[hm,a1,a6,hU,ja,go_sem];rcases H with ⟨h6,rfl⟩ | ⟨h6,rfl⟩
   ·have d6:decide (300<(U.length:Int))=true:=zp h6;simp only[d6,go_sem];rfl
   ·have d6:decide (300<(U.length:Int))=false:=dFo;simp only[d6,go_sem];refine ja0 a7 ?_;simp only[go_sem];refine ja0 (by rw[<-hU]at kq;exact kq) ?_;simp only[hU,go_sem]
end
section
set_option maxRecDepth 1000000
open Go.RowKit Go.Shelf Go.LQ Go.Maps
open Go.Abs (IV Rep RepL Ctr keyV elemV Ents Born mfind jg4 mget)
attribute [local go_sem] Oper.semAt_some
theorem jjk{α:Type}{p:α->Bool}:∀{l m:List α},l.Sublist m->m.Nodup->(∀x∈m,x∈l↔p x=true)->l=m.filter p
 | _,_,.slnil,_,_=>rfl
 | l,a::m,.cons _ h,hn,hp=>by
  have a1:=qJ.1 hn;have ha:¬p a=true:=fun e=>a1.1 (h.subset ((hp a zU).2 e));rw[jS ha];exact jjk h a1.2 fun x hx=>hp x (zW _ hx)
 | a::l,_::m,.cons₂ _ h,hn,hp=>by
  have a1:=qJ.1 hn;have ha:p a=true:=(hp a zU).1 zU;rw[jR ha,<-jjk h a1.2 fun x hx=> ?_];have:=hp x (zW _ hx);rw[zL]at this;exact⟨fun h=>this.1 (.inr h),fun h'=>(this.2 h').resolve_left fun e=>a1.1 (by rw[<-e];exact hx)⟩
structure EInt(l:List MapEntry):Prop where
 kv:∀e∈l,∃(x:KeyV) (n:Int),e.key= .agg x.enc.toArray/\e.val= .int .i64 n
 keys:(l.map (·.key)).Nodup
 born:(l.map (·.born)).Nodup
theorem EInt.sub{l m:List MapEntry}(h:EInt m)(hs:l.Sublist m):EInt l:=⟨fun e he=>h.kv e (hs.subset he),h.keys.sublist (hs.map _),h.born.sublist (hs.map _)⟩
theorem jqe{α β:Type}{f:α->β}{l:List α}(h:(l.map f).Nodup):l.Nodup:=(jr.1 h).imp fun h e=>h (zS f e)
def decV(v:Value):Int:=match v with | .int _ n=>n | _=>0
def kvE(e:MapEntry):List Int×List Int:=(decK e.key,[decV e.val])
theorem EInt.ents{es:Array MapEntry}(h:EInt es.toList):Ents (3,true) (es.toList.map kvE) es:=by
 refine⟨fun p hp=> ?_,?_⟩
 ·obtain⟨e,he,rfl⟩:=z8.1 hp;obtain⟨x,n,h1,_⟩:=h.kv e he;show(decK e.key).length=3;rw[h1];rfl
 ·rw[qN];refine qV fun e he=> ?_;obtain⟨x,n,h1,h2⟩:=h.kv e he;show(e.key,e.val)=(keyV (decK e.key),elemV true [decV e.val]);rw[h1,h2];rfl
theorem mget_in:∀{l:List (List Int×List Int)} {k:List Int},k∈l.map (·.1)->mget l k≠none
 | (u,v)::l,k,h=>by
  rw[mget];split
  ·exact fun e=>by cases e
  ·rename_i a1;rw[zt,zL]at h;exact mget_in (h.resolve_left a1)
theorem del_run{w:World}{b c:Nat}{es:Array MapEntry}(h:EInt es.toList)(hb:w.heap[b]? =some (.map es c)){e:MapEntry}(he:e∈es.toList){x:KeyV}(hx:e.key= .agg x.enc.toArray)(ty:TypeId):
  ∃es':Array MapEntry,(Builtin.delete_ #[76,80] ty #[.map (some b),.agg x.enc.toArray]).run Tryz.prog w= .ok (.tuple #[]) (ChangeMaps.setBlock w b (.map es' c))/\es'.toList.Sublist es.toList/\∀y∈es.toList,y∈es'.toList↔y≠e:=by
 have hG:G.Ok:=good.ok;have hk:Go.Abs.keyN G 80=some 3:=by decide+kernel
 have hf:=Go.Abs.run_findKey_rows (w:=w) hG hk (x:=x.l) rfl (sc:=(3,true)) (kvs:=es.toList.map kvE) (es:=es) (fun _=>rfl) h.ents;have b1:=Go.Abs.run_key_check hG hk (xs:=x.l) rfl es.isEmpty w;have b3:x.l∈(es.toList.map kvE).map (·.1):=by
  rw[qN];refine z8.2 ⟨e,he,?_⟩;show decK e.key=x.l;rw[hx];rfl
 have b2:=jg4 (es.toList.map kvE) x.l 0;cases b0:mfind (es.toList.map kvE) x.l 0 with
 | none=>
  rw[b0]at b2;exact absurd b2.symm (mget_in b3)
 | some p=>
  obtain⟨i,v⟩:=p;obtain⟨k,rfl,b7,_⟩:=Go.Abs.mfind_some (u:=[]) b0;rw[b0]at hf;rw[qi]at hf;rw[zq,qz]at b7;obtain⟨e',a1,c3⟩:=b7;have a6:k<es.toList.length:=(zr.1 a1).1;have c0:k<es.size:=by simpa using a6
  have c5:e'=e:=by
   obtain⟨x',n',h1,_⟩:=h.kv e' (zk a1);have h2:decK e'.key=x.l:=zS Prod.fst c3;have h3:e'.key=e.key:=by
    rw[h1]at h2⊢;have h2:x'.l=x.l:=h2;rw[hx];simp only[KeyV.l,yT,vD]at h2;obtain⟨q1,q2,q3⟩:=h2;simp only[KeyV.enc,q1,q2,q3]
   obtain⟨j,hj,b6⟩:=jw.1 he;by_cases e1:k=j
   ·subst e1;rw[zw a6]at a1;cases a1;exact b6
   ·have hn:=yJ.1 h.keys;have b5:(es.toList.map (·.key))[k]'(by simpa using a6)=e'.key:=by
     rw[wc];rw[zw a6]at a1;cases a1;rfl
    have b4:(es.toList.map (·.key))[j]'(by simpa using hj)=e.key:=by rw[wc,b6]
    rcases vy e1 with hl | hl
    ·exact absurd (by rw[b5,b4,h3]) (hn k j (by simpa using a6) (by simpa using hj) hl)
    ·exact absurd (by rw[b5,b4,h3]) (hn j k (by simpa using hj) (by simpa using a6) hl)
  subst c5;have a8:(es.eraseIdxIfInBounds k).toList=es.toList.eraseIdx k:=by
   unfold Array.eraseIdxIfInBounds;rw[dif_pos c0];simp
  have b9:=jqe h.born;refine⟨es.eraseIdxIfInBounds k,?_,by rw[a8];exact List.eraseIdx_sublist _ _,fun y hy=> ?_⟩
  ·have hu:Tryz.prog.underlying 76=some (.map 80 3):=Tryz.underlying76;have b1:(Instr.checkKey es.isEmpty 10000 80 (.agg x.enc.toArray)).run Tryz.prog w= .ok () w:=b1;have hf:(Instr.findKey 80 (.agg x.enc.toArray) es.toList).run Tryz.prog w= .ok (some (k,elemV true v)) w:=hf;simp[Builtin.delete_,run_underlying hu,MapKept.run_getObj_map hb,b1,hf,MapKept.run_setObj_map _ hb,Result.andThen,ChangeMaps.setBlock]
  ·rw[a8];rw[zw a6]at a1;have a1:es.toList[k]=e':=jJ a1;rw[<-a1];constructor
   ·intro hm;obtain⟨j,hj,c4,a7⟩:=wi.1 hm;intro e1;rw[<-a7]at e1;have:=(List.getElem_inj b9).1 e1;exact c4 this
   ·intro b8;obtain⟨j,hj,a7⟩:=jw.1 hy;exact wi.2 ⟨j,hj,fun e1=>b8 (by subst e1;exact a7.symm),a7⟩
theorem wpListIn_delete_at{F:Fence}{nF:Nat}{ops:Array Oper}{Q:Exit->Act->World->Prop}{rest:List Oper}{o:Oper}{a:Act}{w:World}(hg:o.guard=none)(m x:Operand)(t k:TypeId)(a1:o.op=Op.call {callee:=Callee.builtin Builtin.delete,args:= #[m,x],argTypes:= #[t,k]})
  {b:Nat} {key:Value} {w':World} (hm:a.eval m= .map (some b)) (hx:a.eval x=key) (a6:∀ty,(Builtin.delete_ #[t,k] ty #[.map (some b),key]).run Tryz.prog w= .ok (.tuple #[]) w')
  (hK:wpListIn F nF Tryz.prog ops Q rest (a.put o.dst (.tuple #[])) w'):
  wpListIn F nF Tryz.prog ops Q (o::rest) a w:=by
 refine wpListIn_plain hg fun K' a8=> ?_;unfold Oper.wpIn;refine⟨by simp[Oper.about,a1,resolve,Target.leads,Sem.run_pure],?_⟩;rw[Oper.semAt_plain F _ _ (by rw[a1];intro c a7;cases a7)];simp[execOp,a1,resolve,invoke,builtin,hm,hx,a6,Result.andThen];exact a8 _ _ hK
end
end Go.Proofs.YtjcjcpebocbonaaGreat
namespace Go.Abs
section
section
variable{G:Ctx}{N:Nat}
end
def inL:Code->Code
 | .seq x _=>x
 | c=>c
def inR:Code->Code
 | .seq _ y=>y
 | c=>c
def inB:Code->Code
 | .block _ c=>c
 | .loop c=>c
 | c=>c
theorem inL_seq(x y:Code):inL (.seq x y)=x:=rfl
theorem inR_seq(x y:Code):inR (.seq x y)=y:=rfl
theorem inB_block(k:Nat)(c:Code):inB (.block k c)=c:=rfl
theorem inB_loop(c:Code):inB (.loop c)=c:=rfl
attribute [go_sem] inL_seq inR_seq inB_block inB_loop
