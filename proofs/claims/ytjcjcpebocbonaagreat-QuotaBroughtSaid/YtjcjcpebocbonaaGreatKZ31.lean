/- A part of the proof. No further condition. -/
import Derived.Test.YtjcjcpebocbonaaGreatKZ30
set_option linter.all false
set_option maxRecDepth 10000000
set_option maxHeartbeats 16000000
namespace Go.Proofs.YtjcjcpebocbonaaGreat
section
set_option maxRecDepth 1000000
open Go.Abs
open Go.LP (Dic Rw RT cf cfU ngU jdy)
attribute [local go_sem] ints ic big frac fc rwC tmC lineC
section
variable{L:Abs.Rows}{nm:DN}{D:Dic}{src:Nat->Int×Bool}
theorem put_D(h:HasO L nm D src){A b:Nat}(k9:¬A=b)(b9:Abs.look L (hp A)=none)(c8:Abs.look L (hp b)=none)(w:Rw)(row:Nat)(b1:Bool)(hN:D.n<=100000)(hm:D.m<=10000)
  {M:Abs.Rows} (hM:blks M) (e0:SubR L M) {v:Rat} {f:Nat->Rat} (hv:v=if b1=true then-w.val else w.val) (hf:∀k,f k=if b1=true then-cf w.ts k else cf w.ts k)
  (e5:Abs.look M (hp b)=some (5,[lineC v A D.n])) (e6:Abs.look M (hp A)=some (4,tab D.n fun k=>qc (f k))):
  awp (GH [8,73,84,93] []) (tailN 4 (jcu Tryz.f172)) (endQ (aRetH (GH [8,73,84,93] []) [] (fun x L'=>x= .im (.tup [])/\∃e9:DN,e9.d=nm.d/\HasO L' e9 (D.put w b1) (jdy D src row b1)))) ⟨[(0,.loc (hp nm.d) 6 0 0),(1,.im (.int row)),(3,.im (.bool b1)),(8,.loc (hp b) 5 0 0)],(6,6,[rwC w])::M,[]⟩:=by
 have hb:=h.blk;have c0:=h.hd;have c6:nm.d≠A:=fun e=>by rw[e,b9]at c0;cases c0
 have l5:¬b=A:=fun e=>k9 e.symm;have c9:¬nm.d=b:=fun e=>by rw[e,c8]at c0;cases c0
 have F2:=bB hM;refine jo1 rfl ?_;simp only[go_sem];have d0:=e0 _ _ c0;by_cases a8:D.m=0
 ·rw[a8,jbc,jbc,jbc]at d0;have w1:=ja8 ((D.n:Int));refine jcq [false,false,false,false,false,false,false,false,false,false,false,false,false,false,false,false,true,false,false] [(hp nm.d,6,[[.int D.n,.emp,.ref nm.g 48 4 D.n,.emp,.emp,.emp]])] (by decide+kernel) ?_ ?_
  ·exact jns (by decide) (jb0 d0)
  simp only[d0,w1,yh,F2,go_sem];refine And.intro (fun c hc=>by rw[zE.1 hc];rfl) ?_;refine jhk (fun X1 c7=> ?_);have a7:Abs.look M (hp X1)=none:=by rw[jae]at c7;exact c7
  clear c7;have xd:¬X1=nm.d:=fun e=>by rw[e,d0]at a7;cases a7
  have xb:¬X1=b:=fun e=>by rw[e,e5]at a7;cases a7
  refine And.intro ?_ ?_
  ·refine jb0 ?_;rw[ja1 _ _ (hpne (zH xd)),jae];exact d0
  simp only[d0,xd,zH xd,jad,F2,go_sem];refine joj (List.map (fun p=>if p.1=hp nm.d then(p.1,6,[[.int D.n,.emp,.ref nm.g 48 4 D.n,.ref X1 3 1 1,.emp,.emp]])else p) M) (fun Q2 b2=> ?_);simp only[b2,go_sem];have c5:∀k,k≠hp nm.d->Abs.look Q2 k=Abs.look M k:=fun k hk=>by rw[<-b2];exact jak hk
  have b5:Abs.look Q2 (hp nm.d)=some (6,[[.int D.n,.emp,.ref nm.g 48 4 D.n,.ref X1 3 1 1,.emp,.emp]]):=by rw[<-b2];exact jag d0
  have e7:blks Q2:=b2▸jb7 hM;have bb:Abs.look Q2 (hp b)=some (5,[lineC v A D.n]):=by rw[c5 _ (hpne (zH c9))];exact e5
  have F3:=bB e7;refine jku [false,false,false,false,false,false,false,false,true,false,false,false,false,false,false,false,false,true,false,false,true] [(hp b,5,[lineC v A D.n]),(hp nm.d,6,[[.int D.n,.emp,.ref nm.g 48 4 D.n,.ref X1 3 1 1,.emp,.emp]])] (by decide+kernel) (by decide+kernel) ?_ ?_
  ·refine jc2 ?_ (jb0 ?_)
   ·dsimp only;rw[ja1 _ _ (hpne (zH xb)),jae];exact bb
   ·dsimp only;rw[ja1 _ _ (hpne (zH xd)),jae];exact b5
  simp only[b5,bb,xd,zH xd,xb,zH xb,c9,zH c9,jad,jdc,F3,go_sem];refine And.intro (fun c hc=>by rw[zE.1 hc];rfl) ?_;refine jhk (fun X2 b8=> ?_);have a1:¬X2=X1/\Abs.look Q2 (hp X2)=none:=by
   have e1:¬X2=X1:=fun e=>by rw[e,ja2]at b8;cases b8
   rw[ja1 _ _ (hpne e1),jae]at b8;exact⟨e1,b8⟩
  clear b8;obtain⟨b7,a1⟩:=a1;have yd:¬X2=nm.d:=fun e=>by rw[e,b5]at a1;cases a1
  have yb:¬X2=b:=fun e=>by rw[e,bb]at a1;cases a1
  refine And.intro ?_ ?_
  ·refine jc2 ?_ (jb0 ?_)
   ·rw[ja1 _ _ (hpne (zH yb)),ja1 _ _ (hpne (zH xb)),jae];exact bb
   ·rw[ja1 _ _ (hpne (zH yd)),ja1 _ _ (hpne (zH xd)),jae];exact b5
  simp only[b5,b7,zH b7,xd,zH xd,yd,zH yd,jad,jdc,F3,go_sem];refine And.intro (fun c hc=>by rw[zE.1 hc];rfl) ?_;refine jhk (fun X3 b0=> ?_);have a6:¬X3=X2/\¬X3=X1/\Abs.look Q2 (hp X3)=none:=by
   have e1:¬X3=X2:=fun e=>by rw[e,ja2]at b0;cases b0
   rw[ja1 _ _ (hpne e1)]at b0;have e2:¬X3=X1:=fun e=>by rw[e,ja2]at b0;cases b0
   rw[ja1 _ _ (hpne e2),jae]at b0;exact⟨e1,e2,b0⟩
  clear b0;obtain⟨c3,c4,a6⟩:=a6;have zd:¬X3=nm.d:=fun e=>by rw[e,b5]at a6;cases a6
  have zb:¬X3=b:=fun e=>by rw[e,bb]at a6;cases a6
  refine And.intro ?_ ?_
  ·refine jc2 ?_ (jb0 ?_)
   ·rw[ja1 _ _ (hpne (zH zb)),ja1 _ _ (hpne (zH yb)),ja1 _ _ (hpne (zH xb)),jae];exact bb
   ·rw[ja1 _ _ (hpne (zH zd)),ja1 _ _ (hpne (zH yd)),ja1 _ _ (hpne (zH xd)),jae];exact b5
  have lm:=fun(s:Nat) (es:List (List IV))=>jag (L:=Q2) (k:=hp nm.d) (s:=s) (es:=es) b5;simp only[b5,lm,b7,zH b7,c4,zH c4,c3,zH c3,xd,zH xd,yd,zH yd,zd,zH zd,jad,jdc,F3,go_sem];refine jbm ?_;simp only[go_sem];have A4:Abs.look Q2 (hp A)=some (4,tab D.n fun j=>qc (f j)):=by
   rw[c5 _ (hpne (zH c6))];exact e6
  have xA:¬X1=A:=fun e=>by rw[e,e6]at a7;cases a7
  have yA:¬X2=A:=fun e=>by rw[e,A4]at a1;cases a1
  have zA:¬X3=A:=fun e=>by rw[e,A4]at a6;cases a6
  refine h.step (X1:=X1) (X2:=X2) (X3:=X3) (A:=A) (f:=f) (v:=v) jf0 ?_ ?_ ?_ ?_ ?_ ⟨fun k x hk h1 h2=> ?_⟩ (zH xd) (zH yd) (zH zd) c6 (zH b7) (zH c4) xA (zH c3) yA zA ?_ ?_
  ·rw[jas,ja1 _ _ (hpne (zH zd)),ja1 _ _ (hpne (zH yd)),ja1 _ _ (hpne (zH xd)),jae,a8];exact jag (jag b5)
  ·rw[jas,ja1 _ _ (hpne (zH c4)),ja1 _ _ (hpne (zH b7)),ja2,oc,a8];rfl
  ·rw[jas,ja1 _ _ (hpne (zH c3)),ja2,a8];rfl
  ·rw[jas,ja2,a8];rfl
  ·rw[jas,ja1 _ _ (hpne (zH zA)),ja1 _ _ (hpne (zH yA)),ja1 _ _ (hpne (zH xA)),jae,jak (hpne (zH c6)),jak (hpne (zH c6))];exact A4
  ·have m1:=e0 _ _ hk;have m4:Abs.look Q2 (hp k)=some x:=by rw[c5 _ (hpne h1)];exact m1
   have n1:k≠X1:=fun e=>by rw[<-e,m1]at a7;cases a7
   have n2:k≠X2:=fun e=>by rw[<-e,m4]at a1;cases a1
   have n3:k≠X3:=fun e=>by rw[<-e,m4]at a6;cases a6
   refine⟨?_,n1,n2,n3,fun e=>by rw[<-e,hk]at b9;cases b9⟩;rw[jas,ja1 _ _ (hpne n3),ja1 _ _ (hpne n2),ja1 _ _ (hpne n1),jae,jak (hpne h1),jak (hpne h1)];exact m4
  ·exact hv
  ·exact hf
 ·rw[jal a8,jal a8,jal a8]at d0;refine jcq [false,false,false,false,false,false,false,false,false,false,false,false,false,false,false,false,true,false,false] [(hp nm.d,6,[[.int D.n,.ref nm.r 241 5 D.m,.ref nm.g 48 4 D.n,.ref nm.o 3 1 D.m,.emp,.ref nm.s 254 2 D.m]])] (by decide+kernel) ?_ ?_
  ·exact jns (by decide) (jb0 d0)
  have l0:=e0 _ _ (h.ho a8);have h8:=e0 _ _ (h.hr a8);have h7:=e0 _ _ (h.hs a8);have ap:=h.ap a8;have h0:b≠nm.o:=fun e=>by rw[e,h.ho a8]at c8;cases c8
  have k6:b≠nm.r:=fun e=>by rw[e,h.hr a8]at c8;cases c8
  have k5:b≠nm.s:=fun e=>by rw[e,h.hs a8]at c8;cases c8
  have h4:A≠nm.o:=fun e=>by rw[e,h.ho a8]at b9;cases b9
  have k7:A≠nm.r:=fun e=>by rw[e,h.hr a8]at b9;cases b9
  have h3:A≠nm.s:=fun e=>by rw[e,h.hs a8]at b9;cases b9
  have w1:=ja8 ((D.n:Int)+D.m);simp only[d0,l0,w1,jad,jdc,F2,go_sem];refine And.intro (fun c hc=>by rw[zE.1 hc];rfl) (And.intro (zu _) (And.intro (by omega) ?_));refine jgv (fun X1 c7=> ?_);obtain⟨Q,hQe⟩:∃Q,Abs.del M (hp nm.o)=Q:=⟨_,rfl⟩;have lQ:∀k,k≠hp nm.o->Abs.look Q k=Abs.look M k:=fun k hk=>by rw[<-hQe];exact ja9 _ hk
  have bQ:blks Q:=hQe▸jch hM;have a7:Abs.look Q (hp X1)=none:=by
   rw[show Abs.del ((6,6,_)::M) (hp nm.o)=(6,6,_)::Abs.del M (hp nm.o)from jat (hp_ne (by decide))]at c7;rw[jae,hQe]at c7;exact c7
  clear c7;have k8:List.filter (fun p=>p.1 !=hp nm.o) M=Q:=hQe;have b6:∀k,(6 !=hp k)=true:=fun k=>by simp only[qh,ne_eq];exact hp_ne (by decide)
  have xd:¬X1=nm.d:=fun e=>by rw[e,lQ _ (hpne ap.d_o),d0]at a7;cases a7
  have xr:¬X1=nm.r:=fun e=>by rw[e,lQ _ (hpne ap.ro),h8]at a7;cases a7
  have xb:¬X1=b:=fun e=>by rw[e,lQ _ (hpne h0),e5]at a7;cases a7
  have xs:¬X1=nm.s:=fun e=>by rw[e,lQ _ (hpne (zH ap.os)),h7]at a7;cases a7
  have e8:¬nm.d=nm.o:=ap.d_o;have d1:=(lQ _ (hpne ap.d_o)).trans d0;refine And.intro ?_ ?_
  ·refine jb0 ?_;rw[ja1 _ _ (hpne (zH xd)),ja9 _ (hpne e8),jae];exact d0
  simp only[d1,xd,zH xd,b6,k8,e8,jad,F2,go_sem];refine joj (List.map (fun p=>if p.1=hp nm.d then(p.1,6,[[.int D.n,.ref nm.r 241 5 D.m,.ref nm.g 48 4 D.n,.ref X1 3 1 (D.m+1),.emp,.ref nm.s 254 2 D.m]])else p) Q) (fun Q2 b2=> ?_);simp only[b2,go_sem];have c5:∀k,k≠hp nm.d->Abs.look Q2 k=Abs.look Q k:=fun k hk=>by rw[<-b2];exact jak hk
  have b5:Abs.look Q2 (hp nm.d)=some (6,[[.int D.n,.ref nm.r 241 5 D.m,.ref nm.g 48 4 D.n,.ref X1 3 1 (D.m+1),.emp,.ref nm.s 254 2 D.m]]):=by rw[<-b2];exact jag d1
  have e7:blks Q2:=b2▸jb7 bQ;have bb:Abs.look Q2 (hp b)=some (5,[lineC v A D.n]):=by rw[c5 _ (hpne (zH c9)),lQ _ (hpne h0)];exact e5
  have rr:Abs.look Q2 (hp nm.r)=some (5,tab D.m fun i=>lineC (D.v i) (nm.a i) D.n):=by rw[c5 _ (hpne (zH ap.dr)),lQ _ (hpne ap.ro)];exact h8
  have ss:Abs.look Q2 (hp nm.s)=some (2,tab D.m fun i=>srcC (src i)):=by rw[c5 _ (hpne (zH ap.ds)),lQ _ (hpne (zH ap.os))];exact h7
  have F3:=bB e7;refine jku [false,false,false,false,false,false,false,false,true,false,false,false,false,false,false,false,false,true,false,false,true] [(hp b,5,[lineC v A D.n]),(hp nm.d,6,[[.int D.n,.ref nm.r 241 5 D.m,.ref nm.g 48 4 D.n,.ref X1 3 1 (D.m+1),.emp,.ref nm.s 254 2 D.m]])] (by decide+kernel) (by decide+kernel) ?_ ?_
  ·refine jc2 ?_ (jb0 ?_)
   ·dsimp only;rw[ja1 _ _ (hpne (zH xb)),jae];exact bb
   ·dsimp only;rw[ja1 _ _ (hpne (zH xd)),jae];exact b5
  simp only[b5,bb,rr,xd,zH xd,xb,zH xb,xr,zH xr,xs,zH xs,c9,zH c9,jad,jdc,F3,go_sem];refine And.intro (fun c hc=>by rw[zE.1 hc];rfl) (And.intro (zu _) (And.intro (by omega) ?_));refine jgv (fun X2 b8=> ?_);obtain⟨Q3,hQ3e⟩:∃Q3,Abs.del Q2 (hp nm.r)=Q3:=⟨_,rfl⟩;have e4:∀k,k≠hp nm.r->Abs.look Q3 k=Abs.look Q2 k:=fun k hk=>by rw[<-hQ3e];exact ja9 _ hk
  have h9:blks Q3:=hQ3e▸jch e7;have a1:¬X2=X1/\Abs.look Q3 (hp X2)=none:=by
   rw[jat (hpne xr),jat (hp_ne (by decide)),hQ3e]at b8;have e1:¬X2=X1:=fun e=>by rw[e,ja2]at b8;cases b8
   rw[ja1 _ _ (hpne e1),jae]at b8;exact⟨e1,b8⟩
  clear b8;obtain⟨b7,a1⟩:=a1;have h6:List.filter (fun p=>p.1 !=hp nm.r) Q2=Q3:=hQ3e;have k4:¬nm.d=nm.r:=ap.dr;have d3:=(e4 _ (hpne k4)).trans b5;have b3:=(e4 _ (hpne k6)).trans bb;have s3:=(e4 _ (hpne (zH ap.rs))).trans ss;have yd:¬X2=nm.d:=fun e=>by rw[e,d3]at a1;cases a1
  have yb:¬X2=b:=fun e=>by rw[e,b3]at a1;cases a1
  have ys:¬X2=nm.s:=fun e=>by rw[e,s3]at a1;cases a1
  have F4:=bB h9;refine And.intro ?_ ?_
  ·rw[jat (hpne xr),jat (hp_ne (by decide)),hQ3e];refine jc2 ?_ (jb0 ?_)
   ·rw[ja1 _ _ (hpne (zH yb)),ja1 _ _ (hpne (zH xb)),jae];exact b3
   ·rw[ja1 _ _ (hpne (zH yd)),ja1 _ _ (hpne (zH xd)),jae];exact d3
  have l3:(hp X1 !=hp nm.r)=true:=by simp only[qh,ne_eq];exact hpne xr
  simp only[d3,s3,b7,zH b7,xd,zH xd,xs,zH xs,yd,zH yd,ys,zH ys,xr,l3,b6,h6,jad,jdc,F4,go_sem];refine And.intro (fun c hc=>by rw[zE.1 hc];rfl) (And.intro (zu _) (And.intro (by omega) ?_));refine jgv (fun X3 b0=> ?_);obtain⟨Q4,hQ4e⟩:∃Q4,Abs.del Q3 (hp nm.s)=Q4:=⟨_,rfl⟩;have e3:∀k,k≠hp nm.s->Abs.look Q4 k=Abs.look Q3 k:=fun k hk=>by rw[<-hQ4e];exact ja9 _ hk
  have l4:blks Q4:=hQ4e▸jch h9;have a6:¬X3=X2/\¬X3=X1/\Abs.look Q4 (hp X3)=none:=by
   rw[jat (hpne ys),jat (hpne xs),jat (hp_ne (by decide)),hQ4e]at b0;have e1:¬X3=X2:=fun e=>by rw[e,ja2]at b0;cases b0
   rw[ja1 _ _ (hpne e1)]at b0;have e2:¬X3=X1:=fun e=>by rw[e,ja2]at b0;cases b0
   rw[ja1 _ _ (hpne e2),jae]at b0;exact⟨e1,e2,b0⟩
  clear b0;obtain⟨c3,c4,a6⟩:=a6;have h5:List.filter (fun p=>p.1 !=hp nm.s) Q3=Q4:=hQ4e;have k0:¬nm.d=nm.s:=ap.ds;have d4:=(e3 _ (hpne k0)).trans d3;have b4:=(e3 _ (hpne k5)).trans b3;have zd:¬X3=nm.d:=fun e=>by rw[e,d4]at a6;cases a6
  have zb:¬X3=b:=fun e=>by rw[e,b4]at a6;cases a6
  have F5:=bB l4;refine And.intro ?_ ?_
  ·rw[jat (hpne ys),jat (hpne xs),jat (hp_ne (by decide)),hQ4e];refine jc2 ?_ (jb0 ?_)
   ·rw[ja1 _ _ (hpne (zH zb)),ja1 _ _ (hpne (zH yb)),ja1 _ _ (hpne (zH xb)),jae];exact b4
   ·rw[ja1 _ _ (hpne (zH zd)),ja1 _ _ (hpne (zH yd)),ja1 _ _ (hpne (zH xd)),jae];exact d4
  have l2:(hp X1 !=hp nm.s)=true:=by simp only[qh,ne_eq];exact hpne xs
  have l1:(hp X2 !=hp nm.s)=true:=by simp only[qh,ne_eq];exact hpne ys
  have lm:=fun(s:Nat) (es:List (List IV))=>jag (L:=Q4) (k:=hp nm.d) (s:=s) (es:=es) d4;simp only[d4,lm,b7,zH b7,c4,zH c4,c3,zH c3,xd,zH xd,yd,zH yd,zd,zH zd,xs,ys,l2,l1,b6,h5,jad,jdc,F5,go_sem];refine jbm ?_;simp only[go_sem];have A4:Abs.look Q4 (hp A)=some (4,tab D.n fun j=>qc (f j)):=by
   rw[e3 _ (hpne h3),e4 _ (hpne k7),c5 _ (hpne (zH c6)),lQ _ (hpne h4)];exact e6
  have A3:Abs.look Q3 (hp A)=some (4,tab D.n fun j=>qc (f j)):=by rw[<-e3 _ (hpne h3)];exact A4
  have A1:Abs.look Q (hp A)=some (4,tab D.n fun j=>qc (f j)):=by rw[lQ _ (hpne h4)];exact e6
  have xA:¬X1=A:=fun e=>by rw[e,A1]at a7;cases a7
  have yA:¬X2=A:=fun e=>by rw[e,A3]at a1;cases a1
  have zA:¬X3=A:=fun e=>by rw[e,A4]at a6;cases a6
  refine h.step (X1:=X1) (X2:=X2) (X3:=X3) (A:=A) (f:=f) (v:=v) jf0 ?_ ?_ ?_ ?_ ?_ ⟨fun k x hk h1 h2=> ?_⟩ (zH xd) (zH yd) (zH zd) c6 (zH b7) (zH c4) xA (zH c3) yA zA ?_ ?_
  ·rw[jas,ja1 _ _ (hpne (zH zd)),ja1 _ _ (hpne (zH yd)),ja1 _ _ (hpne (zH xd)),jae];exact jag (jag d4)
  ·rw[jas,ja1 _ _ (hpne (zH c4)),ja1 _ _ (hpne (zH b7)),ja2,oc,Int.natCast_add]
  ·rw[jas,ja1 _ _ (hpne (zH c3)),ja2];rfl
  ·rw[jas,ja2];rfl
  ·rw[jas,ja1 _ _ (hpne (zH zA)),ja1 _ _ (hpne (zH yA)),ja1 _ _ (hpne (zH xA)),jae,jak (hpne (zH c6)),jak (hpne (zH c6))];exact A4
  ·obtain⟨k1,k2,k3⟩:=h2 a8;have m1:=e0 _ _ hk;have m2:Abs.look Q (hp k)=some x:=by rw[lQ _ (hpne k1)];exact m1
   have m3:Abs.look Q3 (hp k)=some x:=by rw[e4 _ (hpne k2),c5 _ (hpne h1)];exact m2
   have m4:Abs.look Q4 (hp k)=some x:=by rw[e3 _ (hpne k3)];exact m3
   have n1:k≠X1:=fun e=>by rw[<-e,m2]at a7;cases a7
   have n2:k≠X2:=fun e=>by rw[<-e,m3]at a1;cases a1
   have n3:k≠X3:=fun e=>by rw[<-e,m4]at a6;cases a6
   refine⟨?_,n1,n2,n3,fun e=>by rw[<-e,hk]at b9;cases b9⟩;rw[jas,ja1 _ _ (hpne n3),ja1 _ _ (hpne n2),ja1 _ _ (hpne n1),jae,jak (hpne h1),jak (hpne h1)];exact m4
  ·exact hv
  ·exact hf
