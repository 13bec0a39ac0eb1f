/- A part of the proof. No further condition. -/
import Derived.Test.YtgncgpfjldefpaaGreatKR47
import Derived.Test.YtgncgpfjldefpaaGreatKR48
set_option linter.all false
set_option maxRecDepth 10000000
set_option maxHeartbeats 16000000
namespace Go.Proofs.YtgncgpfjldefpaaGreat
section
open Go.Abs
theorem fits_Bat{n:Nat}{xs:List IV}(h:Fits G n 52 xs):∃b:Bat,xs=b.c:=by
 obtain⟨hl,m,hf⟩:=jq2 (t:=52) (fs:=[(0,3),(1,26)]) rfl h;obtain⟨x0,x1,rfl⟩:=jpy (show xs.length=2 from hl);have h0:Fits G m 3 [x0]:=hf (0,3) (by simp);obtain⟨i0,e0⟩:=jbs rfl h0;cases e0;have h1:Fits G m 26 [x1]:=hf (1,26) (by simp);obtain⟨i1,e1⟩:=jpa rfl rfl h1;cases e1;exact⟨⟨i0,i1⟩,rfl⟩
end
section
open Go.Abs
theorem of_len6{α:Type}:∀{l:List α},l.length=6->∃x0 x1 x2 x3 x4 x5,l=[x0,x1,x2,x3,x4,x5]
 | [x0,x1,x2,x3,x4,x5],_=>⟨x0,x1,x2,x3,x4,x5,rfl⟩
theorem of_len8{α:Type}:∀{l:List α},l.length=8->∃x0 x1 x2 x3 x4 x5 x6 x7,l=[x0,x1,x2,x3,x4,x5,x6,x7]
 | [x0,x1,x2,x3,x4,x5,x6,x7],_=>⟨x0,x1,x2,x3,x4,x5,x6,x7,rfl⟩
theorem fits_Place:∀{n:Nat} {xs:List IV},Fits G n 73 xs->∃p:Place,xs=p.c
 | 0,_,h=>h.elim
 | n+1,xs,h=>by
  unfold Fits at h;have hk:(G.ti 73).kind= .st [(0,3),(1,3),(2,3)]:=rfl;rw[hk]at h;obtain⟨hl,hf⟩:=h;have hl:xs.length=3:=hl;obtain⟨x0,x1,x2,rfl⟩:=of_len3 hl;have h0:Fits G n 3 [x0]:=hf (0,3) (by simp);obtain⟨i0,e0⟩:=jbs rfl h0;cases e0;have h1:Fits G n 3 [x1]:=hf (1,3) (by simp);obtain⟨i1,e1⟩:=jbs rfl h1;cases e1;have h2:Fits G n 3 [x2]:=hf (2,3) (by simp);obtain⟨i2,e2⟩:=jbs rfl h2;cases e2;exact⟨⟨i0,i1,i2⟩,rfl⟩
theorem fits_Move:∀{n:Nat} {xs:List IV},Fits G n 75 xs->∃p:Move,xs=p.c
 | 0,_,h=>h.elim
 | n+1,xs,h=>by
  unfold Fits at h;have hk:(G.ti 75).kind= .st [(0,3),(1,3),(2,3),(3,3),(4,3),(5,4)]:=rfl;rw[hk]at h;obtain⟨hl,hf⟩:=h;have hl:xs.length=6:=hl;obtain⟨x0,x1,x2,x3,x4,x5,rfl⟩:=of_len6 hl;have h0:Fits G n 3 [x0]:=hf (0,3) (by simp);obtain⟨i0,e0⟩:=jbs rfl h0;cases e0;have h1:Fits G n 3 [x1]:=hf (1,3) (by simp);obtain⟨i1,e1⟩:=jbs rfl h1;cases e1;have h2:Fits G n 3 [x2]:=hf (2,3) (by simp);obtain⟨i2,e2⟩:=jbs rfl h2;cases e2;have h3:Fits G n 3 [x3]:=hf (3,3) (by simp);obtain⟨i3,e3⟩:=jbs rfl h3;cases e3;have h4:Fits G n 3 [x4]:=hf (4,3) (by simp);obtain⟨i4,e4⟩:=jbs rfl h4;cases e4;have h5:Fits G n 4 [x5]:=hf (5,4) (by simp);obtain⟨i5,e5⟩:=fits_bool rfl h5;cases e5;exact⟨⟨i0,i1,i2,i3,i4,i5⟩,rfl⟩
theorem fits_Cert:∀{n:Nat} {xs:List IV},Fits G n 119 xs->∃p:Cert,xs=p.c
 | 0,_,h=>h.elim
 | n+1,xs,h=>by
  unfold Fits at h;have hk:(G.ti 119).kind= .st [(0,3),(1,3),(2,3),(3,3),(4,3),(5,3)]:=rfl;rw[hk]at h;obtain⟨hl,hf⟩:=h;have hl:xs.length=6:=hl;obtain⟨x0,x1,x2,x3,x4,x5,rfl⟩:=of_len6 hl;have h0:Fits G n 3 [x0]:=hf (0,3) (by simp);obtain⟨i0,e0⟩:=jbs rfl h0;cases e0;have h1:Fits G n 3 [x1]:=hf (1,3) (by simp);obtain⟨i1,e1⟩:=jbs rfl h1;cases e1;have h2:Fits G n 3 [x2]:=hf (2,3) (by simp);obtain⟨i2,e2⟩:=jbs rfl h2;cases e2;have h3:Fits G n 3 [x3]:=hf (3,3) (by simp);obtain⟨i3,e3⟩:=jbs rfl h3;cases e3;have h4:Fits G n 3 [x4]:=hf (4,3) (by simp);obtain⟨i4,e4⟩:=jbs rfl h4;cases e4;have h5:Fits G n 3 [x5]:=hf (5,3) (by simp);obtain⟨i5,e5⟩:=jbs rfl h5;cases e5;exact⟨⟨i0,i1,i2,i3,i4,i5⟩,rfl⟩
theorem jl5:∀{n:Nat} {xs:List IV},Fits G n 54 xs->∃p:Recall,xs=p.c
 | 0,_,h=>h.elim
 | n+1,xs,h=>by
  unfold Fits at h;have hk:(G.ti 54).kind= .st [(0,3),(1,3)]:=rfl;rw[hk]at h;obtain⟨hl,hf⟩:=h;have hl:xs.length=2:=hl;obtain⟨x0,x1,rfl⟩:=jpy hl;have h0:Fits G n 3 [x0]:=hf (0,3) (by simp);obtain⟨i0,e0⟩:=jbs rfl h0;cases e0;have h1:Fits G n 3 [x1]:=hf (1,3) (by simp);obtain⟨i1,e1⟩:=jbs rfl h1;cases e1;exact⟨⟨i0,i1⟩,rfl⟩
theorem jl6:∀{n:Nat} {xs:List IV},Fits G n 56 xs->∃p:Purity,xs=p.c
 | 0,_,h=>h.elim
 | n+1,xs,h=>by
  unfold Fits at h;have hk:(G.ti 56).kind= .st [(0,3),(1,3),(2,3),(3,3)]:=rfl;rw[hk]at h;obtain⟨hl,hf⟩:=h;have hl:xs.length=4:=hl;obtain⟨x0,x1,x2,x3,rfl⟩:=of_len4 hl;have h0:Fits G n 3 [x0]:=hf (0,3) (by simp);obtain⟨i0,e0⟩:=jbs rfl h0;cases e0;have h1:Fits G n 3 [x1]:=hf (1,3) (by simp);obtain⟨i1,e1⟩:=jbs rfl h1;cases e1;have h2:Fits G n 3 [x2]:=hf (2,3) (by simp);obtain⟨i2,e2⟩:=jbs rfl h2;cases e2;have h3:Fits G n 3 [x3]:=hf (3,3) (by simp);obtain⟨i3,e3⟩:=jbs rfl h3;cases e3;exact⟨⟨i0,i1,i2,i3⟩,rfl⟩
theorem fits_Evid:∀{n:Nat} {xs:List IV},Fits G n 49 xs->∃p:Evid,xs=p.c
 | 0,_,h=>h.elim
 | n+1,xs,h=>by
  unfold Fits at h;have hk:(G.ti 49).kind= .st [(0,3),(1,3),(2,3),(3,43),(4,44),(5,45),(6,46),(7,47)]:=rfl;rw[hk]at h;obtain⟨hl,hf⟩:=h;have hl:xs.length=8:=hl;obtain⟨x0,x1,x2,x3,x4,x5,x6,x7,rfl⟩:=of_len8 hl;have h0:Fits G n 3 [x0]:=hf (0,3) (by simp);obtain⟨i0,e0⟩:=jbs rfl h0;cases e0;have h1:Fits G n 3 [x1]:=hf (1,3) (by simp);obtain⟨i1,e1⟩:=jbs rfl h1;cases e1;have h2:Fits G n 3 [x2]:=hf (2,3) (by simp);obtain⟨i2,e2⟩:=jbs rfl h2;cases e2;have h3:Fits G n 43 [x3]:=hf (3,43) (by simp);obtain⟨i3,e3⟩:=jeo Place.c rfl (fun c hc=>fits_Place hc) h3;cases e3;have h4:Fits G n 44 [x4]:=hf (4,44) (by simp);obtain⟨i4,e4⟩:=jeo Move.c rfl (fun c hc=>fits_Move hc) h4;cases e4;have h5:Fits G n 45 [x5]:=hf (5,45) (by simp);obtain⟨i5,e5⟩:=jeo Cert.c rfl (fun c hc=>fits_Cert hc) h5;cases e5;have h6:Fits G n 46 [x6]:=hf (6,46) (by simp);obtain⟨i6,e6⟩:=jeo Recall.c rfl (fun c hc=>jl5 hc) h6;cases e6;have h7:Fits G n 47 [x7]:=hf (7,47) (by simp);obtain⟨i7,e7⟩:=jeo Purity.c rfl (fun c hc=>jl6 hc) h7;cases e7;exact⟨⟨i0,i1,i2,i3,i4,i5,i6,i7⟩,rfl⟩
theorem fitsA_Evid{n:Nat}{y:IV}(h:FitsA G n 49 y):∃e:Evid,y=e.iv:=by
 obtain⟨_,rfl,g⟩:=jfg rfl h;obtain⟨e,rfl⟩:=fits_Evid g;exact⟨e,rfl⟩
end
section
open Go.Abs
theorem fits_RawH{n:Nat}{xs:List IV}(h:Fits G n 69 xs):∃x:Raw,xs=x.c:=by
 obtain⟨s,l,t,m,rfl⟩:=fits_Frac h;exact⟨⟨s,l,t,m⟩,rfl⟩
theorem fitsA_histH{n:Nat}{y:IV}(h:FitsA G n 50 y):∃l:List (List Raw),y=hist l:=by
 obtain⟨l,e⟩:=jeo rowC rfl (fun c hc=>by
  obtain⟨l,e⟩:=jeo Raw.c rfl (fun _ hc=>fits_RawH hc) hc;exact⟨l,e⟩) (fitsA_one rfl h)
 cases e;exact⟨l,rfl⟩
