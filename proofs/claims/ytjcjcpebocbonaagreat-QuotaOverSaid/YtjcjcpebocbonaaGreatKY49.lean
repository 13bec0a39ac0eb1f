/- A part of the proof. No further condition. -/
import Derived.Test.YtjcjcpebocbonaaGreatKY47
set_option linter.all false
set_option maxRecDepth 10000000
set_option maxHeartbeats 16000000
namespace Go.Proofs.YtjcjcpebocbonaaGreat
section
set_option maxRecDepth 1000000
open Go.Abs
theorem of_len6{α:Type}:∀{l:List α},l.length=6->∃x0 x1 x2 x3 x4 x5,l=[x0,x1,x2,x3,x4,x5]
 | [x0,x1,x2,x3,x4,x5],_=>⟨x0,x1,x2,x3,x4,x5,rfl⟩
theorem of_len8{α:Type}:∀{l:List α},l.length=8->∃x0 x1 x2 x3 x4 x5 x6 x7,l=[x0,x1,x2,x3,x4,x5,x6,x7]
 | [x0,x1,x2,x3,x4,x5,x6,x7],_=>⟨x0,x1,x2,x3,x4,x5,x6,x7,rfl⟩
theorem fits_Place:∀{n:Nat} {xs:List IV},Fits G n 115 xs->∃p:Place,xs=p.c
 | 0,_,h=>h.elim
 | n+1,xs,h=>by
  unfold Fits at h;have hk:(G.ti 115).kind= .st [(0,3),(1,3),(2,3)]:=rfl;rw[hk]at h;obtain⟨hl,hf⟩:=h;have hl:xs.length=3:=hl;obtain⟨x0,x1,x2,rfl⟩:=of_len3 hl;have h0:Fits G n 3 [x0]:=hf (0,3) (by simp);obtain⟨i0,e0⟩:=jb4 rfl h0;cases e0;have h1:Fits G n 3 [x1]:=hf (1,3) (by simp);obtain⟨i1,e1⟩:=jb4 rfl h1;cases e1;have h2:Fits G n 3 [x2]:=hf (2,3) (by simp);obtain⟨i2,e2⟩:=jb4 rfl h2;cases e2;exact⟨⟨i0,i1,i2⟩,rfl⟩
theorem fits_Move:∀{n:Nat} {xs:List IV},Fits G n 88 xs->∃p:Move,xs=p.c
 | 0,_,h=>h.elim
 | n+1,xs,h=>by
  unfold Fits at h;have hk:(G.ti 88).kind= .st [(0,3),(1,3),(2,3),(3,3),(4,3),(5,4)]:=rfl;rw[hk]at h;obtain⟨hl,hf⟩:=h;have hl:xs.length=6:=hl;obtain⟨x0,x1,x2,x3,x4,x5,rfl⟩:=of_len6 hl;have h0:Fits G n 3 [x0]:=hf (0,3) (by simp);obtain⟨i0,e0⟩:=jb4 rfl h0;cases e0;have h1:Fits G n 3 [x1]:=hf (1,3) (by simp);obtain⟨i1,e1⟩:=jb4 rfl h1;cases e1;have h2:Fits G n 3 [x2]:=hf (2,3) (by simp);obtain⟨i2,e2⟩:=jb4 rfl h2;cases e2;have h3:Fits G n 3 [x3]:=hf (3,3) (by simp);obtain⟨i3,e3⟩:=jb4 rfl h3;cases e3;have h4:Fits G n 3 [x4]:=hf (4,3) (by simp);obtain⟨i4,e4⟩:=jb4 rfl h4;cases e4;have h5:Fits G n 4 [x5]:=hf (5,4) (by simp);obtain⟨i5,e5⟩:=fits_bool rfl h5;cases e5;exact⟨⟨i0,i1,i2,i3,i4,i5⟩,rfl⟩
theorem fits_Cert:∀{n:Nat} {xs:List IV},Fits G n 150 xs->∃p:Cert,xs=p.c
 | 0,_,h=>h.elim
 | n+1,xs,h=>by
  unfold Fits at h;have hk:(G.ti 150).kind= .st [(0,3),(1,3),(2,3),(3,3),(4,3),(5,3)]:=rfl;rw[hk]at h;obtain⟨hl,hf⟩:=h;have hl:xs.length=6:=hl;obtain⟨x0,x1,x2,x3,x4,x5,rfl⟩:=of_len6 hl;have h0:Fits G n 3 [x0]:=hf (0,3) (by simp);obtain⟨i0,e0⟩:=jb4 rfl h0;cases e0;have h1:Fits G n 3 [x1]:=hf (1,3) (by simp);obtain⟨i1,e1⟩:=jb4 rfl h1;cases e1;have h2:Fits G n 3 [x2]:=hf (2,3) (by simp);obtain⟨i2,e2⟩:=jb4 rfl h2;cases e2;have h3:Fits G n 3 [x3]:=hf (3,3) (by simp);obtain⟨i3,e3⟩:=jb4 rfl h3;cases e3;have h4:Fits G n 3 [x4]:=hf (4,3) (by simp);obtain⟨i4,e4⟩:=jb4 rfl h4;cases e4;have h5:Fits G n 3 [x5]:=hf (5,3) (by simp);obtain⟨i5,e5⟩:=jb4 rfl h5;cases e5;exact⟨⟨i0,i1,i2,i3,i4,i5⟩,rfl⟩
theorem fits_Recall:∀{n:Nat} {xs:List IV},Fits G n 57 xs->∃p:Recall,xs=p.c
 | 0,_,h=>h.elim
 | n+1,xs,h=>by
  unfold Fits at h;have hk:(G.ti 57).kind= .st [(0,3),(1,3)]:=rfl;rw[hk]at h;obtain⟨hl,hf⟩:=h;have hl:xs.length=2:=hl;obtain⟨x0,x1,rfl⟩:=of_len2 hl;have h0:Fits G n 3 [x0]:=hf (0,3) (by simp);obtain⟨i0,e0⟩:=jb4 rfl h0;cases e0;have h1:Fits G n 3 [x1]:=hf (1,3) (by simp);obtain⟨i1,e1⟩:=jb4 rfl h1;cases e1;exact⟨⟨i0,i1⟩,rfl⟩
theorem fits_Purity:∀{n:Nat} {xs:List IV},Fits G n 119 xs->∃p:Purity,xs=p.c
 | 0,_,h=>h.elim
 | n+1,xs,h=>by
  unfold Fits at h;have hk:(G.ti 119).kind= .st [(0,3),(1,3),(2,3),(3,3)]:=rfl;rw[hk]at h;obtain⟨hl,hf⟩:=h;have hl:xs.length=4:=hl;obtain⟨x0,x1,x2,x3,rfl⟩:=of_len4 hl;have h0:Fits G n 3 [x0]:=hf (0,3) (by simp);obtain⟨i0,e0⟩:=jb4 rfl h0;cases e0;have h1:Fits G n 3 [x1]:=hf (1,3) (by simp);obtain⟨i1,e1⟩:=jb4 rfl h1;cases e1;have h2:Fits G n 3 [x2]:=hf (2,3) (by simp);obtain⟨i2,e2⟩:=jb4 rfl h2;cases e2;have h3:Fits G n 3 [x3]:=hf (3,3) (by simp);obtain⟨i3,e3⟩:=jb4 rfl h3;cases e3;exact⟨⟨i0,i1,i2,i3⟩,rfl⟩
theorem fits_Evid:∀{n:Nat} {xs:List IV},Fits G n 32 xs->∃p:Evid,xs=p.c
 | 0,_,h=>h.elim
 | n+1,xs,h=>by
  unfold Fits at h;have hk:(G.ti 32).kind= .st [(0,3),(1,3),(2,3),(3,26),(4,27),(5,28),(6,29),(7,30)]:=rfl;rw[hk]at h;obtain⟨hl,hf⟩:=h;have hl:xs.length=8:=hl;obtain⟨x0,x1,x2,x3,x4,x5,x6,x7,rfl⟩:=of_len8 hl;have h0:Fits G n 3 [x0]:=hf (0,3) (by simp);obtain⟨i0,e0⟩:=jb4 rfl h0;cases e0;have h1:Fits G n 3 [x1]:=hf (1,3) (by simp);obtain⟨i1,e1⟩:=jb4 rfl h1;cases e1;have h2:Fits G n 3 [x2]:=hf (2,3) (by simp);obtain⟨i2,e2⟩:=jb4 rfl h2;cases e2;have h3:Fits G n 26 [x3]:=hf (3,26) (by simp);obtain⟨i3,e3⟩:=jdo Place.c rfl (fun c hc=>fits_Place hc) h3;cases e3;have h4:Fits G n 27 [x4]:=hf (4,27) (by simp);obtain⟨i4,e4⟩:=jdo Move.c rfl (fun c hc=>fits_Move hc) h4;cases e4;have h5:Fits G n 28 [x5]:=hf (5,28) (by simp);obtain⟨i5,e5⟩:=jdo Cert.c rfl (fun c hc=>fits_Cert hc) h5;cases e5;have h6:Fits G n 29 [x6]:=hf (6,29) (by simp);obtain⟨i6,e6⟩:=jdo Recall.c rfl (fun c hc=>fits_Recall hc) h6;cases e6;have h7:Fits G n 30 [x7]:=hf (7,30) (by simp);obtain⟨i7,e7⟩:=jdo Purity.c rfl (fun c hc=>fits_Purity hc) h7;cases e7;exact⟨⟨i0,i1,i2,i3,i4,i5,i6,i7⟩,rfl⟩
theorem fitsA_Evid{n:Nat}{y:IV}(h:FitsA G n 32 y):∃e:Evid,y=e.iv:=by
 obtain⟨_,rfl,g⟩:=jkb rfl h;obtain⟨e,rfl⟩:=fits_Evid g;exact⟨e,rfl⟩
end
section
set_option maxRecDepth 1000000
open Go.Abs
theorem fits_RawH{n:Nat}{xs:List IV}(h:Fits G n 48 xs):∃x:Raw,xs=x.c:=by
 obtain⟨s,l,t,m,rfl⟩:=fits_Frac h;exact⟨⟨s,l,t,m⟩,rfl⟩
theorem fitsA_histH{n:Nat}{y:IV}(h:FitsA G n 33 y):∃l:List (List Raw),y=hist l:=by
 obtain⟨l,e⟩:=jdo rowC rfl (fun c hc=>by
  obtain⟨l,e⟩:=jdo Raw.c rfl (fun _ hc=>fits_RawH hc) hc;exact⟨l,e⟩) (jqj rfl h)
 cases e;exact⟨l,rfl⟩
end
section
set_option maxRecDepth 1000000
open Go.Abs Go.LQ
theorem oq4{α:Type}:∀{l:List α},l.length=4->∃x0 x1 x2 x3,l=[x0,x1,x2,x3]
 | [x0,x1,x2,x3],_=>⟨x0,x1,x2,x3,rfl⟩
theorem jt7{n:Nat}{xs:List IV}(h:Fits G n 78 xs):∃q:Quo,xs=qC q:=by
 obtain⟨hl,m,hf⟩:=joo (t:=78) (fs:=[(0,3),(1,3),(2,3),(3,3)]) rfl h;obtain⟨x0,x1,x2,x3,rfl⟩:=oq4 (show xs.length=4 from hl);have h0:Fits G m 3 [x0]:=hf (0,3) (by simp);obtain⟨i0,e0⟩:=jb4 rfl h0;cases e0;have h1:Fits G m 3 [x1]:=hf (1,3) (by simp);obtain⟨i1,e1⟩:=jb4 rfl h1;cases e1;have h2:Fits G m 3 [x2]:=hf (2,3) (by simp);obtain⟨i2,e2⟩:=jb4 rfl h2;cases e2;have h3:Fits G m 3 [x3]:=hf (3,3) (by simp);obtain⟨i3,e3⟩:=jb4 rfl h3;cases e3;exact⟨⟨i0,i1,i2,i3⟩,rfl⟩
theorem fitsA_Rts{n:Nat}{y:IV}(h:FitsA G n 25 y):∃r:Rts,y= .agg (rtC r):=by
 obtain⟨xs,e,h'⟩:=jkb rfl h;subst e;obtain⟨hl,m,hf⟩:=joo (t:=25) (fs:=[(0,3),(1,22),(2,23),(3,23)]) rfl h';obtain⟨x0,x1,x2,x3,rfl⟩:=oq4 (show xs.length=4 from hl);have h0:Fits G m 3 [x0]:=hf (0,3) (by simp);obtain⟨i0,e0⟩:=jb4 rfl h0;cases e0;have h1:Fits G m 22 [x1]:=hf (1,22) (by simp);obtain⟨C,e1⟩:=jqi rfl rfl h1;cases e1;have h2:Fits G m 23 [x2]:=hf (2,23) (by simp);obtain⟨H,e2⟩:=jdo qC rfl (fun _ hc=>jt7 hc) h2;cases e2;have h3:Fits G m 23 [x3]:=hf (3,23) (by simp);obtain⟨U,e3⟩:=jdo qC rfl (fun _ hc=>jt7 hc) h3;cases e3;exact⟨⟨i0,C,H,U⟩,rfl⟩
theorem jhq{n:Nat}{y:IV}(h:FitsA G n 3 y):∃i,y= .int i:=by
 obtain⟨i,e⟩:=jb4 rfl (jqj rfl h);cases e;exact⟨i,rfl⟩
