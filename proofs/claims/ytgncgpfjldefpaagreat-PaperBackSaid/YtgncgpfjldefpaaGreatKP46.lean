/- A part of the proof. No further condition. -/
import Derived.Test.YtgncgpfjldefpaaGreatKP44
import Derived.Test.YtgncgpfjldefpaaGreatKP10
import Derived.Test.YtgncgpfjldefpaaGreatKP45
set_option linter.all false
set_option maxRecDepth 10000000
set_option maxHeartbeats 16000000
namespace Go.Proofs.YtgncgpfjldefpaaGreat
section
open Go.Abs
theorem ol5{α:Type}:∀{l:List α},l.length=5->∃x0 x1 x2 x3 x4,l=[x0,x1,x2,x3,x4]
 | [x0,x1,x2,x3,x4],_=>⟨x0,x1,x2,x3,x4,rfl⟩
theorem fits_Bat{n:Nat}{xs:List IV}(h:Fits G n 52 xs):∃b:Bat,xs=b.c:=by
 obtain⟨hl,m,hf⟩:=jpq (t:=52) (fs:=[(0,3),(1,26)]) rfl h;obtain⟨x0,x1,rfl⟩:=of_len2 (show xs.length=2 from hl);have h0:Fits G m 3 [x0]:=hf (0,3) (by simp);obtain⟨i0,e0⟩:=jhe rfl h0;cases e0;have h1:Fits G m 26 [x1]:=hf (1,26) (by simp);obtain⟨i1,e1⟩:=fits_ints rfl rfl h1;cases e1;exact⟨⟨i0,i1⟩,rfl⟩
theorem fits_Pap{n:Nat}{xs:List IV}(h:Fits G n 34 xs):∃b:Pap,xs=b.c:=by
 obtain⟨hl,m,hf⟩:=jpq (t:=34) (fs:=[(0,3),(1,3),(2,3),(3,4),(4,4)]) rfl h;obtain⟨x0,x1,x2,x3,x4,rfl⟩:=ol5 (show xs.length=5 from hl);have h0:Fits G m 3 [x0]:=hf (0,3) (by simp);obtain⟨i0,e0⟩:=jhe rfl h0;cases e0;have h1:Fits G m 3 [x1]:=hf (1,3) (by simp);obtain⟨i1,e1⟩:=jhe rfl h1;cases e1;have h2:Fits G m 3 [x2]:=hf (2,3) (by simp);obtain⟨i2,e2⟩:=jhe rfl h2;cases e2;have h3:Fits G m 4 [x3]:=hf (3,4) (by simp);obtain⟨i3,e3⟩:=jor rfl h3;cases e3;have h4:Fits G m 4 [x4]:=hf (4,4) (by simp);obtain⟨i4,e4⟩:=jor rfl h4;cases e4;exact⟨⟨i0,i1,i2,i3,i4⟩,rfl⟩
theorem jot{n:Nat}{y:IV}(h:FitsA G n 25 y):∃p:Led,y= .agg p.c:=by
 obtain⟨xs,rfl,h'⟩:=fitsA_struct rfl h;obtain⟨hl,m,hf⟩:=jpq (t:=25) (fs:=[(0,22),(1,23)]) rfl h';obtain⟨x0,x1,rfl⟩:=of_len2 (show xs.length=2 from hl);have h0:Fits G m 22 [x0]:=hf (0,22) (by simp);obtain⟨i0,e0⟩:=jkq Bat.c rfl (fun _ hc=>fits_Bat hc) h0;cases e0;have h1:Fits G m 23 [x1]:=hf (1,23) (by simp);obtain⟨i1,e1⟩:=jkq Pap.c rfl (fun _ hc=>fits_Pap hc) h1;cases e1;exact⟨⟨i0,i1⟩,rfl⟩
end
end Go.Proofs.YtgncgpfjldefpaaGreat
