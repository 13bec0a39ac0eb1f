/- A part of the proof. No further condition. -/
import Derived.Test.YtjcjcpebocbonaaGreatKY36
set_option linter.all false
set_option maxRecDepth 10000000
set_option maxHeartbeats 16000000
namespace Go.Proofs.YtjcjcpebocbonaaGreat
section
set_option maxRecDepth 1000000
open Go.Abs
open Go.LP (Dic Rw RT Ov OvRw tsum Sol IsMin NoMin Bds ksum jsu ksum_nonneg noDup_iff)
attribute [local go_sem] ints ic big frac fc zc
theorem okP_iff{e:Evid}{ps:List (Int×Int)}:okP e ps=true↔jbh e=0/\(∀p∈ps,je8 e p=true)/\(ps.map (pickK e.mats.toNat)).Nodup:=by
 constructor
 ·intro h;obtain⟨h1,h2,h3⟩:=jiq h;exact⟨h1,h2,noDup_iff.1 h3⟩
 ·rintro⟨h1,h2,h3⟩;simp only[okP,zn,zN,List.all_eq_true];exact⟨h1,h2,noDup_iff.2 h3⟩
theorem BSay.inv{e:Evid}{ps:List (Int×Int)}{lo:Rat}{hi:Option Rat}(h:BSay e ps (Option.some (lo,hi))):okP e ps=true/\Bds (nV e) (rowsE e) (wgt e ps) lo hi/\FL 4000000000 lo/\∀w,hi=Option.some w->FL 4000000000 w:=by
 cases h with
 | some l u h1 h2 h3 h4=>exact⟨h1,h2,h3,h4⟩
