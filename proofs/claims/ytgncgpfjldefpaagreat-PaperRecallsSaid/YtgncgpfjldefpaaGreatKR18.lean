/- A part of the proof. No further condition. -/
import Derived.Test.YtgncgpfjldefpaaGreatKR11
set_option linter.all false
set_option maxRecDepth 10000000
set_option maxHeartbeats 16000000
namespace Go.Abs
section
open Go.RowKit (Below)
def frzL:List Nat->IV->Rows->IV
 | [],y,_=>y
 | b::bs,y,L=>match look L (hp b)with
  | some (s,es)=>frzL bs (frz3 b s es y) (del L (hp b))
  | none=>frzL bs y L
theorem jei(y:IV)(L:Rows):frzL [] y L=y:=rfl
theorem jco{b s:Nat}{es:List (List IV)}{bs:List Nat}{y:IV}{L:Rows}(h:look L (hp b)=some (s,es)):frzL (b::bs) y L=frzL bs (frz3 b s es y) (del L (hp b)):=by rw[frzL,h]
theorem jn7{w':World}{M:Nat->Nat->Prop}{v:Value}:∀(bs:List Nat) (y:IV) (L:Rows),(∀k s es,look L k=some (s,es)->∃b,k=hp b/\(∀o,¬M b o)/\RowRep w' (MoH M L) b s es)->Rep w' (MoH M L) y v->Rep w' M (frzL bs y L) v
 | [],y,L,_,hy=>hy.kept (Kept.less w' fun b o h=> .inl h)
 | b::bs,y,L,hL,hy=>by
  cases hl:look L (hp b)with
  | none=>
   rw[show frzL (b::bs) y L=frzL bs y L by rw[frzL,hl]];exact jn7 bs y L hL hy
  | some p=>
   obtain⟨s,es⟩:=p;rw[jco hl];have hless:∀b' o,MoH M (del L (hp b)) b' o->MoH M L b' o:=fun b' o h=>by
    rcases h with h | h
    ·exact .inl h
    ·by_cases e:hp b'=hp b
     ·rw[e,jaa]at h;cases h
     ·rw[ja8 _ e]at h;exact .inr h
   have hk:=Kept.less w' hless;obtain⟨b',e,hn,hrow⟩:=hL _ _ _ hl;have hbb:=hp_inj.1 e;subst hbb;have hnm:∀o,¬MoH M (del L (hp b)) b o:=fun o h=>by
    rcases h with h | h
    ·exact hn o h
    ·rw[jaa]at h;cases h
   refine jn7 bs _ _ (fun k s' es' hk'=> ?_) (jrm (hrow.move hk rfl) hnm (hy.kept hk));by_cases e:k=hp b
   ·subst e;rw[jaa]at hk';cases hk'
   ·rw[ja8 _ e]at hk';obtain⟨b2,h1,h2,h3⟩:=hL k s' es' hk';exact⟨b2,h1,h2,h3.move hk rfl⟩
theorem jgn{P:Program}{f:FuncId}{xs:List IV}{φ:AV->Rows->Prop}{ψ:IV->Prop}(h:CtrH P f (xs.map AV.im) [] φ)(hφ:∀r L',φ r L'->∃y bs,r= .im y/\ψ (frzL bs y L')):Ctr P f xs ψ:=fun w M vs hM hr=>by
 have hr':=hr;refine(h w M vs hM (fun k s es hk=>by cases hk) (by rw[zh];exact hr.1.symm) (fun i av v hi hv=> ?_)).mono ?_
 ·rw[zq]at hi;obtain⟨x,hx,rfl⟩:=z7.1 hi;exact(hr.2 i x v hx hv).kept (Kept.less w fun b o h=>h.elim id fun h=>by cases h)
 ·rintro en w' ⟨r,v,L',g1,g2,g3,g4,g5,g6⟩;obtain⟨y,bs,rfl,hψ⟩:=hφ r L' g1;refine⟨_,v,hψ,g2,jn7 bs y L' (fun k s es hk=> ?_) g6,?_⟩
  ·obtain⟨b,h1,h2,h3⟩:=g5 k s es hk;refine⟨b,h1,fun o hm=> ?_,h3⟩;rcases h2 with h2 | h2
   ·cases h2
   ·have:=hM b o hm;omega
  ·exact⟨g4.os,g4.tape,g4.output,g4.size,fun k hk=>g4.block k ⟨hk,rfl⟩⟩
