/- A part of the proof. No further condition. -/
import Derived.Test.YthahgoopboilkaaKM17
import Derived.ChangeArms
import Derived.DataReads
import Derived.Deep.Slices
import Derived.ProofKit
import Derived.Carry
set_option linter.all false
set_option maxRecDepth 10000000
set_option maxHeartbeats 16000000
namespace Go.Proofs.Ythahgoopboilkaa
section
open Go.Abs Go.LQ
attribute [local go_sem] ints ic qC rtC kC xC
def a0:Act:=⟨0,0,0,0⟩
structure StOk(r:Rts)(d y:Int)(Ss:List Stk):Prop where
 len:Ss.length=r.n.toNat
 ok:∀c,c<Ss.length->LendOk r d y c (Ss.getD c stk0)
section
variable{r:Rts}{l:List Act}{d y:Int}
theorem stOk_start(h:RightQ r):StOk r d y ((List.range r.n.toNat).map (st0 r d y)):=by
 refine⟨by simp,fun c hc=> ?_⟩;rw[gD _ hc,List.getElem_map,List.getElem_range];exact lend_start h d y c
theorem StOk.set{Ss:List Stk}(h:StOk r d y Ss){c:Nat}(hc:c<Ss.length){s:Stk}(hs:LendOk r d y c s):StOk r d y (Ss.set c s):=by
 refine⟨by rw[List.length_set];exact h.len,fun c' hc'=> ?_⟩;rw[List.length_set]at hc';rw[gD _ (by rw[List.length_set];exact hc'),List.getElem_set];by_cases e:c=c'
 ·subst e;rw[if_pos rfl];exact hs
 ·rw[if_neg e];have:=h.ok c' hc';rw[gD _ hc']at this;exact this
def SL2(lx:IV)(d y:Int)(rc:List IV)(X n:Nat)(Ss:List Stk)(i:Nat):St:=⟨[(1,.im (.int d)),(2,.im (.int y)),(3,.im lx),(4,.loc 4 4 0 0),(9,.im (.bool true)),(10,.im (.ref X 48 3 n)),(12,.im (.int i))],[(4,4,[rc]),(hp X,3,Ss.map skC)],[]⟩
theorem ql_2(h:RightQ r)(hn1:1<=r.n)(hl:l.length<=30)(ha:∀a∈l,ActOk a){X:Nat}{S0:List Stk}(hS0:StOk r d y S0){Q:Exit->St->Prop}(hQ:∀Ss s,StOk r d y Ss->St.Le s (SL1 (.sl (l.map acC)) d y (rtC r) X r.n.toNat Ss)->Q .normal s):
  awp (GH [79] []) (putN 1 (tailN 5 (jbd Try.f5)) .skip) Q (SL1 (.sl (l.map acC)) d y (rtC r) X r.n.toNat S0):=by
 have hn:=h.n;have hnn:(r.n.toNat:Int)=r.n:=Int.toNat_of_nonneg hn.1;have bn:∀k:Nat,k<100000->(k !=hp X)=true:=fun k hk=>by simp only[bne_iff_ne,ne_eq];exact hp_ne hk
 have hRC:∃b c d,rtC r=[.int r.n,.sl b,.sl c,.sl d]:=⟨_,_,_,rfl⟩;obtain⟨rc,rh,ru,hRC⟩:=hRC;unfold SL1 at*;rw[hRC]at hQ⊢;refine jcs rfl ?_;simp only[go_sem];refine jfy [1,2,3,4,9,10,12] (fun g:Nat×List Stk=>SL2 (.sl (l.map acC)) d y [.int r.n,.sl rc,.sl rh,.sl ru] X r.n.toNat g.2 g.1) (fun g=>g.1<=l.length/\StOk r d y g.2) (fun g=>l.length-g.1) (0,S0) ?_ (SubR.refl _) rfl ⟨Nat.zero_le _,hS0⟩ ?_
 ·simp only[SL2,Int.natCast_zero,go_sem]
 rintro⟨i,Ss⟩ ⟨hi,hS⟩;dsimp only at hi hS⊢;unfold SL2;by_cases hp':(i:Int)<l.length
 ·have hd:decide ((i:Int)<l.length)=true:=decide_eq_true hp';have hi0:(0:Int)<=i:=by omega
  have hni:((i:Nat):Int).toNat=i:=Int.toNat_natCast i;have hx:l[i]? =some (l.getD i a0):=by rw[gD _ (by omega)];exact List.getElem?_eq_getElem (by omega)
  have hw:=jad (n:=(i:Int)+1) (by omega);have hao:=ha (l.getD i a0) (by rw[gD _ (by omega)];exact List.getElem_mem (by omega));generalize l.getD i a0=a at*;obtain⟨q1,q2,q3,q4⟩:=hao;have hnz:(r.n=0)=False:=eq_false (by omega);have hsl:=hS.len;obtain⟨c,hc⟩:∃c:Nat,c=a.com.toNat % r.n.toNat:=⟨_,rfl⟩;have hcl:c<r.n.toNat:=hc▸Nat.mod_lt _ (by omega);have hmod:a.com.tmod r.n=(c:Int):=by
   rw[hc,Int.tmod_eq_emod_of_nonneg q1.1,Int.natCast_emod,Int.toNat_of_nonneg q1.1,hnn]
  have w1:=jad (n:=a.com) (by omega);have w2:=jad (n:=(c:Int)) (by omega);have w3:=jad (n:=a.dev) (by omega);have w4:=jad (n:=a.units) (by omega);have w5:=jad (n:=a.spent) (by omega);have e8:a.dev.tmod 8=a.dev % 8:=Int.tmod_eq_emod_of_nonneg q2.1;have w6:=jad (n:=a.dev.tmod 8) (by rw[e8];omega);have hso:=hS.ok c (by omega);have hsx:Ss[c]? =some (Ss.getD c stk0):=by rw[gD _ (by omega)];exact List.getElem?_eq_getElem (by omega)
  generalize Ss.getD c stk0=s at*;have c1:((0:Int)<=c)=True:=eq_true (by omega);have c2:((c:Int)<r.n.toNat)=True:=eq_true (by omega);have c3:((c:Nat):Int).toNat=c:=Int.toNat_natCast c;have hxa:(l.map acC)[i]? =some [.sc (.int .u8 a.com),.sc (.int .u8 a.dev),.sc (.int .u16 a.units),.sc (.int .u16 a.spent)]:=by rw[List.getElem?_map,hx];rfl
  have hsc:(Ss.map skC)[c]? =some [.int s.total,.int s.spent,.sl (s.loans.map loC)]:=by rw[List.getElem?_map,hsx];rfl
  have kL:=l_lend s (a.dev.tmod 8) a.units;have hset:∀s2:Stk,(Ss.set c s2).map skC=(Ss.map skC).set c (skC s2):=fun s2=>List.map_set ..;generalize hdv:a.dev.tmod 8=dv at*;by_cases he:(lendL s dv a.units).2=0
  case neg=>
   have d1:decide ((lendL s dv a.units).2=0)=false:=decide_eq_false he;generalize lendL s dv a.units=LR at*;unfold skC at kL;simp only[hd,List.length_map,go_sem];refine jb0 10 (by decide+kernel) ?_;simp only[hd,hi0,hp',hni,hxa,w1,w2,hnz,hmod,List.length_map,go_sem];refine jcx (by decide+kernel) ?_;simp only[hi0,hp',hni,hxa,hsc,c1,c2,c3,w3,w4,w6,hdv,bn,List.length_map,go_sem];refine jal kL (by decide) ?_;simp only[d1,bn,go_sem];refine jcc (i+1,Ss) ?_ ?_ rfl (by dsimp only;omega) ⟨by dsimp only;omega,hS⟩
   ·simp only[SL2,hw,Int.natCast_add,go_sem]
   ·exact jaf rfl (jaf (by rw[ja5 _ _ (hp_ne (by decide)).symm,ja5 _ _ (hp_ne (by decide)).symm,ja7]) jbg)
  obtain⟨f1,f2,f3⟩:=lend_ok hso.ok he;have hLR:lendL s dv a.units=({s with loans:=s.loans++[newL dv a.units]},0):=Prod.ext f1 he;rw[hLR]at kL;have hsk1:skC {s with loans:=s.loans++[newL dv a.units]}=[.int s.total,.int s.spent,.sl (s.loans.map loC++[[.int dv,.int a.units,.int 0,.bool false]])]:=by
   show [IV.int s.total,IV.int s.spent,IV.sl ((s.loans++[newL dv a.units]).map loC)]=_;rw[List.map_append];rfl
  have hl1:LendOk r d y c {s with loans:=s.loans++[newL dv a.units]}:=⟨f2,hso.total,hso.spent,fun z hz=>by
   rcases List.mem_append.1 hz with hz | hz
   ·exact hso.back z hz
   ·rw[List.mem_singleton.1 hz];rfl⟩
  have hset1:=hset {s with loans:=s.loans++[newL dv a.units]};have hok1:=hS.set (by omega:c<Ss.length) hl1;have hlen1:=f2.len;rw[List.length_append]at hlen1;have hlen1:s.loans.length+1<=100:=hlen1;have kS:=l_spend (newL dv a.units) a.spent;have hM:=fun(v:Int) (hv:jax {newL dv a.units with spent:=v}=true)=>l_merge {s with loans:=s.loans++[newL dv a.units]} s.loans.length (newL dv a.units) {newL dv a.units with spent:=v} f2 (by show(s.loans++[newL dv a.units])[s.loans.length]? =_;simp) hv rfl rfl rfl rfl;dsimp only at kL;rw[hsk1]at kL hset1;unfold skC at kL;have hll:(s.loans.map loC).length=s.loans.length:=List.length_map ..;have hlast:∀z:List IV,(s.loans.map loC++[z])[s.loans.length]? =some z:=fun z=>by rw[List.getElem?_append_right (by rw[hll];exact Nat.le_refl _),hll,Nat.sub_self];rfl
  have hgl:∀z:List IV,(s.loans.map loC++[z]).length=s.loans.length+1:=fun z=>by rw[List.length_append,hll];rfl
  have v1:=jad (n:=(s.loans.length:Int)+1) (by omega);have v2:=jad (n:=(s.loans.length:Int)+1-1) (by omega);have v3:(s.loans.length:Int)+1-1=s.loans.length:=by omega
  have v4:((0:Int)<=s.loans.length)=True:=eq_true (by omega);have v5:((s.loans.length:Int)<(s.loans.length:Int)+1)=True:=eq_true (by omega);have v6:((s.loans.length:Nat):Int).toNat=s.loans.length:=Int.toNat_natCast _;have v7:=jad (n:=(s.loans.length:Int)) (by omega);have hcS:∀z:List IV,((Ss.map skC).set c z)[c]? =some z:=fun z=>by rw[List.getElem?_set_self (by rw[List.length_map];omega)]
  by_cases hsp:(jbq (newL dv a.units) a.spent).2=0
  case neg=>
   have d2:decide ((jbq (newL dv a.units) a.spent).2=0)=false:=decide_eq_false hsp;generalize jbq (newL dv a.units) a.spent=SP at*;generalize s.loans.map loC=LL at*;generalize s.loans.length=nn at*;unfold loC newL at kS;dsimp only at kS;simp only[hd,List.length_map,go_sem];refine jb0 10 (by decide+kernel) ?_;simp only[hd,hi0,hp',hni,hxa,w1,w2,hnz,hmod,List.length_map,go_sem];refine jcx (by decide+kernel) ?_;simp only[hi0,hp',hni,hxa,hsc,c1,c2,c3,w3,w4,w6,hdv,bn,List.length_map,go_sem];refine jal kL (by decide) ?_;simp only[bn,go_sem];refine jb0 11 (by decide+kernel) ?_;simp only[hsc,c1,c2,c3,hgl,hll,v1,v2,v3,v7,Int.natCast_add,Int.natCast_one,bn,List.length_map,go_sem];refine jcx (by decide+kernel) ?_;simp only[hi0,hp',hni,hxa,hlast,hgl,v3,v4,v5,v6,v7,w5,bn,Int.natCast_add,Int.natCast_one,List.length_map,go_sem];refine jal kS (by decide) ?_;simp only[d2,bn,hsc,c1,c2,c3,go_sem];refine jcc (i+1,Ss.set c {s with loans:=s.loans++[newL dv a.units]}) ?_ ?_ rfl (by dsimp only;omega) ⟨by dsimp only;omega,hok1⟩
   ·simp only[SL2,hw,Int.natCast_add,go_sem]
   ·dsimp only;rw[hset1];exact jaf rfl (jaf (by rw[ja5 _ _ (hp_ne (by decide)).symm,ja5 _ _ (hp_ne (by decide)).symm,ja5 _ _ (hp_ne (by decide)).symm,ja7]) jbg)
  obtain⟨m1,m2⟩:=spend_ok f3 rfl hsp;have hSP:jbq (newL dv a.units) a.spent=({newL dv a.units with spent:=0+a.spent},0):=Prod.ext m1 hsp;rw[hSP]at kS;have kM:=hM (0+a.spent) m2;have hsp0:(newL dv a.units).spent<=0+a.spent:=by show(0:Int)<=_;omega
  have hok2:LendOk r d y c (jg9 {s with loans:=s.loans++[newL dv a.units]} s.loans.length (newL dv a.units) (0+a.spent)):=by
   refine⟨merge_ok f2 (by show(s.loans++[newL dv a.units])[s.loans.length]? =_;simp) rfl m2 hsp0,hso.total,hso.spent,fun z hz=> ?_⟩;rcases List.mem_or_eq_of_mem_set hz with hz | rfl
   ·exact hl1.back z hz
   ·rfl
  have hokm:=hS.set (by omega:c<Ss.length) hok2;have hset2:=hset (jg9 {s with loans:=s.loans++[newL dv a.units]} s.loans.length (newL dv a.units) (0+a.spent));rw[hsk1]at kM;clear hM hok2 hset1 hok1 hl1 f1 f2 f3 m1 m2 hLR hSP hso;generalize jg9 {s with loans:=s.loans++[newL dv a.units]} s.loans.length (newL dv a.units) (0+a.spent)=s2 at*;unfold skC at kM;generalize s.loans.map loC=LL at*;generalize s.loans.length=nn at*;unfold loC newL at kS kM;dsimp only at kS kM;rw[Int.zero_add]at kS kM;simp only[hd,List.length_map,go_sem];refine jb0 10 (by decide+kernel) ?_;simp only[hd,hi0,hp',hni,hxa,w1,w2,hnz,hmod,List.length_map,go_sem];refine jcx (by decide+kernel) ?_;simp only[hi0,hp',hni,hxa,hsc,c1,c2,c3,w3,w4,w6,hdv,bn,List.length_map,go_sem];refine jal kL (by decide) ?_;simp only[bn,go_sem];refine jb0 11 (by decide+kernel) ?_;simp only[hsc,c1,c2,c3,hgl,hll,v1,v2,v3,v7,Int.natCast_add,Int.natCast_one,bn,List.length_map,go_sem];refine jcx (by decide+kernel) ?_;simp only[hi0,hp',hni,hxa,hlast,hgl,v3,v4,v5,v6,v7,w5,bn,Int.natCast_add,Int.natCast_one,List.length_map,go_sem];refine jal kS (by decide) ?_;simp only[bn,go_sem];refine ja0 kM (by decide) ?_;simp only[bn,hsc,c1,c2,c3,go_sem];refine jcc (i+1,Ss.set c s2) ?_ ?_ rfl (by dsimp only;omega) ⟨by dsimp only;omega,hokm⟩
  ·simp only[SL2,hw,Int.natCast_add,go_sem]
  ·dsimp only;rw[hset2];exact jaf rfl (jaf (by rw[ja5 _ _ (hp_ne (by decide)).symm,ja5 _ _ (hp_ne (by decide)).symm,ja5 _ _ (hp_ne (by decide)).symm,ja7];rfl) jbg)
 ·have hd:decide ((i:Int)<l.length)=false:=decide_eq_false hp';simp only[hd,List.length_map,go_sem];refine hQ Ss _ hS (LeC_of [1,2,3,4,9,10] ?_ ?_ rfl)
  ·simp only[go_sem]
  ·exact SubR.refl _
end
end
section
open Go.Abs Go.LQ
attribute [local go_sem] ints ic qC rtC kC xC
theorem jgy{s:Stk}(h:StkOk s):∀k:Nat,k<=s.loans.length->0<=((s.loans.take k).map (·.spent)).sum/\((s.loans.take k).map (·.spent)).sum<=1099511627776*(k:Int)
 | 0,_=>by simp
 | k+1,hk=>by
  have ih:=jgy h k (by omega);have hx:s.loans.take (k+1)=s.loans.take k++[s.loans.getD k l0]:=by rw[List.take_add_one,gD _ (by omega),List.getElem?_eq_getElem (by omega)];rfl
  obtain⟨_,_,a3,a4,a5⟩:=rightL_iff.1 (h.loans _ (ji3 (l:=s.loans) (i:=k) (by omega)));rw[hx,List.map_append,List.map_cons,List.map_nil,jhm];omega
def SL3(lx:IV)(d y:Int)(rc nc:List IV)(X n:Nat)(Ss:List Stk)(c:Nat):St:=⟨[(1,.im (.int d)),(2,.im (.int y)),(3,.im lx),(4,.loc 4 4 0 0),(9,.im (.bool true)),(10,.im (.ref X 48 3 n)),(19,.loc 19 4 0 0),(20,.im (.int c))],[(19,4,[nc]),(4,4,[rc]),(hp X,3,Ss.map skC)],[]⟩
def SL4(d y:Int)(rc nc:List IV):St:=⟨[(1,.im (.int d)),(2,.im (.int y)),(4,.loc 4 4 0 0),(9,.im (.bool true)),(19,.loc 19 4 0 0)],[(19,4,[nc]),(4,4,[rc])],[]⟩
section
variable{r:Rts}{l:List Act}{d y:Int}
theorem ql_3(h:RightQ r)(hu:r.used.length<=30){X:Nat}{Ss:List Stk}(hS:StOk r d y Ss){Q:Exit->St->Prop}(hQ:∀now s,NowOk r d y r.n.toNat now->St.Le s (SL4 d y (rtC r) (rtC now))->Q .normal s):
  awp (GH [79] []) (putN 2 (tailN 6 (jbd Try.f5)) .skip) Q (SL1 (.sl (l.map acC)) d y (rtC r) X r.n.toNat Ss):=by
 have hn:=h.n;have hnn:(r.n.toNat:Int)=r.n:=Int.toNat_of_nonneg hn.1;have hsl:=hS.len;have bn:∀k:Nat,k<100000->(k !=hp X)=true:=fun k hk=>by simp only[bne_iff_ne,ne_eq];exact hp_ne hk
 have hRN:∀now:Rts,rtC now=[.int now.n,.sl (now.cap.map ic),.sl (now.held.map qC),.sl (now.used.map qC)]:=fun _=>rfl;have hrr:=hRN r;obtain⟨RR,hRR⟩:∃RR,RR=rtC r:=⟨_,rfl⟩;rw[<-hRR]at hQ hrr⊢;unfold SL1;rw[hrr];have hlm:(Ss.map skC).length=r.n.toNat:=by rw[List.length_map];exact hsl
 refine jcs rfl ?_;simp only[bn,go_sem];refine jfy [1,2,3,4,9,10,19,20] (fun g:Nat×Rts=>SL3 (.sl (l.map acC)) d y [.int r.n,.sl (r.cap.map ic),.sl (r.held.map qC),.sl (r.used.map qC)] (rtC g.2) X r.n.toNat Ss g.1) (fun g=>g.1<=r.n.toNat/\NowOk r d y g.1 g.2) (fun g=>r.n.toNat-g.1) (0,r) ?_ ?_ rfl ⟨Nat.zero_le _,now_start h d y⟩ ?_
 ·simp only[SL3,Int.natCast_zero,go_sem]
 ·exact jaf rfl (jaf rfl (jaf (by rw[ja5 _ _ (hp_ne (by decide)).symm,ja5 _ _ (hp_ne (by decide)).symm,ja7]) jbg))
 rintro⟨c,now⟩ ⟨hc,hN⟩;dsimp only at hc hN⊢;unfold SL3;rw[hRN now];by_cases hp':(c:Int)<r.n.toNat
 ·have hd:decide ((c:Int)<r.n.toNat)=true:=decide_eq_true hp';have hw:=jad (n:=(c:Int)+1) (by omega);have hso:=hS.ok c (by omega);have hsx:Ss[c]? =some (Ss.getD c stk0):=by rw[gD _ (by omega)];exact List.getElem?_eq_getElem (by omega)
  generalize Ss.getD c stk0=s at*;have c1:((0:Int)<=c)=True:=eq_true (by omega);have c2:((c:Int)<r.n.toNat)=True:=eq_true (by omega);have c3:((c:Nat):Int).toNat=c:=Int.toNat_natCast c;have hsc:(Ss.map skC)[c]? =some [.int s.total,.int s.spent,.sl (s.loans.map loC)]:=by rw[List.getElem?_map,hsx];rfl
  have hst:=jgy hso.ok;have hl100:=hso.ok.len;have hsp0:=hso.spent;obtain⟨n1,n2,n3⟩:=hN.right.lens;have hnn2:=hN.right.n;have kU:=q_use now c d y (spS s) (by omega) (by omega) (by omega) (by omega);simp only[hd,c1,c2,c3,hsc,hsp0,bn,go_sem];refine jfy [1,2,3,4,9,10,19,20,21,22] (fun k:Nat=>⟨[(1,.im (.int d)),(2,.im (.int y)),(3,.im (.sl (l.map acC))),(4,.loc 4 4 0 0),(9,.im (.bool true)),(10,.im (.ref X 48 3 r.n.toNat)),(19,.loc 19 4 0 0),(20,.im (.int c)),(21,.im (.int ((s.loans.take k).map (·.spent)).sum)),(22,.im (.int k))],
   [(19,4,[[.int now.n,.sl (now.cap.map ic),.sl (now.held.map qC),.sl (now.used.map qC)]]),(4,4,[[.int r.n,.sl (r.cap.map ic),.sl (r.held.map qC),.sl (r.used.map qC)]]),(hp X,3,Ss.map skC)],[]⟩) (fun k=>k<=s.loans.length) (fun k=>s.loans.length-k) 0 ?_ (SubR.refl _) rfl (Nat.zero_le _) ?_
  ·simp only[Int.natCast_zero,List.take_zero,List.map_nil,List.sum_nil,go_sem]
  intro k hk;by_cases kp:(k:Int)<s.loans.length
  ·have kd:decide ((k:Int)<s.loans.length)=true:=decide_eq_true kp;have k1:((0:Int)<=k)=True:=eq_true (by omega);have k2:((k:Int)<s.loans.length)=True:=eq_true kp;have k3:((k:Nat):Int).toNat=k:=Int.toNat_natCast k;have kw:=jad (n:=(k:Int)+1) (by omega);have kx:(s.loans.map loC)[k]? =some [.int (s.loans.getD k l0).dev,.int (s.loans.getD k l0).units,.int (s.loans.getD k l0).spent,.bool (s.loans.getD k l0).back]:=by
    rw[List.getElem?_map,gD _ (by omega),List.getElem?_eq_getElem (by omega)];rfl
   have hts:((s.loans.take (k+1)).map (·.spent)).sum=((s.loans.take k).map (·.spent)).sum+(s.loans.getD k l0).spent:=by
    have hx:s.loans.take (k+1)=s.loans.take k++[s.loans.getD k l0]:=by rw[List.take_add_one,gD _ (by omega),List.getElem?_eq_getElem (by omega)];rfl
    rw[hx,List.map_append,List.map_cons,List.map_nil,jhm]
   have ht1:=hst (k+1) (by omega);rw[hts]at ht1;have kw2:=jad (n:=((s.loans.take k).map (·.spent)).sum+(s.loans.getD k l0).spent) (by omega);simp only[c1,c2,c3,hsc,kd,k1,k2,k3,kx,kw2,bn,List.length_map,go_sem];refine jcc (k+1) ?_ (SubR.refl _) rfl (by omega) (by omega);simp only[kw,hts,Int.natCast_add,go_sem]
  have kd:decide ((k:Int)<s.loans.length)=false:=decide_eq_false kp;obtain rfl:k=s.loans.length:=by omega
  have hsum:((s.loans.take s.loans.length).map (·.spent)).sum=spS s:=by rw[List.take_length];rfl
  by_cases h0:spS s=0
  ·have d0:decide (spS s=0)=true:=decide_eq_true h0;simp only[c1,c2,c3,hsc,kd,hsum,d0,bn,List.length_map,go_sem];refine jcc (c+1,now) ?_ ?_ rfl (by dsimp only;omega) ⟨by dsimp only;omega,now_skip hN⟩
   ·simp only[SL3,hw,Int.natCast_add,go_sem]
   ·exact SubR.refl _
  have d0:decide (spS s=0)=false:=decide_eq_false h0;obtain⟨u1,u2⟩:=now_use hN hso hu (by omega) h0;rw[u1]at kU;rw[hRN now,hRN]at kU;dsimp only at kU;simp only[c1,c2,c3,hsc,kd,hsum,d0,bn,List.length_map,go_sem];refine ja0 kU (by decide) ?_;simp only[bn,go_sem];refine jcc (c+1,now.spent c d y (spS s)) ?_ ?_ rfl (by dsimp only;omega) ⟨by dsimp only;omega,u2⟩
  ·simp only[SL3,hw,Int.natCast_add,go_sem]
  ·exact jaf rfl (jaf rfl (jaf (by rw[ja5 _ _ (hp_ne (by decide)).symm,ja5 _ _ (hp_ne (by decide)).symm,ja5 _ _ (hp_ne (by decide)).symm,ja7]) jbg))
 ·have hd:decide ((c:Int)<r.n.toNat)=false:=decide_eq_false hp';obtain rfl:c=r.n.toNat:=by omega
  simp only[hd,bn,go_sem];refine hQ now _ hN (LeC_of [1,2,4,9,19] ?_ ?_ rfl)
  ·simp only[SL4,go_sem]
  ·rw[hrr];exact jaf rfl (jaf rfl jbg)
end
end
section
open Go.Abs Go.LQ
attribute [local go_sem] ints ic qC rtC kC xC
section
variable{r now:Rts}{l:List Act}{d y:Int}
theorem ql_E{i:Nat}(h:NowOk r d y i now)(hd0:0<=d)(hd1:d<r.cap.length):
  awp (GH [79] []) (tailN 8 (jbd Try.f5)) QL8 (SL4 d y (rtC r) (rtC now)):=by
 have kS:=q_sums now h.right d y;obtain⟨b1,b2⟩:=now_sums h ⟨hd0,hd1⟩;have hb:=jf3 (h.right.hv d y) now.n.toNat;have hb2:=jf3 (h.right.lf d y) now.n.toNat;have hn:=h.right.n;have w1:=jad (n:=hvS now d y-lfS now d y) (by unfold hvS lfS;omega);have d1:decide (hvS now d y-lfS now d y<=r.cap.getD d.toNat 0)=true:=decide_eq_true b1;have d2:decide (0<=lfS now d y)=true:=decide_eq_true b2;have hcg:=get_i (l:=r.cap) (i:=d.toNat) (by omega);have c1:((0:Int)<=d)=True:=eq_true hd0;have c2:(d<(r.cap.length:Int))=True:=eq_true hd1;generalize hvS now d y=hv at*;generalize lfS now d y=lf at*;generalize r.cap.getD d.toNat 0=cx at*;clear hb hb2;unfold SL4;unfold rtC ints at*;refine tail_go rfl ?_;simp only[go_sem];refine ja0 kS (by decide) ?_;simp only[w1,d1,d2,c1,c2,hcg,List.getElem?_map,List.length_map,go_sem];exact rfl
end
theorem q_lends(r:Rts)(d y:Int)(l:List Act)(ha:∀a∈l,ActOk a):Ctr G.P 5 [.agg (rtC r),.int d,.int y,.sl (l.map acC)] (· = .bool true):=by
 refine ctrX_of (G:=GH [79] []) (c:=tailN 0 (jbd Try.f5)) (t:=8) (goodH [79] []) Try.func5 rfl (by decide+kernel) (Nat.le_of_ble_eq_true rfl) rfl ?_;refine SemC.cutsF (goodH [79] []) (fun _:Unit=>SL0 (.sl (l.map acC)) d y (rtC r)) (fun _=>RightQ r/\r.used.length<=30/\l.length<=30/\0<=d/\d<r.cap.length/\1<=r.n) 3 rfl (by decide+kernel) (ql_A (fun s h=>h) fun h1 h2 h3 h4 h5 h6 s hs=>⟨(),⟨h1,h2,h3,h4,h5,h6⟩,hs⟩) fun _ ⟨h1,h2,h3,h4,h5,h6⟩=> ?_;rw[jc6];refine SemC.cutsF (goodH [79] []) (fun X:Nat=>SL1 (.sl (l.map acC)) d y (rtC r) X r.n.toNat ((List.range r.n.toNat).map (st0 r d y))) (fun _=>True) 2 rfl (by decide+kernel) (ql_1 h1 h6 fun X s hs=>⟨X,trivial,hs⟩) fun X _=> ?_;rw[jc6];refine SemC.cutsF (goodH [79] []) (fun Ss:List Stk=>SL1 (.sl (l.map acC)) d y (rtC r) X r.n.toNat Ss) (fun Ss=>StOk r d y Ss) 1 rfl (by decide+kernel) (ql_2 h1 h6 h3 ha (stOk_start h1) fun Ss s hS hs=>⟨Ss,hS,hs⟩) fun Ss hS=> ?_;rw[jc6];refine SemC.cutsF (goodH [79] []) (fun now:Rts=>SL4 d y (rtC r) (rtC now)) (fun now=>NowOk r d y r.n.toNat now) 2 rfl (by decide+kernel) (ql_3 h1 h2 hS fun now s hN hs=>⟨now,hN,hs⟩) fun now hN=> ?_;rw[jc6];exact SemC.awp (goodH [79] []) (by decide+kernel) (ql_E hN h4 h5)
end
end Go.Proofs.Ythahgoopboilkaa
namespace Go.Abs
section
open Go.RowKit (Below)
def tileB(G:Ctx):Nat->List (Nat×TypeId)->Nat->Bool
 | k,[],n=>k==n
 | k,(o,t)::r,n=>o==k&&tileB G (k+(G.ti t).size) r n
def opens(G:Ctx):Nat->TypeId->Bool
 | 0,_=>false
 | n+1,t=>(G.ti t).size !=0&&match(G.ti t).kind with
  | .it _ | .bl | .str=>(G.ti t).size==1
  | .sl e=>(G.ti t).size==1&&opens G n e
  | .st fs=>tileB G 0 fs (G.ti t).size&&fs.all fun p=>opens G n p.2
  | _=>false
def Fits(G:Ctx):Nat->TypeId->List IV->Prop
 | 0,_,_=>False
 | n+1,t,xs=>match(G.ti t).kind with
  | .it k=>∃i,xs=[.sc (.int k i)]/\(Lit.int k i).wf=true
  | .bl=>∃b,xs=[.sc (.bool b)]
  | .str=>∃s:ByteArray,xs=[.sc (.string s)]/\s.size<=maxLen
  | .sl e=>∃es,xs=[.sl es]/\es.length<=maxLen/\∀c∈es,Fits G n e c
  | .st fs=>xs.length=(G.ti t).size/\∀p∈fs,Fits G n p.2 ((xs.drop p.1).take (G.ti p.2).size)
  | _=>False
theorem jip{α:Type}{R:Nat->α->Prop}:∀n,(∀i,i<n->∃x,R i x)->∃l:List α,l.length=n/\∀i x,l[i]? =some x->R i x
 | 0,_=>⟨[],rfl,fun i x h=>by simp at h⟩
 | n+1,h=>by
  obtain⟨l,hl,hR⟩:=jip n fun i hi=>h i (by omega);obtain⟨x,hx⟩:=h n (by omega);refine⟨l++[x],by simp[hl],fun i y hy=> ?_⟩;rcases Nat.lt_or_ge i l.length with hi | hi
  ·rw[List.getElem?_append_left hi]at hy;exact hR i y hy
  ·rw[List.getElem?_append_right hi]at hy;have hi':i=l.length:=by
    have:=(List.getElem?_eq_some_iff.1 hy).1;simp at this;omega
   subst hi';simp at hy;subst hy;rw[hl];exact hx
theorem RepL.append{w:World}{M:Nat->Nat->Prop}{xs ys:List IV}{us vs:List Value}(h:RepL w M xs us)(h':RepL w M ys vs):RepL w M (xs++ys) (us++vs):=by
 refine⟨by simp[h.1,h'.1],fun k x v hx hv=> ?_⟩;rcases Nat.lt_or_ge k xs.length with hk | hk
 ·rw[List.getElem?_append_left hk]at hx;rw[List.getElem?_append_left (by rw[<-h.1];exact hk)]at hv;exact h.2 k x v hx hv
 ·rw[List.getElem?_append_right hk]at hx;rw[List.getElem?_append_right (by rw[<-h.1];exact hk),<-h.1]at hv;exact h'.2 _ x v hx hv
section
variable{G:Ctx}{H:Type}{enc:TypeId×Value->H}{w:World}{base:Nat}{spare:Nat->Bool}{held:Bool}
abbrev NoM:Nat->Nat->Prop:=fun _ _=>False
theorem jf4(hG:G.Ok){t:TypeId}(h:(G.ti t).size≠0):G.P.cellsOf t=(G.ti t).size:=by
 obtain⟨i,z,hi,hs,_⟩:=hG.info h;simp[Program.cellsOf,hi,hs]
theorem jhs(hG:G.Ok):∀(n m:Nat) (t:TypeId) (cs:List Value) (x:DataW H×List MemPlace),opens G n t=true->DataW.trod enc G.P w base spare held m t cs=some x->
  ∃xs,RepL w NoM xs cs/\(∀y∈xs,y.one=true)/\xs.length=(G.ti t).size/\Fits G n t xs
 | 0,_,_,_,_,ho,_=>by simp[opens]at ho
 | n+1,m,t,cs,x,ho,h=>by
  unfold opens at ho;simp only[Bool.and_eq_true,bne_iff_ne,ne_eq]at ho;obtain⟨h0,ho⟩:=ho;have one:∀{v:Value} {y:IV},Rep w NoM y v->y.one=true->Fits G (n+1) t [y]->(G.ti t).size=1->cs=[v]->
    ∃xs,RepL w NoM xs cs/\(∀y∈xs,y.one=true)/\xs.length=(G.ti t).size/\Fits G (n+1) t xs:=by
   intro v y h1 h2 h3 h4 h5;subst h5;exact⟨[y],RepL.cons h1 RepL.nil,by simpa using h2,h4.symm,h3⟩
  split at ho
  ·rename_i k hk;obtain⟨i,rfl,_,hwf⟩:=DataW.trod_int (hG.it h0 hk) h;exact one (.sc _ rfl) rfl (by unfold Fits;rw[hk];exact⟨i,rfl,hwf⟩) (by simpa using ho) rfl
  ·rename_i hk;obtain⟨b,rfl,rfl⟩:=DataW.trod_bool (hG.bl h0 hk) h;exact one (.sc _ rfl) rfl (by unfold Fits;rw[hk];exact⟨b,rfl⟩) (by simpa using ho) rfl
  ·rename_i hk;obtain⟨s,rfl,_,hwf⟩:=DataW.trod_string (hG.str h0 hk) h;exact one (.sc _ rfl) rfl (by unfold Fits;rw[hk];exact⟨s,rfl,hwf⟩) (by simpa using ho) rfl
  ·rename_i e hk;simp only[Bool.and_eq_true,beq_iff_eq]at ho;obtain⟨h1,ho⟩:=ho;rcases DataW.trod_slice (hG.sl h0 hk) h with ⟨rfl,_⟩ | ⟨a,len,cap,elems,rest,m',rfl,rfl,_,_,hlc,hcm,hel,hat,_⟩
   ·exact one (.nil _ _) rfl (by unfold Fits;rw[hk];exact⟨[],rfl,Nat.zero_le _,by simp⟩) h1 rfl
   ·have he0:(G.ti e).size≠0:=by
     cases n with
     | zero=>simp[opens]at ho
     | succ n=>
      unfold opens at ho;simp only[Bool.and_eq_true,bne_iff_ne,ne_eq]at ho;exact ho.1
    rw[jf4 hG he0]at hat;have hex:∀i,i<len->∃p:List IV×List Value,w.cells? base (a.add (i*(G.ti e).size)) (G.ti e).size=some p.2/\RepL w NoM p.1 p.2/\(∀y∈p.1,y.one=true)/\p.1.length=(G.ti e).size/\Fits G n e p.1:=by
     intro i hi;have h3:=hat i hi;rw[List.getElem?_eq_getElem (by omega)]at h3;obtain⟨cs',h4,h5⟩:=Option.bind_eq_some_iff.1 h3;obtain⟨xs,h6,h7,h8,h9⟩:=jhs hG n _ e cs' _ ho h5;exact⟨⟨xs,cs'⟩,h4,h6,h7,h8,h9⟩
    obtain⟨l,hl,hR⟩:=jip len hex;have hmap:∀(i:Nat) c,(l.map (·.1))[i]? =some c->∃us,w.cells? base (a.add (i*(G.ti e).size)) (G.ti e).size=some us/\RepL w NoM c us/\(∀y∈c,y.one=true)/\c.length=(G.ti e).size/\Fits G n e c:=by
     intro i c hc;rw[List.getElem?_map]at hc;obtain⟨p,hp,rfl⟩:=Option.map_eq_some_iff.1 hc;obtain⟨h3,h4,h5,h6,h7⟩:=hR i p hp;exact⟨p.2,h3,h4,h5,h6,h7⟩
    have hlen:(l.map (·.1)).length=len:=by simpa using hl
    have hfit:Fits G (n+1) t [.sl (l.map (·.1))]:=by
     unfold Fits;rw[hk];refine⟨_,rfl,by omega,fun c hc=> ?_⟩;obtain⟨i,hi⟩:=List.getElem?_of_mem hc;obtain⟨_,_,_,_,_,h7⟩:=hmap i c hi;exact h7
    refine one (y:= .sl (l.map (·.1))) ?_ rfl hfit h1 rfl;by_cases hz:len=0
    ·subst hz;have:l=[]:=List.eq_nil_of_length_eq_zero hl;subst this;exact .nil _ _
    ·have hlist:∀i c j y,(l.map (·.1))[i]? =some c->c[j]? =some y->∃u,w.cell? (a.add (i*(G.ti e).size+j))=some u/\Rep w NoM y u/\y.one=true:=by
      intro i c j y hi hj;obtain⟨us,h3,h4,h5,h6,_⟩:=hmap i c hi;have hjl:=(List.getElem?_eq_some_iff.1 hj).1;obtain⟨_,h7,h8⟩:=World.cells?_some h3;have hu:us[j]? =some (us[j]'(by omega)):=List.getElem?_eq_getElem (by omega);refine⟨_,?_,h4.2 j y _ hj hu,h5 y (List.mem_of_getElem? hj)⟩;have:=h8 j (by omega);rw[Go.Deep.add_add]at this;rw[this,hu]
     have hsp:a=⟨a.block,a.off,none⟩:=by
      have hg:(l.map (·.1))[0]? =some ((l.map (·.1))[0]'(by omega)):=List.getElem?_eq_getElem (by omega);obtain⟨us,_,_,_,h6,_⟩:=hmap 0 _ hg;have hg2:((l.map (·.1))[0]'(by omega))[0]? =some (((l.map (·.1))[0]'(by omega))[0]'(by omega)):=List.getElem?_eq_getElem (by omega);obtain⟨u,h3,_⟩:=hlist 0 _ 0 _ hg hg2;simp[Addr.add]at h3;have:=World.cell?_spot h3;cases a;simp_all
     have hadd:∀k,a.add k=⟨a.block,a.off+k,none⟩:=fun k=>by
      obtain⟨b,o,sp⟩:=a;cases hsp;unfold Addr.add;split
      ·rename_i hk0;subst hk0;rfl
      ·rfl
     have hgo:∀(i:Nat) c (j:Nat) y,(l.map (·.1))[i]? =some c->c[j]? =some y->w.cell? ⟨a.block,a.off+i*(G.ti e).size+j,none⟩=some ((w.cell? ⟨a.block,a.off+i*(G.ti e).size+j,none⟩).getD undef)/\
       y.one=true/\Rep w NoM y ((w.cell? ⟨a.block,a.off+i*(G.ti e).size+j,none⟩).getD undef):=by
      intro i c j y hi hj;obtain⟨u,h3,h4,h5⟩:=hlist i c j y hi hj;rw[hadd,<-Nat.add_assoc]at h3;rw[h3];exact⟨rfl,h5,h4⟩
     have:=Rep.sl (w:=w) (M:=NoM) (l.map (·.1)) (G.ti e).size a.block a.off cap (fun i j=>(w.cell? ⟨a.block,a.off+i*(G.ti e).size+j,none⟩).getD undef)
      (by intro hn;rw[hn]at hlen;simp at hlen;omega)
      (fun c hc=>by obtain⟨i,hi⟩:=List.getElem?_of_mem hc;obtain⟨_,_,_,_,h6,_⟩:=hmap i c hi;exact h6)
      (by omega)
      (fun i c j y hi hj=>⟨(hgo i c j y hi hj).2.1,(hgo i c j y hi hj).1,fun h=>h⟩)
      (fun i c j y hi hj=>(hgo i c j y hi hj).2.2)
     rw[hlen,<-hsp]at this;exact this
  ·rename_i fs hk;simp only[Bool.and_eq_true]at ho;obtain⟨ht,ho⟩:=ho;obtain⟨gs,hu,hgs⟩:=hG.st h0 hk;obtain⟨xs,m',rfl,_,hcl,hxl,hat⟩:=DataW.trod_struct hu h;rw[jf4 hG h0]at hcl;have hfield:∀p∈fs,∃ys,RepL w NoM ys ((cs.drop p.1).take (G.ti p.2).size)/\(∀y∈ys,y.one=true)/\ys.length=(G.ti p.2).size/\Fits G n p.2 ys:=by
    intro p hp;obtain⟨i,hi⟩:=List.getElem?_of_mem hp;rw[<-hgs,List.getElem?_map]at hi;obtain⟨f,hf,rfl⟩:=Option.map_eq_some_iff.1 hi;have hf':gs[i]? =some f:=by simpa using hf
    have h3:=hat i f hf';have hil:i<gs.size:=(Array.getElem?_eq_some_iff.1 hf').1;rw[List.getElem?_eq_getElem (by omega)]at h3;have hof:=List.all_eq_true.1 ho _ hp;have hs0:(G.ti f.type).size≠0:=by
     cases n with
     | zero=>simp[opens]at hof
     | succ n=>
      simp only[]at hof;unfold opens at hof;simp only[Bool.and_eq_true,bne_iff_ne,ne_eq]at hof;exact hof.1
    rw[jf4 hG hs0]at h3;exact jhs hG n _ _ _ _ hof h3
   have build:∀(r:List (Nat×TypeId)) (k:Nat),(∀p∈r,p∈fs)->tileB G k r (G.ti t).size=true->k<=cs.length->∃zs,RepL w NoM zs (cs.drop k)/\(∀y∈zs,y.one=true)/\
     ∀p∈r,k<=p.1/\Fits G n p.2 ((zs.drop (p.1-k)).take (G.ti p.2).size):=by
    intro r
    induction r with
    | nil=>
     intro k _ htl _;simp only[tileB,beq_iff_eq]at htl;refine⟨[],?_,by simp,by simp⟩;rw[List.drop_of_length_le (by omega)];exact RepL.nil
    | cons p r ih=>
     obtain⟨o,u⟩:=p;intro k hm htl hkl;simp only[tileB,Bool.and_eq_true,beq_iff_eq]at htl;obtain⟨rfl,htl⟩:=htl;obtain⟨ys,h3,h4,h5,h6⟩:=hfield (o,u) (hm _ (List.mem_cons_self ..));have hle:o+(G.ti u).size<=cs.length:=by
      have:=h3.1;simp at this h5;omega
     obtain⟨zs,h7,h8,h9⟩:=ih _ (fun p hp=>hm p (List.mem_cons_of_mem _ hp)) htl hle;refine⟨ys++zs,?_,?_,?_⟩
     ·have:=h3.append h7;rw[<-List.drop_drop,List.take_append_drop]at this;exact this
     ·intro y hy;rcases List.mem_append.1 hy with h | h
      ·exact h4 y h
      ·exact h8 y h
     ·intro p hp;rcases List.mem_cons.1 hp with rfl | hp
      ·refine⟨Nat.le_refl _,?_⟩;simp only[Nat.sub_self,List.drop_zero];rw[<-h5]
       simpa using h6
      ·obtain⟨h10,h11⟩:=h9 p hp;refine⟨by omega,?_⟩;rw[List.drop_append,List.drop_of_length_le (by simp at h5;omega),List.nil_append];have e:p.1-o-ys.length=p.1-(o+(G.ti u).size):=by simp at h5;omega
       rw[e];exact h11
   obtain⟨zs,h7,h8,h9⟩:=build fs 0 (fun _ h=>h) ht (Nat.zero_le _);rw[List.drop_zero]at h7;refine⟨zs,h7,h8,by rw[h7.1,hcl],?_⟩;unfold Fits;rw[hk];exact⟨by rw[h7.1,hcl],fun p hp=>by simpa using (h9 p hp).2⟩
  ·cases ho
end
end
section
open Go.RowKit (Below)
open Go.ChangeShapes Go.WideShapes
def FitsA(G:Ctx)(n:Nat)(t:TypeId)(y:IV):Prop:=
 if aggK (G.ti t).kind=true then ∃xs,y= .agg xs/\Fits G n t xs else Fits G n t [y]
def FitsL(G:Ctx)(n:Nat):List TypeId->List IV->Prop
 | [],[]=>True
 | t::ts,y::ys=>FitsA G n t y/\FitsL G n ts ys
 | _,_=>False
section
variable{G:Ctx}{H:Type}{enc:TypeId×Value->H}{w:World}{base:Nat}{spare:Nat->Bool}{held:Bool}{r:Reach}{b0 n:Nat}
theorem opens_ne{t:TypeId}(h:opens G n t=true):(G.ti t).size≠0:=by
 cases n with
 | zero=>simp[opens]at h
 | succ n=>
  unfold opens at h;simp only[Bool.and_eq_true,bne_iff_ne,ne_eq]at h;exact h.1
theorem open_arg(hG:G.Ok){t:TypeId}{v:Value}{d:DataW H}{p:List MemPlace}(ho:opens G n t=true)(hv:Value.okWide G.P w r b0 t v)(h:DataW.Trod enc G.P w base spare held t v d p):
  ∃y,Rep w NoM y v/\FitsA G n t y:=by
 obtain⟨m,hm⟩:=h;have h0:=opens_ne ho;obtain⟨xs,h1,h2,h3,h4⟩:=jhs hG n m t _ _ ho hm;have single:v.cells= #[v]->aggK (G.ti t).kind=false->∃y,Rep w NoM y v/\FitsA G n t y:=by
  intro hc hk;rw[hc]at h1;obtain⟨hl,hr⟩:=h1
  match xs,hl with
  | [y],_=>
   refine⟨y,hr 0 y v rfl rfl,?_⟩;unfold FitsA;rw[hk];exact h4
 have ho':=ho;cases n with
 | zero=>simp[opens]at ho
 | succ n=>
  unfold opens at ho';simp only[Bool.and_eq_true]at ho';obtain⟨_,ho'⟩:=ho';split at ho'
  ·rename_i k hk;obtain⟨i,rfl⟩:=okWide_int (hG.it h0 hk) hv;exact single rfl (by rw[hk];rfl)
  ·rename_i hk;obtain⟨i,rfl⟩:=okWide_bool (hG.bl h0 hk) hv;exact single rfl (by rw[hk];rfl)
  ·rename_i hk;obtain⟨i,rfl⟩:=okWide_string (hG.str h0 hk) hv;exact single rfl (by rw[hk];rfl)
  ·rename_i e hk;obtain⟨a,l,c,rfl⟩:=okWide_slice (hG.sl h0 hk) hv;exact single rfl (by rw[hk];rfl)
  ·rename_i fs hk;obtain⟨gs,hu,_⟩:=hG.st h0 hk;obtain⟨cs,rfl,_⟩:=okWide_struct hu hv;refine⟨.agg xs,RepL.agg (by simpa [Value.cells]using h1) h2,?_⟩;unfold FitsA;rw[if_pos (by rw[hk];rfl)];exact⟨xs,rfl,h4⟩
  ·cases ho'
theorem jiq(hG:G.Ok):∀{ts:List TypeId} {vs:List Value} {ds:List (DataW H)} {p:List MemPlace},(∀t∈ts,opens G n t=true)->
  (∀(j:Nat) t v,ts[j]? =some t->vs[j]? =some v->Value.okWide G.P w r b0 t v)->DataW.TrodAll enc G.P w base spare held ts vs ds p->∃ys,RepL w NoM ys vs/\FitsL G n ts ys
 | [],[],[],_,_,_,_=>⟨[],RepL.nil,trivial⟩
 | t::ts,v::vs,d::ds,_,ho,hv,⟨_,_,h1,h2,_⟩=>by
  obtain⟨y,h3,h4⟩:=open_arg hG (ho t (List.mem_cons_self ..)) (hv 0 t v rfl rfl) h1;obtain⟨ys,h5,h6⟩:=jiq hG (fun t ht=>ho t (List.mem_cons_of_mem _ ht)) (fun j t v hj hk=>hv (j+1) t v (by simpa using hj) (by simpa using hk)) h2;exact⟨y::ys,RepL.cons h3 h5,h4,h6⟩
theorem jj8{P:Program}(hl:laidOutB P=true){W W':World}(hb:Below W.heap.size W W'):∀{ts:List TypeId} {vs:List Value} {ds:List (DataW H)} {ps:List MemPlace},
  (∀t∈ts,P.readableRec t=true/\t<P.types.size)->DataW.TrodAll enc P W 0 (fun _=>true) true ts vs ds ps->(∀x∈ps,x.block<W.heap.size)->
  DataW.TrodAll enc P W' 0 (fun b=>decide (b<W.heap.size)) true ts vs ds ps
 | [],[],[],_,_,h,_=>h
 | t::ts,v::vs,d::ds,_,ht,⟨p,q,h1,h2,e⟩,hlt=>by
  subst e;obtain⟨h3,h4⟩:=ht t (List.mem_cons_self ..);exact⟨p,q,Go.RowKit.Below.trod hl h3 h4 h1 hb (fun x hx=>hlt x (List.mem_append_left _ hx)),
   jj8 hl hb (fun t h=>ht t (List.mem_cons_of_mem _ h)) h2 (fun x hx=>hlt x (List.mem_append_right _ hx)),rfl⟩
theorem jg0{P:Program}:∀{ts:List TypeId} {vs:List Value} {ds:List (DataW H)} {ps:List MemPlace},DataW.TrodAll enc P w base spare held ts vs ds ps->ds.length=ts.length
 | [],[],[],_,_=>rfl
 | _::_,_::_,_::_,_,⟨_,_,_,h2,_⟩=>by simp[jg0 h2]
theorem law_calls(hG:G.Good)(hl:laidOutB G.P=true){f:FuncId}{fn:Func}{s:ChangeSpec}{tb:TypeId}(n:Nat)(ts:List TypeId)
  (hp:fn.params.toList=ts) (hrt:fn.resultTypes.toList=[tb]) (hsz:fn.resultTypes.size=1) (htb:G.P.underlying tb=some .bool)
  (hts:(ts.all fun t=>opens G n t&&G.P.readableRec t&&decide (t<G.P.types.size))=true)
  (hvars:s.vars=[]) (hspec:∀ds:List (DataW H),ds.length=ts.length->s.fn H ds={results:=[.lit (.bool true)],args:=ds})
  (hc:∀ys,FitsL G n ts ys->Ctr G.P f ys (· = .bool true)) {W:World} {args:Array Value} {ds gs:List (DataW H)} {before:List MemPlace}
  (hval:∀(j:Nat) t v,fn.params[j]? =some t->args[j]? =some v->Value.okWide G.P W .any b0 t v) (hW:DataW.Whole enc G.P fn.params.toList s.vars false W args.toList ds gs before):
  Calls G.P f args W fun e W'=>∃v,e= .returned v/\s.post enc G.P fn false true false false W args v W':=by
 have hts':∀t∈ts,opens G n t=true/\G.P.readableRec t=true/\t<G.P.types.size:=fun t ht=>by
  have:=List.all_eq_true.1 hts t ht;simp only[Bool.and_eq_true,decide_eq_true_eq]at this;exact⟨this.1.1,this.1.2,this.2⟩
 have hW0:=hW;obtain⟨p,q,hA,hV,hpq,hfz,hnd⟩:=hW;rw[hvars]at hV;obtain⟨rfl,rfl⟩:=trodVars_none hV;rw[hp]at hA;obtain⟨ys,h1,h2⟩:=jiq hG.ok (fun t ht=>(hts' t ht).1) (fun j t v hj hk=>hval j t v (by rw[<-Array.getElem?_toList,hp];exact hj) (by rw[<-Array.getElem?_toList];exact hk)) hA;have hcall:=hc ys h2 W NoM args.toList (fun b o h=>h.elim) h1;rw[Array.toArray_toList]at hcall;refine hcall.mono fun e W' ⟨r,v,hr,he,hv,hb⟩=> ?_;subst hr;obtain rfl:=Rep.sc_inv hv;refine⟨_,he,?_⟩;have hsp:=hspec ds (jg0 hA);have hlt:∀x∈before,x.block<W.heap.size:=fun x hx=>hW0.lt x hx;refine⟨ds,[],before,[],p,[],hW0,?_,?_,?_,World.keptBut_mono (fun p hp=>⟨hp,?_⟩) (hb.frame (· ∈before)),fun h=>by cases h⟩
 ·rw[hrt,hsz,List.append_nil,hsp];exact trodAll_mk1 (Go.RowKit.shut_bool htb _)
 ·rw[List.append_nil,hsp,hp];exact jj8 hl hb (fun t ht=>(hts' t ht).2) hA (fun x hx=>hlt x (by rw[hpq];simpa using hx))
 ·rw[List.append_nil,hsp,hvars];rfl
 ·rw[hpq,List.append_nil]at hp;exact .inr (.inl hp)
end
end
end Go.Abs
namespace Go.Proofs.Ythahgoopboilkaa
section
open Go.Abs
theorem jdc{t:TypeId}(hk:(G.ti t).kind= .it .i64):∀{n:Nat} {xs:List IV},Fits G n t xs->∃i,xs=[.int i]
 | 0,_,h=>h.elim
 | n+1,xs,h=>by
  unfold Fits at h;rw[hk]at h;obtain⟨i,rfl,_⟩:=h;exact⟨i,rfl⟩
theorem list_of{α:Type}{f:α->List IV}:∀{es:List (List IV)},(∀c∈es,∃p,c=f p)->∃l:List α,es=l.map f
 | [],_=>⟨[],rfl⟩
 | c::es,h=>by
  obtain⟨p,rfl⟩:=h c (List.mem_cons_self ..);obtain⟨l,rfl⟩:=list_of fun c hc=>h c (List.mem_cons_of_mem _ hc);exact⟨p::l,rfl⟩
theorem jep{α:Type}(f:α->List IV){t e:TypeId}(hk:(G.ti t).kind= .sl e)(hf:∀{n:Nat} (c:List IV),Fits G n e c->∃p,c=f p):∀{n:Nat} {xs:List IV},Fits G n t xs->∃l:List α,xs=[.sl (l.map f)]
 | 0,_,h=>h.elim
 | n+1,xs,h=>by
  unfold Fits at h;rw[hk]at h;obtain⟨es,rfl,_,h⟩:=h;obtain⟨l,rfl⟩:=list_of fun c hc=>hf c (h c hc);exact⟨l,rfl⟩
theorem fits_ints{t e:TypeId}(hk:(G.ti t).kind= .sl e)(he:(G.ti e).kind= .it .i64){n:Nat}{xs:List IV}(h:Fits G n t xs):∃l:List Int,xs=[ints l]:=
 jep ic hk (fun _ hc=>jdc he hc) h
theorem jjj{t:TypeId}{fs:List (Nat×TypeId)}(hk:(G.ti t).kind= .st fs):∀{n:Nat} {xs:List IV},Fits G n t xs->xs.length=(G.ti t).size/\∃m,∀p∈fs,Fits G m p.2 ((xs.drop p.1).take (G.ti p.2).size)
 | 0,_,h=>h.elim
 | n+1,xs,h=>by
  unfold Fits at h;rw[hk]at h;exact⟨h.1,n,h.2⟩
theorem fitsA_struct{t:TypeId}{n:Nat}{y:IV}(hk:aggK (G.ti t).kind=true)(h:FitsA G n t y):∃xs,y= .agg xs/\Fits G n t xs:=by
 unfold FitsA at h
 rwa [if_pos hk]at h
theorem jj1{t:TypeId}{n:Nat}{y:IV}(hk:aggK (G.ti t).kind=false)(h:FitsA G n t y):Fits G n t [y]:=by
 unfold FitsA at h
 rwa [if_neg (by rw[hk];simp)]at h
theorem je2{n:Nat}{t:TypeId}{ts:List TypeId}:∀{ys:List IV},FitsL G n (t::ts) ys->∃y ys',ys=y::ys'/\FitsA G n t y/\FitsL G n ts ys'
 | y::ys',h=>⟨y,ys',rfl,h⟩
theorem fitsL_nil{n:Nat}:∀{ys:List IV},FitsL G n [] ys->ys=[]
 | [],_=>rfl
end
section
open Go.Abs Go.LQ
theorem oq4{α:Type}:∀{l:List α},l.length=4->∃x0 x1 x2 x3,l=[x0,x1,x2,x3]
 | [x0,x1,x2,x3],_=>⟨x0,x1,x2,x3,rfl⟩
theorem jkh{n:Nat}{xs:List IV}(h:Fits G n 66 xs):∃q:Quo,xs=qC q:=by
 obtain⟨hl,m,hf⟩:=jjj (t:=66) (fs:=[(0,3),(1,3),(2,3),(3,3)]) rfl h;obtain⟨x0,x1,x2,x3,rfl⟩:=oq4 (show xs.length=4 from hl);have h0:Fits G m 3 [x0]:=hf (0,3) (by simp);obtain⟨i0,e0⟩:=jdc rfl h0;cases e0;have h1:Fits G m 3 [x1]:=hf (1,3) (by simp);obtain⟨i1,e1⟩:=jdc rfl h1;cases e1;have h2:Fits G m 3 [x2]:=hf (2,3) (by simp);obtain⟨i2,e2⟩:=jdc rfl h2;cases e2;have h3:Fits G m 3 [x3]:=hf (3,3) (by simp);obtain⟨i3,e3⟩:=jdc rfl h3;cases e3;exact⟨⟨i0,i1,i2,i3⟩,rfl⟩
theorem fitsA_Rts{n:Nat}{y:IV}(h:FitsA G n 25 y):∃r:Rts,y= .agg (rtC r):=by
 obtain⟨xs,e,h'⟩:=fitsA_struct rfl h;subst e;obtain⟨hl,m,hf⟩:=jjj (t:=25) (fs:=[(0,3),(1,22),(2,23),(3,23)]) rfl h';obtain⟨x0,x1,x2,x3,rfl⟩:=oq4 (show xs.length=4 from hl);have h0:Fits G m 3 [x0]:=hf (0,3) (by simp);obtain⟨i0,e0⟩:=jdc rfl h0;cases e0;have h1:Fits G m 22 [x1]:=hf (1,22) (by simp);obtain⟨C,e1⟩:=fits_ints rfl rfl h1;cases e1;have h2:Fits G m 23 [x2]:=hf (2,23) (by simp);obtain⟨H,e2⟩:=jep qC rfl (fun _ hc=>jkh hc) h2;cases e2;have h3:Fits G m 23 [x3]:=hf (3,23) (by simp);obtain⟨U,e3⟩:=jep qC rfl (fun _ hc=>jkh hc) h3;cases e3;exact⟨⟨i0,C,H,U⟩,rfl⟩
theorem jhb{n:Nat}{y:IV}(h:FitsA G n 3 y):∃i,y= .int i:=by
 obtain⟨i,e⟩:=jdc rfl (jj1 rfl h);cases e;exact⟨i,rfl⟩
