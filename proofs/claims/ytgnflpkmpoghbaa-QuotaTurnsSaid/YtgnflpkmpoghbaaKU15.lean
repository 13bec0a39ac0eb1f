/- A part of the proof. No further condition. -/
import Derived.Test.YtgnflpkmpoghbaaKU14
set_option linter.all false
set_option maxRecDepth 10000000
set_option maxHeartbeats 16000000
namespace Go.Proofs.Ytgnflpkmpoghbaa
section
open Go.Abs Go.LQ
attribute [local go_sem] ints ic qC rtC kC
theorem q_sameQ(l:List Quo)(hl:l.length<=100000):Ctr G.P 22 [.sl (l.map qC),.sl (l.map qC)] (· = .bool true):=by
 refine jag good _ _ [.tmp 4] Try.func22 rfl rfl (by decide+kernel) rfl ?_;simp only[List.length_map,go_sem];refine jbo [0,1,5] [] (fun i:Nat=>⟨[(0,.im (.sl (l.map qC))),(1,.im (.sl (l.map qC))),(5,.im (.int i))],[],[]⟩) (fun i=>i<=l.length) (fun i=>l.length-i) 0 ?_ (Nat.zero_le _) ?_
 ·simp only[Int.natCast_zero,go_sem]
 intro i hi;by_cases hp:(i:Int)<l.length
 ·have hd:decide ((i:Int)<l.length)=true:=decide_eq_true hp;have hi0:(0:Int)<=i:=by omega
  have hn:((i:Nat):Int).toNat=i:=Int.toNat_natCast i;have hx:=getq (l:=l) (i:=i) (by omega);have hw:=jb2 (n:=(i:Int)+1) (by omega);generalize l.getD i z0=q at*;simp only[hd,List.length_map,go_sem];refine jbt 9 (by decide+kernel) ?_;simp only[hi0,hp,hn,List.getElem?_map,hx,List.length_map,go_sem];refine jae (i+1) ?_ (by omega) (by omega);simp only[hw,Int.natCast_add,go_sem]
 ·have hd:decide ((i:Int)<l.length)=false:=decide_eq_false hp;simp only[hd,List.length_map,go_sem]
theorem q_same(r:Rts)(hc:r.cap.length<=100000)(hh:r.held.length<=100000)(hu:r.used.length<=100000):Ctr G.P 8 [.agg (rtC r),.agg (rtC r)] (· = .bool true):=by
 have k1:=q_sameQ r.held hh;have k2:=q_sameQ r.used hu;unfold rtC;generalize r.held.map qC=H at*;generalize r.used.map qC=U at*;generalize hC:r.cap=C at*;generalize r.n=n at*;refine jag good _ _ [.tmp 4] Try.func8 rfl rfl (by decide+kernel) rfl ?_;simp only[List.length_map,go_sem];refine jbo [2,3,5] [2,3] (fun i:Nat=>⟨[(2,.loc 2 4 0 0),(3,.loc 3 4 0 0),(5,.im (.int i))],[(3,4,[[.int n,ints C,.sl H,.sl U]]),(2,4,[[.int n,ints C,.sl H,.sl U]])],[]⟩) (fun i=>i<=C.length) (fun i=>C.length-i) 0 ?_ (Nat.zero_le _) ?_
 ·simp only[Int.natCast_zero,go_sem]
 intro i hi;by_cases hp:(i:Int)<C.length
 ·have hd:decide ((i:Int)<C.length)=true:=decide_eq_true hp;have hi0:(0:Int)<=i:=by omega
  have hn:((i:Nat):Int).toNat=i:=Int.toNat_natCast i;have hx:=get_i (l:=C) (i:=i) (by omega);have hw:=jb2 (n:=(i:Int)+1) (by omega);generalize C.getD i 0=q at*;simp only[hd,List.length_map,go_sem];refine jbt 11 (by decide+kernel) ?_;simp only[hi0,hp,hn,List.getElem?_map,hx,List.length_map,go_sem];refine jae (i+1) ?_ (by omega) (by omega);simp only[hw,Int.natCast_add,go_sem]
 ·have hd:decide ((i:Int)<C.length)=false:=decide_eq_false hp;simp only[hd,List.length_map,go_sem];refine ja5 k1 (by decide) ?_;simp only[go_sem];refine ja5 k2 (by decide) ?_;simp only[go_sem]
def fewQ(r:Rts):Bool:=decide (r.cap.length<=30/\r.used.length<=30/\(r.held.length<=30\/(295<r.held.length/\r.held.length<303)))
theorem q_few(r:Rts):Ctr G.P 5 [.agg (rtC r)] (· = .bool (fewQ r)):=by
 unfold rtC;have hq:fewQ r=(decide ((r.cap.length:Int)<=30)&&(decide ((r.used.length:Int)<=30)&&(decide ((r.held.length:Int)<=30) || (decide (295<(r.held.length:Int))&&decide ((r.held.length:Int)<303))))):=by
  unfold fewQ;rw[Bool.eq_iff_iff];simp only[decide_eq_true_eq,Bool.and_eq_true,Bool.or_eq_true];omega
 rw[hq];cases h1:decide ((r.cap.length:Int)<=30)
 ·refine jag good _ _ [.tmp 2] Try.func5 rfl rfl (by decide+kernel) rfl ?_;simp only[*,List.length_map,go_sem]
 cases h2:decide ((r.used.length:Int)<=30)
 ·refine jag good _ _ [.tmp 2] Try.func5 rfl rfl (by decide+kernel) rfl ?_;simp only[*,List.length_map,go_sem]
 cases h3:decide ((r.held.length:Int)<=30)
 case true=>
  refine jag good _ _ [.tmp 2] Try.func5 rfl rfl (by decide+kernel) rfl ?_;simp only[*,List.length_map,go_sem]
 cases h4:decide (295<(r.held.length:Int))
 ·refine jag good _ _ [.tmp 2] Try.func5 rfl rfl (by decide+kernel) rfl ?_;simp only[*,List.length_map,go_sem]
 cases h5:decide ((r.held.length:Int)<303)
 ·refine jag good _ _ [.tmp 2] Try.func5 rfl rfl (by decide+kernel) rfl ?_;simp only[*,List.length_map,go_sem]
 ·refine jag good _ _ [.tmp 2] Try.func5 rfl rfl (by decide+kernel) rfl ?_;simp only[*,List.length_map,go_sem]
def exR:Rts:=⟨3,[1000],[⟨0,0,5,600⟩,⟨1,0,5,400⟩],[⟨0,0,5,100⟩]⟩
theorem q_example:Ctr G.P 10 [] (· = .agg (rtC exR)):=by
 unfold exR rtC;refine jag good _ _ [.cell 0 25] Try.func10 rfl rfl (by decide+kernel) rfl ?_;simp only[List.map_cons,List.map_nil,go_sem]
 try rfl
theorem jcp(a b k:Int):Ctr G.P 12 [.int a,.int b,.int k] (· = .agg (xC ⟨a,b,0,5,k⟩)):=by
 unfold xC;refine jag good _ _ [.cell 6 35] Try.func12 rfl rfl (by decide+kernel) rfl ?_;simp only[go_sem]
end
section
open Go.Abs Go.LQ
attribute [local go_sem] ints ic qC rtC kC xC
def exA:List Trn:=[⟨0,2,0,5,500⟩,⟨2,1,0,5,200⟩]
def exB:List Trn:=[⟨0,2,0,5,501⟩,⟨2,1,0,5,1⟩]
def exTc:List Trn:=[⟨2,0,0,5,50⟩,⟨0,2,0,5,50⟩]
theorem ex_c:rtC (ja7 exR exTc).1=rtC exR:=by
 have h:(ja7 exR exTc).1.n=exR.n/\(ja7 exR exTc).1.cap=exR.cap/\(ja7 exR exTc).1.held=exR.held/\(ja7 exR exTc).1.used=exR.used:=by decide+kernel
 unfold rtC;rw[h.1,h.2.1,h.2.2.1,h.2.2.2]
theorem q_small:Ctr G.P 4 [] (· = .bool true):=by
 have ke:=q_example;have hcap:exR.cap.length<=100000:=by decide
 have hheld:exR.held.length<=100000:=by decide
 have hused:exR.used.length<=100000:=by decide
 have ku:=q_use exR 0 0 5 501 hcap hheld hused (by decide);rw[show(useQ exR 0 0 5 501).2=20 by decide+kernel]at ku;have ta1:=jcp 0 2 500;have ta2:=jcp 2 1 200;have tb1:=jcp 0 2 501;have tb2:=jcp 2 1 1;have tc1:=jcp 2 0 50;have tc2:=jcp 0 2 50;have kA:=jdk exR exA hcap hheld hused (by decide);have kB:=jdk exR exB hcap hheld hused (by decide);have kC:=jdk exR exTc hcap hheld hused (by decide);unfold tR at kA kB kC;rw[show(ja7 exR exA).2.1=0 by decide+kernel]at kA;rw[show(ja7 exR exB).2.1=7 by decide+kernel,show(ja7 exR exB).2.2=0 by decide+kernel]at kB;rw[show(ja7 exR exTc).2.1=0 by decide+kernel,show(ja7 exR exTc).2.2=2 by decide+kernel,ex_c]at kC;have kl1:=q_left exR 0 0 5 hcap hheld hused;have kl2:=q_left exR 2 0 5 hcap hheld hused;rw[show leftQ exR 0 0 5=500 by decide+kernel]at kl1;rw[show leftQ exR 2 0 5=0 by decide+kernel]at kl2;have ha1:(ja7 exR exA).1.cap.length<=100000:=by decide+kernel
 have ha2:(ja7 exR exA).1.held.length<=100000:=by decide+kernel
 have ha3:(ja7 exR exA).1.used.length<=100000:=by decide+kernel
 have kh1:=q_held (ja7 exR exA).1 0 0 5 ha1 ha2 ha3;have kh2:=q_held (ja7 exR exA).1 1 0 5 ha1 ha2 ha3;have kh3:=q_held (ja7 exR exA).1 2 0 5 ha1 ha2 ha3;rw[show heldQ (ja7 exR exA).1 0 0 5=100 by decide+kernel]at kh1;rw[show heldQ (ja7 exR exA).1 1 0 5=600 by decide+kernel]at kh2;rw[show heldQ (ja7 exR exA).1 2 0 5=300 by decide+kernel]at kh3;have ks:=q_same exR hcap hheld hused;have kc:=jdq exR hcap hheld hused;rw[show jao exR=0 by decide+kernel]at kc;have eA:exA.map xC=[xC ⟨0,2,0,5,500⟩,xC ⟨2,1,0,5,200⟩]:=rfl;have eB:exB.map xC=[xC ⟨0,2,0,5,501⟩,xC ⟨2,1,0,5,1⟩]:=rfl;have eC:exTc.map xC=[xC ⟨2,0,0,5,50⟩,xC ⟨0,2,0,5,50⟩]:=rfl;rw[eA]at kA;rw[eB]at kB;rw[eC]at kC;generalize (ja7 exR exA).2.2=na at*;generalize (ja7 exR exA).1=RA at*;generalize (ja7 exR exB).1=RB at*;generalize (useQ exR 0 0 5 501).1=RU at*;clear ha1 ha2 ha3 hcap hheld hused eA eB eC;generalize exR=ER at*;unfold rtC ints xC at*;dsimp only at*;refine jag good _ _ [.tmp 0] Try.func4 rfl rfl (by decide+kernel) rfl ?_;simp only[go_sem];refine ja5 ke (by decide) ?_;simp only[go_sem];refine ja5 ku (by decide) ?_;simp only[go_sem];refine jeg (by decide+kernel) ?_;simp only[go_sem];refine jal ta1 (by decide) ?_;simp only[go_sem];refine jal ta2 (by decide) ?_;simp only[go_sem];refine jal kA (by decide) ?_;simp only[go_sem];refine jeg (by decide+kernel) ?_;simp only[go_sem]
 refine jal tb1 (by decide) ?_;simp only[go_sem];refine jal tb2 (by decide) ?_;simp only[go_sem];refine jal kB (by decide) ?_;simp only[go_sem];refine jeg (by decide+kernel) ?_;simp only[go_sem];refine jal tc1 (by decide) ?_;simp only[go_sem];refine jal tc2 (by decide) ?_;simp only[go_sem];refine jal kC (by decide) ?_;simp only[go_sem];refine ja5 kl1 (by decide) ?_;simp only[go_sem];refine ja5 kl2 (by decide) ?_;simp only[go_sem];refine ja5 kh1 (by decide) ?_;simp only[go_sem];refine ja5 kh2 (by decide) ?_;simp only[go_sem];refine ja5 kh3 (by decide) ?_;simp only[go_sem];refine ja5 ks (by decide) ?_;simp only[go_sem];refine ja5 kc (by decide) ?_;simp only[go_sem]
end
end Go.Proofs.Ytgnflpkmpoghbaa
namespace Go.LQ
section
theorem je4{r:Rts}{l:List Trn}(h:RightQ r)(h0:(ja7 r l).2.1=0):TradeOk r l/\ja7 r l=(r.after l,0,(l.length:Int)):=by
 by_cases hl:40<(l.length:Int)
 ·rw[ji0 (checkQ_zero.2 h) hl]at h0;cases h0
 have hl:l.length<=40:=by omega
 rcases jdj h hl with ⟨i,hi,e⟩ | ⟨_,⟨i,_,e⟩ | ⟨_,⟨_,e⟩ | ho⟩⟩
 ·rw[e]at h0;exact absurd h0 (jc8 hi).2.1
 ·rw[e]at h0;cases h0
 ·rw[e]at h0;cases h0
 ·exact⟨ho,je3 ho⟩
end
end Go.LQ
namespace Go.Proofs.Ytgnflpkmpoghbaa
section
open Go.Abs Go.LQ
attribute [local go_sem] ints ic qC rtC kC xC
end
section
open Go.Abs Go.LQ
attribute [local go_sem] ints ic qC rtC kC xC
theorem few_len{r:Rts}(h:fewQ r=true):r.cap.length<=30/\r.used.length<=30/\r.held.length<=302:=by
 have:=of_decide_eq_true h;omega
section
variable{r:Rts}{l:List Trn}{c d y k:Int}
end
end
end Go.Proofs.Ytgnflpkmpoghbaa
namespace Go.LQ
section
theorem jig{l m:List Trn}(h:l.Perm m)(k:List Int):got l k=got m k:=by
 induction h with
 | nil=>rfl
 | cons x _ ih=>rw[got,got,ih]
 | swap x y l=>rw[got,got,got,got];omega
 | trans _ _ h1 h2=>rw[h1,h2]
structure Alike(r:Rts)(l l':List Trn):Prop where
 ok:(∀x∈l,TrnOk r x)->∀x∈l',TrnOk r x
 to:∀x∈l',∃z∈l,z.kf=x.kf
 fr:∀x∈l,∃z∈l',z.kf=x.kf
 got:∀k,got l' k=got l k
 len:l'.length<=40
theorem jj0{r:Rts}{l:List Trn}:(nz (movT (tabL r.held) l)).length=(r.after l).held.length:=(ji2 _).symm
theorem alike0{r:Rts}{l l':List Trn}(h:TradeOk r l)(ha:Alike r l l'):ja7 r l'=(r.after l,0,(l'.length:Int)):=by
 have he:(r.after l').held=(r.after l).held:=after_ext h.right h.right fun k=>by rw[ha.got]
 have h':TradeOk r l':=⟨h.right,ha.len,ha.ok h.ok,fun x hx=>by
  obtain⟨z,hz,e⟩:=ha.to x hx;rw[ha.got,<-e];exact h.use z hz,by rw[jj0,he,<-jj0];exact h.full⟩
 rw[je3 h'];have:r.after l'=r.after l:=by
  show(⟨r.n,r.cap,(r.after l').held,r.used⟩:Rts)=⟨r.n,r.cap,(r.after l).held,r.used⟩;rw[he]
 rw[this]
theorem jgj{r:Rts}{l:List Trn}(h:RightQ r)(h7:(ja7 r l).2.1=7):(ja7 r l).1=Rts.zero/\(∀x∈l,TrnOk r x)/\∃x∈l,vof (tabL r.held) x.kf+got l x.kf<vof (tabL r.used) x.kf:=by
 by_cases hl:40<(l.length:Int)
 ·rw[ji0 (checkQ_zero.2 h) hl]at h7;cases h7
 have hl:l.length<=40:=by omega
 rcases jdj h hl with ⟨i,hi,e⟩ | ⟨ho,⟨i,hi,e⟩ | ⟨_,⟨_,e⟩ | ho⟩⟩
 ·rw[e]at h7;have h7:err1 r l i=7:=h7;unfold err1 at h7;dsimp only at h7;split at h7
  ·cases h7
  ·split at h7<;>cases h7
 ·refine⟨by rw[e],ho,l.getD i x0,jg9 (jc8 hi).1,?_⟩;have:=(jc8 hi).2.1;have h2:=mt err2_zero.2 this;omega
 ·rw[e]at h7;cases h7
 ·rw[je3 ho]at h7;cases h7
theorem alike7{r:Rts}{l l':List Trn}(h:RightQ r)(h7:(ja7 r l).2.1=7)(ha:Alike r l l'):(ja7 r l').2.1=7/\(ja7 r l').1=Rts.zero:=by
 obtain⟨_,ho,x,hx,hlt⟩:=jgj h h7;obtain⟨z,hz,e⟩:=ha.fr x hx;rcases jdj h ha.len with ⟨i,hi,_⟩ | ⟨_,⟨i,hi,e'⟩ | ⟨hu,_⟩⟩
 ·obtain⟨h1,h2,_⟩:=jc8 hi;exact absurd (err1_zero.2 (ha.ok ho _ (jg9 h1))) h2
 ·rw[e'];exact⟨rfl,rfl⟩
 ·have:=hu z hz;rw[ha.got,e]at this;omega
theorem jhu{r:Rts}{l l':List Trn}(h:RightQ r)(ha:Alike r l l')(he:(ja7 r l).2.1=0\/(ja7 r l).2.1=7):(ja7 r l').2.1=(ja7 r l).2.1/\(ja7 r l').1=(ja7 r l).1:=by
 rcases he with he | he
 ·obtain⟨ho,e1⟩:=je4 h he;rw[alike0 ho ha,e1];exact⟨rfl,rfl⟩
 ·obtain⟨h1,h2⟩:=alike7 h he ha;rw[he,h1,h2,(jgj h he).1];exact⟨rfl,rfl⟩
theorem alike_turn(r:Rts)(l:List Trn)(k:Nat)(hl:l.length<=40):Alike r l (l.drop k++l.take k):=by
 have hp:(l.drop k++l.take k).Perm l:=List.perm_append_comm.trans (by rw[List.take_append_drop]);exact⟨fun h x hx=>h x (hp.mem_iff.1 hx),fun x hx=>⟨x,hp.mem_iff.1 hx,rfl⟩,fun x hx=>⟨x,hp.mem_iff.2 hx,rfl⟩,fun k=>jig hp k,by rw[hp.length_eq];exact hl⟩
theorem alike_div(r:Rts)(l:List Trn)(k:Nat)(hk:k<l.length)(hl:l.length<=20)(x:Trn)(hx:l.getD k x0=x)(y:Int)(hy:1<=y/\y<x.kg):Alike r l ((l.take k++l.drop (k+1))++[{x with kg:=x.kg-y},{x with kg:=y}]):=by
 have hs:l=l.take k++x::l.drop (k+1):=by
  have h1:=List.take_append_drop k l;rw[List.drop_eq_getElem_cons hk,<-gD x0 hk,hx]at h1;exact h1.symm
 have hp:l.Perm (x::(l.take k++l.drop (k+1))):=by
  conv=>lhs;rw[hs]
  exact List.perm_middle
 refine⟨fun h z hz=> ?_,fun z hz=> ?_,fun z hz=> ?_,fun q=> ?_,?_⟩
 ·have hx:=h x (hp.mem_iff.2 List.mem_cons_self);have hkg:=hx.kg;rcases List.mem_append.1 hz with hz | hz
  ·exact h z (hp.mem_iff.2 (List.mem_cons_of_mem _ hz))
  ·rcases List.mem_cons.1 hz with rfl | hz
   ·exact⟨hx.fr,hx.to,hx.ne,by dsimp only;omega⟩
   ·rw[List.mem_singleton.1 hz];exact⟨hx.fr,hx.to,hx.ne,by dsimp only;omega⟩
 ·rcases List.mem_append.1 hz with hz | hz
  ·exact⟨z,hp.mem_iff.2 (List.mem_cons_of_mem _ hz),rfl⟩
  ·refine⟨x,hp.mem_iff.2 List.mem_cons_self,?_⟩;rcases List.mem_cons.1 hz with rfl | hz
   ·rfl
   ·rw[List.mem_singleton.1 hz];rfl
 ·rcases List.mem_cons.1 (hp.mem_iff.1 hz)with rfl | hz
  ·exact⟨_,List.mem_append_right _ List.mem_cons_self,rfl⟩
  ·exact⟨z,List.mem_append_left _ hz,rfl⟩
 ·rw[jfm,jig hp q,got,got,got,got];have e1:∀v:Int,dlt {x with kg:=v} q=(if q=x.kt then v else 0)-(if q=x.kf then v else 0):=fun v=>rfl;rw[e1,e1];unfold dlt;split<;>split<;>omega
 ·have:=hp.length_eq;simp only[List.length_append,List.length_cons,List.length_nil]at this⊢;omega
def flipX(x:Trn):Trn:=⟨x.to,x.fr,x.dep,x.day,x.kg⟩
def backX(l:List Trn):List Trn:=(l.map flipX).reverse
theorem jkn(k:List Int):∀l:List Trn,got (l.map flipX) k= -got l k
 | []=>rfl
 | x::l=>by
  rw[List.map_cons,got,got,jkn k l];have:dlt (flipX x) k= -dlt x k:=by
   show(if k=x.kf then x.kg else 0)-(if k=x.kt then x.kg else 0)= -((if k=x.kt then x.kg else 0)-(if k=x.kf then x.kg else 0));omega
  omega
theorem jkp(l:List Trn)(k:List Int):got (backX l) k= -got l k:=by
 unfold backX;rw[jig (List.reverse_perm _),jkn]
theorem jge(l:List Trn):(backX l).length=l.length:=by unfold backX;simp
theorem trade_back{r:Rts}{l:List Trn}(h:TradeOk r l):ja7 (r.after l) (backX l)=(r,0,(l.length:Int)):=by
 have hra:=jes h;have hz:∀q∈r.held,q.kg≠0:=fun q hq=>by have:=(h.right.held.kg q hq).1;omega
 have he:((r.after l).after (backX l)).held=r.held:=by
  refine jju (jbs hra) h.right.held.asc (jee hra) hz fun q _=> ?_;rw[jbb hra,jbb h.right,jkp];omega
 have h':TradeOk (r.after l) (backX l):=⟨hra,by rw[jge];exact h.len,fun x hx=>by
  unfold backX at hx;rw[List.mem_reverse,List.mem_map]at hx;obtain⟨z,hz,rfl⟩:=hx;have:=h.ok z hz;exact⟨this.to,this.fr,fun e=>this.ne e.symm,this.kg⟩,fun x _=>by
  rw[jbb h.right,jkp];have:=h.right.use_le x.kf;show vof (tabL r.used) x.kf<=_;omega,by
  rw[jj0,he];exact h.right.lens.2.1⟩
 rw[je3 h',jge];have:(r.after l).after (backX l)=r:=by
  show(⟨r.n,r.cap,((r.after l).after (backX l)).held,r.used⟩:Rts)=r;rw[he]
 rw[this]
theorem trade_two{r:Rts}{l:List Trn}{k:Nat}(h:RightQ r)(hl:l.length<=40)(h1:(ja7 r (l.take k)).2.1=0)(h2:(ja7 (ja7 r (l.take k)).1 (l.drop k)).2.1=0):
  (ja7 r l).2.1=0/\(ja7 (ja7 r (l.take k)).1 (l.drop k)).1=(ja7 r l).1:=by
 obtain⟨o1,e1⟩:=je4 h h1;rw[e1]at h2⊢;have hr1:=jes o1;obtain⟨o2,e2⟩:=je4 hr1 h2;have hg:∀q,got l q=got (l.take k) q+got (l.drop k) q:=fun q=>by rw[<-jfm,List.take_append_drop]
 have he:((r.after (l.take k)).after (l.drop k)).held=(r.after l).held:=by
  refine jju (jbs hr1) (jbs h) (jee hr1) (jee h) fun q _=> ?_;rw[jbb hr1,jbb h,jbb h,hg];omega
 have ho:TradeOk r l:=⟨h,hl,fun x hx=>by
  rw[<-List.take_append_drop k l]at hx;rcases List.mem_append.1 hx with hx | hx
  ·exact o1.ok x hx
  ·have:=o2.ok x hx;exact⟨this.fr,this.to,this.ne,this.kg⟩,fun x _=>by
  have:=jeu o2 x.kf;rw[jbb h]at this;rw[hg];have h3:vof (tabL (r.after (l.take k)).used) x.kf=vof (tabL r.used) x.kf:=rfl;rw[h3]at this;omega,by rw[jj0,<-he,<-jj0];exact o2.full⟩
 rw[je3 ho,e2];refine⟨rfl,?_⟩;show(⟨r.n,r.cap,((r.after (l.take k)).after (l.drop k)).held,r.used⟩:Rts)=⟨r.n,r.cap,(r.after l).held,r.used⟩;rw[he]
end
end Go.LQ
namespace Go.Proofs.Ytgnflpkmpoghbaa
section
open Go.Abs Go.LQ
attribute [local go_sem] ints ic qC rtC kC xC
theorem jhs(l:List Trn)(x:Trn):backX (l++[x])=flipX x::backX l:=by unfold backX;simp
theorem take_x{l:List Trn}{i:Nat}(h:i<l.length):l.take (i+1)=l.take i++[l.getD i x0]:=by rw[List.take_add_one,gD _ h,List.getElem?_eq_getElem h];rfl
theorem q_back(l:List Trn)(hl:l.length<=100000):Ctr G.P 9 [.sl (l.map xC)] (· = .sl ((backX l).map xC)):=by
 refine jag good _ _ [.tmp 2] Try.func9 rfl rfl (by decide+kernel) rfl ?_;simp only[go_sem];refine jbo [0,3,4] [30] (fun i:Nat=>⟨[(0,.im (.sl (l.map xC))),(3,if i=0 then .sx []else .vec 30 35 5 ((backX (l.take i)).map xC)),(4,.im (.int i))],[],if i=0 then []else [(30,5,i)]⟩) (fun i=>i<=l.length) (fun i=>l.length-i) 0 ?_ (Nat.zero_le _) ?_
 ·simp only[Int.natCast_zero,go_sem]
 intro i hi;by_cases hp:(i:Int)<l.length
 ·have hd:decide ((i:Int)<l.length)=true:=decide_eq_true hp;have hi0:(0:Int)<=i:=by omega
  have hn:((i:Nat):Int).toNat=i:=Int.toNat_natCast i;have hx:l[i]? =some (l.getD i x0):=by rw[gD _ (by omega)];exact List.getElem?_eq_getElem (by omega)
  have hw:=jb2 (n:=(i:Int)+1) (by omega);have htk:=take_x (l:=l) (i:=i) (by omega);generalize l.getD i x0=x at*;rcases i with _ | i
  ·simp only[Int.natCast_zero,Int.zero_add,Int.toNat_zero]at hd hp hn hw;simp only[hd,hi0,hp,hn,List.getElem?_map,hx,List.length_map,eq_self,Int.natCast_zero,go_sem];refine⟨(fun c hc=>by rw[List.mem_singleton.1 hc];rfl),(fun c hc=>by cases hc),jae 1 ?_ (by omega) (by omega)⟩;have hb:backX (l.take 1)=[flipX x]:=by
    rw[show l.take 1=l.take 0++[x]from htk,jhs];rfl
   have hb2:(backX (l.take 1)).map xC=[[.int x.to,.int x.fr,.int x.dep,.int x.day,.int x.kg]]:=by rw[hb];rfl
   simp only[hw,hb2,Int.natCast_one,go_sem]
  ·have e0:((i+1:Nat)=0)=False:=by simp
   simp only[hd,hi0,hp,hn,List.getElem?_map,hx,List.length_map,eq_self,e0,go_sem];have hb2:(backX (l.take (i+1+1))).map xC=[.int x.to,.int x.fr,.int x.dep,.int x.day,.int x.kg]::(backX (l.take (i+1))).map xC:=by
    rw[htk,jhs];rfl
   have hlb:(backX (l.take (i+1))).length=i+1:=by rw[jge,List.length_take];omega
   have h1l:1+(backX (l.take (i+1))).length=i+1+1:=by omega
   refine⟨(fun c hc=>by rw[List.mem_singleton.1 hc];rfl),(fun c hc=>by obtain⟨z,_,rfl⟩:=List.mem_map.1 hc;rfl),by omega,jae (i+1+1) ?_ (by omega) (by omega)⟩;have e1:((i+1+1:Nat)=0)=False:=by simp
   simp only[Int.natCast_add,Int.natCast_one]at hw;simp only[hw,e1,hb2,h1l,Int.natCast_add,Int.natCast_one,go_sem]
 ·have hd:decide ((i:Int)<l.length)=false:=decide_eq_false hp;obtain rfl:i=l.length:=by omega
  rw[List.take_length];by_cases h0:l.length=0
  ·have hL:=List.length_eq_zero_iff.1 h0;subst hL;simp only[hd,eq_self,List.length_nil,List.map_nil,go_sem];rfl
  ·have e0:(l.length=0)=False:=by simp[h0]
   simp only[hd,e0,List.length_map,go_sem]
end
section
open Go.Abs Go.LQ
attribute [local go_sem] ints ic qC rtC kC xC
abbrev QB8:Exit->St->Prop:=fun e s=>match e with | .normal=>s.get 8= .im (.bool true) | .ret=>s.get 8= .im (.bool true) | _=>False
def ST0(lx:IV)(f:Int)(p:Int)(rc:List IV):St:=⟨[(1,.im lx),(2,.im (.sc (.int .u8 f))),(3,.im (.int p)),(4,.loc 4 4 0 0),(9,.im (.bool true))],[(4,4,[rc])],[]⟩
def ST1(lx:IV)(p:Int)(k:Nat)(rc ac:List IV)(e:Int):St:=⟨[(1,.im lx),(3,.im (.int p)),(4,.loc 4 4 0 0),(9,.im (.bool true)),(10,.im (.int k)),(11,.loc 11 4 0 0),(12,.im (.int e))],[(11,4,[ac]),(4,4,[rc])],[]⟩
section
variable{r:Rts}{l:List Trn}{f p:Int}
theorem qu_A{Q:Exit->St->Prop}(hret:∀s:St,s.get 8= .im (.bool true)->Q .ret s)(hQ:RightQ r->1<=l.length->l.length<=20->∀s,St.Le s (ST0 (.sl (l.map xC)) f p (rtC r))->Q .normal s):
  awp G (putN 3 (tailN 0 (jas Try.f3)) .skip) Q (jck ([.agg (rtC r),.sl (l.map xC),.sc (.int .u8 f),.int p].map .im) []):=by
 have ks:=q_small;have kf:=q_few r;unfold ST0 at hQ;cases hf:fewQ r with
 | false=>
  rw[hf]at kf;unfold rtC ints at*;refine jcm rfl ?_;simp only[go_sem];refine ja5 ks (by decide) ?_;simp only[go_sem];refine ja5 kf (by decide) ?_;simp only[go_sem];exact hret _ rfl
 | true=>
  rw[hf]at kf;obtain⟨g1,g2,g3⟩:=few_len hf;have kc:=jdq r (by omega) (by omega) (by omega);by_cases hl:(20:Int)<l.length
  ·have d1:decide ((20:Int)<l.length)=true:=decide_eq_true hl;unfold rtC ints at*;refine jcm rfl ?_;simp only[go_sem];refine ja5 ks (by decide) ?_;simp only[go_sem];refine ja5 kf (by decide) ?_;simp only[d1,List.length_map,go_sem];exact hret _ rfl
  have d1:decide ((20:Int)<l.length)=false:=decide_eq_false hl;by_cases hl0:(l.length:Int)=0
  ·have d0:decide ((l.length:Int)=0)=true:=decide_eq_true hl0;unfold rtC ints at*;refine jcm rfl ?_;simp only[go_sem];refine ja5 ks (by decide) ?_;simp only[go_sem];refine ja5 kf (by decide) ?_;simp only[d1,d0,List.length_map,go_sem];exact hret _ rfl
  have d0:decide ((l.length:Int)=0)=false:=decide_eq_false hl0;by_cases hh:(30:Int)<r.held.length
  ·have d3:decide ((30:Int)<r.held.length)=true:=decide_eq_true hh;unfold rtC ints at*;refine jcm rfl ?_;simp only[go_sem];refine ja5 ks (by decide) ?_;simp only[go_sem];refine ja5 kf (by decide) ?_;simp only[d1,d0,d3,List.length_map,go_sem];exact hret _ rfl
  have d3:decide ((30:Int)<r.held.length)=false:=decide_eq_false hh;by_cases he:jao r=0
  ·have hr:=checkQ_zero.1 he;rw[he]at kc;have hQ:=hQ hr (by omega) (by omega);unfold rtC ints at*;refine jcm rfl ?_;simp only[go_sem];refine ja5 ks (by decide) ?_;simp only[go_sem];refine ja5 kf (by decide) ?_;simp only[d1,d0,d3,List.length_map,go_sem];refine ja5 kc (by decide) ?_;simp only[go_sem];refine hQ _ (le_of [1,2,3,4,9] [4] ?_);simp only[go_sem]
  ·have d2:decide (jao r=0)=false:=decide_eq_false he;unfold rtC ints at*;refine jcm rfl ?_;simp only[go_sem];refine ja5 ks (by decide) ?_;simp only[go_sem];refine ja5 kf (by decide) ?_;simp only[d1,d0,d3,List.length_map,go_sem];refine ja5 kc (by decide) ?_;simp only[d2,go_sem];exact hret _ rfl
def kOf(f:Int)(l:List Trn):Nat:=f.toNat % l.length
theorem kOf_lt(hl:1<=l.length):kOf f l<l.length:=Nat.mod_lt _ (by omega)
theorem qu_B1(h:RightQ r)(hl1:1<=l.length)(hl:l.length<=20)(hf:0<=f/\f<=255){Q:Exit->St->Prop}(hQ:∀s,St.Le s (ST1 (.sl (l.map xC)) p (kOf f l) (rtC r) (rtC (ja7 r l).1) (ja7 r l).2.1)->Q .normal s):
  awp G (putN 2 (tailN 3 (jas Try.f3)) .skip) Q (ST0 (.sl (l.map xC)) f p (rtC r)):=by
 obtain⟨l1,l2,l3⟩:=h.lens;have hk:=kOf_lt (f:=f) hl1;have kt:=jdk r l (by omega) (by omega) (by omega) (by omega);have hmod:(f.tmod (l.length:Int))=(kOf f l:Int):=by
  unfold kOf;rw[Int.tmod_eq_emod_of_nonneg hf.1,Int.natCast_emod,Int.toNat_of_nonneg hf.1]
 have hwf:=jb2 (n:=f) (by omega);have hwk:=jb2 (n:=(kOf f l:Int)) (by omega);have d0:((l.length:Int)=0)=False:=eq_false (by omega);unfold ST1 at hQ;unfold ST0;unfold tR at kt;generalize hR0:ja7 r l=R0 at*;generalize kOf f l=kk at*;refine jcm rfl ?_;unfold rtC ints at*;simp only[hwf,hmod,hwk,d0,List.length_map,go_sem];refine ja5 kt (by decide) ?_;simp only[go_sem];refine hQ _ (le_of [1,3,4,9,10,11,12] [11,4] ?_);simp only[go_sem]
