/- A part of the proof. No further condition. -/
import Derived.Test.YtdhlmmoicchgpaaGreatKU42
set_option linter.all false
set_option maxRecDepth 10000000
set_option maxHeartbeats 16000000
namespace Go.Proofs.YtdhlmmoicchgpaaGreat
section
open Go.Abs
attribute [local go_sem] Evid.iv Evid.c ints ic
section
variable{L:Abs.Rows}{A Q B:Nat}{e:Evid}{qs:List (List (Int×Int))}{a:List (Int×Int)}{p:Bool}{x y:IV}{c:List IV}
theorem u_ask_bad(hb:blks L)(c0:Abs.look L (hp A)=some (11,[e.c++[x,y,.bool p]]))(kR:Ctr G.P 32 [e.iv,.sl (a.map pickC)] (· = .bool false)):
  CtrH G.P 9 [.loc (hp A) 11 0 0,.im (.sl (a.map pickC))] L (fun r L'=>r= .im (.tup [.int 0,.int 1])/\L'=L):=by
 have F1:=bF hb;have K1:=bK hb;have G1:=bN hb;simp only[Evid.c,List.cons_append,List.nil_append]at c0;refine jae [29,48] [] [.tmp 4,.tmp 5] Tryz.func9 ?_;simp only[c0,F1,K1,G1,go_sem];refine ja2 kR ?_;simp only[go_sem];refine jak L hb (SubR.refl L) ?_;simp only[go_sem]
theorem u_ask_0f(hb:blks L)(c0:Abs.look L (hp A)=some (11,[e.c++[.emp,y,.bool false]]))(kR:Ctr G.P 32 [e.iv,.sl (a.map pickC)] (· = .bool true))(hl:a.length<=100000):
  CtrH G.P 9 [.loc (hp A) 11 0 0,.im (.sl (a.map pickC))] L (fun r L'=>r= .im (.tup [.int 0,.int 0])/\∃X,blks L'/\Abs.look L' (hp A)=some (11,[e.c++[.ref X 31 1 1,y,.bool false]])/\Abs.look L' (hp X)=some (1,[qC a])):=by
 have F1:=bF hb;have K1:=bK hb;have G1:=bN hb;have kC:=jgj a hl;have hw:=jaa (n:=0) (by decide);obtain⟨p,hpf⟩:∃p,p=false:=⟨_,rfl⟩;rw[<-hpf]at c0⊢;simp only[Evid.c,List.cons_append,List.nil_append]at c0;refine jae [29,48] [] [.tmp 4,.tmp 5] Tryz.func9 ?_;simp only[c0,F1,K1,G1,go_sem];refine ja2 kR ?_;simp only[c0,F1,K1,G1,go_sem];refine jcc [false,false,false,false,false,false,false,false,true,false,false,true] (.alt 8 (.alt 11 .fin .none) .none) [(hp A,11,[e.c++[.emp,y,.bool p]])] (by decide+kernel) (jbm c0 jaf) ?_;simp only[c0,F1,K1,G1,go_sem];refine ja4 kC (by decide) ?_;simp only[F1,K1,G1,go_sem];refine And.intro (fun c hc=>by rw[zm.1 hc];rfl) ?_;refine jfo (fun X lX=> ?_);have xA:=jbx lX c0;refine And.intro (jbm ?_ jaf) ?_
 ·rw[ja0 _ _ (hpn (zD xA))];exact c0
 simp only[c0,xA,zD xA,F1,K1,G1,go_sem];refine lay ((hp X,1,[qC a])::List.map (fun q=>if q.1=hp A then(q.1,11,[e.c++[.ref X 31 1 1,y,.bool p]])else q) L) (fun R hR=> ?_);have bR:blks R:=hR▸jac (jay hb);have aR:Abs.look R (hp A)=some (11,[e.c++[.ref X 31 1 1,y,.bool p]]):=by rw[<-hR,ja0 _ _ (hpn (zD xA))];exact jbc c0 _ _
 have xR:Abs.look R (hp X)=some (1,[qC a]):=by rw[<-hR];exact ja1 _ _ _
 have eR:=hR;simp only[Evid.c,qC,List.cons_append,List.nil_append]at eR aR;simp only[jbc c0,hpf,xA,zD xA,go_sem];refine jak R bR (SubR.of_eq (by rw[<-hR,hpf];rfl)) ?_;simp only[hw,go_sem];exact⟨X,bR,aR,xR⟩
theorem u_ask_1f(hb:blks L)(c0:Abs.look L (hp A)=some (11,[e.c++[.ref Q 31 1 qs.length,y,.bool false]]))(cQ:Abs.look L (hp Q)=some (1,qs.map qC))(hn:qs.length<50)(kR:Ctr G.P 32 [e.iv,.sl (a.map pickC)] (· = .bool true))(hl:a.length<=100000):
  CtrH G.P 9 [.loc (hp A) 11 0 0,.im (.sl (a.map pickC))] L (fun r L'=>r= .im (.tup [.int qs.length,.int 0])/\∃X,blks L'/\Abs.look L' (hp A)=some (11,[e.c++[.ref X 31 1 (qs.length+1),y,.bool false]])/\Abs.look L' (hp X)=some (1,qs.map qC++[qC a])):=by
 have F1:=bF hb;have K1:=bK hb;have G1:=bN hb;have kC:=jgj a hl;obtain⟨p,hpf⟩:∃p,p=false:=⟨_,rfl⟩;rw[<-hpf]at c0⊢;have d50:decide ((qs.length:Int)=50)=false:=zw (by omega);have hw:=jaa (n:=(qs.length:Int)) (by omega);have hw1:(qs.length:Int)+1-1=qs.length:=by omega
 have htk:List.take qs.length (qs.map qC)=qs.map qC:=zr (by rw[zq];exact zn _);simp only[Evid.c,List.cons_append,List.nil_append]at c0;refine jae [29,48] [] [.tmp 4,.tmp 5] Tryz.func9 ?_;simp only[c0,F1,K1,G1,go_sem];refine ja2 kR ?_;simp only[c0,d50,F1,K1,G1,go_sem];have b2:blks (Abs.del L (hp Q)):=jb8 hb;refine jcc [false,false,false,false,false,false,false,false,true,false,false,true] (.alt 8 (.alt 11 .fin .none) .none) [(hp A,11,[e.c++[.ref Q 31 1 qs.length,y,.bool p]])] (by decide+kernel) (jbm c0 jaf) ?_;simp only[c0,F1,K1,G1,go_sem];refine ja4 kC (by decide) ?_;simp only[cQ,htk,zq,F1,K1,G1,go_sem];obtain⟨Z,hZ⟩:∃Z,Abs.del L (hp Q)=Z:=⟨_,rfl⟩;have lZ:∀d,d≠hp Q->Abs.look Z d=Abs.look L d:=fun d hd=>by rw[<-hZ];exact ja5 _ hd
 have bZ:blks Z:=hZ▸jb8 hb;have hZf:List.filter (fun p=>p.1 !=hp Q) L=Z:=hZ;have qA:=jcu cQ c0 (by decide);have cZ:=(lZ _ (hpn (zD qA))).trans c0;have F3:=bF bZ;have K3:=bK bZ;have G3:=bN bZ;refine And.intro (fun c hc=>by rw[zm.1 hc];rfl) (And.intro (zn _) (And.intro (by omega) ?_));refine jem (fun X hX=> ?_);have lX:Abs.look Z (hp X)=none:=by rw[hZ]at hX;exact hX
 clear hX;have xA:=jbx lX cZ;refine And.intro (jbm ?_ jaf) ?_
 ·rw[hZ,ja0 _ _ (hpn (zD xA))];exact cZ
 simp only[cZ,hZf,xA,zD xA,qA,zD qA,F3,K3,G3,go_sem];refine lay ((hp X,1,qs.map qC++[qC a])::List.map (fun q=>if q.1=hp A then(q.1,11,[e.c++[.ref X 31 1 (qs.length+1),y,.bool p]])else q) Z) (fun R hR=> ?_);have bR:blks R:=hR▸jac (jay bZ);have aR:Abs.look R (hp A)=some (11,[e.c++[.ref X 31 1 (qs.length+1),y,.bool p]]):=by rw[<-hR,ja0 _ _ (hpn (zD xA))];exact jbc cZ _ _
 have xR:Abs.look R (hp X)=some (1,qs.map qC++[qC a]):=by rw[<-hR];exact ja1 _ _ _
 have oR:∀d,d≠hp A->d≠hp Q->(Abs.look L d).isSome->Abs.look R d=Abs.look L d:=fun d h1 h2 h3=>by
  have h4:d≠hp X:=fun e=>by subst e;rw[<-lZ _ h2,lX]at h3;cases h3
  rw[<-hR,ja0 _ _ h4,jai h1,lZ _ h2]
 have eR:=hR;simp only[Evid.c,qC,List.cons_append,List.nil_append]at eR aR;simp only[jbc cZ,hpf,xA,zD xA,Int.natCast_add,Int.natCast_one,hw1,go_sem];refine jak R bR (SubR.of_eq (by rw[<-hR,hpf];rfl)) ?_;simp only[hw,go_sem];exact⟨X,bR,aR,xR⟩
theorem u_ask_0t(hb:blks L)(c0:Abs.look L (hp A)=some (11,[e.c++[.emp,.emp,.bool true]]))(kR:Ctr G.P 32 [e.iv,.sl (a.map pickC)] (· = .bool true))(kB:Ctr G.P 35 [e.iv,.sl (a.map pickC)] (· = .agg c))(hc:BCell c)(hl:a.length<=100000):
  CtrH G.P 9 [.loc (hp A) 11 0 0,.im (.sl (a.map pickC))] L (fun r L'=>r= .im (.tup [.int 0,.int 0])/\∃X Y,blks L'/\Abs.look L' (hp A)=some (11,[e.c++[.ref X 31 1 1,.ref Y 73 10 1,.bool true]])/\Abs.look L' (hp X)=some (1,[qC a])/\Abs.look L' (hp Y)=some (10,[c])):=by
 have F1:=bF hb;have K1:=bK hb;have G1:=bN hb;have kC:=jgj a hl;have hw:=jaa (n:=0) (by decide);obtain⟨y,hy⟩:∃y,y=IV.emp:=⟨_,rfl⟩;obtain⟨p,hpf⟩:∃p,p=true:=⟨_,rfl⟩;have c0':Abs.look L (hp A)=some (11,[e.c++[.emp,y,.bool p]]):=by rw[c0,hy,hpf]
 clear c0;have c0:=c0';obtain⟨a1,v1,b1,d1,a2,v2,b3,d2,l1,l2,e1⟩:=hc;rw[e1]at kB;simp only[Evid.c,List.cons_append,List.nil_append]at c0;refine jae [29,48] [] [.tmp 4,.tmp 5] Tryz.func9 ?_;simp only[c0,F1,K1,G1,go_sem];refine ja2 kR ?_;simp only[c0,F1,K1,G1,go_sem];refine jcc [false,false,false,false,false,false,false,false,true,false,false,true] (.alt 8 (.alt 11 .fin .none) .none) [(hp A,11,[e.c++[.emp,y,.bool p]])] (by decide+kernel) (jbm c0 jaf) ?_;simp only[c0,F1,K1,G1,go_sem];refine ja4 kC (by decide) ?_;simp only[F1,K1,G1,go_sem];refine And.intro (fun c hc=>by rw[zm.1 hc];rfl) ?_;refine jfo (fun X lX=> ?_);have xA:=jbx lX c0;refine And.intro (jbm ?_ jaf) ?_
 ·rw[ja0 _ _ (hpn (zD xA))];exact c0
 simp only[c0,xA,zD xA,F1,K1,G1,go_sem];refine lay ((hp X,1,[qC a])::List.map (fun q=>if q.1=hp A then(q.1,11,[e.c++[.ref X 31 1 1,y,.bool p]])else q) L) (fun R hR=> ?_);have bR:blks R:=hR▸jac (jay hb);have aR:Abs.look R (hp A)=some (11,[e.c++[.ref X 31 1 1,y,.bool p]]):=by rw[<-hR,ja0 _ _ (hpn (zD xA))];exact jbc c0 _ _
 have xR:Abs.look R (hp X)=some (1,[qC a]):=by rw[<-hR];exact ja1 _ _ _
 have eR:=hR;simp only[Evid.c,qC,List.cons_append,List.nil_append]at eR aR;rw[hy,hpf]at aR eR;simp only[jbc c0,hpf,hy,xA,zD xA,go_sem];simp only[eR,go_sem];have F5:=bF bR;have K5:=bK bR;have G5:=bN bR;refine jcc [false,false,false,false,false,false,false,false,false,false,false,false,true,false,false,true] (.alt 12 (.alt 15 .fin .none) .none) [(hp A,11,[e.c++[.ref X 31 1 1,.emp,.bool true]])] (by decide+kernel) (jbm aR jaf) ?_;simp only[aR,F5,K5,G5,go_sem];refine ja4 kB (by decide) ?_;simp only[F5,K5,G5,go_sem];refine And.intro (fun c hc=>by rw[zm.1 hc];rfl) ?_;refine jfo (fun Y lY=> ?_);have yA:=jbx lY aR;have yX:=jbx lY xR;refine And.intro (jbm ?_ jaf) ?_
 ·rw[ja0 _ _ (hpn (zD yA))];exact aR
 simp only[aR,jbc aR,yA,zD yA,F5,K5,G5,go_sem];refine lay ((hp Y,10,[c])::List.map (fun q=>if q.1=hp A then(q.1,11,[e.c++[.ref X 31 1 1,.ref Y 73 10 1,.bool true]])else q) R) (fun S hS=> ?_);have bS:blks S:=hS▸jac (jay bR);refine jak S bS (SubR.of_eq (by rw[<-hS,e1];rfl)) ?_;simp only[hw,go_sem];refine⟨X,Y,bS,?_,?_,?_⟩
 ·rw[<-hS,ja0 _ _ (hpn (zD yA))];exact jbc aR _ _
 ·rw[<-hS,ja0 _ _ (hpn (zD yX)),jai (hpn (jcu xR aR (by decide)))];exact xR
 ·rw[<-hS];exact ja1 _ _ _
theorem u_ask_1t{bs:List (List IV)}(hb:blks L)(c0:Abs.look L (hp A)=some (11,[e.c++[.ref Q 31 1 qs.length,.ref B 73 10 qs.length,.bool true]]))(cQ:Abs.look L (hp Q)=some (1,qs.map qC))(cB:Abs.look L (hp B)=some (10,bs))(hbl:bs.length=qs.length)(hn:qs.length<50)
  (kR:Ctr G.P 32 [e.iv,.sl (a.map pickC)] (· = .bool true)) (kB:Ctr G.P 35 [e.iv,.sl (a.map pickC)] (· = .agg c)) (hc:BCell c) (hl:a.length<=100000):
  CtrH G.P 9 [.loc (hp A) 11 0 0,.im (.sl (a.map pickC))] L (fun r L'=>r= .im (.tup [.int qs.length,.int 0])/\∃X Y,blks L'/\Abs.look L' (hp A)=some (11,[e.c++[.ref X 31 1 (qs.length+1),.ref Y 73 10 (qs.length+1),.bool true]])/\Abs.look L' (hp X)=some (1,qs.map qC++[qC a])/\Abs.look L' (hp Y)=some (10,bs++[c])):=by
 have F1:=bF hb;have K1:=bK hb;have G1:=bN hb;have kC:=jgj a hl;have htb:List.take qs.length bs=bs:=zr (by omega);obtain⟨y,hy⟩:∃y,y=IV.ref B 73 10 qs.length:=⟨_,rfl⟩;obtain⟨p,hpf⟩:∃p,p=true:=⟨_,rfl⟩;have c0':Abs.look L (hp A)=some (11,[e.c++[.ref Q 31 1 qs.length,y,.bool p]]):=by rw[c0,hy,hpf]
 clear c0;have c0:=c0';obtain⟨a1,v1,b1,d1,a2,v2,b3,d2,l1,l2,e1⟩:=hc;rw[e1]at kB;have d50:decide ((qs.length:Int)=50)=false:=zw (by omega);have hw:=jaa (n:=(qs.length:Int)) (by omega);have hw1:(qs.length:Int)+1-1=qs.length:=by omega
 have htk:List.take qs.length (qs.map qC)=qs.map qC:=zr (by rw[zq];exact zn _);simp only[Evid.c,List.cons_append,List.nil_append]at c0;refine jae [29,48] [] [.tmp 4,.tmp 5] Tryz.func9 ?_;simp only[c0,F1,K1,G1,go_sem];refine ja2 kR ?_;simp only[c0,d50,F1,K1,G1,go_sem];have b2:blks (Abs.del L (hp Q)):=jb8 hb;refine jcc [false,false,false,false,false,false,false,false,true,false,false,true] (.alt 8 (.alt 11 .fin .none) .none) [(hp A,11,[e.c++[.ref Q 31 1 qs.length,y,.bool p]])] (by decide+kernel) (jbm c0 jaf) ?_;simp only[c0,F1,K1,G1,go_sem];refine ja4 kC (by decide) ?_;simp only[cQ,htk,zq,F1,K1,G1,go_sem];obtain⟨Z,hZ⟩:∃Z,Abs.del L (hp Q)=Z:=⟨_,rfl⟩;have lZ:∀d,d≠hp Q->Abs.look Z d=Abs.look L d:=fun d hd=>by rw[<-hZ];exact ja5 _ hd
 have bZ:blks Z:=hZ▸jb8 hb;have hZf:List.filter (fun p=>p.1 !=hp Q) L=Z:=hZ;have qA:=jcu cQ c0 (by decide);have cZ:=(lZ _ (hpn (zD qA))).trans c0;have F3:=bF bZ;have K3:=bK bZ;have G3:=bN bZ;refine And.intro (fun c hc=>by rw[zm.1 hc];rfl) (And.intro (zn _) (And.intro (by omega) ?_));refine jem (fun X hX=> ?_);have lX:Abs.look Z (hp X)=none:=by rw[hZ]at hX;exact hX
 clear hX;have xA:=jbx lX cZ;refine And.intro (jbm ?_ jaf) ?_
 ·rw[hZ,ja0 _ _ (hpn (zD xA))];exact cZ
 simp only[cZ,hZf,xA,zD xA,qA,zD qA,F3,K3,G3,go_sem];refine lay ((hp X,1,qs.map qC++[qC a])::List.map (fun q=>if q.1=hp A then(q.1,11,[e.c++[.ref X 31 1 (qs.length+1),y,.bool p]])else q) Z) (fun R hR=> ?_);have bR:blks R:=hR▸jac (jay bZ);have aR:Abs.look R (hp A)=some (11,[e.c++[.ref X 31 1 (qs.length+1),y,.bool p]]):=by rw[<-hR,ja0 _ _ (hpn (zD xA))];exact jbc cZ _ _
 have xR:Abs.look R (hp X)=some (1,qs.map qC++[qC a]):=by rw[<-hR];exact ja1 _ _ _
 have oR:∀d,d≠hp A->d≠hp Q->(Abs.look L d).isSome->Abs.look R d=Abs.look L d:=fun d h1 h2 h3=>by
  have h4:d≠hp X:=fun e=>by subst e;rw[<-lZ _ h2,lX]at h3;cases h3
  rw[<-hR,ja0 _ _ h4,jai h1,lZ _ h2]
 have eR:=hR;simp only[Evid.c,qC,List.cons_append,List.nil_append]at eR aR;have cBR:=(oR _ (hpn (jcu cB c0 (by decide))) (hpn (jcu cB cQ (by decide))) (jbk cB)).trans cB;rw[hy,hpf]at aR eR;simp only[jbc cZ,hpf,hy,xA,zD xA,go_sem];simp only[eR,go_sem];have F5:=bF bR;have K5:=bK bR;have G5:=bN bR;refine jcc [false,false,false,false,false,false,false,false,false,false,false,false,true,false,false,true] (.alt 12 (.alt 15 .fin .none) .none) [(hp A,11,[e.c++[.ref X 31 1 (qs.length+1),.ref B 73 10 qs.length,.bool true]])] (by decide+kernel) (jbm aR jaf) ?_;simp only[aR,F5,K5,G5,go_sem];refine ja4 kB (by decide) ?_;simp only[cBR,htb,hbl,F5,K5,G5,go_sem];obtain⟨W,hW⟩:∃W,Abs.del R (hp B)=W:=⟨_,rfl⟩;have lW:∀d,d≠hp B->Abs.look W d=Abs.look R d:=fun d hd=>by rw[<-hW];exact ja5 _ hd
 have bW:blks W:=hW▸jb8 bR;have hWf:List.filter (fun p=>p.1 !=hp B) R=W:=hW;have bA:=jcu cBR aR (by decide);have bX:=jcu cBR xR (by decide);have cW:=(lW _ (hpn (zD bA))).trans aR;have xW:=(lW _ (hpn (zD bX))).trans xR;have F6:=bF bW;have K6:=bK bW;have G6:=bN bW;refine And.intro (fun c hc=>by rw[zm.1 hc];rfl) (And.intro (zn _) (And.intro (by omega) ?_));refine jem (fun Y hY=> ?_);have lY:Abs.look W (hp Y)=none:=by rw[hW]at hY;exact hY
 clear hY;have yA:=jbx lY cW;have yX:=jbx lY xW;refine And.intro (jbm ?_ jaf) ?_
 ·rw[hW,ja0 _ _ (hpn (zD yA))];exact cW
 simp only[cW,jbc cW,hWf,yA,zD yA,bA,zD bA,hw1,Int.natCast_add,Int.natCast_one,F6,K6,G6,go_sem];refine lay ((hp Y,10,bs++[c])::List.map (fun q=>if q.1=hp A then(q.1,11,[e.c++[.ref X 31 1 (qs.length+1),.ref Y 73 10 (qs.length+1),.bool true]])else q) W) (fun S hS=> ?_);have bS:blks S:=hS▸jac (jay bW);refine jak S bS (SubR.of_eq (by rw[<-hS,e1];rfl)) ?_;simp only[hw,go_sem];refine⟨X,Y,bS,?_,?_,?_⟩
 ·rw[<-hS,ja0 _ _ (hpn (zD yA))];exact jbc cW _ _
 ·rw[<-hS,ja0 _ _ (hpn (zD yX)),jai (hpn (jcu xR aR (by decide)))];exact xW
 ·rw[<-hS];exact ja1 _ _ _
