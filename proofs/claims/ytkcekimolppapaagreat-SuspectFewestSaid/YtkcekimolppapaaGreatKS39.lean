/- A part of the proof. No further condition. -/
import Derived.Test.YtkcekimolppapaaGreatKS38
set_option linter.all false
set_option maxRecDepth 10000000
set_option maxHeartbeats 16000000
namespace Go.Proofs.YtkcekimolppapaaGreat
section
open Go.Abs
attribute [local go_sem] ints ic
section
variable{b n:Nat}{f:Nat->Int}
theorem tab_ic:(tab n fun k=>[IV.int (f k)])=(tab n f).map ic:=(tab_map ic).symm
def SK(b n:Nat)(f:Nat->Int)(k:Nat):St:=⟨[(0,.im (.ref b 3 1 n)),(3,.im (.int k))],[(hp b,1,(tab n f).map ic)],[]⟩
theorem jhv{p:Nat}(hp:1<=p):dedF f (p+1)=dedF f p++if f p=f (p-1)then []else [f p]:=by
 obtain⟨q,rfl⟩:∃q,p=q+1:=⟨p-1,by omega⟩;rw[dedF];rfl
def rowP(n:Nat)(f:Nat->Int)(p:Nat):List Int:=dedF f p++(tab n f).drop (dedF f p).length
theorem rowP_len{p:Nat}(h:(dedF f p).length<=n):(rowP n f p).length=n:=by
 unfold rowP;rw[zG,yl,jaa];omega
theorem jo0{p q:Nat}(h:(dedF f p).length<=q)(hq:q<n):(rowP n f p)[q]? =some (f q):=by
 unfold rowP;rw[zL h,qt,show(dedF f p).length+(q-(dedF f p).length)=q by omega,jcw hq]
theorem rowP_same{p:Nat}(hp:1<=p)(e:f p=f (p-1)):rowP n f (p+1)=rowP n f p:=by
 unfold rowP;rw[jhv hp,zm e,zX]
theorem rowP_set{p:Nat}(hp:1<=p)(e:f p≠f (p-1))(h:(dedF f p).length<n):(rowP n f p).set (dedF f p).length (f p)=rowP n f (p+1):=by
 unfold rowP;rw[jhv hp,zn e,jK _ _ (zt _),j7,zG,zS];congr 1;have hg:(tab n f)[(dedF f p).length]? =some (f (dedF f p).length):=jcw h;obtain⟨h1,h2⟩:=zl.1 hg;rw[qQ h1];rfl
theorem rowP_take{p:Nat}:(rowP n f p).take (dedF f p).length=dedF f p:=by
 unfold rowP;rw[List.take_left]
theorem endT{i:Nat}{R:List Int}{s:St}(hi:i<=R.length)(h2:s.get 2= .im (.ref b 3 1 i))(hr:s.rows=[(hp b,1,R.map ic)]){l:List Int}(hl:R.take i=l):∃s',Abs.St.Le s s'/\aRetH (GH [] []) [.tmp 2] (fun r L'=>r= .im (.sl (l.map ic))/\L'=[]) s':=by
 subst hl;refine⟨s.frz b,fun _ _ _ β _ _ h=>⟨β,h.frz b⟩,[],fun k x hk=>(by cases hk),?_,rfl⟩;show((s.frz b).get 2).toH=_;rw[frz_get (k:=1) (es:=R.map ic) (by rw[hr,ja2]),h2];have hi':i<=(R.map ic).length:=by rw[zq];exact hi
 simp only[AV.frz,frz3,frz2,frz1,qm,hi',jk,AV.toH];rw[<-jR]
theorem su_compact(hn:n<=12):CtrH G.P 138 [.im (.ref b 3 1 n)] [(hp b,1,tab n fun k=>[.int (f k)])] (fun r L'=>r= .im (ints (dedF f n))/\L'=[]):=by
 have hne:=fun(d:Nat) (h:d<100000)=>hp_ne (n:=d) (b:=b) h;rw[tab_ic];refine jkg (goodH [] []) [.tmp 2] Tryz.func138 rfl rfl (by decide+kernel) rfl (SemC.endLe ?_);by_cases hn2:(n:Int)<2
 ·have hd:decide ((n:Int)<2)=true:=zh hn2;have hdf:dedF f n=tab n f:=by
   rcases(by omega:n=0\/n=1)with rfl | rfl
   ·rfl
   ·rfl
  refine SemC.seq (SemC.awp (goodH [] []) (by decide+kernel) ?_);simp only[go_sem];refine SemC.seq (SemC.awp (goodH [] []) (by decide+kernel) ?_);simp only[hd,go_sem];exact endT (R:=tab n f) (i:=n) (by rw[jaa];exact zt _) rfl rfl (by rw[hdf,jd0])
 have hd:decide ((n:Int)<2)=false:=zw hn2;refine SemC.seq (SemC.awp (goodH [] []) (by decide+kernel) ?_);simp only[go_sem];refine SemC.seq (SemC.awp (goodH [] []) (by decide+kernel) ?_);simp only[hd,go_sem];refine SemC.seq (SemC.seq (SemC.awp (goodH [] []) (by decide+kernel) ?_));simp only[go_sem];refine SemC.block (SemC.loop (SK b n f) (fun k=>1<=k/\k<=n/\dedF f k=tab k f) (fun k=>n-k) 1 ?_ ⟨zt _,by omega,rfl⟩ ?_)
 ·exact jhk [0,3] rfl (SubR.of_eq rfl) rfl
 rintro k ⟨hk1,hkn,hdf⟩;unfold SK;dsimp only;rcases(by omega:(k:Int)<n\/k=n)with hkn' | rfl
 case inr=>
  have hd:decide ((k:Int)<k)=false:=zw (by omega);refine SemC.seq (SemC.awp (goodH [] []) (by decide+kernel) ?_);simp only[hd,go_sem];refine SemC.awp (goodH [] []) (by decide+kernel) ?_;simp only[go_sem];exact endT (R:=tab k f) (i:=k) (by rw[jaa];exact zt _) rfl rfl (by rw[hdf,jd0])
 have hd:decide ((k:Int)<n)=true:=zh hkn';have hk0:(0:Int)<=k:=by omega
 have w1:=ja7 (n:=(k:Int)-1) (by omega);have w2:=ja7 (n:=(k:Int)+1) (by omega);have hj1:(0:Int)<=(k:Int)-1:=by omega
 have hj2:(k:Int)-1<n:=by omega
 have t1:((k:Int)-1).toNat=k-1:=by omega
 have g1:((tab n f).map ic)[k]? =some [.int (f k)]:=by rw[za,jcw (by omega)];rfl
 have g2:((tab n f).map ic)[k-1]? =some [.int (f (k-1))]:=by rw[za,jcw (by omega)];rfl
 refine SemC.seq (SemC.awp (goodH [] []) (by decide+kernel) ?_);simp only[hd,go_sem];refine SemC.seq (SemC.block (SemC.seq (SemC.awp (goodH [] []) (by decide+kernel) ?_)));simp only[go_sem];refine jae 10 ?_;simp only[hk0,hkn',w1,hj1,hj2,t1,g1,g2,Int.toNat_natCast,jaa,zq,go_sem];refine SemC.cond (t:=decide (f k=f (k-1))) rfl (fun he=> ?_) (fun he=> ?_)
 case refine_2=>
  refine SemC.awp (goodH [] []) (by decide+kernel) ?_;simp only[go_sem];refine SemC.awp (goodH [] []) (by decide+kernel) ?_;simp only[w2,go_sem];refine⟨k+1,⟨⟨by omega,by omega,?_⟩,by omega⟩,?_⟩
  ·rw[jhv hk1,zn (zN he),hdf,jhp]
  ·refine jhk (S:=SK b n f (k+1)) [0,3] ?_ (SubR.of_eq rfl) rfl;unfold SK;simp only[Int.natCast_add,go_sem]
 have hkk:f k=f (k-1):=zJ he;have hdk:dedF f (k+1)=dedF f k:=by rw[jhv hk1,zm hkk,zX]
 have hlk:(dedF f k).length=k:=by rw[hdf,jaa]
 have hk3:(k:Int)<=n:=by omega
 have row0:rowP n f (k+1)=tab n f:=by
  unfold rowP;rw[hdk,hdf,jaa];apply jI;intro q;by_cases hq:q<k
  ·rw[zM (by rw[jaa];exact hq),jcw hq,jcw (by omega)]
  ·rw[zL (by rw[jaa];omega),jaa,qt,show k+(q-k)=q by omega]
 refine SemC.seq (SemC.awp (goodH [] []) (by decide+kernel) ?_);simp only[hk0,hk3,go_sem];refine Opt_of _ (zm (yq _)) ?_;simp only[go_sem];refine SemC.seq (SemC.awp (goodH [] []) (by decide+kernel) ?_);simp only[go_sem];have e1:((n:Int)-k).toNat=n-k:=by omega
 refine jap [0,3,4,5] (fun c:Nat=>⟨[(0,.im (.ref b 3 1 n)),(3,.im (.int (dedF f (k+c)).length)),(4,.osl (hp b) 1 k (n-k)),(5,.im (.int c))],[(hp b,1,(rowP n f (k+c)).map ic)],[]⟩)
  (fun c=>1<=c/\k+c<=n/\(dedF f (k+c)).length+1<=k+c) (fun c=>n-c) 1 ?_ (SubR.of_eq (by dsimp only;rw[row0])) rfl ⟨zt _,by omega,by rw[hdk,hlk];exact zt _⟩ ?_
 ·simp only[hdk,hlk,e1,Int.natCast_one,go_sem]
 rintro c ⟨hc1,hcn,hcl⟩;dsimp only at hc1 hcn hcl⊢;by_cases hcc:(c:Int)<((n-k:Nat):Int)
 ·have hdc:decide ((c:Int)<((n-k:Nat):Int))=true:=zh hcc;have hc0:(0:Int)<=c:=by omega
  have v1:=ja7 (n:=(c:Int)-1) (by omega);have v2:=ja7 (n:=(c:Int)+1) (by omega);have v3:=ja7 (n:=((dedF f (k+c)).length:Int)+1) (by omega);have i1:(0:Int)<=(c:Int)-1:=by omega
  have i2:(c:Int)-1<((n-k:Nat):Int):=by omega
  have i3:((c:Int)-1).toNat=c-1:=by omega
  have gA:((rowP n f (k+c)).map ic)[k+c]? =some [.int (f (k+c))]:=by rw[za,jo0 (by omega) (by omega)];rfl
  have gB:((rowP n f (k+c)).map ic)[k+(c-1)]? =some [.int (f (k+(c-1)))]:=by rw[za,jo0 (by omega) (by omega)];rfl
  have q0:(0:Int)<=(dedF f (k+c)).length:=by omega
  have q1:((dedF f (k+c)).length:Int)<n:=by omega
  have epc:k+c-1=k+(c-1):=by omega
  simp only[hdc,go_sem];refine jae 10 ?_;simp only[hc0,hcc,v1,i1,i2,i3,gA,gB,Int.toNat_natCast,go_sem];refine jc1 (fun he=> ?_) (fun he=> ?_)
  ·have hsame:=rowP_same (n:=n) (f:=f) (p:=k+c) (by omega) (by rw[epc];exact zJ he);have hds:dedF f (k+(c+1))=dedF f (k+c):=by rw[<-yB,jhv (by omega),epc,zm (zJ he),zX]
   simp only[he,go_sem];refine ja6 (c+1) ?_ (SubR.of_eq ?_) rfl (by omega) ⟨by omega,by omega,by rw[hds];omega⟩
   ·simp only[v2,Int.natCast_add,hds,go_sem]
   ·dsimp only;rw[<-yB,hsame]
  ·have hne':f (k+c)≠f (k+c-1):=by rw[epc];exact zN he
   have hset:=rowP_set (n:=n) (f:=f) (p:=k+c) (by omega) hne' (by omega);have hds:(dedF f (k+(c+1))).length=(dedF f (k+c)).length+1:=by rw[<-yB,jhv (by omega),zn hne',zG];rfl
   have gC:((rowP n f (k+c)).map ic)[(dedF f (k+c)).length]? =some [.int (f (dedF f (k+c)).length)]:=by rw[za,jo0 (zt _) (by omega)];rfl
   simp only[he,hc0,hcc,gA,gC,q0,q1,Int.toNat_natCast,v3,go_sem];refine ja6 (c+1) ?_ (SubR.of_eq ?_) rfl (by omega) ⟨by omega,by omega,by rw[hds];omega⟩
   ·simp only[v2,Int.natCast_add,hds,go_sem]
   ·dsimp only;rw[<-yB,<-hset,qD];simp only[ic]
 ·have hdc:decide ((c:Int)<((n-k:Nat):Int))=false:=zw hcc;have ecn:k+c=n:=by omega
  rw[ecn]at hcl⊢;obtain⟨m,hm⟩:∃m,m=(dedF f n).length:=⟨_,rfl⟩;rw[<-hm]at hcl⊢;have hR:(rowP n f n).length=n:=rowP_len (by omega);have hRt:(rowP n f n).take m=dedF f n:=by rw[hm,rowP_take]
  generalize rowP n f n=R at hR hRt⊢;have hi2:(0:Int)<=m:=by omega
  have hi3:(m:Int)<=n:=by omega
  rw[<-hRt];simp only[hdc,go_sem];refine SemC.seq (SemC.clear (goodH [] []) (by decide+kernel) ?_);unfold clist;refine⟨rfl,?_⟩;simp only[go_sem];unfold clist;refine⟨rfl,?_⟩;simp only[go_sem];unfold clist;refine⟨rfl,?_⟩;simp only[hi2,hi3,go_sem];refine Opt_of _ (zm (yq _)) ?_;unfold clist;refine⟨rfl,rfl,.tmp 56,31,3,hp b,m,n-m,R.map ic,rfl,rfl,?_,?_,?_,?_,?_⟩
  ·intro w;rfl
  ·show AV.osl (hp b) 1 m ((n:Int)-m).toNat=_;rw[show((n:Int)-m).toNat=n-m by omega]
  ·exact ja2 ..
  ·rw[zq];omega
  rw[zn (by omega)];have hcl2:jiy (R.map ic) m (n-m)=(R.take m++List.replicate (n-m) 0).map ic:=by
   unfold jiy;rw[qy (by rw[zq];omega),zX,qf,jR,yf];rfl
  rw[hcl2];refine SemC.awp (goodH [] []) (by decide+kernel) ?_;have ht:(R.take m++List.replicate (n-m) (0:Int)).take m=R.take m:=by
   rw[jU (by rw[zY];omega),List.take_take,Nat.min_self]
  generalize hR2:R.take m++List.replicate (n-m) (0:Int)=R2 at ht⊢;have hl2:m<=R2.length:=by rw[<-hR2,zG,zY];omega
  simp only[hi2,hi3,go_sem];exact endT hl2 rfl rfl ht
end
end
section
open Go.Abs
attribute [local go_sem] ints ic Evid.c Place.c Move.c Cert.c Recall.c Purity.c
theorem asc_eq{A B:List Int}(hA:Asc A)(hB:Asc B)(h:∀a,a∈A↔a∈B):A=B:=
 (jib hA hB fun a ha=>(h a).1 ha).eq_of_length_le (jib hB hA fun a ha=>(h a).2 ha).length_le
theorem asc_ex:∀l:List Int,∃U,Asc U/\∀a,a∈U↔a∈l
 | []=>⟨[],.nil,fun a=>Iff.rfl⟩
 | x::l=>by
  obtain⟨U,h1,h2⟩:=asc_ex l;refine⟨U.filter (fun a=>decide (a<x))++x::U.filter (fun a=>decide (x<a)),?_,fun a=> ?_⟩
  ·unfold Asc at h1⊢;rw[vA];refine⟨h1.filter _,yj.2 ⟨fun b hb=>zJ (qH.1 hb).2,h1.filter _⟩,fun p hp q hq=> ?_⟩;have hp:=zJ (qH.1 hp).2;rcases zP.1 hq with rfl | hq
   ·exact hp
   ·have:=zJ (qH.1 hq).2;omega
  ·rw[qj,zP,qH,qH,zP,<-h2 a,yG,yG];constructor
   ·rintro(h | h | h)
    ·exact .inr h.1
    ·exact .inl h
    ·exact .inr h.1
   ·rintro(h | h)
    ·exact .inr (.inl h)
    ·rcases q8 a x with g | g | g
     ·exact .inl ⟨h,g⟩
     ·exact .inr (.inl g)
     ·exact .inr (.inr ⟨h,g⟩)
def scl(ms:List Move):List Int:=(ms.filter fun x:Move=>decide (x.scale≠ -1)).map Move.scale
theorem scl_mem{ms:List Move}{s:Int}:s∈scl ms↔∃x∈ms,x.scale≠ -1/\x.scale=s:=by
 unfold scl;rw[z8];constructor
 ·rintro⟨x,hx,rfl⟩;exact⟨x,(qH.1 hx).1,zJ (qH.1 hx).2,rfl⟩
 ·rintro⟨x,hx,h,rfl⟩;exact⟨x,qH.2 ⟨hx,zh h⟩,rfl⟩
theorem UsedOf.ex(e:Evid):∃U,UsedOf e U:=by
 obtain⟨U,h1,h2⟩:=asc_ex (scl e.moves);exact⟨U,h1,fun s=>by rw[h2,scl_mem]⟩
noncomputable def usedE(e:Evid):List Int:=(UsedOf.ex e).choose
theorem jho(e:Evid):UsedOf e (usedE e):=(UsedOf.ex e).choose_spec
theorem UsedOf.eq{e:Evid}{U:List Int}(h:UsedOf e U):U=usedE e:=asc_eq h.asc (jho e).asc fun a=>by rw[h.mem,(jho e).mem]
theorem scl_succ{ms:List Move}{i:Nat}{x:Move}(h:ms[i]? =some x):scl (ms.take (i+1))=scl (ms.take i)++if x.scale= -1 then []else [x.scale]:=by
 unfold scl;rw[take_succ h,jD,qf];congr 1;by_cases e:x.scale= -1
 ·rw[zm e,ym,zn (by simp[e])];rfl
 ·rw[zn e,ym,zm (by simp[e])];rfl
theorem jr8{ms:List Move}(i:Nat):(scl (ms.take i)).length<=i:=by
 unfold scl;rw[zq];exact qn (vo _ _) (by rw[zY];omega)
theorem used_of{e:Evid}{n:Nat}{f g:Nat->Int}(hf:tab n f=scl e.moves)(h:InsO n n f g):UsedOf e (dedF g n) where
 asc:=jri h.asc (zt _)
 mem:=fun s=>by
  rw[ded_mem];have h1:(∃k,k<n/\g k=s)↔s∈tab n g:=⟨fun⟨k,hk,e⟩=>e▸mem_tab hk,fun h=>by obtain⟨k,hk,e⟩:=jr1 h;exact⟨k,hk,e⟩⟩;rw[h1,h.perm.mem_iff,hf,scl_mem]
end
section
open Go.Abs
open Go.LP (Rw RT tsum Sol)
open Classical in
noncomputable def posB(e:Evid):Bool:=decide (∃x,Sol (nV e) (rowsE e) x)
theorem posB_iff{e:Evid}:posB e=true↔∃x,Sol (nV e) (rowsE e) x:=by
 classical
 unfold posB;exact yG
noncomputable def posS(e:Evid)(S:List Int):Bool:=posB (offE S e)
theorem posS_iff{e:Evid}{S:List Int}:posS e S=true↔Pos e S:=by
 unfold posS Pos;rw[posB_iff,nV_off]
theorem jo4{e:Evid}:posS e []=posB e:=by unfold posS;rw[jsi]
theorem SmallE.off{e:Evid}{S:List Int}(h:SmallE e):SmallE (offE S e):=⟨by rw[off_len];exact h.mv,by rw[off_len];exact h.mt,h.pu⟩
theorem jfd{e:Evid}(hs:SmallE e)(hc:jax e=0):Ctr G.P 11 [e.iv] (· = .bool (posB e)):=by
 obtain⟨r,f,b,hr,kR⟩:=jr0 (ps:=[]) hs (by decide);have kp:=w_possible hr kR;have:posB e=b.isSome:=by
  have hsay:=hr.say;cases hb:b with
  | none=>
   rw[hb]at hsay;cases hsay with
   | none h=>exact vV.2 fun h'=>by obtain⟨x,hx⟩:=posB_iff.1 h';exact h (okP_nil hc) x hx
  | some p=>
   rw[hb]at hsay;cases hsay with
   | some lo hi h1 h2 h3 h4=>exact posB_iff.2 h2.sol
 rw[this];exact kp
noncomputable def suspF(e:Evid):List (List Int):=if posB e=true then []else jfo (posS e) (usedE e) (usedE e).length 1
def mA:Move:=⟨1,0,1,0,100,false⟩
def mB(f:Int):Move:=⟨1,1,2,1,f,true⟩
def mC(s sc:Int):Move:=⟨2,2,3,sc,s,true⟩
def sxE(f s sc:Int):Evid:=⟨1,1,3,[⟨0,0,0⟩,⟨1,-1,-1⟩,⟨2,-1,-1⟩,⟨6,-1,-1⟩],[mA,mB f,mC s sc],[⟨0,0,9,5,0,0⟩,⟨1,0,9,5,0,0⟩,⟨2,0,9,5,0,0⟩],[],[]⟩
def Wt(k:Nat)(a:Int):List Rw:=[⟨[(k,1)],0,((a-5:Int):Rat)⟩,⟨[(k,1)],1,((a+5:Int):Rat)⟩]
structure SxOk(f s sc:Int):Prop where
 w0:jbp (sxE f s sc) 1 0 mA=Wt 0 100
 w1:jbp (sxE f s sc) 1 1 (mB f)=Wt 1 f
 w2:jbp (sxE f s sc) 1 2 (mC s sc)=Wt 2 s
 s1:jcd 1 (sxE f s sc).moves 1 (mB f) 1=[⟨[(0,1),(1,-1)],2,0⟩]
 s2:jcd 1 (sxE f s sc).moves 2 (mC s sc) 1=[⟨[(1,1),(2,-1)],2,0⟩]
 hf:5<=f
 hs:5<=s
 hc:sc≠ -1
section
variable{f s sc:Int}{S:List Int}
theorem jmp(h:SxOk f s sc){w:Rw}:w∈rowsE (offE S (sxE f s sc))↔(S.contains 0=false/\w∈Wt 0 100)\/w=⟨[(0,1),(1,-1)],2,0⟩\/(S.contains 1=false/\w∈Wt 1 f)\/w=⟨[(1,1),(2,-1)],2,0⟩\/(S.contains sc=false/\w∈Wt 2 s):=by
 have k0:w∈(if binF (sxE f s sc) mA=true then []else jcd 1 (sxE f s sc).moves 0 mA 1)++(if mA.scale≠ -1/\S.contains mA.scale=true then []else jbp (sxE f s sc) 1 0 mA)++purR 1 0 (sxE f s sc).purs↔(S.contains 0=false/\w∈Wt 0 100):=by
  rw[h.w0,zm (show binF (sxE f s sc) mA=true from rfl),show purR 1 0 (sxE f s sc).purs=[]from rfl,zX,List.nil_append];show w∈(if(0:Int)≠ -1/\S.contains 0=true then []else Wt 0 100)↔_;cases S.contains 0<;>simp
 have k1:w∈(if binF (sxE f s sc) (mB f)=true then []else jcd 1 (sxE f s sc).moves 1 (mB f) 1)++(if(mB f).scale≠ -1/\S.contains (mB f).scale=true then []else jbp (sxE f s sc) 1 1 (mB f))++purR 1 1 (sxE f s sc).purs↔(w=⟨[(0,1),(1,-1)],2,0⟩\/(S.contains 1=false/\w∈Wt 1 f)):=by
  rw[h.w1,h.s1,zn (show ¬binF (sxE f s sc) (mB f)=true from by show ¬(false=true);decide),show purR 1 1 (sxE f s sc).purs=[]from rfl,zX];show w∈[_]++(if(1:Int)≠ -1/\S.contains 1=true then []else Wt 1 f)↔_;cases S.contains 1<;>simp
 have k2:w∈(if binF (sxE f s sc) (mC s sc)=true then []else jcd 1 (sxE f s sc).moves 2 (mC s sc) 1)++(if(mC s sc).scale≠ -1/\S.contains (mC s sc).scale=true then []else jbp (sxE f s sc) 1 2 (mC s sc))++purR 1 2 (sxE f s sc).purs↔(w=⟨[(1,1),(2,-1)],2,0⟩\/(S.contains sc=false/\w∈Wt 2 s)):=by
  rw[h.w2,h.s2,zn (show ¬binF (sxE f s sc) (mC s sc)=true from by show ¬(false=true);decide),show purR 1 2 (sxE f s sc).purs=[]from rfl,zX];show w∈[_]++(if sc≠ -1/\S.contains sc=true then []else Wt 2 s)↔_;have:=h.hc;cases S.contains sc<;>simp[this]
 rw[mem_off];constructor
 ·rintro⟨k,x,hk,hx,hw⟩;rcases k with _ | _ | _ | k
  ·cases hx;exact .inl (k0.1 hw)
  ·cases hx;rcases k1.1 hw with h | h
   ·exact .inr (.inl h)
   ·exact .inr (.inr (.inl h))
  ·cases hx;exact .inr (.inr (.inr (k2.1 hw)))
  ·have:k+3<3:=hk;omega
 ·rintro(h | h | h | h)
  ·exact⟨0,mA,by show 0<3;omega,rfl,k0.2 h⟩
  ·exact⟨1,mB f,by show 1<3;omega,rfl,k1.2 (.inl h)⟩
  ·exact⟨1,mB f,by show 1<3;omega,rfl,k1.2 (.inr h)⟩
  ·exact⟨2,mC s sc,by show 2<3;omega,rfl,k2.2 h⟩
def okS(f s sc:Int)(S:List Int):Bool:=
 (S.contains 0 || S.contains 1 || decide (100-f<=10/\f-100<=10))&&(S.contains 0 || S.contains sc || decide (100-s<=10/\s-100<=10))&&(S.contains 1 || S.contains sc || decide (f-s<=10/\s-f<=10))
theorem wt_iff{k:Nat}{a:Int}{x:Nat->Rat}:(∀w∈Wt k a,w.sat x)↔((a-5:Int):Rat)<=x k/\x k<=((a+5:Int):Rat):=by
 unfold Wt;have e1:tsum [(k,(1:Rat))] x=x k:=by simp only[tsum];grind
 constructor
 ·intro h;have h1:=(h _ (zZ)).1 (show(0:Int)≠1 by decide);have h2:=(h _ (qq _ zZ)).2 (show(1:Int)≠0 by decide);simp only[e1]at h1 h2;exact⟨h1,h2⟩
 ·rintro⟨h1,h2⟩ w hw;rcases zP.1 hw with rfl | hw
  ·exact⟨fun _=>by simp only[e1];exact h1,fun h=>absurd rfl h⟩
  ·rcases zP.1 hw with rfl | hw
   ·exact⟨fun h=>absurd rfl h,fun _=>by simp only[e1];exact h2⟩
   ·cases hw
theorem sx_pos(h:SxOk f s sc):Pos (sxE f s sc) S↔okS f s sc S=true:=by
 have hf:=h.hf;have hs:=h.hs;constructor
 ·rintro⟨x,hx⟩;have e1:=hx.row ⟨[(0,1),(1,-1)],2,0⟩ ((jmp h).2 (.inr (.inl rfl)));have e2:=hx.row ⟨[(1,1),(2,-1)],2,0⟩ ((jmp h).2 (.inr (.inr (.inr (.inl rfl)))));have a1:=e1.1 (by decide);have a2:=e1.2 (by decide);have a3:=e2.1 (by decide);have a4:=e2.2 (by decide);simp only[tsum]at a1 a2 a3 a4;have x01:x 0=x 1:=by grind
  have x12:x 1=x 2:=by grind
  have w0:S.contains 0=false->((100-5:Int):Rat)<=x 0/\x 0<=((100+5:Int):Rat):=fun hS=>wt_iff.1 fun w hw=>hx.row w ((jmp h).2 (.inl ⟨hS,hw⟩));have w1:S.contains 1=false->((f-5:Int):Rat)<=x 1/\x 1<=((f+5:Int):Rat):=fun hS=>wt_iff.1 fun w hw=>hx.row w ((jmp h).2 (.inr (.inr (.inl ⟨hS,hw⟩))));have w2:S.contains sc=false->((s-5:Int):Rat)<=x 2/\x 2<=((s+5:Int):Rat):=fun hS=>wt_iff.1 fun w hw=>hx.row w ((jmp h).2 (.inr (.inr (.inr (.inr ⟨hS,hw⟩)))));rw[<-x01]at w1 x12;rw[<-x12]at w2;have le:∀{a b:Int} {t:Rat},(a:Rat)<=t->t<=(b:Rat)->a<=b:=fun h1 h2=>Rat.intCast_le_intCast.1 (Rat.le_trans h1 h2);unfold okS;rw[zD,zD];cases c0:S.contains 0<;>cases c1:S.contains 1<;>cases c2:S.contains sc<;>simp only[j8,ji,qP,jS,zW,vd,vP,jk]
  ·have p0:=w0 c0;have p1:=w1 c1;have p2:=w2 c2;have:=le p0.1 p1.2;have:=le p1.1 p0.2;have:=le p0.1 p2.2;have:=le p2.1 p0.2;have:=le p1.1 p2.2;have:=le p2.1 p1.2;omega
  ·have p0:=w0 c0;have p1:=w1 c1;have:=le p0.1 p1.2;have:=le p1.1 p0.2;omega
  ·have p0:=w0 c0;have p2:=w2 c2;have:=le p0.1 p2.2;have:=le p2.1 p0.2;omega
  ·have p1:=w1 c1;have p2:=w2 c2;have:=le p1.1 p2.2;have:=le p2.1 p1.2;omega
 ·intro ho;obtain⟨t,t0,t1,t2,t3⟩:∃t:Int,0<=t/\(S.contains 0=false->100-5<=t/\t<=100+5)/\(S.contains 1=false->f-5<=t/\t<=f+5)/\(S.contains sc=false->s-5<=t/\t<=s+5):=by
   unfold okS at ho;rw[zD,zD]at ho;revert ho;cases S.contains 0<;>cases S.contains 1<;>cases S.contains sc<;>simp only[j8,ji,qP,jS,zW,vd,vP,jk]<;>intro ho
   ·exact⟨max (max 95 (f-5)) (s-5),by omega,fun _=>by omega,fun _=>by omega,fun _=>by omega⟩
   ·exact⟨max 95 (f-5),by omega,fun _=>by omega,fun _=>by omega,fun h=>by cases h⟩
   ·exact⟨max 95 (s-5),by omega,fun _=>by omega,fun h=>(by cases h),fun _=>by omega⟩
   ·exact⟨95,by omega,fun _=>by omega,fun h=>(by cases h),fun h=>by cases h⟩
   ·exact⟨max (f-5) (s-5),by omega,fun h=>(by cases h),fun _=>by omega,fun _=>by omega⟩
   ·exact⟨f-5,by omega,fun h=>(by cases h),fun _=>by omega,fun h=>by cases h⟩
   ·exact⟨s-5,by omega,fun h=>(by cases h),fun h=>(by cases h),fun _=>by omega⟩
   ·exact⟨0,by omega,fun h=>(by cases h),fun h=>(by cases h),fun h=>by cases h⟩
  refine⟨fun _=>(t:Rat),fun _ _=>vH.2 t0,fun w hw=> ?_⟩;have ic:∀{a b:Int},a<=b->(a:Rat)<=(b:Rat):=fun h=>Rat.intCast_le_intCast.2 h;rcases(jmp h).1 hw with ⟨hS,hw⟩ | rfl | ⟨hS,hw⟩ | rfl | ⟨hS,hw⟩
  ·exact wt_iff.2 ⟨ic (t1 hS).1,ic (t1 hS).2⟩ w hw
  ·simp only[Rw.sat,tsum];constructor<;>intro _<;>grind
  ·exact wt_iff.2 ⟨ic (t2 hS).1,ic (t2 hS).2⟩ w hw
  ·simp only[Rw.sat,tsum];constructor<;>intro _<;>grind
  ·exact wt_iff.2 ⟨ic (t3 hS).1,ic (t3 hS).2⟩ w hw
theorem sx_posS(h:SxOk f s sc):posS (sxE f s sc)=okS f s sc:=funext fun S=>by
 rw[jl,posS_iff,sx_pos h]
theorem jku(h:SxOk f s sc){U:List Int}(hU:UsedOf (sxE f s sc) U):suspF (sxE f s sc)=if okS f s sc []=true then []else jfo (okS f s sc) U U.length 1:=by
 unfold suspF;rw[<-jo4,sx_posS h,<-hU.eq]
theorem sx_used0:UsedOf (sxE f s 0) [0,1] where
 asc:=by decide
 mem v:=by
  simp only[sxE,mA,mB,mC,zP,vh,wx,exists_eq_or_imp,exists_eq_left];omega
theorem js4:UsedOf (sxE f s 2) [0,1,2] where
 asc:=by decide
 mem v:=by
  simp only[sxE,mA,mB,mC,zP,vh,wx,exists_eq_or_imp,exists_eq_left];omega
end
theorem sxA:SxOk 150 100 0:=⟨by decide+kernel,by decide+kernel,by decide+kernel,by decide+kernel,by decide+kernel,by decide,by decide,by decide⟩
theorem sxB:SxOk 150 100 2:=⟨by decide+kernel,by decide+kernel,by decide+kernel,by decide+kernel,by decide+kernel,by decide,by decide,by decide⟩
theorem sxC:SxOk 150 150 0:=⟨by decide+kernel,by decide+kernel,by decide+kernel,by decide+kernel,by decide+kernel,by decide,by decide,by decide⟩
theorem sxD:SxOk 104 100 0:=⟨by decide+kernel,by decide+kernel,by decide+kernel,by decide+kernel,by decide+kernel,by decide,by decide,by decide⟩
theorem sxF:SxOk 150 200 2:=⟨by decide+kernel,by decide+kernel,by decide+kernel,by decide+kernel,by decide+kernel,by decide,by decide,by decide⟩
theorem suspA:suspF (sxE 150 100 0)=[[0],[1]]:=by rw[jku sxA sx_used0,zn (by decide)];simp[jfo,srch,okS]
theorem suspB:suspF (sxE 150 100 2)=[[1]]:=by rw[jku sxB js4,zn (by decide)];simp[jfo,srch,okS]
theorem suspC:suspF (sxE 150 150 0)=[[0]]:=by rw[jku sxC sx_used0,zn (by decide)];simp[jfo,srch,okS]
theorem suspD:suspF (sxE 104 100 0)=[]:=by rw[jku sxD sx_used0,zm (by decide)]
theorem suspE:suspF (sxE 150 200 2)=[[0,1],[0,2],[1,2]]:=by rw[jku sxF js4,zn (by decide)];simp[jfo,srch,okS]
end
section
open Go.Abs
attribute [local go_sem] ints ic Evid.c Place.c Move.c Cert.c Recall.c Purity.c
theorem scl_nil:(scl []).length=0:=rfl
theorem jka{R' R:Abs.Rows}{p:Nat×Nat×List (List IV)}(h:Abs.look R' p.1=none)(hs:SubR R' R):SubR R' (p::R):=jav h hs
theorem su_ins0:Ctr G.P 203 [.sl [],.int 0,.int 0] (· = .tup []):=by
 refine ja5 [] Tryz.func203 ?_;simp only[go_sem];refine jan [0,1,2,6] [] (fun _:Unit=>⟨[(0,.im (.sl [])),(1,.im (.int 0)),(2,.im (.int 0)),(6,.im (.int 1))],[],[]⟩) (fun _=>True) (fun _=>0) () ?_ trivial ?_
 ·simp only[show IntKind.i64.wrap 1=1 from rfl,go_sem]
 intro _ _;simp only[go_sem]
theorem su_pdq0(k:Int):Ctr G.P 174 [.sl [],.int 0,.int 0,.int k] (· = .tup []):=by
 have ki:=su_ins0;refine ja5 [] Tryz.func174 ?_;simp only[go_sem];refine jan [0,1,2,3] [] (fun _:Unit=>⟨[(0,.im (.sl [])),(1,.im (.int 0)),(2,.im (.int 0)),(3,.im (.int k))],[],[]⟩) (fun _=>True) (fun _=>0) () ?_ trivial ?_
 ·simp only[go_sem]
 intro _ _;simp only[show IntKind.i64.wrap 0=0 from rfl,go_sem];refine ja1 ki ?_;simp only[go_sem]
theorem su_sort0:Ctr G.P 137 [.sl []] (· = .tup []):=by
 have kl:=su_len 0 (by decide);refine ja5 [] Tryz.func137 ?_;simp only[show IntKind.u64.wrap 0=0 from rfl,go_sem];refine jck kl ?_;rintro _ ⟨k,rfl⟩;have kp:=su_pdq0 k;simp only[go_sem];refine ja1 kp ?_;simp only[go_sem]
theorem su_compact0:Ctr G.P 138 [.sl []] (· = .sl []):=by
 refine ja5 [.tmp 2] Tryz.func138 ?_;simp only[go_sem]
theorem su_used0{e:Evid}(hc:jax e=0)(h0:scl e.moves=[])(hl:e.moves.length<=12):Ctr G.P 86 [e.iv] (· =ints []):=by
 have k:=c21 e;rw[hc]at k;have ks:=su_sort0;have kc:=su_compact0;unfold Evid.iv Evid.c at*;refine ja5 [.tmp 2] Tryz.func86 ?_;simp only[go_sem];refine ja1 k ?_;simp only[zq,go_sem];refine jan [3,10,11,12] [] (fun i:Nat=>⟨[(3,.sx []),(10,.im (.sl (e.moves.map Move.c))),(11,.im (.int e.moves.length)),(12,.im (.int i))],[],[]⟩) (fun i=>i<=e.moves.length) (fun i=>e.moves.length-i) 0 ?_ (zH _) ?_
 ·simp only[Int.natCast_zero,go_sem]
 intro i hi;by_cases hp':(i:Int)<e.moves.length
 ·have hd:decide ((i:Int)<e.moves.length)=true:=zh hp';obtain⟨x,hx⟩:=jbf hp';have h1:=ja7 (n:=(i:Int)+1) (by omega);have hi0:(0:Int)<=i:=by omega
  have hs:x.scale= -1:=by
   by_cases e1:x.scale= -1
   ·exact e1
   ·have:=scl_mem.2 ⟨x,zk hx,e1,rfl⟩;rw[h0]at this;cases this
  have ds:decide (x.scale= -1)=true:=zh hs;have hg:(e.moves.map Move.c)[i]? =some [.int x.day,.int x.fr,.int x.to,.int x.scale,.int x.reading,.bool x.all]:=by rw[za,hx];rfl
  simp only[hd,hi0,hp',hg,ds,Int.toNat_natCast,zq,go_sem];refine jab (i+1) ?_ (by omega) (by omega);simp only[h1,Int.natCast_add,go_sem]
 ·have hd:decide ((i:Int)<e.moves.length)=false:=zw hp';simp only[hd,go_sem];refine ja1 ks ?_;simp only[go_sem];refine ja1 kc ?_;simp only[zF,go_sem]
theorem su_used1{e:Evid}(hc:jax e=0)(h0:scl e.moves≠[])(hl:e.moves.length<=12):Ctr G.P 86 [e.iv] (· =ints (usedE e)):=by
 have k:=c21 e;rw[hc]at k;unfold Evid.iv Evid.c at*;refine jm1 (goodH [23] []) _ _ [.tmp 2] Tryz.func86 rfl rfl (by decide+kernel) rfl ?_;simp only[go_sem];refine ja1 k ?_;simp only[zq,go_sem];refine LoopP_em ?_;simp only[go_sem];refine jap [3,10,11,12] (fun g:(Nat×Nat)×Abs.Rows=>⟨[(3,.im (sl0 g.1.2 3 1 (scl (e.moves.take g.1.1)).length)),(10,.im (.sl (e.moves.map Move.c))),(11,.im (.int e.moves.length)),(12,.im (.int g.1.1))],g.2,[]⟩)
  (fun g=>g.1.1<=e.moves.length/\blks g.2/\((scl (e.moves.take g.1.1)).length≠0->Abs.look g.2 (hp g.1.2)=some (1,(scl (e.moves.take g.1.1)).map ic))) (fun g=>e.moves.length-g.1.1) ((0,0),[]) ?_ (fun k x hk=>by cases hk) rfl ⟨zH _,jaq,fun h=>absurd rfl h⟩ ?_
 ·simp only[Int.natCast_zero,scl_nil,jb8,go_sem]
 rintro⟨⟨i,X⟩,L⟩ ⟨hi,hb,hX⟩;dsimp only at hi hb hX⊢;have F1:=bF hb;have K1:=bK hb;have G1:=bN hb;by_cases hp':(i:Int)<e.moves.length
 ·have hd:decide ((i:Int)<e.moves.length)=true:=zh hp';obtain⟨x,hx⟩:=jbf hp';have h1:=ja7 (n:=(i:Int)+1) (by omega);have hi0:(0:Int)<=i:=by omega
  have hsu:=scl_succ hx;have hg:(e.moves.map Move.c)[i]? =some [.int x.day,.int x.fr,.int x.to,.int x.scale,.int x.reading,.bool x.all]:=by rw[za,hx];rfl
  by_cases e1:x.scale= -1
  ·have ds:decide (x.scale= -1)=true:=zh e1;rw[zm e1,zX]at hsu;simp only[hd,hi0,hp',hg,ds,Int.toNat_natCast,zq,F1,G1,K1,go_sem];refine ja6 ((i+1,X),L) ?_ (ja3 (by decide) hb (SubR.refl _)) rfl (by dsimp only;omega) ⟨by dsimp only;omega,hb,by dsimp only;rw[hsu];exact hX⟩;simp only[h1,Int.natCast_add,hsu,go_sem]
  ·have ds:decide (x.scale= -1)=false:=zw e1;rw[zn e1]at hsu;by_cases hm:(scl (e.moves.take i)).length=0
   ·rw[hm,jb8];rw[zO hm,List.nil_append]at hsu;simp only[hd,hi0,hp',hg,ds,Int.toNat_natCast,zq,F1,G1,K1,go_sem];refine And.intro (fun c hc=>by rw[zC.1 hc];rfl) (je5 (fun Y hY=> ?_));have lY:Abs.look L (hp Y)=none:=by
     simp only[ja0 _ _ (hp_ne (n:=5) (b:=Y) (by decide)).symm]at hY;exact hY
    clear hY;simp only[F1,G1,K1,go_sem];refine ja6 ((i+1,Y),(hp Y,1,[[.int x.scale]])::L) ?_ ?_ rfl (by dsimp only;omega) ⟨by dsimp only;omega,jad hb,fun _=> ?_⟩
    ·simp only[h1,Int.natCast_add,hsu,List.length_cons,List.length_nil,sl0,go_sem]
    ·exact jag (by first | exact ja2 _ _ _ | rw[ja0 _ _ (hp_ne (by decide)).symm,ja2]) (jka lY (jka (G1 5 (by decide)) (SubR.refl _)))
    ·dsimp only;rw[ja2,hsu];rfl
   ·rw[jak hm];have hX':=hX hm;simp only[hd,hi0,hp',hg,ds,Int.toNat_natCast,zq,F1,G1,K1,hX',go_sem];refine And.intro (fun c hc=>by rw[zC.1 hc];rfl) (And.intro (zt _) (And.intro (by have:=jr8 (ms:=e.moves) i;omega) (jj7 (fun Y hY=> ?_))));obtain⟨Q,hQe⟩:∃Q,Abs.del L (hp X)=Q:=⟨_,rfl⟩;have bQ:blks Q:=hQe▸jbo hb;have hQf:List.filter (fun p=>p.1 !=hp X) L=Q:=hQe;have lY:Abs.look Q (hp Y)=none:=by
     rw[jaf (hp_ne (by decide)),hQe,ja0 _ _ (hp_ne (by decide)).symm]at hY;exact hY
    clear hY;have bn:∀k:Nat,k<100000->(k !=hp X)=true:=fun k hk=>by simp only[z7,ne_eq];exact hp_ne hk
    have F2:=bF bQ;have K2:=bK bQ;have G2:=bN bQ;have htt:((scl (e.moves.take i)).map ic).take (scl (e.moves.take i)).length=(scl (e.moves.take i)).map ic:=zu (by rw[zq];exact zt _);simp only[F2,G2,K2,bn,hQf,htt,go_sem];refine ja6 ((i+1,Y),(hp Y,1,(scl (e.moves.take i)).map ic++[[.int x.scale]])::Q) ?_ ?_ rfl (by dsimp only;omega) ⟨by dsimp only;omega,jad bQ,fun _=> ?_⟩
    ·have hl1:(scl (e.moves.take (i+1))).length=(scl (e.moves.take i)).length+1:=by rw[hsu,zG];rfl
     have hs1:=jak (b:=Y) (e:=3) (s:=1) (qk (scl (e.moves.take i)).length);simp only[h1,Int.natCast_add,hl1,hs1,go_sem]
    ·exact jag (by first | exact ja2 _ _ _ | rw[ja0 _ _ (hp_ne (by decide)).symm,ja2]) (jka lY (jka (G2 5 (by decide)) (SubR.refl _)))
    ·dsimp only;rw[ja2,hsu,qf];rfl
 ·have hd:decide ((i:Int)<e.moves.length)=false:=zw hp';have hil:i=e.moves.length:=by omega
  subst hil;rw[qe]at hX⊢;have hm:(scl e.moves).length≠0:=fun h=>h0 (zO h);have hX':=hX hm;rw[jak hm];have hml:(scl e.moves).length<=12:=by have:=jr8 (ms:=e.moves) e.moves.length;rw[qe]at this;omega
  obtain⟨m,f,hf,hm2⟩:∃m f,tab m f=scl e.moves/\m=(scl e.moves).length:=⟨_,fun k=>(scl e.moves)[k]?.getD 0,(jr2 rfl fun k hk=>by rw[ze hk];rfl).symm,rfl⟩;rw[<-hf,<-tab_ic]at hX';rw[<-hm2]at hml⊢;have ks:=su_sort (b:=X) f hml;simp only[hd,F1,G1,K1,go_sem];refine jai ks (by decide) rfl (jad jaq) (jaz hX') ?_;rintro _ _ ⟨rfl,g,hg,rfl⟩ _;have kc:=su_compact (b:=X) (f:=g) hml;refine⟨_,jba,?_⟩;simp only[go_sem];refine jai kc (by decide) rfl (jad jaq) (SubR.of_eq rfl) ?_;rintro _ _ ⟨rfl,rfl⟩ _;refine⟨_,jba,?_⟩;simp only[go_sem];refine jfm [] ?_;simp only[List.foldl_nil,(used_of hf hg).eq,go_sem]
end
section
open Go.Abs
attribute [local go_sem] Evid.iv Evid.c Place.c Move.c Cert.c Recall.c Purity.c Sample.c Recipe.c ints ic
theorem CtrV.ctr{P:Program}{f:FuncId}{args:List IV}{e s:Nat}{es:List (List IV)}(h:CtrV P f args e s es):Ctr P f args (· = .sl es):=by
 intro w M vs hM hr;refine(h w M vs hM hr).mono fun en w' ⟨v,he,hb,hv⟩=> ?_;refine⟨_,v,rfl,he,?_,hb⟩;rcases hv with ⟨h1,_⟩ | ⟨b,cap,cur,_,_,h1,_⟩
 ·exact h1
 ·exact h1.less fun b o hm=> .inl hm
theorem c29(l:List Purity)(hl:l.length<=100000):CtrV G.P 95 [.sl (l.map Purity.c)] 160 4 (l.map Purity.c):=by
 have hlen:∀(c:List IV),c∈l.map Purity.c->c.length=4:=fun c hc=>by
  obtain⟨z,_,rfl⟩:=z8.1 hc;rfl
 refine jm0 good _ _ [.tmp 2] Tryz.func95 rfl rfl (by decide+kernel) rfl ?_;simp only[go_sem];refine jey (fun h=> ?_) ?_
 ·rw[qO]at h;subst h;simp only[go_sem]
 ·simp only[go_sem];exact⟨by simp,hlen,by omega⟩
theorem c32(l:List Place)(hl:l.length<=100000):CtrV G.P 91 [.sl (l.map Place.c)] 67 3 (l.map Place.c):=by
 have hlen:∀(c:List IV),c∈l.map Place.c->c.length=3:=fun c hc=>by
  obtain⟨z,_,rfl⟩:=z8.1 hc;rfl
 refine jm0 good _ _ [.tmp 2] Tryz.func91 rfl rfl (by decide+kernel) rfl ?_;simp only[go_sem];refine jey (fun h=> ?_) ?_
 ·rw[qO]at h;subst h;simp only[go_sem]
 ·simp only[go_sem];exact⟨by simp,hlen,by omega⟩
theorem c33(l:List Move)(hl:l.length<=100000):CtrV G.P 92 [.sl (l.map Move.c)] 105 6 (l.map Move.c):=by
 have hlen:∀(c:List IV),c∈l.map Move.c->c.length=6:=fun c hc=>by
  obtain⟨z,_,rfl⟩:=z8.1 hc;rfl
 refine jm0 good _ _ [.tmp 2] Tryz.func92 rfl rfl (by decide+kernel) rfl ?_;simp only[go_sem];refine jey (fun h=> ?_) ?_
 ·rw[qO]at h;subst h;simp only[go_sem]
 ·simp only[go_sem];exact⟨by simp,hlen,by omega⟩
theorem c34(l:List Cert)(hl:l.length<=100000):CtrV G.P 93 [.sl (l.map Cert.c)] 156 6 (l.map Cert.c):=by
 have hlen:∀(c:List IV),c∈l.map Cert.c->c.length=6:=fun c hc=>by
  obtain⟨z,_,rfl⟩:=z8.1 hc;rfl
 refine jm0 good _ _ [.tmp 2] Tryz.func93 rfl rfl (by decide+kernel) rfl ?_;simp only[go_sem];refine jey (fun h=> ?_) ?_
 ·rw[qO]at h;subst h;simp only[go_sem]
 ·simp only[go_sem];exact⟨by simp,hlen,by omega⟩
theorem c35(l:List Recall)(hl:l.length<=100000):CtrV G.P 94 [.sl (l.map Recall.c)] 86 2 (l.map Recall.c):=by
 have hlen:∀(c:List IV),c∈l.map Recall.c->c.length=2:=fun c hc=>by
  obtain⟨z,_,rfl⟩:=z8.1 hc;rfl
 refine jm0 good _ _ [.tmp 2] Tryz.func94 rfl rfl (by decide+kernel) rfl ?_;simp only[go_sem];refine jey (fun h=> ?_) ?_
 ·rw[qO]at h;subst h;simp only[go_sem]
 ·simp only[go_sem];exact⟨by simp,hlen,by omega⟩
end
section
open Go.Abs
attribute [local go_sem] ints ic Evid.c Place.c Move.c Cert.c Recall.c Purity.c
theorem su_cloneM(l:List Move)(hne:l≠[])(hl:l.length<=100000):
  CtrH G.P 92 [.im (.sl (l.map Move.c))] [] (fun r L'=>∃X,r= .im (.ref X 105 6 l.length)/\L'=[(hp X,6,l.map Move.c)]):=by
 have hne':l.map Move.c≠[]:=fun h=>hne (qO.1 h);have hlen:∀(c:List IV),c∈l.map Move.c->c.length=6:=fun c hc=>by
  obtain⟨z,_,rfl⟩:=z8.1 hc;rfl
 refine jao [7] [] [.tmp 2] Tryz.func92 ?_;simp only[go_sem];refine jey (fun h=>absurd h hne') ?_;simp only[hne',go_sem];refine And.intro hlen (And.intro (by omega) (je5 (fun X hX=> ?_)));clear hX;simp only[zq,go_sem];refine jb7 [(hp X,6,l.map Move.c)] (jad jaq) (SubR.of_eq rfl) ?_;simp only[go_sem];exact⟨X,rfl,rfl⟩
theorem su_without0{e:Evid}(S:List Int)(hc:jax e=0)(h0:e.moves=[]):Ctr G.P 39 [e.iv,ints S] (· =e.iv):=by
 obtain⟨l1,l2,l3,l4,l5,l6,l7,l8⟩:=jgr (jbi hc).1;have k:=c21 e;rw[hc]at k;have k1:=CtrV.ctr (c32 e.places (by omega));have k2:=CtrV.ctr (c33 e.moves (by omega));have k3:=CtrV.ctr (c34 e.certs (by omega));have k4:=CtrV.ctr (c35 e.recalls (by omega));have k5:=CtrV.ctr (c29 e.purs (by omega));rw[h0]at k2;simp only[zF]at k2;unfold Evid.iv Evid.c at*;rw[h0]at k⊢;simp only[zF]at k⊢;refine ja5 [.cell 4 28] Tryz.func39 ?_;simp only[go_sem];refine ja1 k ?_;simp only[go_sem];refine jam ?_;simp only[go_sem];refine ja4 k1 (by decide) ?_;simp only[go_sem];refine ja4 k2 (by decide) ?_;simp only[go_sem];refine ja4 k3 (by decide) ?_;simp only[go_sem];refine jam ?_;simp only[go_sem];refine ja4 k4 (by decide) ?_;simp only[go_sem];refine ja4 k5 (by decide) ?_;simp only[go_sem];refine jan [2,4,32,33,34] [2,4] (fun _:Unit=>⟨[(2,.loc 2 8 0 0),(4,.loc 4 8 0 0),(32,.im (.sl [])),(33,.im (.int 0)),(34,.im (.int 0))],[(4,8,[[.int 0,.int 0,.int 0,.sl [],.sl [],.sl [],.sl [],.sl []]]),
  (2,8,[[.int e.mats,.int e.houses,.int e.scales,.sl (e.places.map Place.c),.sl [],.sl (e.certs.map Cert.c),.sl (e.recalls.map Recall.c),.sl (e.purs.map Purity.c)]])],[]⟩) (fun _=>True) (fun _=>0) () ?_ trivial ?_
 ·simp only[go_sem]
 intro _ _;simp only[go_sem]
end
section
open Go.Abs
attribute [local go_sem] ints ic Evid.c Place.c Move.c Cert.c Recall.c Purity.c
def offL(S:List Int)(ms:List Move)(i:Nat):List Move:=(ms.take i).map (offM S)++ms.drop i
theorem offL_zero(S:List Int)(ms:List Move):offL S ms 0=ms:=rfl
theorem offL_full(S:List Int)(ms:List Move):offL S ms ms.length=ms.map (offM S):=by
 unfold offL;rw[qe,List.drop_length,zX]
theorem jo9{S:List Int}{ms:List Move}{i:Nat}:(offL S ms i).length=ms.length:=by
 unfold offL;rw[zG,zq,zY,yl];omega
theorem joa{S:List Int}{ms:List Move}{i:Nat}{x:Move}(h:ms[i]? =some x):(offL S ms i)[i]? =some x:=by
 have hi:=(zl.1 h).1;unfold offL;rw[zL (by rw[zq,zY];omega),zq,zY,qt,show i+(i-min i ms.length)=i by omega,h]
theorem offL_succ{S:List Int}{ms:List Move}{i:Nat}{x:Move}(h:ms[i]? =some x):offL S ms (i+1)=(offL S ms i).set i (offM S x):=by
 have hi:=(zl.1 h).1;have hl:((ms.take i).map (offM S)).length=i:=by rw[zq,zY];omega
 have hd:ms.drop i=x::ms.drop (i+1):=by
  obtain⟨h1,h2⟩:=zl.1 h;rw[qQ h1,h2]
 unfold offL;rw[take_succ h,qf,jK _ _ (by omega),hl,j7,hd,zS];rfl
theorem su_without1{e:Evid}(S:List Int)(hc:jax e=0)(h0:e.moves≠[])(hS:S.length<=100000):Ctr G.P 39 [e.iv,ints S] (· =(offE S e).iv):=by
 obtain⟨l1,l2,l3,l4,l5,l6,l7,l8⟩:=jgr (jbi hc).1;have k:=c21 e;rw[hc]at k;have k1:=CtrV.ctr (c32 e.places (by omega));have k2:=su_cloneM e.moves h0 (by omega);have k3:=CtrV.ctr (c34 e.certs (by omega));have k4:=CtrV.ctr (c35 e.recalls (by omega));have k5:=CtrV.ctr (c29 e.purs (by omega));unfold Evid.iv Evid.c at*;refine jf5 (φ:=fun r L'=>∃X,r= .im (.agg [.int e.mats,.int e.houses,.int e.scales,.sl (e.places.map Place.c),.ref X 105 6 e.moves.length,.sl (e.certs.map Cert.c),.sl (e.recalls.map Recall.c),.sl (e.purs.map Purity.c)])/\L'=[(hp X,6,(e.moves.map (offM S)).map Move.c)]) ?_ (fun r L' ⟨X,h1,h2⟩=>⟨_,[X],h1,?_⟩)
 case refine_2=>
  subst h2;have hl2:e.moves.length<=((e.moves.map (offM S)).map Move.c).length:=by rw[zq,zq];exact zt _
  have htk:((e.moves.map (offM S)).map Move.c).take e.moves.length=(e.moves.map (offM S)).map Move.c:=zu (by rw[zq,zq];exact zt _);simp only[frzL,ja2,frz3,frz2,frz1,zB,zF,hl2,htk,vd,qm];rfl
 refine jao [] [] [.cell 4 28] Tryz.func39 ?_;simp only[go_sem];refine ja1 k ?_;simp only[go_sem];refine DrawF_of (ι:=Nat) (fun X=>⟨[(1,.im (.sl (S.map ic))),(2,.loc 2 8 0 0),(4,.loc 4 8 0 0)],[(2,8,[[.int e.mats,.int e.houses,.int e.scales,.sl (e.places.map Place.c),.ref X 105 6 e.moves.length,.sl (e.certs.map Cert.c),.sl (e.recalls.map Recall.c),.sl (e.purs.map Purity.c)]]),
  (4,8,[[.int 0,.int 0,.int 0,.emp,.emp,.emp,.emp,.emp]]),(hp X,6,e.moves.map Move.c)],[]⟩) (fun _=>True) ?_ ?_
 ·refine jgx [false,false,false,false,false,true,false,false,false,false,true,false,true,false,true] (.alt 5 (.alt 10 (.alt 12 (.alt 14 .fin .none) .none) .none) (.alt 10 (.alt 5 (.alt 12 (.alt 14 .fin .none) .none) .none) .none)) [(2,8,[[.int e.mats,.int e.houses,.int e.scales,.sl (e.places.map Place.c),.sl (e.moves.map Move.c),.sl (e.certs.map Cert.c),.sl (e.recalls.map Recall.c),.sl (e.purs.map Purity.c)]])] (by decide+kernel) (jag (by simp only[go_sem]) jac) ?_;simp only[go_sem];refine ja4 k1 (by decide) ?_;simp only[go_sem];refine ja4 k3 (by decide) ?_;simp only[go_sem];refine And.intro ?_ ?_
  ·refine jbc k2 (by decide) rfl jaq jac ?_;rintro _ _ ⟨X,rfl,rfl⟩ _;refine⟨_,jfa (ja2 _ _ _),?_⟩;have hne:=fun(d:Nat) (h:d<100000)=>hp_ne (n:=d) (b:=X) h;simp only[go_sem];refine And.intro (by first | exact jac | exact jag (by rw[ja0 _ _ (hp_ne (by decide))];rfl) jac) ?_;refine jtv X trivial ?_ ?_ rfl
   ·simp only[go_sem]
   ·exact jag (by rw[ja0 _ _ (hp_ne (by decide))];rfl) (jag (by rw[ja0 _ _ (hp_ne (by decide))];rfl) (jag (ja2 _ _ _) jac))
  ·refine jbc k2 (by decide) rfl jaq jac ?_;rintro _ _ ⟨X,rfl,rfl⟩ _;refine⟨_,jfa (ja2 _ _ _),?_⟩;have hne:=fun(d:Nat) (h:d<100000)=>hp_ne (n:=d) (b:=X) h;simp only[go_sem];refine And.intro (by first | exact jac | exact jag (by rw[ja0 _ _ (hp_ne (by decide))];rfl) jac) ?_;refine jtv X trivial ?_ ?_ rfl
   ·simp only[go_sem]
   ·exact jag (by rw[ja0 _ _ (hp_ne (by decide))];rfl) (jag (by rw[ja0 _ _ (hp_ne (by decide))];rfl) (jag (ja2 _ _ _) jac))
 ·rintro X-;have hne:=fun(d:Nat) (h:d<100000)=>hp_ne (n:=d) (b:=X) h;simp only[go_sem];refine jam ?_;simp only[go_sem];refine ja4 k4 (by decide) ?_;simp only[go_sem];refine ja4 k5 (by decide) ?_;simp only[zq,go_sem];refine jap [1,2,4,32,33,34] (fun i:Nat=>⟨[(1,.im (.sl (S.map ic))),(2,.loc 2 8 0 0),(4,.loc 4 8 0 0),(32,.im (.ref X 105 6 e.moves.length)),(33,.im (.int e.moves.length)),(34,.im (.int i))],
    [(2,8,[[.int e.mats,.int e.houses,.int e.scales,.sl (e.places.map Place.c),.ref X 105 6 e.moves.length,.sl (e.certs.map Cert.c),.sl (e.recalls.map Recall.c),.sl (e.purs.map Purity.c)]]),(4,8,[[.int 0,.int 0,.int 0,.emp,.emp,.emp,.emp,.emp]]),(hp X,6,(offL S e.moves i).map Move.c)],[]⟩)
   (fun i=>i<=e.moves.length) (fun i=>e.moves.length-i) 0 ?_ (SubR.of_eq (by dsimp only;rw[offL_zero])) rfl (zH _) ?_
  ·simp only[Int.natCast_zero,go_sem]
  intro i hi;by_cases hp':(i:Int)<e.moves.length
  ·have hd:decide ((i:Int)<e.moves.length)=true:=zh hp';obtain⟨x,hx⟩:=jbf hp';have h1:=ja7 (n:=(i:Int)+1) (by omega);have hi0:(0:Int)<=i:=by omega
   have hg:((offL S e.moves i).map Move.c)[i]? =some [.int x.day,.int x.fr,.int x.to,.int x.scale,.int x.reading,.bool x.all]:=by rw[za,joa hx];rfl
   have hsu:=offL_succ (S:=S) hx;have kin:=jl5 S x.scale hS;by_cases e1:x.scale= -1
   ·have ds:decide (x.scale= -1)=true:=zh e1;have ho:offM S x=x:=by unfold offM;rw[zn (fun h=>h.1 e1)]
    rw[ho,jnx (joa hx)]at hsu;simp only[hd,hi0,hp',hg,ds,Int.toNat_natCast,jo9,zq,go_sem];refine ja6 (i+1) ?_ (jag ?_ (jag ?_ (jag ?_ jac))) rfl (by omega) (by omega)
    ·simp only[h1,Int.natCast_add,go_sem]
    all_goals simp only[hsu,go_sem]
   ·have ds:decide (x.scale= -1)=false:=zw e1;simp only[hd,hi0,hp',hg,ds,Int.toNat_natCast,jo9,zq,go_sem];refine ja1 kin ?_;simp only[go_sem];refine jc1 (fun he=> ?_) (fun he=> ?_)
    ·have ho:offM S x={x with scale:= -1,reading:=0}:=by unfold offM;rw[zm ⟨e1,he⟩]
     rw[ho]at hsu;have hil:i<((offL S e.moves i).map Move.c).length:=(zl.1 hg).1;have hgs:(((offL S e.moves i).map Move.c).set i [.int x.day,.int x.fr,.int x.to,.int (-1),.int x.reading,.bool x.all])[i]? =some [.int x.day,.int x.fr,.int x.to,.int (-1),.int x.reading,.bool x.all]:=vm hil;have hss:(((offL S e.moves i).map Move.c).set i [.int x.day,.int x.fr,.int x.to,.int (-1),.int x.reading,.bool x.all]).set i [.int x.day,.int x.fr,.int x.to,.int (-1),.int 0,.bool x.all]=(offL S e.moves (i+1)).map Move.c:=by
      rw[List.set_set,hsu,qD];rfl
     simp only[he,go_sem];refine DrawK_of [false,false,false,false,false,false,false,false,true,false,false,true] (.alt 8 (.alt 11 .fin .none) .none) [(2,8,[[.int e.mats,.int e.houses,.int e.scales,.sl (e.places.map Place.c),.ref X 105 6 e.moves.length,.sl (e.certs.map Cert.c),.sl (e.recalls.map Recall.c),.sl (e.purs.map Purity.c)]])] (by decide+kernel) (jag (by simp only[go_sem]) jac) ?_;simp only[hi0,hp',hg,hgs,Int.toNat_natCast,jo9,zq,go_sem];refine And.intro (jag (by simp only[go_sem]) jac) (And.intro (jag (by simp only[go_sem]) jac) ?_);refine ja6 (i+1) ?_ (jag ?_ (jag ?_ (jag ?_ jac))) rfl (by omega) (by omega)
     ·simp only[h1,Int.natCast_add,go_sem]
     all_goals simp only[hss,go_sem]
    ·have ho:offM S x=x:=by unfold offM;rw[zn (fun h=>by rw[he]at h;cases h.2)]
     rw[ho,jnx (joa hx)]at hsu;simp only[he,go_sem];refine ja6 (i+1) ?_ (jag ?_ (jag ?_ (jag ?_ jac))) rfl (by omega) (by omega)
     ·simp only[h1,Int.natCast_add,go_sem]
     all_goals simp only[hsu,go_sem]
  ·have hd:decide ((i:Int)<e.moves.length)=false:=zw hp';have hil:i=e.moves.length:=by omega
   subst hil;rw[offL_full];simp only[hd,go_sem];refine jb7 [(hp X,6,(e.moves.map (offM S)).map Move.c)] (jad jaq) (jag ?_ jac) ?_
   ·simp only[go_sem]
   ·simp only[go_sem];exact⟨X,rfl,rfl⟩
end
section
open Go.Abs
theorem usedE_nil{e:Evid}(h:scl e.moves=[]):usedE e=[]:=by
 refine vZ.2 fun s hs=> ?_;have:=scl_mem.2 (((jho e).mem s).1 hs);rw[h]at this;cases this
theorem jr4{e:Evid}(hc:jax e=0)(hl:e.moves.length<=12):Ctr G.P 86 [e.iv] (· =ints (usedE e)):=by
 by_cases h:scl e.moves=[]
 ·rw[usedE_nil h];exact su_used0 hc h hl
 ·exact su_used1 hc h hl
theorem jea{e:Evid}(S:List Int)(hc:jax e=0)(hS:S.length<=100000):Ctr G.P 39 [e.iv,ints S] (· =(offE S e).iv):=by
 by_cases h:e.moves=[]
 ·have e1:offE S e=e:=by
   unfold offE;rw[h,zF,<-h]
  rw[e1];exact su_without0 S hc h
 ·exact su_without1 S hc h hS
end
section
open Go.Abs
attribute [local go_sem] ints ic
theorem iget{l:List Int}{i:Nat}{x:Int}(h:l[i]? =some x):(l.map ic)[i]? =some [.int x]:=by rw[za,h];rfl
theorem t_has18(l:List Int)(v:Int)(hl:l.length<=100000):Ctr G.P 47 [ints l,.int v] (· = .bool (l.any fun x=>decide (x=v))):=by
 refine ja5 [.tmp 4] Tryz.func47 ?_;simp only[go_sem];refine jan [0,1,5] [] (fun i:Nat=>⟨[(0,.im (.sl (l.map ic))),(1,.im (.int v)),(5,.im (.int i))],[],[]⟩)
  (fun i=>i<=l.length/\(l.take i).any (fun x=>decide (x=v))=false) (fun i=>l.length-i) 0 ?_ ⟨zH _,rfl⟩ ?_
 ·simp only[Int.natCast_zero,go_sem]
 intro i ⟨hi,ha⟩;by_cases hp':(i:Int)<l.length
 ·have hd:decide ((i:Int)<l.length)=true:=zh hp';obtain⟨x,hx⟩:=jbf hp';have h1:=ja7 (n:=(i:Int)+1) (by omega);have hi0:(0:Int)<=i:=by omega
  have hg:=iget hx;simp only[hd,hi0,hp',hg,Int.toNat_natCast,zq,go_sem];refine jc1 (fun he=> ?_) (fun he=> ?_)
  ·have hb:(l.any fun x=>decide (x=v))=true:=yx.2 ⟨x,zk hx,he⟩;rw[hb];simp only[he,go_sem]
  ·simp only[he,go_sem];refine jab (i+1) ?_ (by omega) ⟨by omega,by rw[jcu hx,ha,he];rfl⟩;simp only[h1,Int.natCast_add,go_sem]
 ·have hd:decide ((i:Int)<l.length)=false:=zw hp';rw[zu (by omega)]at ha;rw[ha];simp only[hd,go_sem]
theorem jr3(a b:List Int)(hl:a.length<=100000):Ctr G.P 44 [ints a,ints b] (· = .bool (decide (a=b))):=by
 by_cases hlen:a.length=b.length
 case neg=>
  have hd:decide ((a.length:Int)=b.length)=false:=zw (by omega);have hab:decide (a=b)=false:=zw fun e=>hlen (by rw[e]);rw[hab];refine ja5 [.tmp 4] Tryz.func44 ?_;simp only[hd,zq,go_sem]
 have hd:decide ((a.length:Int)=b.length)=true:=zh (by omega);refine ja5 [.tmp 4] Tryz.func44 ?_;simp only[hd,zq,go_sem];refine jan [0,1,5] [] (fun i:Nat=>⟨[(0,.im (.sl (a.map ic))),(1,.im (.sl (b.map ic))),(5,.im (.int i))],[],[]⟩)
  (fun i=>i<=a.length/\a.take i=b.take i) (fun i=>a.length-i) 0 ?_ ⟨zH _,rfl⟩ ?_
 ·simp only[Int.natCast_zero,go_sem]
 intro i ⟨hi,ha⟩;by_cases hp':(i:Int)<a.length
 ·have hdl:decide ((i:Int)<a.length)=true:=zh hp';obtain⟨x,hx⟩:=jbf hp';have hpb:(i:Int)<b.length:=by omega
  obtain⟨y,hy⟩:=jbf hpb;have h1:=ja7 (n:=(i:Int)+1) (by omega);have hi0:(0:Int)<=i:=by omega
  have hg:=iget hx;have hg2:=iget hy;simp only[hdl,zq,go_sem];refine jae 9 ?_;simp only[hi0,hp',hpb,hg,hg2,Int.toNat_natCast,zq,go_sem];refine jc1 (fun he=> ?_) (fun he=> ?_)
  ·simp only[he,go_sem];refine jab (i+1) ?_ (by omega) ⟨by omega,by rw[take_succ hx,take_succ hy,ha,zJ he]⟩;simp only[h1,Int.natCast_add,go_sem]
  ·have hab:decide (a=b)=false:=zw fun e=>by
    subst e;rw[hx]at hy;exact zN he (yE hy)
   rw[hab];simp only[he,go_sem]
 ·have hdl:decide ((i:Int)<a.length)=false:=zw hp';rw[zu (by omega),zu (by omega)]at ha;rw[zh ha];simp only[hdl,zq,go_sem]
def setC(l:List Int):List IV:=[.sl (l.map ic)]
def je7(A:List (List Int)):IV:= .sl (A.map setC)
theorem jps{A:List (List Int)}{i:Nat}{x:List Int}(h:A[i]? =some x):(A.map setC)[i]? =some [.sl (x.map ic)]:=by rw[za,h];rfl
theorem t_sameS(A B:List (List Int))(hl:A.length<=100000)(hA:∀x∈A,x.length<=100000):Ctr G.P 136 [je7 A,je7 B] (· = .bool (decide (A=B))):=by
 unfold je7;by_cases hlen:A.length=B.length
 case neg=>
  have hd:decide ((A.length:Int)=B.length)=false:=zw (by omega);have hab:decide (A=B)=false:=zw fun e=>hlen (by rw[e]);rw[hab];refine ja5 [.tmp 4] Tryz.func136 ?_;simp only[hd,zq,go_sem]
 have hd:decide ((A.length:Int)=B.length)=true:=zh (by omega);refine ja5 [.tmp 4] Tryz.func136 ?_;simp only[hd,zq,go_sem];refine jan [0,1,5] [] (fun i:Nat=>⟨[(0,.im (.sl (A.map setC))),(1,.im (.sl (B.map setC))),(5,.im (.int i))],[],[]⟩)
  (fun i=>i<=A.length/\A.take i=B.take i) (fun i=>A.length-i) 0 ?_ ⟨zH _,rfl⟩ ?_
 ·simp only[Int.natCast_zero,go_sem]
 intro i ⟨hi,ha⟩;by_cases hp':(i:Int)<A.length
 ·have hdl:decide ((i:Int)<A.length)=true:=zh hp';obtain⟨x,hx⟩:=jbf hp';have hpb:(i:Int)<B.length:=by omega
  obtain⟨y,hy⟩:=jbf hpb;have h1:=ja7 (n:=(i:Int)+1) (by omega);have hi0:(0:Int)<=i:=by omega
  have hg:=jps hx;have hg2:=jps hy;have ks:=jr3 x y (hA x (zk hx));simp only[ints]at ks;simp only[hdl,zq,go_sem];refine jae 10 ?_;simp only[hi0,hp',hpb,hg,hg2,Int.toNat_natCast,zq,go_sem];refine ja4 ks (by decide) ?_;simp only[go_sem];refine jc1 (fun he=> ?_) (fun he=> ?_)
  ·simp only[he,go_sem];refine jab (i+1) ?_ (by omega) ⟨by omega,by rw[take_succ hx,take_succ hy,ha,zJ he]⟩;simp only[h1,Int.natCast_add,go_sem]
  ·have hab:decide (A=B)=false:=zw fun e=>by
    subst e;rw[hx]at hy;exact zN he (yE hy)
   rw[hab];simp only[he,go_sem]
 ·have hdl:decide ((i:Int)<A.length)=false:=zw hp';rw[zu (by omega),zu (by omega)]at ha;rw[zh ha];simp only[hdl,zq,go_sem]
