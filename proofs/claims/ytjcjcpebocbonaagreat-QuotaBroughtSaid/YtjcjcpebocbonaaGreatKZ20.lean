/- A part of the proof. No further condition. -/
import Derived.Test.YtjcjcpebocbonaaGreatKZ19
import Init
set_option linter.all false
set_option maxRecDepth 10000000
set_option maxHeartbeats 16000000
namespace Go.Proofs.YtjcjcpebocbonaaGreat
section
set_option maxRecDepth 1000000
open Go.Abs
attribute [local go_sem] Cert.c Recall.c ints ic big frac
theorem jj0(n m:Int):Ctr G.P 112 [.int n,.int m] (· = .bool (btw n 0 m)):=by
 unfold btw;refine ja4 [.tmp 4] Tryz.func112 ?_;simp only[go_sem]
 repeat' (refine jbq (fun hd hp=> ?_) (fun hd hp=> ?_)<;>simp only[hd,go_sem])
def jp5(c:Cert):Bool:=decide (0<=c.fr)&&decide (c.fr<=c.until')&&decide (c.until'<=100000)
def jga(c:Cert):Bool:=jp5 c&&btw c.scale 0 29&&btw c.grams 0 1099511627776&&btw c.perMille 0 1000&&btw c.drift 0 10000000
theorem h_right(c:Cert):Ctr G.P 131 [.agg c.c] (· = .bool (jga c)):=by
 have a1:=jj0 c.scale 29;have a2:=jj0 c.grams 1099511627776;have a3:=jj0 c.perMille 1000;have a4:=jj0 c.drift 10000000;generalize b7:btw c.scale 0 29=b1 at*;generalize b6:btw c.grams 0 1099511627776=b2 at*;generalize b5:btw c.perMille 0 1000=b3 at*;generalize b0:btw c.drift 0 10000000=b4 at*;generalize a8:decide (0<=c.fr)=d1;generalize a7:decide (c.fr<=c.until')=d2;generalize a6:decide (c.until'<=100000)=d3;have hr:jga c=(d1&&d2&&d3&&b1&&b2&&b3&&b4):=by simp only[jga,jp5,b7,b6,b5,b0,a8,a7,a6]
 rw[hr];refine ja4 [.tmp 2] Tryz.func131 ?_;unfold Cert.c;simp only[a8,a7,a6,go_sem]
 repeat' (first | (refine jc5 (fun hd=> ?_) (fun hd=> ?_)<;>simp only[*,a8,a7,a6,go_sem]) | (refine jc0 (a1) (by first | decide | assumption) ?_;simp only[*,a8,a7,a6,go_sem]) | (refine jc0 (a2) (by first | decide | assumption) ?_;simp only[*,a8,a7,a6,go_sem]) | (refine jc0 (a3) (by first | decide | assumption) ?_;simp only[*,a8,a7,a6,go_sem]) | (refine jc0 (a4) (by first | decide | assumption) ?_;simp only[*,a8,a7,a6,go_sem]) | (refine ja3 (a1) (by decide) ?_;simp only[*,a8,a7,a6,go_sem]) | (refine ja3 (a2) (by decide) ?_;simp only[*,a8,a7,a6,go_sem]) | (refine ja3 (a3) (by decide) ?_;simp only[*,a8,a7,a6,go_sem]) | (refine ja3 (a4) (by decide) ?_;simp only[*,a8,a7,a6,go_sem]))
 all_goals simp_all
def jeb(c:Cert)(day:Int):Bool:=jga c&&decide (c.fr<=day)&&decide (day<=c.until')
theorem jsz(c:Cert)(day:Int):Ctr G.P 109 [.agg c.c,.int day] (· = .bool (jeb c day)):=by
 have a1:=h_right c;generalize a8:jga c=b1 at*;generalize a7:decide (c.fr<=day)=d1;generalize a6:decide (day<=c.until')=d2;have hr:jeb c day=(b1&&d1&&d2):=by simp only[jeb,a8,a7,a6]
 rw[hr];refine ja4 [.tmp 4] Tryz.func109 ?_;unfold Cert.c at a1⊢;simp only[a7,a6,go_sem]
 repeat' (first | (refine jc5 (fun hd=> ?_) (fun hd=> ?_)<;>simp only[*,a7,a6,go_sem]) | (refine jc0 (a1) (by first | decide | assumption) ?_;simp only[*,a7,a6,go_sem]) | (refine ja3 (a1) (by decide) ?_;simp only[*,a7,a6,go_sem]))
 all_goals simp_all
def pickF(l:List Cert)(sc day:Int)(b:Nat×Bool)(c:Cert):Bool:=
 decide (c.scale=sc)&&jeb c day&&(!b.2 || decide ((l[b.1]?.elim 0 Cert.fr)<=c.fr))
def jew(l:List Cert)(sc day:Int):Nat->Nat×Bool
 | 0=>(0,false)
 | i+1=>if(l[i]?.elim false (pickF l sc day (jew l sc day i)))=true then(i,true)else jew l sc day i
theorem jm2(l:List Cert)(sc day:Int)(i:Nat):(jew l sc day i).2=true->(jew l sc day i).1<i/\∃c,l[(jew l sc day i).1]? =some c/\jeb c day=true:=by
 induction i with
 | zero=>intro h;cases h
 | succ i ih=>
  rw[jew];split
  ·rename_i h;intro _;refine⟨by dsimp only;omega,?_⟩;dsimp only;rcases hx:l[i]? with _ | c
   ·rw[hx]at h;cases h
   ·rw[hx]at h;refine⟨c,rfl,?_⟩;simp only[Option.elim,pickF,zn]at h;exact h.1.2
  ·intro h;obtain⟨h1,h2⟩:=ih h;exact⟨by omega,h2⟩
theorem jfe{l:List Cert}{sc day:Int}{i:Nat}{c:Cert}(h:l[i]? =some c):jew l sc day (i+1)=if pickF l sc day (jew l sc day i) c=true then(i,true)else jew l sc day i:=by
 rw[jew,h];rfl
def findF(l:List Cert)(sc day:Int):Nat×Bool:=jew l sc day l.length
theorem h_find(l:List Cert)(sc day:Int)(hl:l.length<=100000):Ctr G.P 84 [.sl (l.map Cert.c),.int sc,.int day] (· = .tup [.int (findF l sc day).1,.bool (findF l sc day).2]):=by
 unfold findF;refine ja4 [.tmp 6,.tmp 7] Tryz.func84 ?_;simp only[go_sem];refine jai [0,1,2,8,9,12,13,14] [] (fun i:Nat=>⟨[(0,.im (.sl (l.map Cert.c))),(1,.im (.int sc)),(2,.im (.int day)),(8,.im (.int (jew l sc day i).1)),(9,.im (.bool (jew l sc day i).2)),(12,.im (.sl (l.map Cert.c))),(13,.im (.int l.length)),(14,.im (.int i))],[],[]⟩)
  (fun i=>i<=l.length) (fun i=>l.length-i) 0 ?_ (zG _) ?_
 ·simp only[jew,Int.natCast_zero,go_sem]
 ·intro i hi;by_cases hp:(i:Int)<l.length
  ·have hd:decide ((i:Int)<l.length)=true:=zp hp;obtain⟨x,hx⟩:=jcf hp;have h1:=ja8 ((i:Int)+1);have hc:=jsz x day;have a1:=jm2 l sc day i;rcases hbf:jew l sc day i with ⟨b,f⟩;rw[hbf]at a1;dsimp only at a1⊢;simp only[Cert.c]at hc;rcases hs:decide (x.scale=sc)with _ | _
   ·simp only[hd,zq,hx,go_sem];refine jaf 23 ?_;simp only[hs,zq,hx,go_sem];refine ja7 (i+1) ?_ (by omega) (by omega);rw[jfe hx,zl (by simp[pickF, *]),hbf];simp only[h1,Int.natCast_add,go_sem]
   ·rcases hv:jeb x day with _ | _
    ·rw[hv]at hc;simp only[hd,zq,hx,go_sem];refine jaf 23 ?_;simp only[hs,zq,hx,go_sem];refine ja3 hc (by decide) ?_;simp only[go_sem];refine ja7 (i+1) ?_ (by omega) (by omega);rw[jfe hx,zl (by simp[pickF, *]),hbf];simp only[h1,Int.natCast_add,go_sem]
    ·rw[hv]at hc;rcases f with _ | _
     ·simp only[hd,zq,hx,go_sem];refine jaf 23 ?_;simp only[hs,zq,hx,go_sem];refine ja3 hc (by decide) ?_;simp only[go_sem];refine ja7 (i+1) ?_ (by omega) (by omega);rw[jfe hx,zh (by simp[pickF, *])];simp only[h1,Int.natCast_add,go_sem]
     ·obtain⟨_,y,hy,_⟩:=a1 rfl;have hg:l[b]?.elim 0 Cert.fr=y.fr:=by rw[hy];rfl
      rcases hk:decide (y.fr<=x.fr)with _ | _
      ·simp only[hd,zq,hx,go_sem];refine jaf 23 ?_;simp only[hs,zq,hx,hy,hk,go_sem];refine ja3 hc (by decide) ?_;simp only[hs,zq,hx,hy,hk,go_sem];refine ja7 (i+1) ?_ (by omega) (by omega);rw[jfe hx,zl (by simp[pickF, *]),hbf];simp only[h1,Int.natCast_add,go_sem]
      ·simp only[hd,zq,hx,go_sem];refine jaf 23 ?_;simp only[hs,zq,hx,hy,hk,go_sem];refine ja3 hc (by decide) ?_;simp only[hs,zq,hx,hy,hk,go_sem];refine ja7 (i+1) ?_ (by omega) (by omega);rw[jfe hx,zh (by simp[pickF, *])];simp only[h1,Int.natCast_add,go_sem]
  ·have hd:decide ((i:Int)<l.length)=false:=ze hp;have:i=l.length:=by omega
   subst this;simp only[hd,go_sem]
def recF(sc day:Int)(x:Recall):Bool:=decide (x.scale=sc)&&decide (x.since<=day)
theorem h_rec1(x:Recall)(sc day:Int):Ctr G.P 111 [.agg x.c,.ip [.int sc] 0,.ip [.int day] 0] (· = .bool (recF sc day x)):=by
 unfold recF;refine ja4 [.tmp 4] Tryz.func111 ?_;unfold Recall.c;simp only[go_sem]
 repeat' (refine jbq (fun hd hp=> ?_) (fun hd hp=> ?_)<;>simp only[hd,go_sem])
theorem h_irec(l:List Recall)(hl:l.length<=100000)(p:Recall->Bool)(g:Nat)(caps:List IV)(hg:3<=g/\g<G.fns)(hc:∀x:Recall,Ctr G.P g (.agg x.c::caps) (· = .bool (p x))):
  Ctr G.P 132 [.sl (l.map Recall.c),.clo g caps] (fun r=>∃k:Int,r= .int k/\decide (0<=k)=l.any p):=by
 refine ja4 [.tmp 4] Tryz.func132 ?_;simp only[go_sem];refine jai [0,1,7,8] [] (fun i:Nat=>⟨[(0,.im (.sl (l.map Recall.c))),(1,.im (.clo g caps)),(7,.im (.int l.length)),(8,.im (.int i))],[],[]⟩)
  (fun i=>i<=l.length/\(l.take i).any p=false) (fun i=>l.length-i) 0 ?_ ⟨zG _,rfl⟩ ?_
 ·simp only[Int.natCast_zero,go_sem]
 ·intro i ⟨hi,ha⟩;by_cases hp:(i:Int)<l.length
  ·have hd:decide ((i:Int)<l.length)=true:=zp hp;obtain⟨x,hx⟩:=jcf hp;have h1:=ja8 ((i:Int)+1);have a1:=hc x;simp only[Recall.c]at a1;simp only[hd,zq,hx,go_sem];refine jc0 a1 hg ?_;simp only[go_sem];refine jc5 (fun he=> ?_) (fun he=> ?_)
   ·simp only[he,go_sem];exact⟨i,rfl,by rw[any_at hx he];simp⟩
   ·simp only[he,go_sem];refine ja7 (i+1) ?_ (by omega) ⟨by omega,by rw[jf1 hx,ha,he];rfl⟩;simp only[h1,Int.natCast_add,go_sem]
  ·have hd:decide ((i:Int)<l.length)=false:=ze hp;rw[tLo]at ha;simp only[hd,go_sem];exact⟨-1,rfl,by rw[ha];rfl⟩
theorem h_crec(l:List Recall)(hl:l.length<=100000)(p:Recall->Bool)(g:Nat)(caps:List IV)(hg:3<=g/\g<G.fns)(hc:∀x:Recall,Ctr G.P g (.agg x.c::caps) (· = .bool (p x))):
  Ctr G.P 110 [.sl (l.map Recall.c),.clo g caps] (· = .bool (l.any p)):=by
 have h:=h_irec l hl p g caps hg hc;refine ja4 [.tmp 4] Tryz.func110 ?_;simp only[go_sem];refine jhm h ?_;rintro r ⟨k,rfl,hk⟩;rw[<-hk];simp only[go_sem]
theorem h_recalled(l:List Recall)(sc day:Int)(hl:l.length<=100000):Ctr G.P 85 [.sl (l.map Recall.c),.int sc,.int day] (· = .bool (l.any (recF sc day))):=by
 have h:=h_crec l hl (recF sc day) 111 [.ip [.int sc] 0,.ip [.int day] 0] (by decide) (fun x=>h_rec1 x sc day);refine ja4 [.tmp 6] Tryz.func85 ?_;simp only[go_sem];refine ja0 h ?_;simp only[go_sem]
end
section
set_option maxRecDepth 1000000
open Go.Abs
attribute [local go_sem] Cert.c Recall.c ints ic big frac
def zf:IV:= .agg [.int 0,.sl [],.int 0,.sl []]
def errF(c:Cert)(rd day:Int):Rat:=Rat.divInt (c.perMille*rd) 1000+((c.grams+c.drift*(day-c.fr):Int):Rat)
theorem jtp{c:Cert}{rd day:Int}(h:jeb c day=true)(hr:0<=rd/\rd<=1099511627776):
  FL 9 (errF c rd day)/\FL 4 (Rat.divInt (c.perMille*rd) 1000)/\FL 4 ((c.grams+c.drift*(day-c.fr):Int):Rat)/\(0<=c.perMille*rd/\c.perMille*rd<=1099511627776000)/\(0<=c.drift*(day-c.fr)/\c.drift*(day-c.fr)<=1000000000000)/\
  (0<=c.grams/\c.grams<=1099511627776)/\(0<=day-c.fr/\day-c.fr<=100000):=by
 simp only[jeb,jga,jp5,zn,zO,btw_iff]at h;obtain⟨⟨⟨⟨⟨⟨⟨⟨a1,a2⟩,a3⟩,_⟩,g1,g2⟩,p1,p2⟩,d1,d2⟩,f1⟩,u1⟩:=h;have m1:0<=c.perMille*rd:=qM p1 hr.1;have m2:c.perMille*rd<=1000*1099511627776:=vw p2 hr.2 hr.1 (by omega);have n1:0<=c.drift*(day-c.fr):=qM d1 (by omega);have n2:c.drift*(day-c.fr)<=10000000*100000:=vw d2 (by omega) (by omega) (by omega);have k1:FL 4 (Rat.divInt (c.perMille*rd) 1000):=jgc (by omega) (jlo (by omega)) (jlo (by omega));have k2:FL 4 ((c.grams+c.drift*(day-c.fr):Int):Rat):=jbn (by omega);exact⟨ji8 k1 k2,k1,k2,by omega,by omega,by omega,by omega⟩
def errIV(c:Cert)(rd day:Int):IV:=if(jeb c day&&btw rd 0 1099511627776)=true then .tup [frac (errF c rd day),.bool true]else .tup [zf,.bool false]
theorem h_error(c:Cert)(rd day:Int):Ctr G.P 86 [.agg c.c,.int rd,.int day] (· =errIV c rd day):=by
 have hc:=jsz c day;have hw:=jj0 rd 1099511627776;unfold errIV;rcases hv:jeb c day with _ | _
 ·rw[hv]at hc;rw[qZ,zl yx];unfold zf;simp only[Cert.c]at hc⊢;refine ja4 [.cell 6 48,.tmp 7] Tryz.func86 ?_;simp only[go_sem];refine ja0 hc ?_;simp only[go_sem]
 ·rw[hv]at hc;rw[qu];rcases hb:btw rd 0 1099511627776 with _ | _
  ·rw[hb]at hw;rw[zl yx];unfold zf;simp only[Cert.c]at hc⊢;refine ja4 [.cell 6 48,.tmp 7] Tryz.func86 ?_;simp only[go_sem];refine ja0 hc ?_;simp only[go_sem];refine ja0 hw ?_;simp only[go_sem]
  ·rw[hb]at hw;rw[zh rfl];obtain⟨k0,k1,k2,m1,m2,m3,m4⟩:=jtp hv (btw_iff.1 hb);have ho:=t_poff (c.perMille*rd) 1000 (by omega) (by omega) (by omega);have hi:=jcj (c.grams+c.drift*(day-c.fr)) (by omega);have hs:=f_add (k1.mono (by omega:4<=19000000000)) (k2.mono (by omega:4<=19000000000));have w1:=ja8 (c.perMille*rd);have w2:=ja8 (day-c.fr);have w3:=ja8 (c.drift*(day-c.fr));have w4:=ja8 (c.grams+c.drift*(day-c.fr));unfold errF;generalize Rat.divInt (c.perMille*rd) 1000=r1 at*;generalize ((c.grams+c.drift*(day-c.fr):Int):Rat)=r2 at*;generalize r1+r2=r3 at*;simp only[Cert.c,big,frac,ints]at hc ho hi hs⊢;refine ja4 [.cell 6 48,.tmp 7] Tryz.func86 ?_;simp only[go_sem];refine ja0 hc ?_;simp only[go_sem];refine ja0 hw ?_;simp only[w1,go_sem];refine ja0 ho ?_;simp only[go_sem];refine jah ?_;simp only[w2,w3,w4,go_sem];refine ja3 hi (by decide) ?_;simp only[go_sem];refine ja3 hs (by decide) ?_;simp only[go_sem]
def ivlF(cs:List Cert)(rs:List Recall)(sc rd day:Int):Option (Rat×Rat):=
 if(findF cs sc day).2=false then none
 else if rs.any (recF sc day)=true then none
 else match cs[(findF cs sc day).1]? with
  | none=>none
  | some c=>if(jeb c day&&btw rd 0 1099511627776)=true then
    some (if(rd:Rat)-errF c rd day<((0:Int):Rat)then((0:Int):Rat)else(rd:Rat)-errF c rd day,(rd:Rat)+errF c rd day)else none
def ivlIV(r:Option (Rat×Rat)):IV:=match r with
 | none=> .tup [zf,zf,.bool false]
 | some (a,b)=> .tup [frac a,frac b,.bool true]
theorem FL_ivl{cs:List Cert}{rs:List Recall}{sc rd day:Int}{a b:Rat}(h:ivlF cs rs sc rd day=some (a,b)):FL 14 a/\FL 14 b:=by
 unfold ivlF at h;split at h
 ·cases h
 split at h
 ·cases h
 split at h
 ·cases h
 rename_i c _;split at h
 ·rename_i hv;rw[zn]at hv;have hb:=btw_iff.1 hv.2;obtain⟨k0,_⟩:=jtp hv.1 hb;have k4:FL 4 (rd:Rat):=jbn (by omega);injection h with h;injection h with h1 h2;subst h1 h2;refine⟨?_,(ji8 k4 k0).mono (by omega)⟩;split
  ·exact(jbn (by omega)).mono (by omega)
  ·exact(jtn k4 k0).mono (by omega)
 ·cases h
theorem h_ivl(cs:List Cert)(rs:List Recall)(sc rd day:Int)(l1:cs.length<=100000)(l2:rs.length<=100000):
  Ctr G.P 60 [.sl (cs.map Cert.c),.sl (rs.map Recall.c),.int sc,.int rd,.int day] (· =ivlIV (ivlF cs rs sc rd day)):=by
 have hf:=h_find cs sc day l1;have hr:=h_recalled rs sc day l2;have a1:=jm2 cs sc day cs.length;unfold ivlF;rw[show jew cs sc day cs.length=findF cs sc day from rfl]at a1;generalize findF cs sc day=bf at*;obtain⟨b,f⟩:=bf;dsimp only at hf a1⊢;rcases f with _ | _
 ·rw[zh rfl];unfold ivlIV zf;refine ja4 [.cell 10 48,.cell 11 48,.tmp 12] Tryz.func60 ?_;simp only[go_sem];refine ja0 hf ?_;simp only[go_sem]
 rw[zl (by decide)];rcases ha:rs.any (recF sc day)with _ | _
 ·rw[ha]at hr;rw[zl (by decide)];obtain⟨_,c,hx,_⟩:=a1 rfl;rw[hx];dsimp only;have he:=h_error c rd day;unfold errIV at he;rcases hv:(jeb c day&&btw rd 0 1099511627776)with _ | _
  ·rw[hv,zl yx]at he;rw[zl yx];unfold ivlIV;unfold zf at he⊢;simp only[Cert.c]at he;refine ja4 [.cell 10 48,.cell 11 48,.tmp 12] Tryz.func60 ?_;simp only[go_sem];refine ja0 hf ?_;simp only[go_sem];refine ja0 hr ?_;simp only[zq,hx,go_sem];refine ja0 he ?_;simp only[go_sem]
  ·rw[hv,zh rfl]at he;rw[zh rfl];unfold ivlIV;rw[zn]at hv;have hb:=btw_iff.1 hv.2;obtain⟨k0,_⟩:=jtp hv.1 hb;have k4:FL 4 (rd:Rat):=jbn (by omega);have o1:=jcj rd (by omega);have o2:=jcj 0 (by omega);have z4:FL 4 ((0:Int):Rat):=jbn (by omega);generalize errF c rd day=e at*;have s1:=f_sub (k4.mono (by omega:4<=19000000000)) (k0.mono (by omega:9<=19000000000));have s2:=f_add (k4.mono (by omega:4<=19000000000)) (k0.mono (by omega:9<=19000000000));have s3:=f_max ((jtn k4 k0).mono (by omega:14<=19000000000)) (z4.mono (by omega:4<=19000000000));generalize a6:((0:Int):Rat)=zz at*;generalize (rd:Rat)=rr at*;generalize rr-e=lo at*;generalize rr+e=hi at*;dsimp only;generalize (if lo<zz then zz else lo)=mx at*;simp only[Cert.c,big,frac,ints]at he o1 o2 s1 s2 s3⊢;refine ja4 [.cell 10 48,.cell 11 48,.tmp 12] Tryz.func60 ?_;simp only[go_sem];refine ja0 hf ?_;simp only[go_sem];refine ja0 hr ?_;simp only[zq,hx,go_sem];refine ja0 he ?_;simp only[go_sem];refine ja0 o1 ?_;simp only[go_sem];refine ja0 s1 ?_;simp only[go_sem];refine ja0 s2 ?_;simp only[go_sem];refine jah ?_;simp only[go_sem];refine ja3 o2 (by decide) ?_;simp only[go_sem];refine ja3 s3 (by decide) ?_;simp only[go_sem];refine DrawE_of ?_;refine jts 0 1 (by decide+kernel) rfl rfl ?_ ?_
   ·simp only[go_sem];refine jts 1 2 (by decide+kernel) rfl rfl ?_ ?_
    ·simp only[go_sem];refine jei 2 (by decide+kernel) rfl ?_;simp only[go_sem];refine jei 3 (by decide+kernel) rfl ?_;simp only[go_sem];refine jei 4 (by decide+kernel) rfl ?_;simp only[go_sem];refine jpf (by decide+kernel) ?_;simp only[go_sem]
    ·simp only[go_sem];refine jei 1 (by decide+kernel) rfl ?_;simp only[go_sem];refine jei 3 (by decide+kernel) rfl ?_;simp only[go_sem];refine jei 4 (by decide+kernel) rfl ?_;simp only[go_sem];refine jpf (by decide+kernel) ?_;simp only[go_sem]
   ·simp only[go_sem];refine jei 0 (by decide+kernel) rfl ?_;simp only[go_sem];refine jei 2 (by decide+kernel) rfl ?_;simp only[go_sem];refine jei 3 (by decide+kernel) rfl ?_;simp only[go_sem];refine jei 4 (by decide+kernel) rfl ?_;simp only[go_sem];refine jpf (by decide+kernel) ?_;simp only[go_sem]
 ·rw[ha]at hr;rw[zh rfl];unfold ivlIV zf;refine ja4 [.cell 10 48,.cell 11 48,.tmp 12] Tryz.func60 ?_;simp only[go_sem];refine ja0 hf ?_;simp only[go_sem];refine ja0 hr ?_;simp only[go_sem]
end
end Go.Proofs.YtjcjcpebocbonaaGreat
namespace Go.LP
section
def S:Nat->(Nat->Rat)->Rat
 | 0,_=>0
 | n+1,f=>S n f+f n
theorem jdx{f g:Nat->Rat}:∀{n:Nat},(∀j,j<n->f j=g j)->S n f=S n g
 | 0,_=>rfl
 | n+1,h=>by rw[S,S,jdx fun j hj=>h j (by omega),h n (by omega)]
theorem S_add(f g:Nat->Rat):∀n:Nat,S n (fun j=>f j+g j)=S n f+S n g
 | 0=>by simp only[S];grind
 | n+1=>by simp only[S,S_add f g n];grind
theorem S_mul(c:Rat)(f:Nat->Rat):∀n:Nat,S n (fun j=>c*f j)=c*S n f
 | 0=>by simp only[S];grind
 | n+1=>by simp only[S,S_mul c f n];grind
theorem jnt{f:Nat->Rat}:∀{n:Nat},(∀j,j<n->f j=0)->S n f=0
 | 0,_=>rfl
 | n+1,h=>by rw[S,jnt fun j hj=>h j (by omega),h n (by omega)];grind
theorem jfx{f:Nat->Rat}{s:Nat}:∀{n:Nat},s<n->S n f=f s+S n (fun j=>if j=s then 0 else f j)
 | n+1,h=>by
  simp only[S];by_cases e:s=n
  ·subst e;rw[zh rfl,jdx (f:=fun j=>if j=s then 0 else f j) (g:=f) fun j hj=>iNo];grind
  ·rw[zl (zH e),jfx (n:=n) (s:=s) (by omega)];grind
theorem S_one{f:Nat->Rat}{s n:Nat}(hs:s<n)(h:∀j,j<n->j≠s->f j=0):S n f=f s:=by
 rw[jfx hs,jnt fun j hj=> ?_]
 ·grind
 ·by_cases e:j=s
  ·rw[zh e]
  ·rw[zl e];exact h j hj e
theorem jjb{f:Nat->Rat}:∀{n:Nat},(∀j,j<n->0<=f j)->0<=S n f
 | 0,_=>by simp only[S];grind
 | n+1,h=>by
  have h1:=jjb (n:=n) fun j hj=>h j (by omega);have h2:=h n (by omega);simp only[S];grind
theorem S_pos{f:Nat->Rat}{s n:Nat}(hs:s<n)(h:∀j,j<n->0<=f j)(hp:0<f s):0<S n f:=by
 rw[jfx hs];have:=jjb (n:=n) (f:=fun j=>if j=s then 0 else f j) fun j hj=>by
  by_cases e:j=s
  ·simp only[e,qA];grind
  ·simp only[e,qp];exact h j hj
 grind
structure Dic where
 m:Nat
 n:Nat
 own:Nat->Nat
 free:Nat->Nat
 v:Nat->Rat
 g:Nat->Rat
 a:Nat->Nat->Rat
def Dic.row(D:Dic)(x:Nat->Rat)(i:Nat):Prop:=x (D.own i)+S D.n (fun j=>D.a i j*x (D.free j))=D.v i
def Dic.Sat(D:Dic)(x:Nat->Rat):Prop:=∀i,i<D.m->D.row x i
def Dic.lin(D:Dic)(x:Nat->Rat):Rat:=S D.n (fun j=>D.g j*x (D.free j))
structure Dic.Ok(D:Dic):Prop where
 own:∀i i',i<D.m->i'<D.m->D.own i=D.own i'->i=i'
 free:∀j j',j<D.n->j'<D.n->D.free j=D.free j'->j=j'
 apart:∀i j,i<D.m->j<D.n->D.own i≠D.free j
def exch(p:Rat)(row:Nat->Rat)(s:Nat)(c:Nat->Rat)(j:Nat):Rat:=if j=s then 0-c s*(1/p)else c j-c s*(row j/p)
def Dic.pivot(D:Dic)(r s:Nat):Dic where
 m:=D.m
 n:=D.n
 own i:=if i=r then D.free s else D.own i
 free j:=if j=s then D.own r else D.free j
 v i:=if i=r then D.v r/D.a r s else D.v i-D.a i s*(D.v r/D.a r s)
 g:=exch (D.a r s) (D.a r) s D.g
 a i:=if i=r then(fun j=>if j=s then 1/D.a r s else D.a r j/D.a r s)else exch (D.a r s) (D.a r) s (D.a i)
section
variable{D:Dic}{r s:Nat}{x:Nat->Rat}
theorem jq2(hs:s<D.n)(hp:D.a r s≠0):(D.pivot r s).row x r↔D.row x r:=by
 have e1:S D.n (fun j=>(D.pivot r s).a r j*x ((D.pivot r s).free j))=1/D.a r s*x (D.own r)+(1/D.a r s)*S D.n (fun j=>if j=s then 0 else D.a r j*x (D.free j)):=by
  rw[jfx hs,<-S_mul];congr 1
  ·simp[Dic.pivot]
  ·refine jdx fun j hj=> ?_;by_cases e:j=s
   ·simp[e]
   ·simp only[Dic.pivot,e,qp,qA];rw[Rat.div_def,Rat.div_def];grind
 have e2:S D.n (fun j=>D.a r j*x (D.free j))=D.a r s*x (D.free s)+S D.n (fun j=>if j=s then 0 else D.a r j*x (D.free j)):=jfx hs;unfold Dic.row;show x ((D.pivot r s).own r)+S D.n _=(D.pivot r s).v r↔_;rw[e1,e2];generalize S D.n (fun j=>if j=s then 0 else D.a r j*x (D.free j))=T;simp only[Dic.pivot,qA];generalize D.a r s=p at*;have a1:p*p⁻¹=1:=vQ p hp;rw[Rat.div_def,Rat.div_def];constructor
 ·intro h;have:=zS (p* ·) h;grind
 ·intro h;rw[<-h];grind
theorem js3(hs:s<D.n)(hp:D.a r s≠0)(hr:D.row x r)(c:Nat->Rat):
  S D.n (fun j=>c j*x (D.free j))=S D.n (fun j=>exch (D.a r s) (D.a r) s c j*x ((D.pivot r s).free j))+c s*(D.v r/D.a r s):=by
 have h1:S D.n (fun j=>c j*x (D.free j))=c s*x (D.free s)+S D.n (fun j=>if j=s then 0 else c j*x (D.free j)):=jfx hs;have h2:S D.n (fun j=>D.a r j*x (D.free j))=D.a r s*x (D.free s)+S D.n (fun j=>if j=s then 0 else D.a r j*x (D.free j)):=jfx hs;have h3:S D.n (fun j=>exch (D.a r s) (D.a r) s c j*x ((D.pivot r s).free j))=(0-c s*(1/D.a r s))*x (D.own r)+(S D.n (fun j=>if j=s then 0 else c j*x (D.free j))+(-(c s*(1/D.a r s)))*S D.n (fun j=>if j=s then 0 else D.a r j*x (D.free j))):=by
  rw[jfx hs,<-S_mul,<-S_add];congr 1
  ·simp[Dic.pivot,exch]
  ·refine jdx fun j hj=> ?_;by_cases e:j=s
   ·simp only[e,qA];grind
   ·simp only[Dic.pivot,exch,e,qp];rw[Rat.div_def,Rat.div_def];grind
 unfold Dic.row at hr;rw[h2]at hr;rw[h1,h3];generalize S D.n (fun j=>if j=s then 0 else c j*x (D.free j))=T1 at*;generalize S D.n (fun j=>if j=s then 0 else D.a r j*x (D.free j))=T2 at*;generalize D.a r s=p at*;have a1:p*p⁻¹=1:=vQ p hp;rw[<-hr,Rat.div_def,Rat.div_def];grind
theorem sat_pivot(hr:r<D.m)(hs:s<D.n)(hp:D.a r s≠0):(D.pivot r s).Sat x↔D.Sat x:=by
 have key:D.row x r->∀i,i≠r->((D.pivot r s).row x i↔D.row x i):=by
  intro h i hi;have:=js3 hs hp h (D.a i);unfold Dic.row;show x ((D.pivot r s).own i)+S D.n _=(D.pivot r s).v i↔_;rw[this];have e1:(D.pivot r s).a i=exch (D.a r s) (D.a r) s (D.a i):=by simp[Dic.pivot,hi]
  have e2:(D.pivot r s).own i=D.own i:=by simp[Dic.pivot,hi]
  have e3:(D.pivot r s).v i=D.v i-D.a i s*(D.v r/D.a r s):=by simp[Dic.pivot,hi]
  rw[e1,e2,e3];constructor<;>intro h<;>grind
 constructor
 ·intro h i hi;have h0:=(jq2 hs hp).1 (h r hr);by_cases e:i=r
  ·subst e;exact h0
  ·exact(key h0 i e).1 (h i hi)
 ·intro h i hi;by_cases e:i=r
  ·subst e;exact(jq2 hs hp).2 (h i hi)
  ·exact(key (h r hr) i e).2 (h i hi)
theorem lin_pivot(hr:r<D.m)(hs:s<D.n)(hp:D.a r s≠0)(h:D.Sat x):D.lin x=(D.pivot r s).lin x+D.g s*(D.v r/D.a r s):=
 js3 hs hp (h r hr) D.g
theorem jog(h:D.Ok)(hr:r<D.m)(hs:s<D.n):(D.pivot r s).Ok where
 own i i' hi hi' e:=by
  simp only[Dic.pivot]at e hi hi';split at e<;>split at e
  ·omega
  ·exact absurd e.symm (h.apart i' s hi' hs)
  ·exact absurd e (h.apart i s hi hs)
  ·exact h.own i i' hi hi' e
 free j j' hj hj' e:=by
  simp only[Dic.pivot]at e hj hj';split at e<;>split at e
  ·omega
  ·exact absurd e (h.apart r j' hr hj')
  ·exact absurd e.symm (h.apart r j hr hj)
  ·exact h.free j j' hj hj' e
 apart i j hi hj e:=by
  simp only[Dic.pivot]at e hi hj;split at e<;>split at e<;>rename_i h1 h2
  ·exact h.apart r s hr hs e.symm
  ·exact h2 (h.free s j hs hj e).symm
  ·exact h1 (h.own i r hi hr e)
  ·exact h.apart i j hi hj e
end
structure Eqv(D E:Dic):Prop where
 sat:∀x,D.Sat x↔E.Sat x
 lin:∃c,∀x,D.Sat x->D.lin x=E.lin x+c
theorem Eqv.refl(D:Dic):Eqv D D:=⟨fun _=>Iff.rfl,0,fun x _=>by grind⟩
theorem Eqv.symm{D E:Dic}(h:Eqv D E):Eqv E D:=by
 obtain⟨c,hc⟩:=h.lin;exact⟨fun x=>(h.sat x).symm,-c,fun x hx=>by have:=hc x ((h.sat x).2 hx);grind⟩
theorem Eqv.trans{D E F:Dic}(h:Eqv D E)(h':Eqv E F):Eqv D F:=by
 obtain⟨c,hc⟩:=h.lin;obtain⟨c',a1⟩:=h'.lin;exact⟨fun x=>(h.sat x).trans (h'.sat x),c+c',fun x hx=>by have:=hc x hx;have:=a1 x ((h.sat x).1 hx);grind⟩
theorem jm5{D:Dic}{r s:Nat}(hr:r<D.m)(hs:s<D.n)(hp:D.a r s≠0):Eqv D (D.pivot r s):=
 ⟨fun x=>(sat_pivot hr hs hp).symm,_,fun x hx=>lin_pivot hr hs hp hx⟩
def find(f:Nat->Nat)(k:Nat):Nat->Option Nat
 | 0=>none
 | m+1=>if f m=k then some m else find f k m
theorem find_some{f:Nat->Nat}{k i:Nat}:∀{m:Nat},find f k m=some i->i<m/\f i=k
 | m+1,h=>by
  unfold find at h;split at h
  ·cases h;exact⟨by omega,‹_›⟩
  ·have:=find_some h;exact⟨by omega,this.2⟩
theorem jm1{f:Nat->Nat}{k:Nat}:∀{m:Nat},find f k m=none->∀i,i<m->f i≠k
 | m+1,h,i,hi=>by
  unfold find at h;split at h
  ·cases h
  ·by_cases e:i=m
   ·subst e;assumption
   ·exact jm1 h i (by omega)
def Dic.pt(D:Dic)(k:Nat):Rat:=match find D.own k D.m with
 | some i=>D.v i
 | none=>0
def Dic.dir(D:Dic)(s:Nat)(k:Nat):Rat:=match find D.own k D.m with
 | some i=> -(D.a i s)
 | none=>if k=D.free s then 1 else 0
section
variable{D:Dic}
theorem jsb(h:D.Ok){i:Nat}(hi:i<D.m):D.pt (D.own i)=D.v i:=by
 unfold Dic.pt;cases e:find D.own (D.own i) D.m with
 | none=>exact absurd rfl (jm1 e i hi)
 | some i'=>
  obtain⟨h1,h2⟩:=find_some e;rw[h.own i' i h1 hi h2]
theorem jrd(h:D.Ok){j:Nat}(hj:j<D.n):D.pt (D.free j)=0:=by
 unfold Dic.pt;cases e:find D.own (D.free j) D.m with
 | none=>rfl
 | some i'=>
  obtain⟨h1,h2⟩:=find_some e;exact absurd h2 (h.apart i' j h1 hj)
theorem jre{k:Nat}(h:∀i,i<D.m->D.own i≠k):D.pt k=0:=by
 unfold Dic.pt;cases e:find D.own k D.m with
 | none=>rfl
 | some i'=>
  obtain⟨h1,h2⟩:=find_some e;exact absurd h2 (h i' h1)
theorem jh5(h:D.Ok):D.Sat D.pt:=by
 intro i hi;unfold Dic.row;rw[jsb h hi,jnt fun j hj=>by rw[jrd h hj];grind];grind
theorem pt_lin(h:D.Ok):D.lin D.pt=0:=jnt fun j hj=>by rw[jrd h hj];grind
theorem jmc(h:D.Ok){i s:Nat}(hi:i<D.m):D.dir s (D.own i)= -(D.a i s):=by
 unfold Dic.dir;cases e:find D.own (D.own i) D.m with
 | none=>exact absurd rfl (jm1 e i hi)
 | some i'=>
  obtain⟨h1,h2⟩:=find_some e;rw[h.own i' i h1 hi h2]
theorem jfn(h:D.Ok){j s:Nat}(hj:j<D.n)(hs:s<D.n):D.dir s (D.free j)=if j=s then 1 else 0:=by
 unfold Dic.dir;cases e:find D.own (D.free j) D.m with
 | none=>
  by_cases e':j=s
  ·subst e';simp
  ·simp only[e',qp];rw[zl fun h'=>e' (h.free j s hj hs h')]
 | some i'=>
  obtain⟨h1,h2⟩:=find_some e;exact absurd h2 (h.apart i' j h1 hj)
theorem jt9{k s:Nat}(h:∀i,i<D.m->D.own i≠k)(hk:k≠D.free s):D.dir s k=0:=by
 unfold Dic.dir;cases e:find D.own k D.m with
 | none=>simp[hk]
 | some i'=>
  obtain⟨h1,h2⟩:=find_some e;exact absurd h2 (h i' h1)
theorem dir_sum(h:D.Ok){s:Nat}(hs:s<D.n)(c:Nat->Rat):S D.n (fun j=>c j*D.dir s (D.free j))=c s:=by
 rw[S_one hs fun j hj e=>by rw[jfn h hj hs,zl e];grind];rw[jfn h hs hs,zh rfl];grind
theorem jjs(h:D.Ok){s:Nat}(hs:s<D.n){x:Nat->Rat}(hx:D.Sat x)(t:Rat):D.Sat (fun k=>x k+t*D.dir s k):=by
 intro i hi;have h1:=hx i hi;unfold Dic.row at h1⊢;show x (D.own i)+t*D.dir s (D.own i)+S D.n (fun j=>D.a i j*(x (D.free j)+t*D.dir s (D.free j)))=D.v i;rw[jmc h hi];have e:S D.n (fun j=>D.a i j*(x (D.free j)+t*D.dir s (D.free j)))=S D.n (fun j=>D.a i j*x (D.free j))+t*S D.n (fun j=>D.a i j*D.dir s (D.free j)):=by
  rw[<-S_mul,<-S_add];exact jdx fun j hj=>by grind
 rw[e,dir_sum h hs];grind
theorem jjq(x w:Nat->Rat)(t:Rat):D.lin (fun k=>x k+t*w k)=D.lin x+t*D.lin w:=by
 unfold Dic.lin;rw[<-S_mul,<-S_add];exact jdx fun j hj=>by grind
theorem jp0(h:D.Ok){s:Nat}(hs:s<D.n):D.lin (D.dir s)=D.g s:=dir_sum h hs D.g
end
end
section
theorem S_neg(f:Nat->Rat)(n:Nat):S n (fun j=> -f j)= -S n f:=by
 rw[show(fun j=> -f j)=fun j=>(-1)*f j from funext fun j=>by grind,S_mul];grind
inductive Enter(D:Dic)(K:Nat):Prop
 | first (s:Nat):s<D.n->D.free s=K->0<D.g s->(∀i,i<D.m->D.own i<K->0<=D.v i)->(∀j,j<D.n->D.free j<K->D.g j<=0)->Enter D K
 | second (r s:Nat):r<D.m->s<D.n->D.free s=K->D.own r<K->D.v r<0->D.a r s<0->(∀j,j<D.n->D.free j<K->0<=D.a r j)->Enter D K
inductive Leave(D:Dic)(K:Nat):Prop
 | first (r:Nat):r<D.m->D.own r=K->D.v r<0->(∀i,i<D.m->D.own i<K->0<=D.v i)->(∀j,j<D.n->D.free j<K->D.g j<=0)->Leave D K
 | second (r s:Nat):r<D.m->s<D.n->D.own r=K->D.free s<K->0<D.g s->0<D.a r s->(∀i,i<D.m->D.own i<K->D.a i s<=0)->Leave D K
section
variable{D E:Dic}{K:Nat}
theorem jh6(h:E.Ok)(hv:∀i,i<E.m->E.own i<K->0<=E.v i){k:Nat}(hk:k<K):0<=E.pt k:=by
 by_cases he:∃i,i<E.m/\E.own i=k
 ·obtain⟨i,hi,rfl⟩:=he;rw[jsb h hi];exact hv i hi hk
 ·rw[jre fun i hi e=>he ⟨i,hi,e⟩];grind
theorem jhx(h:E.Ok){s:Nat}(hs:s<E.n)(ha:∀i,i<E.m->E.own i<K->E.a i s<=0){k:Nat}(hk:k<K):0<=E.dir s k:=by
 by_cases he:∃i,i<E.m/\E.own i=k
 ·obtain⟨i,hi,rfl⟩:=he;rw[jmc h hi];have:=ha i hi hk;grind
 ·by_cases e:k=E.free s
  ·rw[e,jfn h hs hs,zh rfl];grind
  ·rw[jt9 (fun i hi e'=>he ⟨i,hi,e'⟩) e];grind
theorem jsj{a b:Rat}(ha:a<=0)(hb:0<=b):0<= -(a*b):=by
 have:=jf (a:= -a) (b:=b) (by grind) hb;grind
theorem jsi{a b:Rat}(ha:0<a)(hb:b<0):0< -(a*b):=by
 have:=Rat.mul_pos (a:=a) (b:= -b) ha (by grind);grind
theorem jsk{a b:Rat}(ha:a<0)(hb:b<0):0<a*b:=by
 have:=Rat.mul_pos (a:= -a) (b:= -b) (by grind) (by grind);grind
theorem contra(hD:D.Ok)(hE:E.Ok)(hq:Eqv D E)(a7:Enter D K)(a6:Leave E K)
  (h1:∀j,j<D.n->K<D.free j->∀i,i<E.m->E.own i≠D.free j) (h2:∀j,j<E.n->K<E.free j->∀i,i<D.m->D.own i≠E.free j):False:=by
 obtain⟨c,hc⟩:=hq.lin;cases a6 with
 | first r hr hK hv hvs hgs=>
  have xE:=jh5 hE;have xD:=(hq.sat _).2 xE;have a1:E.pt K=E.v r:=by rw[<-hK];exact jsb hE hr
  have big:∀j,j<D.n->K<D.free j->E.pt (D.free j)=0:=fun j hj hk=>jre (h1 j hj hk);cases a7 with
  | first s hs hKs hg hvs' hgs'=>
   have e1:=hc _ xD;have e2:=hc _ (jh5 hD);rw[pt_lin hE]at e1;rw[pt_lin hD]at e2;have p1:0< -D.lin E.pt:=by
    unfold Dic.lin;rw[<-S_neg];refine S_pos hs (fun j hj=> ?_) ?_
    ·rcases qS (D.free j) K with hk | hk | hk
     ·exact jsj (hgs' j hj hk) (jh6 hE hvs hk)
     ·have:j=s:=hD.free j s hj hs (hk.trans hKs.symm);subst this;rw[hk,a1];have:=jsi hg hv;grind
     ·rw[big j hj hk];grind
    ·rw[hKs,a1];exact jsi hg hv
   have p2:0<= -E.lin D.pt:=by
    unfold Dic.lin;rw[<-S_neg];refine jjb fun j hj=> ?_;rcases qS (E.free j) K with hk | hk | hk
    ·exact jsj (hgs j hj hk) (jh6 hD hvs' hk)
    ·exact absurd (hK.trans hk.symm) (hE.apart r j hr hj)
    ·rw[jre (h2 j hj hk)];grind
   grind
  | second p s hp hs hKs hpK hvp hap has=>
   have h3:=xD p hp;unfold Dic.row at h3;have p1:0<S D.n (fun j=>D.a p j*E.pt (D.free j)):=by
    refine S_pos hs (fun j hj=> ?_) ?_
    ·rcases qS (D.free j) K with hk | hk | hk
     ·exact jf (has j hj hk) (jh6 hE hvs hk)
     ·have:j=s:=hD.free j s hj hs (hk.trans hKs.symm);subst this;rw[hk,a1];have:=jsk hap hv;grind
     ·rw[big j hj hk];grind
    ·rw[hKs,a1];exact jsk hap hv
   have p2:=jh6 hE hvs hpK;grind
 | second r q hr hq' hK hqK hg ha has=>
  have xE:=jjs hE hq' (jh5 hE) 1;have xD:=(hq.sat _).2 xE;have yD:=(hq.sat _).2 (jh5 hE);have wK:E.dir q K= -(E.a r q):=by rw[<-hK];exact jmc hE hr
  have big:∀j,j<D.n->K<D.free j->E.dir q (D.free j)=0:=fun j hj hk=>jt9 (h1 j hj hk) (by omega);cases a7 with
  | first s hs hKs hgp hvs' hgs'=>
   have e1:=hc _ xD;have e2:=hc _ yD;rw[jjq,jjq,jp0 hE hq']at e1;have p1:0< -D.lin (E.dir q):=by
    unfold Dic.lin;rw[<-S_neg];refine S_pos hs (fun j hj=> ?_) ?_
    ·rcases qS (D.free j) K with hk | hk | hk
     ·exact jsj (hgs' j hj hk) (jhx hE hq' has hk)
     ·have:j=s:=hD.free j s hj hs (hk.trans hKs.symm);subst this;rw[hk,wK];have:=jsi hgp (b:= -(E.a r q)) (by grind);grind
     ·rw[big j hj hk];grind
    ·rw[hKs,wK];exact jsi hgp (by grind)
   grind
  | second p s hp hs hKs hpK hvp hap has'=>
   have h3:=xD p hp;have h4:=yD p hp;unfold Dic.row at h3 h4;have e:S D.n (fun j=>D.a p j*(E.pt (D.free j)+1*E.dir q (D.free j)))=S D.n (fun j=>D.a p j*E.pt (D.free j))+S D.n (fun j=>D.a p j*E.dir q (D.free j)):=by
    rw[<-S_add];exact jdx fun j hj=>by grind
   rw[e]at h3;have p1:0<S D.n (fun j=>D.a p j*E.dir q (D.free j)):=by
    refine S_pos hs (fun j hj=> ?_) ?_
    ·rcases qS (D.free j) K with hk | hk | hk
     ·exact jf (has' j hj hk) (jhx hE hq' has hk)
     ·have:j=s:=hD.free j s hj hs (hk.trans hKs.symm);subst this;rw[hk,wK];have:=jsk hap (b:= -(E.a r q)) (by grind);grind
     ·rw[big j hj hk];grind
    ·rw[hKs,wK];exact jsk hap (by grind)
   have p2:=jhx hE hq' has hpK;grind
end
structure Rule(D:Dic)(r s:Nat):Prop where
 hr:r<D.m
 hs:s<D.n
 sel:(D.v r<0/\(∀i,i<D.m->D.v i<0->D.own r<=D.own i)/\(∀j,j<D.n->0<D.g j->D.own r<D.free j)/\D.a r s<0/\∀j,j<D.n->D.a r j<0->D.free s<=D.free j)\/
  (0<D.g s/\(∀j,j<D.n->0<D.g j->D.free s<=D.free j)/\(∀i,i<D.m->D.v i<0->D.free s<D.own i)/\0<D.a r s/\∀i,i<D.m->0<D.a i s->D.own r<=D.own i)
section
variable{D:Dic}{r s K:Nat}
theorem Rule.ne(h:Rule D r s):D.a r s≠0:=by
 rcases h.sel with ⟨_,_,_,h1,_⟩ | ⟨_,_,_,h1,_⟩<;>grind
theorem jlf{a:Rat}(h:¬a<0):0<=a:=by grind
theorem jjp{a:Rat}(h:¬0<a):a<=0:=by grind
theorem Rule.enter(hD:D.Ok)(h:Rule D r s)(hK:D.free s=K)(hr:D.own r<=K):Enter D K:=by
 have a1:=hD.apart r s h.hr h.hs;rcases h.sel with ⟨h1,h2,h3,h4,h5⟩ | ⟨h1,h2,h3,h4,h5⟩
 ·exact .second r s h.hr h.hs hK (by omega) h1 h4 fun j hj hk=>jlf fun h6=>by have:=h5 j hj h6;omega
 ·exact .first s h.hs hK h1 (fun i hi hk=>jlf fun h6=>by have:=h3 i hi h6;omega) fun j hj hk=>jjp fun h6=>by have:=h2 j hj h6;omega
theorem Rule.leave(hD:D.Ok)(h:Rule D r s)(hK:D.own r=K)(hs:D.free s<=K):Leave D K:=by
 have a1:=hD.apart r s h.hr h.hs;rcases h.sel with ⟨h1,h2,h3,h4,h5⟩ | ⟨h1,h2,h3,h4,h5⟩
 ·exact .first r h.hr hK h1 (fun i hi hk=>jlf fun h6=>by have:=h2 i hi h6;omega) fun j hj hk=>jjp fun h6=>by have:=h3 j hj h6;omega
 ·exact .second r s h.hr h.hs hK (by omega) h1 h4 fun i hi hk=>jjp fun h6=>by have:=h5 i hi h6;omega
def Own(D:Dic)(k:Nat):Prop:=∃i,i<D.m/\D.own i=k
theorem jqb(hD:D.Ok)(hr:r<D.m)(hs:s<D.n){k:Nat}(h1:k≠D.own r)(h2:k≠D.free s):Own (D.pivot r s) k↔Own D k:=by
 constructor
 ·rintro⟨i,hi,e⟩;simp only[Dic.pivot]at hi e;split at e
  ·exact absurd e.symm h2
  ·exact⟨i,hi,e⟩
 ·rintro⟨i,hi,e⟩;have a1:i≠r:=fun h=>h1 (by rw[<-e,h]);exact⟨i,hi,by simp[Dic.pivot,a1,e]⟩
theorem own_in(hr:r<D.m):Own (D.pivot r s) (D.free s):=⟨r,hr,by simp[Dic.pivot]⟩
theorem own_out(hD:D.Ok)(hr:r<D.m)(hs:s<D.n):¬Own (D.pivot r s) (D.own r):=by
 rintro⟨i,hi,e⟩;simp only[Dic.pivot]at hi e;split at e
 ·exact hD.apart r s hr hs e.symm
 ·rename_i h;exact h (hD.own i r hi hr e)
end
structure Run(D:Nat->Dic)(r s:Nat->Nat)(T:Nat):Prop where
 ok:(D 0).Ok
 rule:∀t,t<T->Rule (D t) (r t) (s t)
 next:∀t,t<T->D (t+1)=(D t).pivot (r t) (s t)
section
variable{D:Nat->Dic}{r s:Nat->Nat}{T K:Nat}
theorem Run.oks(h:Run D r s T):∀t,t<=T->(D t).Ok
 | 0,_=>h.ok
 | t+1,ht=>by
  have h1:=h.rule t (by omega);rw[h.next t (by omega)];exact jog (h.oks t (by omega)) h1.hr h1.hs
theorem Run.eqv(h:Run D r s T):∀(k t:Nat),t+k<=T->Eqv (D t) (D (t+k))
 | 0,t,_=>Eqv.refl _
 | k+1,t,ht=>by
  have h1:=h.rule (t+k) (by omega);have h2:=jm5 h1.hr h1.hs h1.ne;rw[<-h.next (t+k) (by omega)]at h2;exact(h.eqv k t (by omega)).trans h2
theorem Run.own(h:Run D r s T){x:Nat}:∀(k t:Nat),t+k<=T->(∀u,t<=u->u<t+k->x≠(D u).own (r u)/\x≠(D u).free (s u))->(Own (D (t+k)) x↔Own (D t) x)
 | 0,t,_,_=>Iff.rfl
 | k+1,t,ht,hx=>by
  have h1:=h.rule (t+k) (by omega);have h2:=hx (t+k) (by omega) (by omega);have h3:=jqb (h.oks (t+k) (by omega)) h1.hr h1.hs h2.1 h2.2;rw[<-h.next (t+k) (by omega)]at h3;exact h3.trans (h.own k t (by omega) fun u hu a1=>hx u hu (by omega))
theorem Run.part(h:Run D r s T){a n:Nat}(ha:a+n<=T):Run (fun t=>D (a+t)) (fun t=>r (a+t)) (fun t=>s (a+t)) n:=
 ⟨h.oks a (by omega),fun t ht=>h.rule (a+t) (by omega),fun t ht=>h.next (a+t) (by omega)⟩
def Names(D:Nat->Dic)(r s:Nat->Nat)(K t:Nat):Prop:=(D t).own (r t)=K\/(D t).free (s t)=K
theorem least{p:Nat->Prop}:∀{n:Nat},p n->∃m,p m/\∀k,k<m->¬p k:=by
 intro n
 induction n using Nat.strongRecOn with
 | _ n ih=>
  intro h;by_cases he:∃m,m<n/\p m
  ·obtain⟨m,hm,hp⟩:=he;exact ih m hm hp
  ·exact⟨n,h,fun k hk hp=>he ⟨k,hk,hp⟩⟩
theorem Run.once(h:Run D r s T)(hK:∀t,t<T->(D t).own (r t)<=K/\(D t).free (s t)<=K){t1 t2:Nat}(b0:t1<t2)(h2:t2<T)(n1:Names D r s K t1)(n2:Names D r s K t2)(hb:∀t,t1<t->t<t2->¬Names D r s K t):False:=by
 have r1:=h.rule t1 (by omega);have r2:=h.rule t2 h2;have o1:=h.oks t1 (by omega);have o2:=h.oks t2 (by omega);have hq:Eqv (D t1) (D t2):=by
  have:=h.eqv (t2-t1) t1 (by omega)
  rwa [show t1+(t2-t1)=t2 by omega]at this
 have big:∀x,K<x->(Own (D t2) x↔Own (D t1) x):=fun x hx=>by
  have:=h.own (x:=x) (t2-t1) t1 (by omega) fun u hu a7=>by have:=hK u (by omega);omega
  rwa [show t1+(t2-t1)=t2 by omega]at this
 have a1:Own (D t2) K↔Own (D (t1+1)) K:=by
  have:=h.own (x:=K) (t2-(t1+1)) (t1+1) (by omega) fun u hu a7=>by
   have:=hb u (by omega) (by omega);exact⟨fun e=>this (.inl e.symm),fun e=>this (.inr e.symm)⟩
  rwa [show t1+1+(t2-(t1+1))=t2 by omega]at this
 have f1:∀j,j<(D t1).n->K<(D t1).free j->∀i,i<(D t2).m->(D t2).own i≠(D t1).free j:=fun j hj hk i hi e=>by
  obtain⟨i',a6,e'⟩:=(big _ hk).1 ⟨i,hi,e⟩;exact o1.apart i' j a6 hj e'
 have f2:∀j,j<(D t2).n->K<(D t2).free j->∀i,i<(D t1).m->(D t1).own i≠(D t2).free j:=fun j hj hk i hi e=>by
  obtain⟨i',a6,e'⟩:=(big _ hk).2 ⟨i,hi,e⟩;exact o2.apart i' j a6 hj e'
 rw[h.next t1 (by omega)]at a1;have k1:=hK t1 (by omega);have k2:=hK t2 h2;rcases n1 with n1 | n1
 ·
  have a8:¬Own (D t2) K:=fun ho=>own_out o1 r1.hr r1.hs (by rw[n1];exact a1.1 ho);rcases n2 with n2 | n2
  ·exact a8 ⟨_,r2.hr,n2⟩
  ·exact contra o2 o1 hq.symm (r2.enter o2 n2 k2.1) (r1.leave o1 n1 k1.2) f2 f1
 ·have ho:Own (D t2) K:=a1.2 (by rw[<-n1];exact own_in r1.hr);rcases n2 with n2 | n2
  ·exact contra o1 o2 hq (r1.enter o1 n1 k1.1) (r2.leave o2 n2 k2.2) f1 f2
  ·obtain⟨i,hi,e⟩:=ho;exact o2.apart i _ hi r2.hs (e.trans n2.symm)
end
theorem Run.ends:∀(K T:Nat) (D:Nat->Dic) (r s:Nat->Nat),Run D r s T->(∀t,t<T->(D t).own (r t)<K/\(D t).free (s t)<K)->T<2^K
 | 0,T,D,r,s,h,hK=>by
  rcases yM T with h0 | h0
  ·subst h0;decide
  ·have:=hK 0 h0;omega
 | K+1,T,D,r,s,h,hK=>by
  have h2:2^(K+1)=2^K+2^K:=by rw[Nat.pow_succ];omega
  by_cases he:∃t,t<T/\Names D r s K t
  ·obtain⟨t0,a8⟩:=he;obtain⟨t1,⟨b3,b0⟩,b2⟩:=least (p:=fun t=>t<T/\Names D r s K t) a8;have a1:=Run.ends K t1 D r s (by simpa using h.part (a:=0) (n:=t1) (by omega)) fun t ht=>by
    have g1:=hK t (by omega);have g2:=b2 t ht;have g3:¬Names D r s K t:=fun hn=>g2 ⟨by omega,hn⟩;unfold Names at g3;omega
   have a2:=Run.ends K (T-(t1+1)) _ _ _ (h.part (a:=t1+1) (n:=T-(t1+1)) (by omega)) fun t ht=>by
    have g1:=hK (t1+1+t) (by omega);have g3:¬Names D r s K (t1+1+t):=fun hn=>by
     obtain⟨t2,⟨a7,a6,hn2⟩,b1⟩:=least (p:=fun t=>t1<t/\t<T/\Names D r s K t) ⟨(by omega:t1<t1+1+t),by omega,hn⟩;exact h.once (fun t ht=>by have:=hK t ht;omega) a7 a6 b0 hn2 fun t g4 g5 g6=>b1 t g5 ⟨g4,by omega,g6⟩
    unfold Names at g3;omega
   omega
  ·have:=Run.ends K T D r s h fun t ht=>by
    have g1:=hK t ht;have g3:¬Names D r s K t:=fun hn=>he ⟨t,ht,hn⟩;unfold Names at g3;omega
   omega
