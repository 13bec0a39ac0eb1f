/- A part of the proof. No further condition. -/
import Derived.Test.YtfahloobpegieaaGreatKX33
import Derived.Test.YtfahloobpegieaaGreatKX22
import Derived.Test.YtfahloobpegieaaGreatKX25
set_option linter.all false
set_option maxRecDepth 100000
namespace Go.Proofs.YtfahloobpegieaaGreat
section
open Go.Abs
open Go.LP (Dic Rw RT Ov OvRw tsum Sol IsMin NoMin Bds)
theorem jfv{e e':Evid}(h:moveF e'=moveF e):∀(ms:List Move) (d:Int),jc2 e' d ms=jc2 e d ms
 | [],_=>rfl
 | m::r,d=>by rw[jc2,jc2,jfv h r,h]
theorem days_ge{e:Evid}:∀{ms:List Move} {d:Int},jc2 e d ms=0->∀m∈ms,d<=m.day
 | [],_,_,m,hm=>by cases hm
 | x::r,d,h,m,hm=>by
  rw[jc2]at h;split at h
  ·cases h
  ·split at h
   ·cases h
   ·split at h
    ·cases h
    ·rename_i h1 _ _;have h1:¬x.day<d:=fun hh=>h1 (decide_eq_true hh);rcases List.mem_cons.1 hm with rfl | hm
     ·omega
     ·have:=days_ge h m hm;omega
theorem jpc{e:Evid}:saidF e=true↔e.certs.all (certF e)=true/\e.recalls.all (jge e)=true/\e.purs.all (purF e)=true:=by
 simp only[saidF,Bool.and_eq_true,and_assoc]
theorem jo3{e:Evid}(h1:(pairs e).all fitP=true)(h2:1<=e.mats)(h3:0<=e.houses)(h4:0<=e.scales)(h5:e.places.all (jh9 e)=true)(h6:jc2 e 0 e.moves=0)(h7:saidF e=true):jbr e=0:=by
 unfold jbr;rw[if_neg (by rw[h1];simp),if_neg (by simp;omega),if_neg (by simp;omega),if_neg (by simp;omega),if_neg (by rw[h5];simp),if_neg (by simpa using h6),if_pos h7]
def evC(e:Evid)(C R P:List (List IV)):List IV:=[.int e.mats,.int e.houses,.int e.scales,.sl (e.places.map Place.c),.sl (e.moves.map Move.c),.sl C,.sl R,.sl P]
def bareE(e:Evid):Evid:={e with certs:=[]}
def allR(e:Evid):List Recall:=(List.range e.scales.toNat).map fun s:Nat=>⟨(s:Int),0⟩
def allE(e:Evid):Evid:={e with recalls:=allR e}
section
variable{e:Evid}{ps:List (Int×Int)}
theorem jli(h:jbr e=0):jbr (bareE e)=0:=by
 obtain⟨h1,h2,h3,h4,h5,h6,h7⟩:=jc6 h;refine jo3 ?_ h2 h3 h4 h5 ?_ ?_
 ·simp only[pairs,bareE,List.all_cons,List.all_nil,Bool.and_true,Bool.and_eq_true]at h1⊢;obtain⟨a1,a2,a3,a4,a5,a6,a7,a8⟩:=h1;exact⟨a1,a2,a3,a4,a5,by decide,a7,a8⟩
 ·rw[jfv (e:=e) (e':=bareE e) rfl];exact h6
 ·rw[jpc]at h7⊢;exact⟨rfl,h7.2.1,h7.2.2⟩
theorem check_all(h:jbr e=0)(hs:e.scales<=6):jbr (allE e)=0:=by
 obtain⟨h1,h2,h3,h4,h5,h6,h7⟩:=jc6 h;refine jo3 ?_ h2 h3 h4 h5 ?_ ?_
 ·simp only[pairs,allE,List.all_cons,List.all_nil,Bool.and_true,Bool.and_eq_true]at h1⊢;obtain⟨a1,a2,a3,a4,a5,a6,a7,a8⟩:=h1;refine⟨a1,a2,a3,a4,a5,a6,?_,a8⟩;simp only[fitP,allR,List.length_map,List.length_range,Bool.not_eq_true',decide_eq_false_iff_not];omega
 ·rw[jfv (e:=e) (e':=allE e) rfl];exact h6
 ·rw[jpc]at h7⊢;refine⟨h7.1,?_,h7.2.2⟩;rw[List.all_eq_true];intro r hr;obtain⟨s,hs',rfl⟩:=List.mem_map.1 hr;have hsl:=List.mem_range.1 hs';have h4':0<=e.scales:=h4;simp only[jge,allE,Bool.and_eq_true,idx_iff,btw_iff];omega
theorem rows_bare_all(h:jbr e=0):∀w,w∈rowsE (bareE e)↔w∈rowsE (allE e):=by
 obtain⟨_,_,_,_,_,h6,_⟩:=jc6 h;refine rows_congr rfl rfl rfl rfl fun x hx hsc=> ?_;have hm:=jmq h6 x hx;have hday:=days_ge h6 x hx;rw[show ivlF (bareE e).certs (bareE e).recalls x.scale x.reading x.day=none from jma fun c hc=>by cases hc];simp only[moveF,Bool.and_eq_true]at hm;have hm:=hm.2;rw[if_neg hsc,Bool.and_eq_true,idx_iff]at hm;unfold ivlF;split
 ·rfl
 ·rw[if_pos];rw[List.any_eq_true];refine⟨⟨((x.scale.toNat:Nat):Int),0⟩,List.mem_map.2 ⟨x.scale.toNat,List.mem_range.2 (by omega),rfl⟩,?_⟩;simp only[recF,Bool.and_eq_true,decide_eq_true_eq];omega
theorem rows_bare(e:Evid):∀w∈rowsE (bareE e),w∈rowsE e:=
 jgx rfl rfl rfl (fun M k x hx=>jfr (.inl (jma fun c hc=>by cases hc))) fun q hq=>hq
theorem okP_to{e':Evid}(h:okP e ps=true)(hc:jbr e'=0)(h1:e'.mats=e.mats)(h2:e'.moves=e.moves):okP e' ps=true:=by
 obtain⟨_,g2,g3⟩:=okP_iff.1 h;refine okP_iff.2 ⟨hc,fun p hp=> ?_,by rw[h1];exact g3⟩;have:=g2 p hp;unfold jdw at this⊢;rw[h1,h2];exact this
theorem wgt_to{e':Evid}(h1:e'.mats=e.mats):wgt e' ps=wgt e ps:=by unfold wgt;rw[h1]
theorem nV_to{e':Evid}(h1:e'.mats=e.mats)(h2:e'.moves=e.moves):nV e'=nV e:=by unfold nV;rw[h1,h2]
theorem BSay.wider{e':Evid}{b b':Option (Rat×Option Rat)}{lo':Rat}{hi':Option Rat}(h:BSay e ps b)(h':BSay e' ps b')(hb':b'=Option.some (lo',hi'))(hc:jbr e=0)(h1:e'.mats=e.mats)(h2:e'.moves=e.moves)
  (hr:∀w∈rowsE e,w∈rowsE e'):∃lo hi,b=Option.some (lo,hi)/\lo<=lo'/\(∀w,hi=Option.some w->∃w',hi'=Option.some w'/\w'<=w)/\FL 4000000000 lo/\(∀w,hi=Option.some w->FL 4000000000 w)/\FL 4000000000 lo'/\(∀w,hi'=Option.some w->FL 4000000000 w):=by
 subst hb';obtain⟨g1,g2,g3,g4⟩:=h'.inv;rw[wgt_to h1,nV_to h1 h2]at g2;obtain⟨x,hx,_⟩:=g2.low_at;obtain⟨lo,hi,rfl,q2,q3,q4⟩:=h.get (okP_to g1 hc h1.symm h2.symm) ⟨x,hx.sub hr⟩;obtain⟨a1,a2⟩:=q2.sub g2 hr;exact⟨lo,hi,rfl,a1,a2,q3,q4,g3,g4⟩
theorem BSay.same{e':Evid}{b b':Option (Rat×Option Rat)}(h:BSay e ps b)(h':BSay e' ps b')(hc:jbr e=0)(hc':jbr e'=0)(h1:e'.mats=e.mats)(h2:e'.moves=e.moves)(hr:∀w,w∈rowsE e↔w∈rowsE e'):b=b':=by
 cases b' with
 | none=>
  cases b with
  | none=>rfl
  | some p=>
   obtain⟨lo,hi⟩:=p;obtain⟨_,_,e1,_⟩:=h'.wider h rfl hc' h1.symm h2.symm fun w hw=>(hr w).2 hw;cases e1
 | some p=>
  obtain⟨lo,hi⟩:=p;obtain⟨lo2,hi2,rfl,_⟩:=h.wider h' rfl hc h1 h2 fun w hw=>(hr w).1 hw;obtain⟨_,g2,_⟩:=h.inv;obtain⟨_,g2',_⟩:=h'.inv;rw[wgt_to h1,nV_to h1 h2]at g2';obtain⟨e1,e2⟩:=g2.uniq g2' hr;rw[e1,e2]
end
end
end Go.Proofs.YtfahloobpegieaaGreat
namespace Go.Abs
section
open Go.RowKit (Below)
section
variable{G:Ctx}
def LeW(s:St)[S:Hold St]:Prop:=St.Le s S.val
theorem jmy{ops:List Oper}{Q:Exit->St->Prop}{st:St}(S:St)(h1: @DrawP G ⟨ops⟩ ⟨fun _ s=> @LeW s ⟨S⟩⟩ st)(h2:Q .normal S): @DrawP G ⟨ops⟩ ⟨Q⟩ st:=
 fun N w0 M0 β a w id Q' hG hd hK hsim=>h1 N w0 M0 β a w id Q' hG hd (fun st' β' a' w' (hle:St.Le st' S) hs=>let⟨β2,h3⟩:=hle N w0 M0 β' a' w' hs;hK S β2 a' w' h2 h3) hsim
end
def emp1:IV->IV
 | .emp=> .sl []
 | x=>x
def emp2:IV->IV
 | .agg cs=> .agg (cs.map emp1)
 | x=>emp1 x
theorem emp1_one(x:IV):(emp1 x).one=x.one:=by cases x<;>rfl
theorem jpd{w:World}{M:Nat->Nat->Prop}{x:IV}{v:Value}(h:Rep w M x v):Rep w M (emp1 x) v:=by
 cases x with
 | emp=>cases h with | emp a=>exact Rep.nil a 0
 | _=>exact h
theorem rep_emp2{w:World}{M:Nat->Nat->Prop}{x:IV}{v:Value}(h:Rep w M x v):Rep w M (emp2 x) v:=by
 cases x with
 | emp=>exact jpd h
 | agg cs=>
  cases h with
  | agg _ vs h1 h2 h3=>
   refine Rep.agg _ vs (by rw[List.length_map];exact h1) (fun y hy=> ?_) fun k y u hk hu=> ?_
   ·obtain⟨z,hz,rfl⟩:=List.mem_map.1 hy;rw[emp1_one];exact h2 z hz
   ·rw[List.getElem?_map]at hk;obtain⟨z,hz,rfl⟩:=Option.map_eq_some_iff.1 hk;exact jpd (h3 k z u hz hu)
 | _=>exact h
theorem jj9{P:Program}{f:FuncId}{ys:List IV}{φ:IV->Prop}(h:Ctr P f ys φ)(xs:List IV)(bs:List Nat)(L:Rows)(hx:xs.map (fun x=>emp2 (frzL bs x L))=ys):CtrH P f (xs.map AV.im) L (fun r L'=>∃y,r= .im y/\φ y/\L'=[]):=by
 intro w M vs hM hrows hlen hargs;subst hx;have hrep:RepL w M (xs.map (fun x=>emp2 (frzL bs x L))) vs:=by
  refine⟨by rw[List.length_map]at hlen⊢;exact hlen.symm,fun i y v hy hv=> ?_⟩;rw[List.getElem?_map]at hy;obtain⟨x,hxi,rfl⟩:=Option.map_eq_some_iff.1 hy;have h1:Rep w (MoH M L) x v:=hargs i (.im x) v (by rw[List.getElem?_map,hxi];rfl) hv;exact rep_emp2 (jj6 bs x L hrows h1)
 refine(h w M vs hM hrep).mono ?_;rintro e w' ⟨r,v,hφ,he,hr,hb⟩;refine⟨.im r,v,[],⟨r,rfl,hφ,rfl⟩,he,rfl,⟨hb.os,hb.tape,hb.output,hb.size,fun k hk=>hb.block k hk.1,Shp.of hb⟩,(fun k s es hk=>by cases hk),?_⟩;exact hr.kept (Kept.less w' fun b o h=>h.elim id fun h=>by cases h)
section
variable{G:Ctx}{N:Nat}{w0:Base}{w:World}{M0:Nat->Nat->Prop}{β:Nat->Option Nat}{st:St}{a:Act}
theorem Sim.rowsTo(h:Sim N w0 M0 β st a w)(R:Rows)(hk:∀k,(look R k).isSome=(look st.rows k).isSome)
  (hr:∀k s es,look R k=some (s,es)->∀b,β k=some b->RowRep w (Mo M0 β st) b s es):Sim N w0 M0 β ⟨st.fr,R,st.toks⟩ a w:=by
 have key:∀k,(∃s es,look R k=some (s,es))↔∃s es,look st.rows k=some (s,es):=fun k=>by
  have:=hk k;cases h1:look R k with
  | none=>cases h2:look st.rows k with
   | none=>simp
   | some q=>simp[h1,h2]at this
  | some p=>cases h2:look st.rows k with
   | none=>simp[h1,h2]at this
   | some q=>exact⟨fun _=>⟨q.1,q.2,rfl⟩,fun _=>⟨p.1,p.2,rfl⟩⟩
 have hless:∀b o,Mo M0 β ⟨st.fr,R,st.toks⟩ b o->Mo M0 β st b o:=fun b o hm=>by
  rcases hm with hm | ⟨k,s,es,hk',hb⟩ | hm
  ·exact .inl hm
  ·obtain⟨s2,es2,h2⟩:=(key k).1 ⟨s,es,hk'⟩;exact .inr (.inl ⟨k,s2,es2,h2,hb⟩)
  ·exact .inr (.inr hm)
 have hkp:=Kept.less w hless;refine⟨h.size,h.defers,h.below,h.m0,fun t=> ?_,fun k s es hk'=> ?_,h.toks,fun k k' b h1 h2=> ?_,fun k hk'=> ?_,fun k hN hN' hk'=> ?_,h.np,h.perm⟩
 ·exact(h.fr t).move (β':=β) (toks':=st.toks) hkp (fun _ _=>rfl) (fun _ _ _ _ hl=>hl) (fun _ _ _ _ _=>rfl) (Shp.refl _)
 ·obtain⟨s2,es2,h2⟩:=(key k).1 ⟨s,es,hk'⟩;obtain⟨b,g1,g2,_⟩:=h.rows k s2 es2 h2;exact⟨b,g1,g2,(hr k s es hk' b g1).move hkp rfl⟩
 ·exact h.inj k k' b (by simpa [hk]using h1) (by simpa [hk]using h2)
 ·exact h.excl k (by rw[<-hk];exact hk')
 ·exact h.nam k hN hN' (by rw[<-hk];exact hk')
def frzC(b s:Nat)(es:List (List IV))(c:List IV):List IV:=c.map (frz1 b s es)
def St.frzR(st:St)(b:Nat):St:=
 match look st.rows (hp b)with
 | some (s,es)=>⟨(st.frz b).fr,(st.frz b).rows.map fun p=>(p.1,p.2.1,p.2.2.map (frzC b s es)),(st.frz b).toks⟩
 | none=>st
theorem Sim.frzR(h:Sim N w0 M0 β st a w)(b:Nat):Sim N w0 M0 β (st.frzR b) a w:=by
 unfold St.frzR;split
 case h_2=>exact h
 case h_1 s es hd=>
  have h1:=h.frz b;obtain⟨b',hb',hb0,hrow⟩:=h.rows _ s es hd;rw[h.perm]at hb';cases hb';have htok:look st.toks (hp b)=none:=h.excl _ (jbw hd);have e0:st.frz b=⟨st.fr.map fun p=>(p.1,p.2.frz b s es),del st.rows (hp b),st.toks⟩:=by unfold St.frz;rw[hd]
  have hless:∀b' o,Mo M0 β (st.frz b) b' o->Mo M0 β st b' o:=fun b' o hm=>by rw[e0]at hm;exact jlr hm
  have hnm:∀o,¬Mo M0 β (st.frz b) b o:=by
   rw[e0];rintro o (hm | ⟨k,s',es',hk',hkb⟩ | ⟨k,s',n,hk',hkb,_⟩)
   ·exact hb0 (h.m0 b o hm)
   ·by_cases e:k=hp b
    ·subst e;simp[ja8]at hk'
    ·exact e (h.inj k (hp b) b (.inl (by simp only[ja5 _ e]at hk';simp[hk'])) (.inl (by simp[hd])) hkb (h.perm b))
   ·have:=h.inj k (hp b) b (.inr (by simp only at hk';simp[hk'])) (.inl (by simp[hd])) hkb (h.perm b);subst this;simp only at hk';rw[htok]at hk';cases hk'
  have hrow':=hrow.move (Kept.less w hless) rfl;have hlk:∀k,look ((st.frz b).rows.map fun p=>(p.1,p.2.1,p.2.2.map (frzC b s es))) k=(look (st.frz b).rows k).map fun q:Nat×List (List IV)=>(q.1,q.2.map (frzC b s es)):=fun k=>jfw _ (fun q:Nat×List (List IV)=>(q.1,q.2.map (frzC b s es))) k;refine h1.rowsTo _ (fun k=>by rw[hlk];cases look (st.frz b).rows k<;>rfl) fun k s2 es2 hk b2 hb2=> ?_;rw[hlk]at hk;obtain⟨⟨s3,es3⟩,g1,g2⟩:=Option.map_eq_some_iff.1 hk;cases g2;obtain⟨b3,q1,_,cur,T,q2,q3,q4⟩:=h1.rows k s3 es3 g1;rw[hb2]at q1;cases q1;refine⟨cur,T,q2,fun c hc=> ?_,fun i c j y hi hj=> ?_⟩
  ·obtain⟨c0,hc0,rfl⟩:=List.mem_map.1 hc;unfold frzC;rw[List.length_map];exact q3 c0 hc0
  ·rw[List.getElem?_map]at hi;obtain⟨c0,hc0,rfl⟩:=Option.map_eq_some_iff.1 hi;unfold frzC at hj;rw[List.getElem?_map]at hj;obtain⟨y0,hy0,rfl⟩:=Option.map_eq_some_iff.1 hj;obtain⟨o1,u,o2,o3⟩:=q4 i c0 j y0 hc0 hy0;exact⟨by rw[jq1];exact o1,u,o2,jmd hrow' hnm o3⟩
theorem Sim.frzRs(h:Sim N w0 M0 β st a w)(bs:List Nat):Sim N w0 M0 β (bs.foldl St.frzR st) a w:=by
 induction bs generalizing st with
 | nil=>exact h
 | cons b bs ih=>exact ih (h.frzR b)
theorem jh6{s S:St}(bs:List Nat)(L:List Nat)(hf:L.map (fun t=>(t,(bs.foldl St.frzR s).get t))=S.fr)(hr:SubR S.rows (bs.foldl St.frzR s).rows)(ht:S.toks=[]): @LeW s ⟨S⟩:=
 St.Le.trans (fun N w0 M0 β a w h=>⟨β,h.frzRs bs⟩) (St.sub_of L hf hr ht).le
end
section
variable{G:Ctx}
theorem Two_share{c:Bool}{A B C:Prop}(hA:C->c=true->A)(hB:C->c=false->B)(hC:C): @Two c ⟨A⟩ ⟨B⟩:=⟨hA hC,hB hC⟩
theorem LoopP_le{c:Code}{Q:Exit->St->Prop}{st S:St}(h: @LoopP G ⟨c⟩ ⟨Q⟩ S)(hle:St.Le st S): @LoopP G ⟨c⟩ ⟨Q⟩ st:=by
 obtain⟨I,n,⟨s0,h1,h2⟩,h3⟩:=h;exact⟨I,n,⟨s0,hle.trans h1,h2⟩,h3⟩
theorem jcu{c:Code}{Q:Exit->St->Prop}{st:St}(S:St)(h: @LoopP G ⟨c⟩ ⟨Q⟩ S)(L:List Nat)(hf:L.map (fun t=>(t,st.get t))=S.fr)(hr:SubR S.rows st.rows)(ht:S.toks=[]): @LoopP G ⟨c⟩ ⟨Q⟩ st:=LoopP_le h (St.sub_of L hf hr ht).le
end
def tailN:Nat->Code->Code
 | 0,c=>c
 | n+1,.seq _ y=>tailN n y
 | _+1,c=>c
def putN:Nat->Code->Code->Code
 | 0,_,y=>y
 | n+1,.seq x c,y=> .seq x (putN n c y)
 | _+1,c,_=>c
theorem jm1:∀(k:Nat) (c:Code),putN k c (tailN k c)=c
 | 0,c=>rfl
 | k+1,c=>by
  cases c with
  | seq x y=>exact congrArg (Code.seq x) (jm1 k y)
  | _=>rfl
theorem jjj:∀(j k:Nat) (c:Code),tailN k (tailN j c)=tailN (j+k) c
 | 0,k,c=>by rw[Nat.zero_add];rfl
 | j+1,k,c=>by
  cases c with
  | seq x y=>rw[show j+1+k=(j+k)+1 by omega];exact jjj j k y
  | _=>cases k<;>first | rfl | (rw[show j+1+(_+1)=(j+_+1)+1 by omega];rfl)
def jga(fn:Func):Code:=match fn.body with
 | some c=>c
 | none=> .skip
section
variable{G:Ctx}
def postF(G:Ctx)(rs:List ResultVar)(φ:IV->Prop):Exit->St->Prop
 | .normal,st=> @RetF G rs st ⟨φ⟩
 | .ret,st=> @RetF G rs st ⟨φ⟩
 | _,_=>False
theorem postF_normal{rs:List ResultVar}{φ:IV->Prop}{st:St}:postF G rs φ .normal st= @RetF G rs st ⟨φ⟩:=propext ⟨fun h=>h,fun h=>h⟩
theorem postF_ret{rs:List ResultVar}{φ:IV->Prop}{st:St}:postF G rs φ .ret st= @RetF G rs st ⟨φ⟩:=propext ⟨fun h=>h,fun h=>h⟩
theorem tail_go{fn:Func}{c:Code}(hb:fn.body=some c){k:Nat}{Q:Exit->St->Prop}{st:St}(h:awp G (tailN k c) Q st):awp G (tailN k (jga fn)) Q st:=by
 unfold jga;rw[hb];exact h
theorem jg7{fn:Func}{c:Code}(hb:fn.body=some c){k j:Nat}{y:Code}{Q:Exit->St->Prop}{st:St}(h:awp G (putN k (tailN j c) y) Q st):awp G (putN k (tailN j (jga fn)) y) Q st:=by
 unfold jga;rw[hb];exact h
theorem jj5{c:Code}{k j:Nat}{Q:Exit->St->Prop}{st S:St}(h1:∀y,awp G y Q S->awp G (putN k (tailN j c) y) Q st)(h2:awp G (tailN (j+k) c) Q S):awp G (tailN j c) Q st:=by
 have:=h1 (tailN k (tailN j c)) (by rw[jjj];exact h2);rw[jm1]at this;exact this
theorem ctrf_go2(hG:G.Good){f:FuncId}{args:List IV}{φ:IV->Prop}(fn:Func)(c:Code)(rs:List ResultVar)(hf:G.P.funcs[f]? =some fn)(hb:fn.body=some c)(hr:fn.results.toList=rs)(hd:dstC fn.ntmps c=true)
  (hn:Nat.ble args.length fn.ntmps=true) (h:awp G c (postF G rs φ) (jdb args)):Ctr G.P f args φ:=by
 refine ctrf_go hG fn c rs hf hb hr hd hn ?_
 suffices H:∀Q:Exit->St->Prop,(∀x st,Q x st=postF G rs φ x st)->awp G c Q (jdb args)from H _ fun x st=>by cases x<;>rfl
 intro Q hQ;rw[show Q=postF G rs φ from funext fun x=>funext fun st=>hQ x st];exact h
theorem ctrf_seg(hG:G.Good){f:FuncId}{args:List IV}{φ:IV->Prop}(fn:Func)(c:Code)(rs:List ResultVar)(hf:G.P.funcs[f]? =some fn)(hb:fn.body=some c)(hr:fn.results.toList=rs)(hd:dstC fn.ntmps c=true)
  (hn:Nat.ble args.length fn.ntmps=true) (h:awp G (tailN 0 (jga fn)) (postF G rs φ) (jdb args)):Ctr G.P f args φ:=by
 refine ctrf_go2 hG fn c rs hf hb hr hd hn ?_;unfold jga at h;rw[hb]at h;exact h
end
attribute [go_sem] St.frzR frzC tailN putN postF_normal postF_ret
end
end Go.Abs
namespace Go.Proofs.YtfahloobpegieaaGreat
section
open Go.Abs
open Go.LP (Dic Rw RT Ov OvRw tsum Sol IsMin NoMin Bds)
attribute [local go_sem] ints ic big frac fc zc Evid.c Evid.iv Purity.c Cert.c Recall.c evC
set_option maxRecDepth 2000000 in
set_option maxHeartbeats 16000000 in
theorem n_A(e:Evid)(ps:List (Int×Int))(p:Purity)(c:Cert)(x:Recall)(hf:few17 e ps.length 4=true)(d1:decide (2<(e.purs.length:Int))=false)(d2:decide (9<(e.certs.length:Int))=false)(d3:decide (3<(e.recalls.length:Int))=false)(hc:jbr e=0){Q:Exit->St->Prop}(y:Code)(hy:awp (GH [65,68,74,77,83,86,187] [999999]) y Q ⟨[(1,.im (.sl (ps.map pickC))),(5,.loc 5 8 0 0),(8,.loc 8 6 0 0),(9,.loc 9 2 0 0),(11,.im (.bool true)),(12,.loc 12 8 0 0)],[(12,8,[evC e (e.certs.map Cert.c) (e.recalls.map Recall.c) ((e.purs++[p]).map Purity.c)]),(9,2,[x.c]),(8,6,[c.c]),(7,4,[p.c]),(5,8,[e.c])],[]⟩):awp (GH [65,68,74,77,83,86,187] [999999]) (putN 5 (tailN 0 (jga Tryz.f3)) y) Q (jdb [e.iv,.sl (ps.map pickC),.agg p.c,.agg c.c,.agg x.c]):=by
 have hpb:∀q k:Nat,q<100000->(q !=hp k)=true:=fun q k hq=>by simp only[bne_iff_ne,ne_eq];exact hp_ne hq
 have k0:=w_small;have kF:=jp9 e (ps.map pickC) 4;rw[List.length_map,hf]at kF;have kck:=c21 e;rw[hc]at kck;have lp:=of_decide_eq_false d1;unfold zo at kF;refine jg7 rfl ?_;simp only[go_sem];refine ja1 k0 (by decide) ?_;simp only[go_sem];refine jcc (jj9 kF [.agg e.c,.sl (ps.map pickC),.agg [.int 0,.int 0,.emp,.int 0,.emp,.emp,.emp,.emp,.int 0,.int 0,.emp,.int 0,.emp,.emp,.emp,.emp],.int 4,.int 2] [] [] rfl) (by decide) rfl jbl jbp ?_;rintro _ L1 ⟨_,rfl,rfl,rfl⟩ _;refine⟨[(9,2,[x.c]),(8,6,[c.c]),(7,4,[p.c]),(5,8,[e.c])],fun k y hk=> .inr ⟨rfl,hk⟩,?_⟩;simp only[d1,d2,d3,List.length_map,go_sem];refine ja1 kck (by decide) ?_;simp only[go_sem];refine jmy ⟨[(1,.im (.sl (ps.map pickC))),(5,.loc 5 8 0 0),(8,.loc 8 6 0 0),(9,.loc 9 2 0 0),(11,.im (.bool true)),(12,.loc 12 8 0 0)],[(12,8,[evC e (e.certs.map Cert.c) (e.recalls.map Recall.c) ((e.purs++[p]).map Purity.c)]),(9,2,[x.c]),(8,6,[c.c]),(7,4,[p.c]),(5,8,[e.c])],[]⟩ ?_ ?_
 ·rcases hpl:e.purs.map Purity.c with _ | ⟨y0,yr⟩
  ·have hS:(e.purs++[p]).map Purity.c=[p.c]:=by rw[List.map_append,hpl];rfl
   refine jbg [false,false,false,true,false,false,true,false] [(7,4,[p.c]),(5,8,[evC e (e.certs.map Cert.c) (e.recalls.map Recall.c) []])] (by decide+kernel) (ja3 rfl (ja3 rfl (ja3 rfl (ja6 _ (SubR.refl _))))) ?_;simp only[hpl,go_sem];refine And.intro (ja3 rfl (ja3 rfl (ja3 rfl (ja6 _ (SubR.refl _))))) (And.intro (fun c' hc'=>by rw[List.mem_singleton.1 hc'];rfl) ?_);refine jdj (fun X hX=> ?_);clear hX;refine And.intro (ja3 (by dsimp only;rw[ja0 _ _ (hp_ne (by decide)).symm,ja0 _ _ (hp_ne (by decide)).symm];rfl) (ja3 rfl (ja3 rfl (ja3 rfl (ja6 _ (SubR.refl _)))))) ?_;simp only[go_sem];refine jh6 [X] [1,5,8,9,11,12] ?_ (SubR.of_eq ?_) rfl
   ·simp only[hpb,hpl,hS,go_sem]
   ·simp only[hpb,hpl,hS,go_sem]
  ·have hS:(e.purs++[p]).map Purity.c=y0::(yr++[p.c]):=by rw[List.map_append,hpl];rfl
   have hlen:yr.length+1=e.purs.length:=by rw[<-List.length_map (f:=Purity.c),hpl];rfl
   have hy4:∀c'∈y0::yr,c'.length=4:=fun c' hc'=>by
    rw[<-hpl]at hc';obtain⟨z,_,rfl⟩:=List.mem_map.1 hc';rfl
   have htk:List.take yr.length yr=yr:=List.take_length;have htk2:List.take (yr.length+1) (yr++[p.c])=yr++[p.c]:=List.take_of_length_le (by rw[List.length_append];exact Nat.le_refl _);have hle2:yr.length+1<=(yr++[p.c]).length:=by rw[List.length_append];exact Nat.le_refl _
   simp only[Purity.c]at htk2 hle2 hS;refine jbg [false,false,false,true,false,false,true,false] [(7,4,[p.c]),(5,8,[evC e (e.certs.map Cert.c) (e.recalls.map Recall.c) (y0::yr)])] (by decide+kernel) (ja3 rfl (ja3 rfl (ja3 rfl (ja6 _ (SubR.refl _))))) ?_;simp only[hpl,go_sem];refine And.intro hy4 (And.intro (by omega) ?_);refine jdj (fun X hX=> ?_);clear hX;refine And.intro (ja3 (by dsimp only;rw[ja0 _ _ (hp_ne (by decide)).symm,ja0 _ _ (hp_ne (by decide)).symm];rfl) (ja3 rfl (ja3 rfl (ja3 rfl (ja6 _ (SubR.refl _)))))) ?_;simp only[htk,go_sem];refine And.intro (fun c' hc'=>by rw[List.mem_singleton.1 hc'];rfl) (And.intro (Nat.le_refl _) (And.intro (by omega) ?_));refine jde (fun X' hX'=> ?_);clear hX';refine And.intro ?_ ?_
   ·simp only[hpb,go_sem];exact ja3 (by dsimp only;rw[ja0 _ _ (hp_ne (by decide)).symm,ja0 _ _ (hp_ne (by decide)).symm];rfl) (ja3 rfl (ja3 rfl (ja3 rfl (ja6 _ (SubR.refl _)))))
   simp only[hpb,go_sem];refine jh6 [X'] [1,5,8,9,11,12] ?_ (SubR.of_eq ?_) rfl
   ·simp only[hpb,hpl,hS,htk2,hle2,go_sem]
   ·simp only[hpb,hpl,hS,htk2,hle2,go_sem]
 ·simp only[go_sem];exact hy
end
section
open Go.Abs
open Go.LP (Dic Rw RT Ov OvRw tsum Sol IsMin NoMin Bds)
attribute [local go_sem] ints ic big frac fc zc Evid.c Evid.iv Purity.c Cert.c Recall.c evC
set_option maxRecDepth 2000000 in
set_option maxHeartbeats 16000000 in
theorem n_B(e:Evid)(ps:List (Int×Int))(p:Purity)(c:Cert)(x:Recall)(lc:¬9<(e.certs.length:Int)){Q:Exit->St->Prop}(y:Code)(hy:awp (GH [65,68,74,77,83,86,187] [999999]) y Q ⟨[(1,.im (.sl (ps.map pickC))),(5,.loc 5 8 0 0),(8,.loc 8 6 0 0),(9,.loc 9 2 0 0),(11,.im (.bool true)),(12,.loc 12 8 0 0),(13,.loc 13 8 0 0)],[(13,8,[evC e ((e.certs++[c]).map Cert.c) (e.recalls.map Recall.c) (e.purs.map Purity.c)]),(12,8,[evC e (e.certs.map Cert.c) (e.recalls.map Recall.c) ((e.purs++[p]).map Purity.c)]),(9,2,[x.c]),(8,6,[c.c]),(7,4,[p.c]),(5,8,[e.c])],[]⟩):awp (GH [65,68,74,77,83,86,187] [999999]) (putN 2 (tailN 5 (jga Tryz.f3)) y) Q ⟨[(1,.im (.sl (ps.map pickC))),(5,.loc 5 8 0 0),(8,.loc 8 6 0 0),(9,.loc 9 2 0 0),(11,.im (.bool true)),(12,.loc 12 8 0 0)],[(12,8,[evC e (e.certs.map Cert.c) (e.recalls.map Recall.c) ((e.purs++[p]).map Purity.c)]),(9,2,[x.c]),(8,6,[c.c]),(7,4,[p.c]),(5,8,[e.c])],[]⟩:=by
 have hpb:∀q k:Nat,q<100000->(q !=hp k)=true:=fun q k hq=>by simp only[bne_iff_ne,ne_eq];exact hp_ne hq
 refine jg7 rfl ?_;simp only[go_sem];refine jmy ⟨[(1,.im (.sl (ps.map pickC))),(5,.loc 5 8 0 0),(8,.loc 8 6 0 0),(9,.loc 9 2 0 0),(11,.im (.bool true)),(12,.loc 12 8 0 0),(13,.loc 13 8 0 0)],[(13,8,[evC e ((e.certs++[c]).map Cert.c) (e.recalls.map Recall.c) (e.purs.map Purity.c)]),(12,8,[evC e (e.certs.map Cert.c) (e.recalls.map Recall.c) ((e.purs++[p]).map Purity.c)]),(9,2,[x.c]),(8,6,[c.c]),(7,4,[p.c]),(5,8,[e.c])],[]⟩ ?_ ?_
 ·rcases hpl:e.certs.map Cert.c with _ | ⟨y0,yr⟩
  ·have hS:(e.certs++[c]).map Cert.c=[c.c]:=by rw[List.map_append,hpl];rfl
   refine jbg [false,false,false,true,false,false,true,false] [(8,6,[c.c]),(5,8,[evC e [] (e.recalls.map Recall.c) (e.purs.map Purity.c)])] (by decide+kernel) (ja3 rfl (ja3 rfl (ja3 rfl (ja6 _ (ja3 rfl (SubR.refl _)))))) ?_;simp only[hpl,go_sem];refine And.intro (ja3 rfl (ja3 rfl (ja3 rfl (ja6 _ (ja3 rfl (SubR.refl _)))))) (And.intro (fun c' hc'=>by rw[List.mem_singleton.1 hc'];rfl) ?_);refine jdj (fun X hX=> ?_);clear hX;refine And.intro (ja3 (by dsimp only;rw[ja0 _ _ (hp_ne (by decide)).symm,ja0 _ _ (hp_ne (by decide)).symm];rfl) (ja3 rfl (ja3 rfl (ja3 rfl (ja6 _ (ja3 rfl (SubR.refl _))))))) ?_;simp only[go_sem];refine jh6 [X] [1,5,8,9,11,12,13] ?_ (SubR.of_eq ?_) rfl
   ·simp only[hpb,hpl,hS,go_sem]
   ·simp only[hpb,hpl,hS,go_sem]
  ·have hS:(e.certs++[c]).map Cert.c=y0::(yr++[c.c]):=by rw[List.map_append,hpl];rfl
   have hlen:yr.length+1=e.certs.length:=by rw[<-List.length_map (f:=Cert.c),hpl];rfl
   have hy4:∀c'∈y0::yr,c'.length=6:=fun c' hc'=>by
    rw[<-hpl]at hc';obtain⟨z,_,rfl⟩:=List.mem_map.1 hc';rfl
   have htk:List.take yr.length yr=yr:=List.take_length;have htk2:List.take (yr.length+1) (yr++[c.c])=yr++[c.c]:=List.take_of_length_le (by rw[List.length_append];exact Nat.le_refl _);have hle2:yr.length+1<=(yr++[c.c]).length:=by rw[List.length_append];exact Nat.le_refl _
   simp only[Cert.c]at htk2 hle2 hS;refine jbg [false,false,false,true,false,false,true,false] [(8,6,[c.c]),(5,8,[evC e (y0::yr) (e.recalls.map Recall.c) (e.purs.map Purity.c)])] (by decide+kernel) (ja3 rfl (ja3 rfl (ja3 rfl (ja6 _ (ja3 rfl (SubR.refl _)))))) ?_;simp only[hpl,go_sem];refine And.intro hy4 (And.intro (by omega) ?_);refine jdj (fun X hX=> ?_);clear hX;refine And.intro (ja3 (by dsimp only;rw[ja0 _ _ (hp_ne (by decide)).symm,ja0 _ _ (hp_ne (by decide)).symm];rfl) (ja3 rfl (ja3 rfl (ja3 rfl (ja6 _ (ja3 rfl (SubR.refl _))))))) ?_;simp only[htk,go_sem];refine And.intro (fun c' hc'=>by rw[List.mem_singleton.1 hc'];rfl) (And.intro (Nat.le_refl _) (And.intro (by omega) ?_));refine jde (fun X' hX'=> ?_);clear hX';refine And.intro ?_ ?_
   ·simp only[hpb,go_sem];exact ja3 (by dsimp only;rw[ja0 _ _ (hp_ne (by decide)).symm,ja0 _ _ (hp_ne (by decide)).symm];rfl) (ja3 rfl (ja3 rfl (ja3 rfl (ja6 _ (ja3 rfl (SubR.refl _))))))
   simp only[hpb,go_sem];refine jh6 [X'] [1,5,8,9,11,12,13] ?_ (SubR.of_eq ?_) rfl
   ·simp only[hpb,hpl,hS,htk2,hle2,go_sem]
   ·simp only[hpb,hpl,hS,htk2,hle2,go_sem]
 ·simp only[go_sem];exact hy
end
section
open Go.Abs
open Go.LP (Dic Rw RT Ov OvRw tsum Sol IsMin NoMin Bds)
attribute [local go_sem] ints ic big frac fc zc Evid.c Evid.iv Purity.c Cert.c Recall.c evC
set_option maxRecDepth 2000000 in
set_option maxHeartbeats 16000000 in
theorem n_C(e:Evid)(ps:List (Int×Int))(p:Purity)(c:Cert)(x:Recall)(lr:¬3<(e.recalls.length:Int)){Q:Exit->St->Prop}(y:Code)(hy:awp (GH [65,68,74,77,83,86,187] [999999]) y Q ⟨[(1,.im (.sl (ps.map pickC))),(5,.loc 5 8 0 0),(8,.loc 8 6 0 0),(11,.im (.bool true)),(12,.loc 12 8 0 0),(13,.loc 13 8 0 0),(14,.loc 14 8 0 0)],[(14,8,[evC e (e.certs.map Cert.c) ((e.recalls++[x]).map Recall.c) (e.purs.map Purity.c)]),(13,8,[evC e ((e.certs++[c]).map Cert.c) (e.recalls.map Recall.c) (e.purs.map Purity.c)]),(12,8,[evC e (e.certs.map Cert.c) (e.recalls.map Recall.c) ((e.purs++[p]).map Purity.c)]),(9,2,[x.c]),(8,6,[c.c]),(7,4,[p.c]),(5,8,[e.c])],[]⟩):awp (GH [65,68,74,77,83,86,187] [999999]) (putN 2 (tailN 7 (jga Tryz.f3)) y) Q ⟨[(1,.im (.sl (ps.map pickC))),(5,.loc 5 8 0 0),(8,.loc 8 6 0 0),(9,.loc 9 2 0 0),(11,.im (.bool true)),(12,.loc 12 8 0 0),(13,.loc 13 8 0 0)],[(13,8,[evC e ((e.certs++[c]).map Cert.c) (e.recalls.map Recall.c) (e.purs.map Purity.c)]),(12,8,[evC e (e.certs.map Cert.c) (e.recalls.map Recall.c) ((e.purs++[p]).map Purity.c)]),(9,2,[x.c]),(8,6,[c.c]),(7,4,[p.c]),(5,8,[e.c])],[]⟩:=by
 have hpb:∀q k:Nat,q<100000->(q !=hp k)=true:=fun q k hq=>by simp only[bne_iff_ne,ne_eq];exact hp_ne hq
 refine jg7 rfl ?_;simp only[go_sem];refine jmy ⟨[(1,.im (.sl (ps.map pickC))),(5,.loc 5 8 0 0),(8,.loc 8 6 0 0),(11,.im (.bool true)),(12,.loc 12 8 0 0),(13,.loc 13 8 0 0),(14,.loc 14 8 0 0)],[(14,8,[evC e (e.certs.map Cert.c) ((e.recalls++[x]).map Recall.c) (e.purs.map Purity.c)]),(13,8,[evC e ((e.certs++[c]).map Cert.c) (e.recalls.map Recall.c) (e.purs.map Purity.c)]),(12,8,[evC e (e.certs.map Cert.c) (e.recalls.map Recall.c) ((e.purs++[p]).map Purity.c)]),(9,2,[x.c]),(8,6,[c.c]),(7,4,[p.c]),(5,8,[e.c])],[]⟩ ?_ ?_
 ·rcases hpl:e.recalls.map Recall.c with _ | ⟨y0,yr⟩
  ·have hS:(e.recalls++[x]).map Recall.c=[x.c]:=by rw[List.map_append,hpl];rfl
   refine jbg [false,false,false,true,false,false,true,false] [(9,2,[x.c]),(5,8,[evC e (e.certs.map Cert.c) [] (e.purs.map Purity.c)])] (by decide+kernel) (ja3 rfl (ja3 rfl (ja3 rfl (ja6 _ (ja3 rfl (ja3 rfl (SubR.refl _))))))) ?_;simp only[hpl,go_sem];refine And.intro (ja3 rfl (ja3 rfl (ja3 rfl (ja6 _ (ja3 rfl (ja3 rfl (SubR.refl _))))))) (And.intro (fun c' hc'=>by rw[List.mem_singleton.1 hc'];rfl) ?_);refine jdj (fun X hX=> ?_);clear hX;refine And.intro (ja3 (by dsimp only;rw[ja0 _ _ (hp_ne (by decide)).symm,ja0 _ _ (hp_ne (by decide)).symm];rfl) (ja3 rfl (ja3 rfl (ja3 rfl (ja6 _ (ja3 rfl (ja3 rfl (SubR.refl _)))))))) ?_;simp only[go_sem];refine jh6 [X] [1,5,8,11,12,13,14] ?_ (SubR.of_eq ?_) rfl
   ·simp only[hpb,hpl,hS,go_sem]
   ·simp only[hpb,hpl,hS,go_sem]
  ·have hS:(e.recalls++[x]).map Recall.c=y0::(yr++[x.c]):=by rw[List.map_append,hpl];rfl
   have hlen:yr.length+1=e.recalls.length:=by rw[<-List.length_map (f:=Recall.c),hpl];rfl
   have hy4:∀c'∈y0::yr,c'.length=2:=fun c' hc'=>by
    rw[<-hpl]at hc';obtain⟨z,_,rfl⟩:=List.mem_map.1 hc';rfl
   have htk:List.take yr.length yr=yr:=List.take_length;have htk2:List.take (yr.length+1) (yr++[x.c])=yr++[x.c]:=List.take_of_length_le (by rw[List.length_append];exact Nat.le_refl _);have hle2:yr.length+1<=(yr++[x.c]).length:=by rw[List.length_append];exact Nat.le_refl _
   simp only[Recall.c]at htk2 hle2 hS;refine jbg [false,false,false,true,false,false,true,false] [(9,2,[x.c]),(5,8,[evC e (e.certs.map Cert.c) (y0::yr) (e.purs.map Purity.c)])] (by decide+kernel) (ja3 rfl (ja3 rfl (ja3 rfl (ja6 _ (ja3 rfl (ja3 rfl (SubR.refl _))))))) ?_;simp only[hpl,go_sem];refine And.intro hy4 (And.intro (by omega) ?_);refine jdj (fun X hX=> ?_);clear hX;refine And.intro (ja3 (by dsimp only;rw[ja0 _ _ (hp_ne (by decide)).symm,ja0 _ _ (hp_ne (by decide)).symm];rfl) (ja3 rfl (ja3 rfl (ja3 rfl (ja6 _ (ja3 rfl (ja3 rfl (SubR.refl _)))))))) ?_;simp only[htk,go_sem];refine And.intro (fun c' hc'=>by rw[List.mem_singleton.1 hc'];rfl) (And.intro (Nat.le_refl _) (And.intro (by omega) ?_));refine jde (fun X' hX'=> ?_);clear hX';refine And.intro ?_ ?_
   ·simp only[hpb,go_sem];exact ja3 (by dsimp only;rw[ja0 _ _ (hp_ne (by decide)).symm,ja0 _ _ (hp_ne (by decide)).symm];rfl) (ja3 rfl (ja3 rfl (ja3 rfl (ja6 _ (ja3 rfl (ja3 rfl (SubR.refl _)))))))
   simp only[hpb,go_sem];refine jh6 [X'] [1,5,8,11,12,13,14] ?_ (SubR.of_eq ?_) rfl
   ·simp only[hpb,hpl,hS,htk2,hle2,go_sem]
   ·simp only[hpb,hpl,hS,htk2,hle2,go_sem]
 ·simp only[go_sem];exact hy
end
section
open Go.Abs
open Go.LP (Dic Rw RT Ov OvRw tsum Sol IsMin NoMin Bds)
attribute [local go_sem] ints ic big frac fc zc Evid.c Evid.iv Purity.c Cert.c Recall.c evC
def bX(m o u v:Int)(n q r t:List (List IV))(l h:Bool):List IV:=[.int m,.sl n,.int o,.sl q,.int u,.sl r,.int v,.sl t,.bool l,.bool h]
def jf0(e:Evid)(c:Cert):Nat->Bool
 | 0=>true
 | g+1=>jf0 e c g&&(match e.certs[g]? with
  | some c'=> !decide (c'.scale=c.scale)
  | none=>true)
attribute [go_sem] bX
set_option maxRecDepth 2000000 in
set_option maxHeartbeats 16000000 in
theorem n_D(e:Evid)(ps:List (Int×Int))(p:Purity)(c:Cert)(x:Recall)(lc:¬9<(e.certs.length:Int))(m1 o1 u1 v1:Int)(n1 q1 r1 t1:List (List IV))(l1 h1 z1:Bool)(m2 o2 u2 v2:Int)(n2 q2 r2 t2:List (List IV))(l2 h2 z2:Bool)(kb1:Ctr G.P 12 [.agg (evC e (e.certs.map Cert.c) (e.recalls.map Recall.c) (e.purs.map Purity.c)),.sl (ps.map pickC)] (· = .tup [.agg (bX m1 o1 u1 v1 n1 q1 r1 t1 l1 h1),.bool z1]))(kb2:Ctr G.P 12 [.agg (evC e (e.certs.map Cert.c) (e.recalls.map Recall.c) ((e.purs++[p]).map Purity.c)),.sl (ps.map pickC)] (· = .tup [.agg (bX m2 o2 u2 v2 n2 q2 r2 t2 l2 h2),.bool z2]))(i2:z2=true->z1=true/\Ctr G.P 13 [.agg (bX m2 o2 u2 v2 n2 q2 r2 t2 l2 h2),.agg (bX m1 o1 u1 v1 n1 q1 r1 t1 l1 h1)] (· = .bool true)){Q:Exit->St->Prop}(y:Code)(hy:awp (GH [65,68,74,77,83,86,187] [999999]) y Q ⟨[(115,.im (.bool false)),(114,.im (.int (e.certs.length:Int))),(113,.im (.sl (e.certs.map Cert.c))),(112,.loc 5 8 0 5),(111,.im (.int (e.certs.length:Int))),(1,.im (.sl (ps.map pickC))),(5,.loc 5 8 0 0),(8,.loc 8 6 0 0),(11,.im (.bool true)),(13,.loc 13 8 0 0),(14,.loc 14 8 0 0),(15,.loc 15 10 0 0),(16,.im (.bool z1)),(17,.loc 17 10 0 0),(19,.im (.bool (jf0 e c e.certs.length))),(20,.im (.int e.certs.length))],[(17,10,[(bX m2 o2 u2 v2 n2 q2 r2 t2 l2 h2)]),(15,10,[(bX m1 o1 u1 v1 n1 q1 r1 t1 l1 h1)]),(14,8,[evC e (e.certs.map Cert.c) ((e.recalls++[x]).map Recall.c) (e.purs.map Purity.c)]),(13,8,[evC e ((e.certs++[c]).map Cert.c) (e.recalls.map Recall.c) (e.purs.map Purity.c)]),(8,6,[c.c]),(5,8,[e.c])],[]⟩):awp (GH [65,68,74,77,83,86,187] [999999]) (putN 5 (tailN 9 (jga Tryz.f3)) y) Q ⟨[(1,.im (.sl (ps.map pickC))),(5,.loc 5 8 0 0),(8,.loc 8 6 0 0),(11,.im (.bool true)),(12,.loc 12 8 0 0),(13,.loc 13 8 0 0),(14,.loc 14 8 0 0)],[(14,8,[evC e (e.certs.map Cert.c) ((e.recalls++[x]).map Recall.c) (e.purs.map Purity.c)]),(13,8,[evC e ((e.certs++[c]).map Cert.c) (e.recalls.map Recall.c) (e.purs.map Purity.c)]),(12,8,[evC e (e.certs.map Cert.c) (e.recalls.map Recall.c) ((e.purs++[p]).map Purity.c)]),(9,2,[x.c]),(8,6,[c.c]),(7,4,[p.c]),(5,8,[e.c])],[]⟩:=by
 have hpb:∀q k:Nat,q<100000->(q !=hp k)=true:=fun q k hq=>by simp only[bne_iff_ne,ne_eq];exact hp_ne hq
 have key:z2=true->z1=true:=fun h=>(i2 h).1;refine jg7 rfl ?_;simp only[go_sem];refine ja1 kb1 (by decide) ?_;simp only[go_sem];refine ja1 kb2 (by decide) ?_;simp only[go_sem];apply Two_share
 ·intro hC hz;obtain⟨e1,ki⟩:=i2 hz;simp only[e1,hz,go_sem];refine ja1 ki (by decide) ?_;simp only[e1,hz,go_sem];refine jcu ⟨[(1,.im (.sl (ps.map pickC))),(5,.loc 5 8 0 0),(8,.loc 8 6 0 0),(11,.im (.bool true)),(13,.loc 13 8 0 0),(14,.loc 14 8 0 0),(15,.loc 15 10 0 0),(16,.im (.bool z1)),(17,.loc 17 10 0 0),(19,.im (.bool true)),(20,.im (.int 0))],[(17,10,[(bX m2 o2 u2 v2 n2 q2 r2 t2 l2 h2)]),(15,10,[(bX m1 o1 u1 v1 n1 q1 r1 t1 l1 h1)]),(14,8,[evC e (e.certs.map Cert.c) ((e.recalls++[x]).map Recall.c) (e.purs.map Purity.c)]),(13,8,[evC e ((e.certs++[c]).map Cert.c) (e.recalls.map Recall.c) (e.purs.map Purity.c)]),(8,6,[c.c]),(5,8,[e.c])],[]⟩ hC [1,5,8,11,13,14,15,16,17,19,20] ?_ ?_ rfl
  ·simp only[e1,go_sem]
  ·simp only[go_sem];exact ja6 _ (ja6 _ (ja6 _ (ja6 _ (ja3 rfl (ja3 rfl (ja6 _ (ja3 rfl (SubR.refl _))))))))
 ·intro hC hz;simp only[hz,go_sem];refine jcu ⟨[(1,.im (.sl (ps.map pickC))),(5,.loc 5 8 0 0),(8,.loc 8 6 0 0),(11,.im (.bool true)),(13,.loc 13 8 0 0),(14,.loc 14 8 0 0),(15,.loc 15 10 0 0),(16,.im (.bool z1)),(17,.loc 17 10 0 0),(19,.im (.bool true)),(20,.im (.int 0))],[(17,10,[(bX m2 o2 u2 v2 n2 q2 r2 t2 l2 h2)]),(15,10,[(bX m1 o1 u1 v1 n1 q1 r1 t1 l1 h1)]),(14,8,[evC e (e.certs.map Cert.c) ((e.recalls++[x]).map Recall.c) (e.purs.map Purity.c)]),(13,8,[evC e ((e.certs++[c]).map Cert.c) (e.recalls.map Recall.c) (e.purs.map Purity.c)]),(8,6,[c.c]),(5,8,[e.c])],[]⟩ hC [1,5,8,11,13,14,15,16,17,19,20] ?_ ?_ rfl
  ·simp only[go_sem]
  ·simp only[go_sem];exact ja6 _ (ja6 _ (ja6 _ (ja6 _ (ja3 rfl (ja3 rfl (ja6 _ (ja3 rfl (SubR.refl _))))))))
 refine jb2 [1,5,8,11,13,14,15,16,17,19,20] [17,15,14,13,8,5] (fun g:Nat=>⟨[(1,.im (.sl (ps.map pickC))),(5,.loc 5 8 0 0),(8,.loc 8 6 0 0),(11,.im (.bool true)),(13,.loc 13 8 0 0),(14,.loc 14 8 0 0),(15,.loc 15 10 0 0),(16,.im (.bool z1)),(17,.loc 17 10 0 0),(19,.im (.bool (jf0 e c g))),(20,.im (.int (g:Int)))],[(17,10,[(bX m2 o2 u2 v2 n2 q2 r2 t2 l2 h2)]),(15,10,[(bX m1 o1 u1 v1 n1 q1 r1 t1 l1 h1)]),(14,8,[evC e (e.certs.map Cert.c) ((e.recalls++[x]).map Recall.c) (e.purs.map Purity.c)]),(13,8,[evC e ((e.certs++[c]).map Cert.c) (e.recalls.map Recall.c) (e.purs.map Purity.c)]),(8,6,[c.c]),(5,8,[e.c])],[]⟩) (fun g=>g<=e.certs.length) (fun g=>e.certs.length-g) 0 ?_ (Nat.zero_le _) ?_
 ·simp only[jf0,go_sem]
 intro g hg;by_cases hl:g=e.certs.length
 ·subst hl;have hd:decide ((e.certs.length:Int)<(e.certs.length:Int))=false:=decide_eq_false (by omega);simp only[List.length_map,hd,go_sem];exact hy
 ·obtain⟨c',hc'⟩:∃c',e.certs[g]? =some c':=⟨_,List.getElem?_eq_getElem (by omega)⟩;have hd:decide ((g:Int)<(e.certs.length:Int))=true:=decide_eq_true (by omega);have hm:(e.certs.map Cert.c)[g]? =some c'.c:=by rw[List.getElem?_map,hc'];rfl
  have hw:=jad (n:=(g:Int)+1) (by omega);have hgc:((g+1:Nat):Int)=(g:Int)+1:=rfl;have hx:idx (g:Int) (e.certs.length:Int)=true:=idx_iff.2 (by omega);simp only[Cert.c]at hm;simp only[List.length_map,hd,go_sem];rcases hfr:jf0 e c g with _ | _
  ·refine jav 13 (by decide+kernel) ?_;simp only[List.length_map,hx,hm,hfr,hw,go_sem];refine jai (g+1) ?_ (by omega) (by omega);simp only[jf0,hfr,hc',hgc,go_sem]
  ·refine jav 13 (by decide+kernel) ?_;simp only[List.length_map,hx,hm,hfr,hw,go_sem];refine jai (g+1) ?_ (by omega) (by omega);simp only[jf0,hfr,hc',hgc,go_sem]
end
section
open Go.Abs
open Go.LP (Dic Rw RT Ov OvRw tsum Sol IsMin NoMin Bds)
attribute [local go_sem] ints ic big frac fc zc Evid.c Evid.iv Purity.c Cert.c Recall.c evC
theorem jlc{e:Evid}{c:Cert}:∀{g:Nat},jf0 e c g=true->∀i c',i<g->e.certs[i]? =some c'->c'.scale≠c.scale
 | 0,_,_,_,hi,_=>absurd hi (Nat.not_lt_zero _)
 | g+1,h,i,c',hi,hc=>by
  rw[jf0,Bool.and_eq_true]at h;by_cases hig:i=g
  ·subst hig;rw[hc]at h
   simpa using h.2
  ·exact jlc h.1 i c' (by omega) hc
theorem freshG_all{e:Evid}{c:Cert}(h:jf0 e c e.certs.length=true):∀c'∈e.certs,c'.scale≠c.scale:=fun c' hc=>by
 obtain⟨i,hi,rfl⟩:=List.mem_iff_getElem.1 hc;exact jlc h i _ hi (List.getElem?_eq_getElem hi)
def recs(n:Nat):List (List IV):=(List.range n).map fun s:Nat=>[.int (s:Int),.int 0]
theorem recs_succ(n:Nat):recs (n+1)=recs n++[[.int (n:Int),.int 0]]:=by unfold recs;rw[List.range_succ,List.map_append];rfl
theorem jj7(n:Nat):(recs n).length=n:=by unfold recs;rw[List.length_map,List.length_range]
theorem recs_all(e:Evid):(allR e).map Recall.c=recs e.scales.toNat:=by unfold allR recs;rw[List.map_map];rfl
def sXr(e:Evid)(B:List IV)(a:IV):Abs.Rows:=[(22,8,[[.int e.mats,.int e.houses,.int e.scales,.sl (e.places.map Place.c),.sl (e.moves.map Move.c),.sl (e.certs.map Cert.c),a,.sl (e.purs.map Purity.c)]]),(21,8,[[.int e.mats,.int e.houses,.int e.scales,.sl (e.places.map Place.c),.sl (e.moves.map Move.c),.emp,.sl (e.recalls.map Recall.c),.sl (e.purs.map Purity.c)]]),(15,10,[B]),(5,8,[e.c])]
def sXf(e:Evid)(ps:List (Int×Int))(z:Bool)(n:Int):List (Nat×AV):=[(179,.im (.bool false)),(178,.im (.int e.scales)),(177,.loc 5 8 0 2),(176,.im (.int n)),(1,.im (.sl (ps.map pickC))),(5,.loc 5 8 0 0),(11,.im (.bool true)),(15,.loc 15 10 0 0),(16,.im (.bool z)),(21,.loc 21 8 0 0),(22,.loc 22 8 0 0),(23,.im (.int n))]
def sX(e:Evid)(ps:List (Int×Int))(B:List IV)(z:Bool):Option Nat->St
 | none=>⟨sXf e ps z 0,sXr e B .emp,[]⟩
 | some A=>⟨sXf e ps z e.scales.toNat,(hp A,2,recs e.scales.toNat)::sXr e B (.ref A 35 2 e.scales.toNat),[]⟩
theorem Meet{A C:Prop}(h:C->A)(hC:C):A:=h hC
set_option maxRecDepth 2000000 in
set_option maxHeartbeats 16000000 in
theorem n_E(e:Evid)(ps:List (Int×Int))(p:Purity)(c:Cert)(x:Recall)(hsc:e.scales<=6)(cw:Int)(m1 o1 u1 v1:Int)(n1 q1 r1 t1:List (List IV))(l1 h1 z1:Bool)(m2 o2 u2 v2:Int)(n2 q2 r2 t2:List (List IV))(l2 h2 z2:Bool)(m3 o3 u3 v3:Int)(n3 q3 r3 t3:List (List IV))(l3 h3 z3:Bool)(m4 o4 u4 v4:Int)(n4 q4 r4 t4:List (List IV))(l4 h4 z4:Bool)(kb3:Ctr G.P 12 [.agg (evC e ((e.certs++[c]).map Cert.c) (e.recalls.map Recall.c) (e.purs.map Purity.c)),.sl (ps.map pickC)] (· = .tup [.agg (bX m3 o3 u3 v3 n3 q3 r3 t3 l3 h3),.bool z3]))(kb4:Ctr G.P 12 [.agg (evC e (e.certs.map Cert.c) ((e.recalls++[x]).map Recall.c) (e.purs.map Purity.c)),.sl (ps.map pickC)] (· = .tup [.agg (bX m4 o4 u4 v4 n4 q4 r4 t4 l4 h4),.bool z4]))(kw:Ctr G.P 11 [.agg (evC e (e.certs.map Cert.c) ((e.recalls++[x]).map Recall.c) (e.purs.map Purity.c))] (· = .int cw))(i3:z3=true->jf0 e c e.certs.length=true->z1=true/\Ctr G.P 13 [.agg (bX m3 o3 u3 v3 n3 q3 r3 t3 l3 h3),.agg (bX m1 o1 u1 v1 n1 q1 r1 t1 l1 h1)] (· = .bool true))(i4:z1=true->cw=0->z4=true/\Ctr G.P 13 [.agg (bX m1 o1 u1 v1 n1 q1 r1 t1 l1 h1),.agg (bX m4 o4 u4 v4 n4 q4 r4 t4 l4 h4)] (· = .bool true)){Q:Exit->St->Prop}(y:Code)(hy:∀g:Option Nat,(g=none->e.scales<=0)->awp (GH [65,68,74,77,83,86,187] [999999]) y Q (sX e ps (bX m1 o1 u1 v1 n1 q1 r1 t1 l1 h1) z1 g)):awp (GH [65,68,74,77,83,86,187] [999999]) (putN 9 (tailN 14 (jga Tryz.f3)) y) Q ⟨[(115,.im (.bool false)),(114,.im (.int (e.certs.length:Int))),(113,.im (.sl (e.certs.map Cert.c))),(112,.loc 5 8 0 5),(111,.im (.int (e.certs.length:Int))),(1,.im (.sl (ps.map pickC))),(5,.loc 5 8 0 0),(8,.loc 8 6 0 0),(11,.im (.bool true)),(13,.loc 13 8 0 0),(14,.loc 14 8 0 0),(15,.loc 15 10 0 0),(16,.im (.bool z1)),(17,.loc 17 10 0 0),(19,.im (.bool (jf0 e c e.certs.length))),(20,.im (.int e.certs.length))],[(17,10,[(bX m2 o2 u2 v2 n2 q2 r2 t2 l2 h2)]),(15,10,[(bX m1 o1 u1 v1 n1 q1 r1 t1 l1 h1)]),(14,8,[evC e (e.certs.map Cert.c) ((e.recalls++[x]).map Recall.c) (e.purs.map Purity.c)]),(13,8,[evC e ((e.certs++[c]).map Cert.c) (e.recalls.map Recall.c) (e.purs.map Purity.c)]),(8,6,[c.c]),(5,8,[e.c])],[]⟩:=by
 have hpb:∀q k:Nat,q<100000->(q !=hp k)=true:=fun q k hq=>by simp only[bne_iff_ne,ne_eq];exact hp_ne hq
 obtain⟨S,hS⟩:∃S:St,S=⟨[(1,.im (.sl (ps.map pickC))),(5,.loc 5 8 0 0),(11,.im (.bool true)),(15,.loc 15 10 0 0),(16,.im (.bool z1)),(21,.loc 21 8 0 0),(22,.loc 22 8 0 0),(23,.im (.int 0))],[(22,8,[[.int e.mats,.int e.houses,.int e.scales,.sl (e.places.map Place.c),.sl (e.moves.map Move.c),.sl (e.certs.map Cert.c),.emp,.sl (e.purs.map Purity.c)]]),(21,8,[[.int e.mats,.int e.houses,.int e.scales,.sl (e.places.map Place.c),.sl (e.moves.map Move.c),.emp,.sl (e.recalls.map Recall.c),.sl (e.purs.map Purity.c)]]),(15,10,[(bX m1 o1 u1 v1 n1 q1 r1 t1 l1 h1)]),(5,8,[e.c])],[]⟩:=⟨_,rfl⟩;apply Meet
 ·intro hC;rcases hfr:jf0 e c e.certs.length with _ | _
  ·rcases hz1:z1 with _ | _
   ·refine jg7 rfl ?_;simp only[hfr,hz1,go_sem];refine ja1 kb3 (by decide) ?_;simp only[hfr,hz1,go_sem];refine ja1 kb4 (by decide) ?_;simp only[hfr,hz1,go_sem];refine jcu S hC [1,5,11,15,16,21,22,23] ?_ ?_ ?_<;>subst hS
    ·simp only[hfr,hz1,go_sem]
    ·simp only[go_sem];exact ja6 _ (ja6 _ (ja3 rfl (ja6 _ (ja3 rfl (ja3 rfl (ja3 rfl (ja6 _ (SubR.refl _))))))))
    ·rfl
   ·rcases hd:decide (cw=0)with _ | _
    ·refine jg7 rfl ?_;simp only[hfr,hz1,hd,go_sem];refine ja1 kb3 (by decide) ?_;simp only[hfr,hz1,hd,go_sem];refine ja1 kb4 (by decide) ?_;simp only[hfr,hz1,hd,go_sem];refine ja1 kw (by decide) ?_;simp only[hfr,hz1,hd,go_sem];refine jcu S hC [1,5,11,15,16,21,22,23] ?_ ?_ ?_<;>subst hS
     ·simp only[hfr,hz1,hd,go_sem]
     ·simp only[go_sem];exact ja6 _ (ja6 _ (ja3 rfl (ja6 _ (ja3 rfl (ja3 rfl (ja3 rfl (ja6 _ (SubR.refl _))))))))
     ·rfl
    ·obtain⟨hz4,ki4⟩:=i4 hz1 (of_decide_eq_true hd);refine jg7 rfl ?_;simp only[hfr,hz1,hd,hz4,go_sem];refine ja1 kb3 (by decide) ?_;simp only[hfr,hz1,hd,hz4,go_sem];refine ja1 kb4 (by decide) ?_;simp only[hfr,hz1,hd,hz4,go_sem];refine ja1 kw (by decide) ?_;simp only[hfr,hz1,hd,hz4,go_sem];refine ja1 ki4 (by decide) ?_;simp only[hfr,hz1,hd,hz4,go_sem];refine jcu S hC [1,5,11,15,16,21,22,23] ?_ ?_ ?_<;>subst hS
     ·simp only[hfr,hz1,hd,hz4,go_sem]
     ·simp only[go_sem];exact ja6 _ (ja6 _ (ja3 rfl (ja6 _ (ja3 rfl (ja3 rfl (ja3 rfl (ja6 _ (SubR.refl _))))))))
     ·rfl
  ·rcases hz3:z3 with _ | _
   ·rcases hz1:z1 with _ | _
    ·refine jg7 rfl ?_;simp only[hfr,hz3,hz1,go_sem];refine ja1 kb3 (by decide) ?_;simp only[hfr,hz3,hz1,go_sem];refine ja1 kb4 (by decide) ?_;simp only[hfr,hz3,hz1,go_sem];refine jcu S hC [1,5,11,15,16,21,22,23] ?_ ?_ ?_<;>subst hS
     ·simp only[hfr,hz3,hz1,go_sem]
     ·simp only[go_sem];exact ja6 _ (ja6 _ (ja3 rfl (ja6 _ (ja3 rfl (ja3 rfl (ja3 rfl (ja6 _ (SubR.refl _))))))))
     ·rfl
    ·rcases hd:decide (cw=0)with _ | _
     ·refine jg7 rfl ?_;simp only[hfr,hz3,hz1,hd,go_sem];refine ja1 kb3 (by decide) ?_;simp only[hfr,hz3,hz1,hd,go_sem];refine ja1 kb4 (by decide) ?_;simp only[hfr,hz3,hz1,hd,go_sem];refine ja1 kw (by decide) ?_;simp only[hfr,hz3,hz1,hd,go_sem];refine jcu S hC [1,5,11,15,16,21,22,23] ?_ ?_ ?_<;>subst hS
      ·simp only[hfr,hz3,hz1,hd,go_sem]
      ·simp only[go_sem];exact ja6 _ (ja6 _ (ja3 rfl (ja6 _ (ja3 rfl (ja3 rfl (ja3 rfl (ja6 _ (SubR.refl _))))))))
      ·rfl
     ·obtain⟨hz4,ki4⟩:=i4 hz1 (of_decide_eq_true hd);refine jg7 rfl ?_;simp only[hfr,hz3,hz1,hd,hz4,go_sem];refine ja1 kb3 (by decide) ?_;simp only[hfr,hz3,hz1,hd,hz4,go_sem];refine ja1 kb4 (by decide) ?_;simp only[hfr,hz3,hz1,hd,hz4,go_sem];refine ja1 kw (by decide) ?_;simp only[hfr,hz3,hz1,hd,hz4,go_sem];refine ja1 ki4 (by decide) ?_;simp only[hfr,hz3,hz1,hd,hz4,go_sem];refine jcu S hC [1,5,11,15,16,21,22,23] ?_ ?_ ?_<;>subst hS
      ·simp only[hfr,hz3,hz1,hd,hz4,go_sem]
      ·simp only[go_sem];exact ja6 _ (ja6 _ (ja3 rfl (ja6 _ (ja3 rfl (ja3 rfl (ja3 rfl (ja6 _ (SubR.refl _))))))))
      ·rfl
   ·obtain⟨hz1,ki3⟩:=i3 hz3 hfr;rcases hd:decide (cw=0)with _ | _
    ·refine jg7 rfl ?_;simp only[hfr,hz3,hz1,hd,go_sem];refine ja1 kb3 (by decide) ?_;simp only[hfr,hz3,hz1,hd,go_sem];refine ja1 ki3 (by decide) ?_;simp only[hfr,hz3,hz1,hd,go_sem];refine ja1 kb4 (by decide) ?_;simp only[hfr,hz3,hz1,hd,go_sem];refine ja1 kw (by decide) ?_;simp only[hfr,hz3,hz1,hd,go_sem];refine jcu S hC [1,5,11,15,16,21,22,23] ?_ ?_ ?_<;>subst hS
     ·simp only[hfr,hz3,hz1,hd,go_sem]
     ·simp only[go_sem];exact ja6 _ (ja6 _ (ja3 rfl (ja6 _ (ja3 rfl (ja3 rfl (ja3 rfl (ja6 _ (SubR.refl _))))))))
     ·rfl
    ·obtain⟨hz4,ki4⟩:=i4 hz1 (of_decide_eq_true hd);refine jg7 rfl ?_;simp only[hfr,hz3,hz1,hd,hz4,go_sem];refine ja1 kb3 (by decide) ?_;simp only[hfr,hz3,hz1,hd,hz4,go_sem];refine ja1 ki3 (by decide) ?_;simp only[hfr,hz3,hz1,hd,hz4,go_sem];refine ja1 kb4 (by decide) ?_;simp only[hfr,hz3,hz1,hd,hz4,go_sem];refine ja1 kw (by decide) ?_;simp only[hfr,hz3,hz1,hd,hz4,go_sem];refine ja1 ki4 (by decide) ?_;simp only[hfr,hz3,hz1,hd,hz4,go_sem];refine jcu S hC [1,5,11,15,16,21,22,23] ?_ ?_ ?_<;>subst hS
     ·simp only[hfr,hz3,hz1,hd,hz4,go_sem]
     ·simp only[go_sem];exact ja6 _ (ja6 _ (ja3 rfl (ja6 _ (ja3 rfl (ja3 rfl (ja3 rfl (ja6 _ (SubR.refl _))))))))
     ·rfl
 subst hS;refine jb3 [1,5,11,15,16,21,22,23] (fun g:Option (Nat×Nat)=>match g with
  | none=>⟨[(1,.im (.sl (ps.map pickC))),(5,.loc 5 8 0 0),(11,.im (.bool true)),(15,.loc 15 10 0 0),(16,.im (.bool z1)),(21,.loc 21 8 0 0),(22,.loc 22 8 0 0),(23,.im (.int 0))],[(22,8,[[.int e.mats,.int e.houses,.int e.scales,.sl (e.places.map Place.c),.sl (e.moves.map Move.c),.sl (e.certs.map Cert.c),.emp,.sl (e.purs.map Purity.c)]]),(21,8,[[.int e.mats,.int e.houses,.int e.scales,.sl (e.places.map Place.c),.sl (e.moves.map Move.c),.emp,.sl (e.recalls.map Recall.c),.sl (e.purs.map Purity.c)]]),(15,10,[(bX m1 o1 u1 v1 n1 q1 r1 t1 l1 h1)]),(5,8,[e.c])],[]⟩
  | some (A,n)=>⟨[(1,.im (.sl (ps.map pickC))),(5,.loc 5 8 0 0),(11,.im (.bool true)),(15,.loc 15 10 0 0),(16,.im (.bool z1)),(21,.loc 21 8 0 0),(22,.loc 22 8 0 0),(23,.im (.int n))],[(hp A,2,recs n),(22,8,[[.int e.mats,.int e.houses,.int e.scales,.sl (e.places.map Place.c),.sl (e.moves.map Move.c),.sl (e.certs.map Cert.c),.ref A 35 2 n,.sl (e.purs.map Purity.c)]]),(21,8,[[.int e.mats,.int e.houses,.int e.scales,.sl (e.places.map Place.c),.sl (e.moves.map Move.c),.emp,.sl (e.recalls.map Recall.c),.sl (e.purs.map Purity.c)]]),(15,10,[(bX m1 o1 u1 v1 n1 q1 r1 t1 l1 h1)]),(5,8,[e.c])],[]⟩)
  (fun g=>match g with | none=>True | some (A,n)=>1<=n/\n<=e.scales.toNat) (fun g=>match g with | none=>e.scales.toNat | some (A,n)=>e.scales.toNat-n) none ?_ (SubR.of_eq rfl) rfl trivial ?_
 ·simp only[go_sem]
 rintro(_ | ⟨A,n⟩) hP
 ·rcases hd:decide ((0:Int)<e.scales)with _ | _
  ·simp only[hd,go_sem];exact hy none fun _=>by have:=of_decide_eq_false hd;omega
  ·have hw:=jad (n:=(1:Int)) (by omega);simp only[hd,go_sem];refine And.intro (fun c' hc'=>by rw[List.mem_singleton.1 hc'];rfl) ?_;refine jip (fun X hX=> ?_);clear hX;simp only[hpb,go_sem];refine jac (some (X,1)) ?_ (SubR.of_eq ?_) rfl (by show e.scales.toNat-1<e.scales.toNat;have:=of_decide_eq_true hd;omega) ⟨Nat.le_refl _,by have:=of_decide_eq_true hd;omega⟩
   ·simp only[hpb,hw,Int.zero_add,Int.natCast_one,go_sem]
   ·simp only[hpb,go_sem];rfl
 ·obtain⟨hn1,hn2⟩:=hP;rcases hd:decide ((n:Int)<e.scales)with _ | _
  ·obtain rfl:n=e.scales.toNat:=by have:=of_decide_eq_false hd;omega
   simp only[hd,go_sem];exact hy (some A) fun h=>by cases h
  ·have hd':=of_decide_eq_true hd;have hw:=jad (n:=(n:Int)+1) (by omega);have htk:List.take n (recs n)=recs n:=List.take_of_length_le (by rw[jj7];exact Nat.le_refl _);simp only[hd,go_sem];refine And.intro (fun c' hc'=>by rw[List.mem_singleton.1 hc'];rfl) (And.intro (by rw[jj7];exact Nat.le_refl _) (And.intro (by omega) ?_));refine jmv (fun X hX=> ?_);clear hX;simp only[hpb,hw,go_sem];refine jac (some (X,n+1)) ?_ (SubR.of_eq ?_) rfl (by show e.scales.toNat-(n+1)<e.scales.toNat-n;omega) ⟨by omega,by omega⟩
   ·simp only[hpb,hw,htk,Int.natCast_add,Int.natCast_one,go_sem]
   ·simp only[hpb,recs_succ,htk,go_sem]
end
section
open Go.Abs
open Go.LP (Dic Rw RT Ov OvRw tsum Sol IsMin NoMin Bds)
attribute [local go_sem] ints ic big frac fc zc Evid.c Evid.iv Purity.c Cert.c Recall.c evC
theorem own2{A:Nat}{v:Nat×List (List IV)}{R' R:Abs.Rows}(h:∀p∈R',p.1<100000)(hs:SubR R' R)(k:Nat)(y:Nat×List (List IV))(hk:Abs.look R' k=some y):Abs.look [(hp A,v)] k=none/\Abs.look R k=some y:=by
 refine⟨ja0 _ _ fun e=> ?_,hs k y hk⟩;subst e;clear hs
 induction R' with
 | nil=>cases hk
 | cons p l ih=>
  rw[ja0 _ _ (hp_ne (h p (by simp))).symm]at hk;exact ih (fun q hq=>h q (by simp[hq])) hk
set_option maxRecDepth 2000000 in
set_option maxHeartbeats 16000000 in
theorem n_F(e:Evid)(ps:List (Int×Int))(m1 o1 u1 v1:Int)(n1 q1 r1 t1:List (List IV))(l1 h1 z1:Bool)(m5 o5 u5 v5:Int)(n5 q5 r5 t5:List (List IV))(l5 h5 z5:Bool)(kb5:Ctr G.P 12 [.agg (evC e [] (e.recalls.map Recall.c) (e.purs.map Purity.c)),.sl (ps.map pickC)] (· = .tup [.agg (bX m5 o5 u5 v5 n5 q5 r5 t5 l5 h5),.bool z5]))(kb6:Ctr G.P 12 [.agg (evC e (e.certs.map Cert.c) (recs e.scales.toNat) (e.purs.map Purity.c)),.sl (ps.map pickC)] (· = .tup [.agg (bX m5 o5 u5 v5 n5 q5 r5 t5 l5 h5),.bool z5]))(kS:Ctr G.P 15 [.agg (bX m5 o5 u5 v5 n5 q5 r5 t5 l5 h5),.agg (bX m5 o5 u5 v5 n5 q5 r5 t5 l5 h5)] (· = .bool true))(i5:z1=true->z5=true/\Ctr G.P 13 [.agg (bX m1 o1 u1 v1 n1 q1 r1 t1 l1 h1),.agg (bX m5 o5 u5 v5 n5 q5 r5 t5 l5 h5)] (· = .bool true))(g:Option Nat)(hg:g=none->e.scales<=0):awp (GH [65,68,74,77,83,86,187] [999999]) (tailN 23 (jga Tryz.f3)) (postF (GH [65,68,74,77,83,86,187] [999999]) [.tmp 10] (· = .bool true)) (sX e ps (bX m1 o1 u1 v1 n1 q1 r1 t1 l1 h1) z1 g):=by
 have hpb:∀q k:Nat,q<100000->(q !=hp k)=true:=fun q k hq=>by simp only[bne_iff_ne,ne_eq];exact hp_ne hq
 have kI:=h_ivl [] [] 0 0 0 (by simp) (by simp);simp only[show ivlF [] [] 0 0 0=none from rfl,ivlIV,zf,List.map_nil]at kI;have k5:=jj9 kb5 [.agg [.int e.mats,.int e.houses,.int e.scales,.sl (e.places.map Place.c),.sl (e.moves.map Move.c),.emp,.sl (e.recalls.map Recall.c),.sl (e.purs.map Purity.c)],.sl (ps.map pickC)] [] [] rfl;rcases g with _ | A
 ·have hz:e.scales.toNat=0:=by have:=hg rfl;omega
  rw[hz]at kb6;refine tail_go rfl ?_;simp only[sX,sXr,sXf,go_sem];refine jcc k5 (by decide) rfl jbl jbp ?_;rintro _ L1 ⟨_,rfl,rfl,rfl⟩ _;refine⟨_,fun k y hk=> .inr ⟨rfl,hk⟩,?_⟩;simp only[go_sem];refine jcc (jj9 kb6 [.agg [.int e.mats,.int e.houses,.int e.scales,.sl (e.places.map Place.c),.sl (e.moves.map Move.c),.sl (e.certs.map Cert.c),.emp,.sl (e.purs.map Purity.c)],.sl (ps.map pickC)] [] [] rfl) (by decide) rfl jbl jbp ?_;rintro _ L1 ⟨_,rfl,rfl,rfl⟩ _;refine⟨_,fun k y hk=> .inr ⟨rfl,hk⟩,?_⟩;simp only[go_sem];refine ja1 kI (by decide) ?_;simp only[go_sem];rcases hz1:z1 with _ | _
  ·refine ja1 kS (by decide) ?_;simp only[eq_self,go_sem];refine jmr [] ?_;simp only[go_sem]
  ·obtain⟨hz5,kN⟩:=i5 hz1;refine ja1 kS (by decide) ?_;simp only[hz5,eq_self,go_sem];refine ja1 kN (by decide) ?_;simp only[hz5,eq_self,go_sem];refine jmr [] ?_;simp only[go_sem]
 ·have hle:e.scales.toNat<=(recs e.scales.toNat).length:=by rw[jj7];exact Nat.le_refl _
  have htk:List.take e.scales.toNat (recs e.scales.toNat)=recs e.scales.toNat:=List.take_of_length_le (by rw[jj7];exact Nat.le_refl _);refine tail_go rfl ?_;simp only[sX,sXr,sXf,go_sem];refine jcc k5 (by decide) rfl jbl jbp ?_;rintro _ L1 ⟨_,rfl,rfl,rfl⟩ _;refine⟨_,fun k y hk=> .inr ⟨rfl,hk⟩,?_⟩;simp only[hpb,go_sem];refine jcc (jj9 kb6 [.agg [.int e.mats,.int e.houses,.int e.scales,.sl (e.places.map Place.c),.sl (e.moves.map Move.c),.sl (e.certs.map Cert.c),.ref A 35 2 e.scales.toNat,.sl (e.purs.map Purity.c)],.sl (ps.map pickC)] [A] [(hp A,2,recs e.scales.toNat)] (by simp only[htk,hle,frzL,emp1,emp2,go_sem])) (by decide) rfl (jao jbl) (by simp only[hpb,go_sem];exact ja3 (by rw[ja0 _ _ (hp_ne (show 24<100000 by decide))];rfl) (ja6 _ jbp)) ?_;rintro _ L1 ⟨_,rfl,rfl,rfl⟩ _;refine⟨[(24,10,[(bX m5 o5 u5 v5 n5 q5 r5 t5 l5 h5)]),(15,10,[(bX m1 o1 u1 v1 n1 q1 r1 t1 l1 h1)])],fun k y hk=> .inr (own2 (by simp) (by simp only[hpb,go_sem];exact ja6 _ (ja3 (by rw[ja0 _ _ (hp_ne (show 15<100000 by decide)).symm];rfl) (ja3 rfl (ja3 rfl (ja6 _ jbp))))) k y hk),?_⟩;simp only[hpb,go_sem];refine ja1 kI (by decide) ?_;simp only[go_sem];rcases hz1:z1 with _ | _
  ·refine ja1 kS (by decide) ?_;simp only[eq_self,go_sem];refine jmr [] ?_;simp only[go_sem]
  ·obtain⟨hz5,kN⟩:=i5 hz1;refine ja1 kS (by decide) ?_;simp only[hz5,eq_self,go_sem];refine ja1 kN (by decide) ?_;simp only[hz5,eq_self,go_sem];refine jmr [] ?_;simp only[go_sem]
end
end Go.Proofs.YtfahloobpegieaaGreat
