/- A part of the proof. No further condition. -/
import Derived.Test.YtdhlmmoicchgpaaGreatKV11
set_option linter.all false
set_option maxRecDepth 10000000
set_option maxHeartbeats 16000000
namespace Go.Abs
section
def mIx:Nat->List Bool->List Nat
 | _,[]=>[]
 | k,true::m=>k::mIx (k+1) m
 | k,false::m=>mIx (k+1) m
def pathT:List Nat->OT
 | []=> .fin
 | i::r=> .alt i (pathT r) .none
def drawZ(ops:Array Oper)(m:List Bool):Bool:=drawN ops m&&okT ops (pathT (mIx 0 m)) ((List.range m.length).filter fun i=>m.getD i false)
section
variable{G:Ctx}{kp:Bool}
theorem jkd{ops:List Oper}{Q:Exit->St->Prop}{st:St}(m:List Bool)(Rs:Rows)(h:drawZ ops.toArray m=true)(hz:stZ ops.toArray m=true)(hs:SubR Rs st.rows)
  (hA:jdo G false ops (Q .normal) st.rows Rs (pathT (mIx 0 m)) m ops ⟨st.fr,Rs,st.toks⟩): @DrawP G ⟨ops⟩ ⟨Q⟩ st:=by
 unfold drawZ at h;rw[zC]at h;exact jci m _ Rs (by rw[h.1,h.2,hz];rfl) hs hA
theorem jch{ops:List Oper}{Q:Exit->St->Prop}{st:St}(m:List Bool)(Rs:Rows)(h:(drawZ ops.toArray m&&stZ ops.toArray m)=true)(hs:SubR Rs st.rows)
  (hA:jdo G false ops (Q .normal) st.rows Rs (pathT (mIx 0 m)) m ops ⟨st.fr,Rs,st.toks⟩): @DrawP G ⟨ops⟩ ⟨Q⟩ st:=by
 rw[zC]at h;exact jkd m Rs h.1 h.2 hs hA
theorem mIx_nil(k:Nat):mIx k []=[]:=rfl
theorem mIx_true(k:Nat)(m:List Bool):mIx k (true::m)=k::mIx (k+1) m:=rfl
theorem mIx_false(k:Nat)(m:List Bool):mIx k (false::m)=mIx (k+1) m:=rfl
theorem pathT_nil:pathT []= .fin:=rfl
theorem pathT_cons(i:Nat)(r:List Nat):pathT (i::r)= .alt i (pathT r) .none:=rfl
variable(dst:Option Tmp)(ty:TypeId)(pos:String)(af:Array Edge)(gd:Option (Nat×Bool))(st:St)(ops:List Oper)(r:List Oper)
theorem aheadTN_guard(K:St->Prop)(R0 Rs:Rows)(t:OT)(m:List Bool)(op:Op)(j:Nat)(want:Bool):
  jdo G kp ops K R0 Rs t (false::m) (⟨dst,op,ty,pos,af,some (j,want)⟩::r) st=Opt (jd0 st ops j) (K:=⟨fun y=>match y with
   | some b=>Two (b==want) (A:=⟨aq G st ⟨dst,op,ty,pos,af,some (j,want)⟩ (fun av=>jdo G kp ops K R0 Rs t m r (st.put dst av))⟩) (B:=⟨jdo G kp ops K R0 Rs t m r (st.put dst jcn)⟩)
   | none=>jdo G kp ops K R0 Rs t m r (st.put dst jcn)⟩):=by
 simp only[jdo,List.length_cons,jc]
 conv=>lhs;unfold jfq
 simp only[Opt,Two_eq];split<;>rename_i h<;>rw[h]<;>rfl
theorem SpOne_append(K:St->Prop)(l:List Oper)(d:Tmp)(azz:Array Operand)(ts:Array TypeId)(s2:OT)(Rs:Rows):
  SpOne G kp ops K l (some ⟨some d,.call ⟨.builtin .append,azz,ts⟩,ty,pos,af,.none⟩) s2 Rs st=match ts.toList,azz.toList with
   | [t,t'],[s,x]=>match(G.ti t).kind with
    | .sl e=>t=t'/\SpApp G d t e (evO st s) (jcg (evO st x)) st.rows (T:=⟨fun av R'=>SubR Rs R'/\spOL G kp ops K l s2 Rs ((⟨st.fr,R',st.toks⟩:St).put (some d) av)⟩)
    | _=>False
   | _,_=>False:=by
 apply propext;constructor
 ·intro h;have h:=h.2;unfold spN spZ at h;dsimp only at h;rw[zm (by rfl)]at h;unfold sp at h;dsimp only at h;split at h
  ·rename_i h1 h2 h3;cases h1;rw[h2,h3];exact h
  ·exact h.elim
 ·intro h;refine⟨trivial,?_⟩;unfold spN spZ;dsimp only;rw[zm (by rfl)];unfold sp;dsimp only;split at h
  ·rename_i h2 h3;rw[h2,h3];exact h
  ·exact h.elim
end
attribute [go_sem ↓] mIx_nil mIx_true mIx_false pathT_nil pathT_cons aheadTN_guard SpOne_append
end
section
open Go.RowKit (Below)
section
variable{G:Ctx}
end
def emp1:IV->IV
 | .emp=> .sl []
 | x=>x
def emp2:IV->IV
 | .agg cs=> .agg (cs.map emp1)
 | x=>emp1 x
theorem emp1_one(x:IV):(emp1 x).one=x.one:=by cases x<;>rfl
theorem jr7{w:World}{M:Nat->Nat->Prop}{x:IV}{v:Value}(h:Rep w M x v):Rep w M (emp1 x) v:=by
 cases x with
 | emp=>cases h with | emp a=>exact Rep.nil a 0
 | _=>exact h
theorem jk6{w:World}{M:Nat->Nat->Prop}{x:IV}{v:Value}(h:Rep w M x v):Rep w M (emp2 x) v:=by
 cases x with
 | emp=>exact jr7 h
 | agg cs=>
  cases h with
  | agg _ vs h1 h2 h3=>
   refine Rep.agg _ vs (by rw[zq];exact h1) (fun y hy=> ?_) fun k y u hk hu=> ?_
   ·obtain⟨z,hz,rfl⟩:=zU.1 hy;rw[emp1_one];exact h2 z hz
   ·rw[za]at hk;obtain⟨z,hz,rfl⟩:=zS.1 hk;exact jr7 (h3 k z u hz hu)
 | _=>exact h
section
variable{G:Ctx}{N:Nat}{w0:Base}{w:World}{M0:Nat->Nat->Prop}{β:Nat->Option Nat}{st:St}{a:Act}
def frzC(b s:Nat)(es:List (List IV))(c:List IV):List IV:=c.map (frz1 b s es)
def St.frzR(st:St)(b:Nat):St:=
 match look st.rows (hp b)with
 | some (s,es)=>⟨(st.frz b).fr,(st.frz b).rows.map fun p=>(p.1,p.2.1,p.2.2.map (frzC b s es)),(st.frz b).toks⟩
 | none=>st
end
section
variable{G:Ctx}
end
def tailN:Nat->Code->Code
 | 0,c=>c
 | n+1,.seq _ y=>tailN n y
 | _+1,c=>c
def putN:Nat->Code->Code->Code
 | 0,_,y=>y
 | n+1,.seq x c,y=> .seq x (putN n c y)
 | _+1,c,_=>c
theorem jcd:∀(j k:Nat) (c:Code),tailN k (tailN j c)=tailN (j+k) c
 | 0,k,c=>by rw[qt];rfl
 | j+1,k,c=>by
  cases c with
  | seq x y=>rw[show j+1+k=(j+k)+1 by omega];exact jcd j k y
  | _=>cases k<;>first | rfl | (rw[show j+1+(_+1)=(j+_+1)+1 by omega];rfl)
def jcf(fn:Func):Code:=match fn.body with
 | some c=>c
 | none=> .skip
section
variable{G:Ctx}
theorem jpx{fn:Func}{c:Code}(hb:fn.body=some c){k:Nat}{Q:Exit->St->Prop}{st:St}(h:awp G (tailN k c) Q st):awp G (tailN k (jcf fn)) Q st:=by
 unfold jcf;rw[hb];exact h
theorem jhr{fn:Func}{c:Code}(hb:fn.body=some c){k j:Nat}{y:Code}{Q:Exit->St->Prop}{st:St}(h:awp G (putN k (tailN j c) y) Q st):awp G (putN k (tailN j (jcf fn)) y) Q st:=by
 unfold jcf;rw[hb];exact h
end
attribute [go_sem] St.frzR frzC tailN putN
end
section
theorem CtrH.frz{P:Program}{f:FuncId}{args:List AV}{L:Rows}{φ ψ:AV->Rows->Prop}(h:CtrH P f args L φ)
  (hφ:∀r L',φ r L'->ψ r L'\/∃y b s es,r= .im y/\look L' (hp b)=some (s,es)/\ψ (.im (frz3 b s es y)) (del L' (hp b))):CtrH P f args L ψ:=by
 intro w M vs h1 h2 h3 h4;refine(h w M vs h1 h2 h3 h4).mono ?_;rintro en w' ⟨r,v,L',g1,g2,g3,g4,g5,g6⟩;rcases hφ r L' g1 with hψ | ⟨y,b,s,es,rfl,hl,hψ⟩
 ·exact⟨r,v,L',hψ,g2,g3,g4,g5,g6⟩
 ·have hless:∀b' o,MoH M (del L' (hp b)) b' o->MoH M L' b' o:=fun b' o h=>by
   rcases h with h | h
   ·exact .inl h
   ·by_cases e:hp b'=hp b
    ·rw[e,ja7]at h;cases h
    ·rw[ja6 _ e]at h;exact .inr h
  have hk:=Kept.less w' hless;obtain⟨b',e,hn,hrow⟩:=g5 _ _ _ hl;have hbb:=hp_inj.1 e;subst hbb;have hnm:∀o,¬MoH M (del L' (hp b)) b o:=fun o h=>by
   rcases h with h | h
   ·rcases hn with hn | hn
    ·obtain⟨⟨s',es'⟩,hL⟩:=zh.1 hn;obtain⟨b2,e2,h5,_⟩:=h2 _ _ _ hL;have:=hp_inj.1 e2;subst this;exact h5 o h
    ·have:=h1 b o h;omega
   ·rw[ja7]at h;cases h
  refine⟨_,v,_,hψ,g2,rfl,g4,fun k s' es' hk'=> ?_,jk7 (hrow.move hk rfl) hnm (Rep.kept g6 hk)⟩;by_cases e2:k=hp b
  ·subst e2;rw[ja7]at hk';cases hk'
  ·rw[ja6 _ e2]at hk';obtain⟨b2,h5,h6,h7⟩:=g5 k s' es' hk';exact⟨b2,h5,h6,h7.move hk rfl⟩
def emp3:IV->IV
 | .tup cs=> .tup (cs.map emp2)
 | x=>emp2 x
theorem rep_emp3{w:World}{M:Nat->Nat->Prop}{x:IV}{v:Value}(h:Rep w M x v):Rep w M (emp3 x) v:=by
 cases x with
 | tup cs=>
  cases h with
  | tup _ vs h1 h3=>
   refine .tup _ vs (by simpa using h1) (fun k x v hx hv=> ?_);rw[za]at hx;obtain⟨y,hy,rfl⟩:=zS.1 hx;exact jk6 (h3 k y v hy hv)
 | _=>exact jk6 h
theorem CtrH.empt{P:Program}{f:FuncId}{args:List AV}{L:Rows}{φ ψ:AV->Rows->Prop}(h:CtrH P f args L φ)
  (hφ:∀r L',φ r L'->∃y,r= .im y/\ψ (.im (emp3 y)) L'):CtrH P f args L ψ:=by
 intro w M vs h1 h2 h3 h4;refine(h w M vs h1 h2 h3 h4).mono ?_;rintro en w' ⟨r,v,L',g1,g2,g3,g4,g5,g6⟩;obtain⟨y,rfl,hψ⟩:=hφ r L' g1;exact⟨_,v,L',hψ,g2,rfl,g4,g5,rep_emp3 g6⟩
theorem CtrH.pr{P:Program}{f:FuncId}{b s i j:Nat}{args:List AV}{L:Rows}{φ:AV->Rows->Prop}(h:CtrH P f (.loc (hp b) s i j::args) L φ):CtrH P f (.im (.pr b s i j)::args) L φ:=
 fun w M vs h1 h2 h3 h4=>h w M vs h1 h2 (by simpa using h3) fun k av v hk hv=>by
  cases k with
  | zero=>
   simp at hk;subst hk;cases (show Rep w (MoH M L) (.pr b s i j) v from h4 0 (.im (.pr b s i j)) v rfl hv)with
   | pr=>exact⟨b,pβ_hp b,rfl⟩
  | succ k=>exact h4 (k+1) av v (by simpa using hk) hv
theorem CtrH.frzA{P:Program}{f:FuncId}{args args':List AV}{L:Rows}{φ:AV->Rows->Prop}{Y s:Nat}{es:List (List IV)}(h:CtrH P f args L φ)(hY:look L (hp Y)=none)
  (ha:args'.map (AV.frz Y s es)=args):CtrH P f args' ((hp Y,s,es)::L) φ:=by
 subst ha;intro w M vs h1 h2 h3 h4;have hless:∀b o,MoH M L b o->MoH M ((hp Y,s,es)::L) b o:=fun b o h=>by
  rcases h with h | h
  ·exact .inl h
  ·refine .inr ?_;by_cases e:hp b=hp Y
   ·rw[e,ja1];rfl
   ·rw[ja0 _ _ e];exact h
 have hk:=Kept.less w hless;obtain⟨b,e,hn,hrow⟩:=h2 (hp Y) s es (ja1 _ _ _);have hbb:=hp_inj.1 e;subst hbb;have hnm:∀o,¬MoH M L Y o:=fun o h=>by
  rcases h with h | h
  ·exact hn o h
  ·rw[hY]at h;cases h
 have hL:∀k x,look L k=some x->look ((hp Y,s,es)::L) k=some x:=fun k x hx=>by
  rw[ja0 _ _ (fun e=>by subst e;rw[hY]at hx;cases hx)];exact hx
 refine(h w M vs h1 (fun k s' es' hx=> ?_) (by rw[zq];exact h3) (fun i av v hi hv=> ?_)).mono ?_
 ·obtain⟨b,e,h5,h6⟩:=h2 k s' es' (hL _ _ hx);exact⟨b,e,h5,h6.move hk rfl⟩
 ·rw[za]at hi;obtain⟨x,hx,rfl⟩:=zS.1 hi;have hx:=(h4 i x v hx hv).move hk (fun _ _=>rfl) (fun _ _ _ _ hl=>hl) (fun _ _ _ _ _=>rfl) (Shp.refl _);cases x with
  | im y=>exact jk7 (hrow.move hk rfl) hnm hx
  | osl d k i n=>
   show RepA _ _ _ _ (if d=hp Y then AV.und else .osl d k i n) v;split
   ·trivial
   ·exact hx
  | gsl d k i n=>
   show RepA _ _ _ _ (if d=hp Y then AV.und else .gsl d k i n) v;split
   ·trivial
   ·exact hx
  | loc d k i j=>
   show RepA _ _ _ _ (if d=hp Y then AV.und else .loc d k i j) v;split
   ·trivial
   ·exact hx
  | _=>exact hx
 ·rintro en w' ⟨r,v,L',g1,g2,g3,g4,g5,g6⟩;refine⟨r,v,L',g1,g2,g3,⟨g4.os,g4.tape,g4.output,g4.size,fun k hk=>g4.block k ⟨hk.1,?_⟩,g4.shp⟩,fun k s' es' hx=> ?_,g6⟩
  ·have h7:=hk.2;by_cases e:hp k=hp Y
   ·rw[e,ja1]at h7;cases h7
   ·rw[ja0 _ _ e]at h7;exact h7
  ·obtain⟨b,e,h5,h6⟩:=g5 k s' es' hx;refine⟨b,e,h5.imp (fun h=> ?_) id,h6⟩;obtain⟨y,hy⟩:=zh.1 h;rw[hL _ _ hy];rfl
def AV.em:AV->AV
 | .sx []=> .im .emp
 | x=>x
def St.em(s:St):St:=⟨s.fr.map fun p=>(p.1,p.2.em),s.rows,s.toks⟩
theorem look_em:∀(l:List (Nat×AV)) (t:Nat),look (l.map fun p=>(p.1,p.2.em)) t=(look l t).map AV.em
 | [],_=>rfl
 | p::l,t=>by
  by_cases e:t=p.1
  ·subst e;obtain⟨k,v⟩:=p;rw[zl,ja1,ja1];rfl
  ·obtain⟨k,v⟩:=p;rw[zl,ja0 _ _ e,ja0 _ _ e,look_em l t]
theorem St.get_em(s:St)(t:Nat):s.em.get t=(s.get t).em:=by
 show(look _ t).getD AV.und=_;unfold St.em;rw[look_em];unfold St.get;cases look s.fr t<;>rfl
theorem St.le_em(s:St):St.Le s s.em:=by
 intro N w0 M0 β a w h;refine⟨β,h.size,h.defers,h.below,h.m0,fun t=> ?_,h.rows,h.toks,h.inj,h.excl,h.nam,h.np,h.perm⟩;rw[St.get_em];have hv:=h.fr t;generalize s.get t=x at hv;cases x with
 | sx es=>
  cases es with
  | nil=>
   obtain⟨_,ad,hv⟩:=hv;show Rep _ _ _ _;rw[hv];exact Rep.emp ad
  | cons c cs=>exact hv
 | _=>exact hv
theorem jes{G:Ctx}{c:Code}{Q:Exit->St->Prop}{st:St}(h: @LoopP G ⟨c⟩ ⟨Q⟩ st.em): @LoopP G ⟨c⟩ ⟨Q⟩ st:=by
 obtain⟨I,n,⟨s0,h1,h2⟩,h3⟩:=h;exact⟨I,n,⟨s0,(St.le_em st).trans h1,h2⟩,h3⟩
attribute [go_sem] St.em AV.em
def AV.lp:AV->AV
 | .loc d s i j=>if 100000<=d then .im (.pr (d-100000) s i j)else .loc d s i j
 | x=>x
theorem AV.lp_hp(b s i j:Nat):AV.lp (.loc (hp b) s i j)= .im (.pr b s i j):=by
 show(if 100000<=hp b then AV.im (.pr (hp b-100000) s i j)else .loc (hp b) s i j)=_;have e:hp b-100000=b:=by unfold hp;omega
 rw[zm (by unfold hp;omega),e]
def St.lp(s:St):St:=⟨s.fr.map fun p=>(p.1,p.2.lp),s.rows,s.toks⟩
theorem look_lp:∀(l:List (Nat×AV)) (t:Nat),look (l.map fun p=>(p.1,p.2.lp)) t=(look l t).map AV.lp
 | [],_=>rfl
 | p::l,t=>by
  obtain⟨k,v⟩:=p;by_cases e:t=k
  ·subst e;rw[zl,ja1,ja1];rfl
  ·rw[zl,ja0 _ _ e,ja0 _ _ e,look_lp l t]
theorem St.get_lp(s:St)(t:Nat):s.lp.get t=(s.get t).lp:=by
 show(look _ t).getD AV.und=_;unfold St.lp;rw[look_lp];unfold St.get;cases look s.fr t<;>rfl
theorem St.le_lp(s:St):St.Le s s.lp:=by
 intro N w0 M0 β a w h;refine⟨β,h.size,h.defers,h.below,h.m0,fun t=> ?_,h.rows,h.toks,h.inj,h.excl,h.nam,h.np,h.perm⟩;rw[St.get_lp];have hv:=h.fr t;generalize s.get t=x at hv;cases x with
 | loc d k i j=>
  by_cases hd:100000<=d
  ·obtain⟨c,rfl⟩:∃c,d=hp c:=⟨_,hp_of hd⟩;rw[AV.lp_hp];obtain⟨b,h1,h2⟩:=hv;rw[h.perm]at h1;cases h1;rw[h2];exact Rep.pr c k i j
  ·have e:AV.lp (.loc d k i j)= .loc d k i j:=zr hd;rw[e];exact hv
 | _=>exact hv
def RetL(G:Ctx)(rs:List ResultVar)(st:St)[φ:Hold (AV->Rows->Prop)]:Prop:=∃F:St,St.Le st F/\aRetH G rs φ.val F
theorem jfl{G:Ctx}{rs:List ResultVar}{st:St}{φ:AV->Rows->Prop}(L':Rows)(hb:blks L')(hs:SubR L' st.rows)(h:jlr G rs (fun r=>φ r L') st.lp): @RetL G rs st ⟨φ⟩:=by
 have h2: @RetH G rs st.lp ⟨φ⟩:=jao L' hb hs h;unfold RetH at h2;exact⟨st.lp,st.le_lp,h2⟩
theorem jji{G:Ctx}(hG:G.Good){f:FuncId}{args:List AV}{L:Rows}{φ:AV->Rows->Prop}(fn:Func)(c:Code)(rs:List ResultVar)(hf:G.P.funcs[f]? =some fn)(hb:fn.body=some c)(hr:fn.results.toList=rs)(hd:dstC fn.ntmps c=true)
  (hn:Nat.ble args.length fn.ntmps=true) (h:awp G c (fun x st=>match x with | .normal=> @RetL G rs st ⟨φ⟩ | .ret=> @RetL G rs st ⟨φ⟩ | _=>False) (jc0 args L)):CtrH G.P f args L φ:=by
 subst hr;refine jgl hG hf hb hd (qE hn) fun w0 M0 β a w hs=> ?_;refine wp_mono (jfk hG _ _ _ β a w (jjg hd).2 h hs) fun e a' w' hq=> ?_;obtain⟨β',st',hq,hs'⟩:=hq;cases e with
 | normal=>
  obtain⟨F,hl,hq⟩:=hq;obtain⟨β2,h2⟩:=hl _ w0 M0 β' a' w' hs';exact⟨β2,F,hq,h2⟩
 | ret=>
  obtain⟨F,hl,hq⟩:=hq;obtain⟨β2,h2⟩:=hl _ w0 M0 β' a' w' hs';exact⟨β2,F,hq,h2⟩
 | _=>exact hq.elim
theorem AV.lp_im(x:IV):AV.lp (.im x)= .im x:=rfl
theorem AV.lp_sx(es:List (List IV)):AV.lp (.sx es)= .sx es:=rfl
theorem AV.lp_und:AV.lp .und= .und:=rfl
attribute [go_sem] St.lp AV.lp_hp AV.lp_im AV.lp_sx AV.lp_und
end
section
section
variable{G:Ctx}{N:Nat}{w0:Base}{M0:Nat->Nat->Prop}
def blist(G:Ctx)(K:St->Prop):List Oper->St->Prop
 | [],st=>K st
 | o::r,st=>o.guard=none/\(aop G o (fun s=>blist G K r s) st\/spN1 G st o fun av R'=>blist G K r ((⟨st.fr,R',st.toks⟩:St).put o.dst av))
theorem jln(hG:G.Good){ops:Array Oper}{K:St->Prop}{Q':Exit->Act->World->Prop}(hK:∀st' β' a' w',K st'->Sim N w0 M0 β' st' a' w'->Q' .normal a' w'):
  ∀(l:List Oper) (st:St) (β:Nat->Option Nat) (a:Act) (w:World),(∀o∈l,∀d,o.dst=some d->d<N)->blist G K l st->Sim N w0 M0 β st a w->wpList G.P ops Q' l a w
 | [],st,β,a,w,_,hA,h=>hK st β a w hA h
 | o::l,st,β,a,w,hd,hA,h=>by
  have ih:=jln hG (ops:=ops) hK l;have hd0:=hd o (by simp);have hd':∀o∈l,∀d,o.dst=some d->d<N:=fun o ho=>hd o (by simp[ho]);obtain⟨hg,hA⟩:=hA;unfold wpList;have hw:Region.wanted o (yielded ops a.tmps)=true:=by simp[Region.wanted,hg]
  rw[zm hw];rcases hA with hA | hA
  ·exact .inl (je8 hG h hd0 hA fun st' β' a' w' hk hs=>ih st' β' a' w' hd' hk hs)
  ·exact .inl (jon hG h hd0 hA fun av R' β' a' w' hk hs=>ih _ β' a' w' hd' hk hs)
theorem SemC.seq{x y:Code}{Q:Exit->St->Prop}{st:St}(h:SemC G N x (fun e s=>match e with | .normal=>SemC G N y Q s | e=>Q e s) st):SemC G N (x.seq y) Q st:=fun w0 M0 β a w hs=>by
 refine wp_seq (wp_mono (h w0 M0 β a w hs) fun e a' w' hq=> ?_);obtain⟨β',st',hq,hs'⟩:=hq;cases e with
 | normal=>exact hq w0 M0 β' a' w' hs'
 | _=>exact⟨β',st',hq,hs'⟩
theorem SemC.list{id:Nat}{ops:List Oper}{Q:Exit->St->Prop}{st:St}(hG:G.Good)(hd:dstsB N ops=true)(h:blist G (Q .normal) ops st):SemC G N (.region id ops.toArray false) Q st:=fun w0 M0 β a w hs=>
 wp_region_list (by simpa using jln (ops:=ops.toArray) hG (fun st' β' a' w' hk hs=>⟨β',st',hk,hs⟩) ops st β a w (dsts_of hd) h hs)
theorem jfz{st:St}{d:Tmp}{t e:TypeId}{s x:Operand}{ty:TypeId}{pos:String}{af:Array Edge}{T:AV->Rows->Prop}(hk:(G.ti t).kind= .sl e)(hs:evO st s= .sx [])(hx:jcg (evO st x)=some [])(h1:(G.ti t).size≠0)(h2:(G.ti e).size≠0)(h3:(G.ti e).bytes≠0)
  (hT:T (.sx []) st.rows):spN1 G st ⟨some d,.call ⟨.builtin .append, #[s,x], #[t,t]⟩,ty,pos,af,none⟩ T:=by
 unfold spN1 spZ1;dsimp only;rw[zm (show isSp _=true from rfl)];unfold sp;dsimp only;rw[hk];exact⟨rfl,[],hx,h1,h2,h3,fun c hc=>(by cases hc),.inr (.inr ⟨by rw[hs];rfl,rfl,by rw[hs];exact hT⟩)⟩
theorem jjj(hG:G.Good){f:FuncId}{fn:Func}{c:Code}{xs:List IV}{t:Tmp}(hf:G.P.funcs[f]? =some fn)(hb:fn.body=some c)(hd:dstC fn.ntmps c=true)(hn:xs.length<=fn.ntmps)(hr:fn.results.toList=[.tmp t])
  (h:SemC G fn.ntmps c (fun e s=>match e with | .normal=>s.get t= .sx [] | .ret=>s.get t= .sx [] | _=>False) (jc0 (xs.map .im) [])):CtrH G.P f (xs.map .im) [] (fun r L'=>r= .im .emp/\L'=[]):=by
 refine ctrS_of hf hb hd (by rw[zq];exact hn) (fun s=>s.get t= .sx []) (h.mono fun e s hq=>by cases e<;>exact hq) fun w M β st a' w' hq hs=> ?_;have hrun:(results fn a'.tmps).run G.P w'= .ok (a'.tmps.getD t undef) w':=by
  rw[jeg,Sem.run_bind,qP,Sem.run_map,hr];rfl
 have hv:=hs.fr t;rw[hq]at hv;obtain⟨_,ad,hv⟩:=hv;refine⟨_,_,[],hrun,⟨rfl,rfl⟩,rfl,fun k s es hk=>(by cases hk),?_⟩;rw[hv];exact Rep.emp ad
end
end
section
def val:List Int->Int
 | []=>0
 | d::l=>d+1048576*val l
def OkD(l:List Int):Prop:=∀d∈l,0<=d/\d<1048576
def dgt(l:List Int)(i:Nat):Int:=(l[i]?).getD 0
def dig(n:Nat):List Int:=if h:n=0 then []else((n % 1048576:Nat):Int)::dig (n/1048576)
 termination_by n
 decreasing_by omega
theorem OkD.nil:OkD []:=fun _ h=>by cases h
theorem OkD.cons{d:Int}{l:List Int}(h:0<=d/\d<1048576)(hl:OkD l):OkD (d::l):=fun x hx=>by
 rcases zN.1 hx with rfl | hx
 ·exact h
 ·exact hl x hx
theorem OkD.tail{d:Int}{l:List Int}(h:OkD (d::l)):OkD l:=fun x hx=>h x (qq _ hx)
theorem OkD.head{d:Int}{l:List Int}(h:OkD (d::l)):0<=d/\d<1048576:=h d (qz ..)
theorem OkD.take{l:List Int}(h:OkD l)(n:Nat):OkD (l.take n):=fun x hx=>h x (yq hx)
theorem OkD.drop{l:List Int}(h:OkD l)(n:Nat):OkD (l.drop n):=fun x hx=>h x (yy hx)
theorem OkD.append{a b:List Int}(ha:OkD a)(hb:OkD b):OkD (a++b):=fun x hx=>(qp.1 hx).elim (ha x) (hb x)
theorem OkD.dgt{l:List Int}(h:OkD l)(i:Nat):0<=dgt l i/\dgt l i<1048576:=by
 unfold Go.Abs.dgt;cases hi:l[i]? with
 | none=>simp
 | some d=>exact h d (zE hi)
theorem jb9:∀{l:List Int},OkD l->0<=val l
 | [],_=>yw _
 | d::l,h=>by
  have:=jb9 h.tail;have:=h.head;simp only[val];omega
theorem jf2:∀{l:List Int},OkD l->val l<1048576^l.length
 | [],_=>by simp[val]
 | d::l,h=>by
  have h1:=jf2 h.tail;have h2:=h.head;simp only[val,List.length_cons,Int.pow_succ];omega
theorem jbw:dig 0=[]:=by rw[dig];simp
theorem jgk{n:Nat}(h:n≠0):dig n=((n % 1048576:Nat):Int)::dig (n/1048576):=by
 conv=>lhs;rw[dig]
 rw[dif_neg h]
theorem jc3(n:Nat):OkD (dig n):=by
 induction n using Nat.strongRecOn with
 | _ n ih=>
  by_cases h:n=0
  ·subst h;rw[jbw];exact OkD.nil
  ·rw[jgk h];exact OkD.cons (by omega) (ih _ (by omega))
theorem jbb(n:Nat):val (dig n)=n:=by
 induction n using Nat.strongRecOn with
 | _ n ih=>
  by_cases h:n=0
  ·subst h;rw[jbw];rfl
  ·rw[jgk h,val,ih _ (by omega)];omega
theorem dig_nil{n:Nat}:dig n=[]↔n=0:=by
 constructor
 ·intro h;have:=jbb n;rw[h]at this;simp only[val]at this;omega
 ·intro h;subst h;exact jbw
theorem eq_dig:∀{l:List Int},OkD l->l.getLast? ≠some 0->l=dig (val l).toNat
 | [],_,_=>by simp[val,jbw]
 | d::l,h,hl=>by
  have hd:=h.head;have hv:=jb9 h.tail;cases l with
  | nil=>
   have:d≠0:=fun e=>hl (by simp[e]);simp only[val,q5,yc];rw[jgk (by omega),show d.toNat/1048576=0 by omega,jbw];congr 1;omega
  | cons e l=>
   have hl':(e::l).getLast? ≠some 0:=by rw[List.getLast?_cons_cons]at hl;exact hl
   have ih:=eq_dig h.tail hl';have hne:(val (e::l)).toNat≠0:=fun h0=>by rw[h0,jbw]at ih;cases ih
   generalize hw:e::l=w at*;have hval:val (d::w)=d+1048576*val w:=rfl;rw[jgk (by omega),show(val (d::w)).toNat/1048576=(val w).toNat by omega,<-ih];congr 1;omega
theorem jnk(n:Nat):(dig n).getLast? ≠some 0:=by
 induction n using Nat.strongRecOn with
 | _ n ih=>
  by_cases h:n=0
  ·subst h;rw[jbw];simp
  ·rw[jgk h];by_cases h2:n/1048576=0
   ·rw[h2,jbw];simp;omega
   ·have:=ih (n/1048576) (by omega);cases hd:dig (n/1048576)with
    | nil=>rw[dig_nil]at hd;exact absurd hd h2
    | cons e l=>rw[List.getLast?_cons_cons,<-hd];exact this
theorem jf9:∀(a b:List Int),val (a++b)=val a+1048576^a.length*val b
 | [],b=>by simp[val]
 | d::a,b=>by
  simp only[List.cons_append,val,jf9 a b,List.length_cons,Int.pow_succ,qu,qG];rw[jT (1048576:Int)];omega
theorem jcm(l:List Int)(i:Nat):val (l.take (i+1))=val (l.take i)+1048576^i*dgt l i:=by
 rcases zR i l.length with h | h
 ·rw[List.take_succ_eq_append_getElem h,jf9];have:(l.take i).length=i:=by rw[qa];omega
  have hd:dgt l i=l[i]:=by unfold dgt;rw[zk h];rfl
  rw[this,hd];have hs:val [l[i]]=l[i]:=by
   show l[i]+1048576*0=l[i];omega
  rw[hs]
 ·rw[zu (by omega),zu h,show dgt l i=0 by unfold dgt;rw[jp h];rfl,q5,yc]
theorem jdd(l:List Int)(i:Nat):val l=val (l.take i)+1048576^i*val (l.drop i):=by
 rcases zR i l.length with h | h
 ·conv=>lhs;rw[<-yJ i l]
  rw[jf9];have:(l.take i).length=i:=by rw[qa];omega
  rw[this]
 ·rw[zu h,qy h];simp[val]
theorem jd2(l:List Int)(i:Nat):val (l.drop i)=dgt l i+1048576*val (l.drop (i+1)):=by
 rcases zR i l.length with h | h
 ·rw[ye h,val];simp[dgt,h]
 ·rw[qy h,qy (by omega)];simp[val,dgt,jp h]
theorem jft(a b:List Int):∀(n k:Nat),a.length+b.length<=k+n->(∀j,k<=j->dgt a j=dgt b j)->val (a.drop k)=val (b.drop k)
 | 0,k,h,_=>by rw[qy (by omega),qy (by omega)]
 | n+1,k,h,hj=>by
  rw[jd2 a,jd2 b,hj k (zn _),jft a b n (k+1) (by omega) fun j h=>hj j (by omega)]
theorem je3(i:Nat):(0:Int)<1048576^i:=Int.pow_pos (by omega)
theorem jdt{l:List Int}(h:OkD l)(i:Nat):val (l.take i)<1048576^i:=by
 have h1:=jf2 (h.take i);have h2:(1048576:Int)^(l.take i).length<=1048576^i:=by
  have hl:(l.take i).length<=i:=by rw[qa];omega
  have h3:(1048576:Nat)^(l.take i).length<=1048576^i:=qV (by omega) hl;have h4:=jn.2 h3;rw[Int.natCast_pow,Int.natCast_pow]at h4;exact h4
 omega
theorem lt_at{a b:List Int}(ha:OkD a)(hb:OkD b)(i:Nat)(h:∀j,i<j->dgt a j=dgt b j)(hlt:dgt a i<dgt b i):val a<val b:=by
 have e:val (a.drop (i+1))=val (b.drop (i+1)):=jft a b (a.length+b.length) (i+1) (by omega) fun j hj=>h j (by omega);have h1:=jdt ha i;have h2:=jb9 (hb.take i);have hp:=je3 i;rw[jdd a i,jdd b i,jd2 a i,jd2 b i,e];generalize val (b.drop (i+1))=v;generalize (1048576:Int)^i=p at*;have h3:p*(dgt a i+1048576*v)+p<=p*(dgt b i+1048576*v):=by
  have:p*(dgt a i+1048576*v)+p=p*(dgt a i+1+1048576*v):=by rw[qu,qu,qu];omega
  rw[this];exact qf (by omega) (by omega)
 omega
theorem jr5{a b:List Int}(h:∀j,dgt a j=dgt b j):val a=val b:=by
 have:=jft a b (a.length+b.length) 0 (by omega) fun j _=>h j
 simpa using this
theorem dgt_take{l:List Int}{n j:Nat}(h:∀i,n<=i->dgt l i=0):dgt (l.take n) j=dgt l j:=by
 unfold dgt at*;rw[qj];split
 ·rfl
 ·rename_i hj;exact(h j (by omega)).symm
theorem jr0{l:List Int}(hl:OkD l){n:Nat}(hn:n<=l.length)(hz:∀i,n<=i->dgt l i=0)(hlast:n=0\/dgt l (n-1)≠0):l.take n=dig (val l).toNat:=by
 have hv:val (l.take n)=val l:=jr5 fun j=>dgt_take hz;rw[<-hv];refine eq_dig (hl.take n) fun h=> ?_;rcases hlast with h0 | h0
 ·subst h0;simp at h
 ·have hlen:(l.take n).length=n:=by rw[qa];omega
  rw[yK,hlen]at h;have hn0:0<n:=by
   rcases yG n with e | e
   ·subst e;simp at h
   ·exact e
  rw[qj,zm (by omega)]at h;exact h0 (by simp[dgt,h])
end
section
theorem jn2(d:Int):val [d]=d:=by
 show d+1048576*0=d;omega
theorem jqr(l:List Int)(d:Int):val (l++[d])=val l+1048576^l.length*d:=by rw[jf9,jn2]
theorem jdi(i:Nat):(1048576:Int)^(i+1)=1048576^i*1048576:=Int.pow_succ ..
theorem jc4{l:List Int}{i:Nat}(h:l.length<=i):val (l.take i)=val l:=by rw[zu h]
theorem jfj{l:List Int}(hl:OkD l){i:Nat}(h:val l<1048576^i):val (l.drop i)=0:=by
 have h1:=jdd l i;have h2:=jb9 (hl.take i);have h3:=jb9 (hl.drop i);have hp:=je3 i;rcases ya 0 (val (l.drop i))with h4 | h4
 ·have:1048576^i*1<=1048576^i*val (l.drop i):=qf (by omega) (by omega);omega
 ·omega
theorem jj7{l:List Int}(hl:OkD l){i:Nat}(h:val l<1048576^i):val (l.take i)=val l:=by
 have h1:=jdd l i;rw[jfj hl h,q5]at h1;omega
theorem jc1{n k:Nat}(h:(n:Int)<1048576^k):(dig n).length<=k:=by
 induction k generalizing n with
 | zero=>
  have:n=0:=by simp at h;omega
  subst this;rw[jbw];exact zn _
 | succ k ih=>
  by_cases hn:n=0
  ·subst hn;rw[jbw];exact zI _
  ·rw[jgk hn,List.length_cons];rw[jdi]at h;have:=ih (n:=n/1048576) (by omega);omega
end
end Go.Abs
namespace Go.Proofs.YtdhlmmoicchgpaaGreat
section
open Go.Abs
attribute [local go_sem] ints ic
theorem jp9(l:List Int):∀c∈l.map ic,c.length=1:=fun c hc=>by
 obtain⟨z,_,rfl⟩:=zU.1 hc;rfl
theorem jru(l:List Int):((l.map ic).all fun c=>c.length==1)=true:=by
 rw[List.all_eq_true];intro c hc;rw[yF];exact jp9 l c hc
theorem jba{l:List Int}{i:Nat}(h:(i:Int)<l.length):l[i]? =some (dgt l i):=by
 have h:i<l.length:=by omega
 unfold dgt;rw[zk h];rfl
theorem dgt_at{l:List Int}{i:Nat}{d:Int}(h:l[i]? =some d):dgt l i=d:=by simp[dgt,h]
theorem jf7{l:List Int}{i:Nat}(h:l.length<=i):dgt l i=0:=by simp[dgt,jp h]
end
end Go.Proofs.YtdhlmmoicchgpaaGreat
namespace Go.Abs
section
theorem jgb:∀(l:List Int) (j:Nat) (v:Int),j<l.length->val (l.set j v)=val l+1048576^j*(v-dgt l j)
 | [],j,v,h=>by simp at h
 | d::l,0,v,_=>by
  have:dgt (d::l) 0=d:=rfl;rw[List.set_cons_zero,this,Int.pow_zero,ym];show v+1048576*val l=d+1048576*val l+(v-d);omega
 | d::l,j+1,v,h=>by
  have ih:=jgb l j v (by simpa using h);have hd:dgt (d::l) (j+1)=dgt l j:=by simp[dgt]
  rw[List.set_cons_succ,hd,jdi];show d+1048576*val (l.set j v)=d+1048576*val l+_;rw[ih,qu,q8 (1048576^j) 1048576,qG];omega
theorem OkD.set{l:List Int}(h:OkD l){j:Nat}{v:Int}(hv:0<=v/\v<1048576):OkD (l.set j v):=fun x hx=>by
 rcases ja hx with h1 | h1
 ·exact h x h1
 ·rw[h1];exact hv
theorem jl0{x y:Int}(hx:0<=x/\x<1048576)(hy:0<=y/\y<1048576):0<=x*y/\x*y<=1048575*1048575:=
 ⟨qM hx.1 hy.1,jP (by omega) (by omega) hy.1 (by omega)⟩
theorem jm2{out b:List Int}{j i k:Nat}{c n x V:Int}(hj:j=i+k)(hjl:j<out.length)(h:val out+1048576^j*c=V+1048576^i*(x*val (b.take k)))(hn:n=dgt out j+x*dgt b k+c):
  val (out.set j (n % 1048576))+1048576^(j+1)*(n/1048576)=V+1048576^i*(x*val (b.take (k+1))):=by
 rw[jgb out j _ hjl,jcm,jdi,qu x,qu];have e1:1048576^j*(n % 1048576-dgt out j)+1048576^j*1048576*(n/1048576)=1048576^j*(n-dgt out j):=by
  rw[qG,<-qu];congr 1;have:=qH n 1048576;omega
 have e2:1048576^j*(n-dgt out j)=1048576^j*c+1048576^j*(x*dgt b k):=by
  rw[<-qu];congr 1;omega
 have e3:(1048576:Int)^i*(x*(1048576^k*dgt b k))=1048576^j*(x*dgt b k):=by
  rw[hj,Int.pow_add,jT x,qG]
 rw[e3];omega
theorem je0(n:Nat):val (List.replicate n 0)=0:=by
 induction n with
 | zero=>rfl
 | succ n ih=>rw[List.replicate_succ];show 0+1048576*val (List.replicate n 0)=0;rw[ih];rfl
theorem OkD.replicate(n:Nat):OkD (List.replicate n 0):=fun x hx=>by rw[jV hx];omega
end
end Go.Abs
namespace Go.Proofs.YtdhlmmoicchgpaaGreat
section
open Go.Abs
attribute [local go_sem] ints ic
theorem jfd(l:List Int)(hl:OkD l)(hlen:l.length<=1000000000000):Ctr G.P 136 [ints l] (· =ints (dig (val l).toNat)):=by
 refine ja5 [.tmp 2] Tryz.func136 ?_;simp only[go_sem];refine jaw [0,3] [] (fun n:Nat=>⟨[(0,.im (.sl (l.map ic))),(3,.im (.int n))],[],[]⟩) (fun n=>n<=l.length/\∀i,n<=i->dgt l i=0) (fun n=>n) l.length ?_ ⟨zn _,fun i hi=>jf7 hi⟩ ?_
 ·simp only[go_sem]
 ·intro n ⟨hn,hz⟩;have fin:n=0\/dgt l (n-1)≠0->(l.map ic).take n=(dig (val l).toNat).map ic:=fun h=>by
   rw[<-List.map_take,jr0 hl hn hz h]
  have hnn:(n:Int)<=l.length:=by omega
  rcases n with _ | m
  ·have hd:decide ((0:Int)<((0:Nat):Int))=false:=by decide
   have hf:=fin (.inl rfl);rw[List.take_zero]at hf;have hg:dig (val l).toNat=[]:=qd.1 hf.symm;rw[hg];simp only[hd,Int.natCast_zero,vq,jru,go_sem]
  ·have hd:decide ((0:Int)<((m+1:Nat):Int))=true:=ze (by omega);have h1:=jaa (n:=(m:Int)) (by omega);have h2:((m+1:Nat):Int)-1=m:=by omega
   have h3:((m+1:Nat):Int).toNat=m+1:=by omega
   have h4:(0:Int)<=((m+1:Nat):Int):=by omega
   obtain⟨d,hx⟩:∃d,l[m]? =some d:=⟨_,zk (by omega)⟩;have hdm:=dgt_at hx;simp only[hd,h1,h2,za,hx,go_sem];refine jd5 (fun hb hb'=> ?_) (fun hb hb'=> ?_)
   ·simp only[hd,h1,h2,hb,go_sem];refine jai m ?_ (by omega) ⟨by omega,fun i hi=> ?_⟩
    ·simp only[h1,h2,go_sem]
    ·rcases zR m i with h | h
     ·exact hz i h
     ·rw[show i=m by omega,hdm];exact hb'
   ·have hf:=fin (.inr (by rw[Nat.add_sub_cancel,hdm];exact hb'));simp only[jru,hnn,h3,h4,hb,hf,Nat.sub_zero,go_sem]
theorem t_ptrimO(l:List Int)(hl:OkD l)(hlen:l.length<=1000000000000):CtrM G.P 136 [.gsl 900 3 1 l.length] [(900,1,l.map ic)] (fun r Es new=>r= .gsl 900 3 1 (dig (val l).toNat).length/\Es=[l.map ic]/\new=none):=by
 refine jnt good _ _ [.tmp 2] Tryz.func136 rfl rfl (by decide+kernel) rfl rfl (by simp) ?_;simp only[go_sem];refine jaw [0,3] [900] (fun n:Nat=>⟨[(0,.gsl 900 3 1 l.length),(3,.im (.int n))],[(900,1,l.map ic)],[]⟩) (fun n=>n<=l.length/\∀i,n<=i->dgt l i=0) (fun n=>n) l.length ?_ ⟨zn _,fun i hi=>jf7 hi⟩ ?_
 ·simp only[go_sem]
 ·intro n ⟨hn,hz⟩;have fin:n=0\/dgt l (n-1)≠0->(dig (val l).toNat).length=n:=fun h=>by
   rw[<-jr0 hl hn hz h,qa];omega
  have hnn:(n:Int)<=l.length:=by omega
  rcases n with _ | m
  ·have hd:decide ((0:Int)<((0:Nat):Int))=false:=by decide
   have hf:=fin (.inl rfl);rw[hf];simp only[hd,Int.natCast_zero,vq,jru,yw,Int.toNat_zero,yx,go_sem]
  ·have hd:decide ((0:Int)<((m+1:Nat):Int))=true:=ze (by omega);have h1:=jaa (n:=(m:Int)) (by omega);have h2:((m+1:Nat):Int)-1=m:=by omega
   have h3:((m+1:Nat):Int).toNat=m+1:=by omega
   have h4:(0:Int)<=((m+1:Nat):Int):=by omega
   have h5:(m:Int)<l.length:=by omega
   obtain⟨d,hx⟩:∃d,l[m]? =some d:=⟨_,zk (by omega)⟩;have hdm:=dgt_at hx;simp only[hd,h1,h2,h5,za,hx,go_sem];refine jd5 (fun hb hb'=> ?_) (fun hb hb'=> ?_)
   ·simp only[hd,h1,h2,hb,go_sem];refine jai m ?_ (by omega) ⟨by omega,fun i hi=> ?_⟩
    ·simp only[h1,h2,go_sem]
    ·rcases zR m i with h | h
     ·exact hz i h
     ·rw[show i=m by omega,hdm];exact hb'
   ·have hf:=fin (.inr (by rw[Nat.add_sub_cancel,hdm];exact hb'));rw[hf];simp only[jru,hnn,h3,h4,hb,Nat.sub_zero,yx,go_sem]
theorem jkj(l:List Int)(hlen:l.length<=1000000000000):Ctr G.P 102 [ints l] (· =ints l):=by
 refine ja5 [.tmp 2] Tryz.func102 ?_;simp only[go_sem];refine jd6 (fun h=> ?_) ?_
 ·have:l=[]:=qd.1 h;subst this;simp only[zB,go_sem]
 ·simp only[go_sem];exact⟨by simp,jp9 l,by omega⟩
theorem t_cloneO(l:List Int)(hne:l≠[])(hlen:l.length<=1000000000000):CtrM G.P 102 [.im (ints l)] [] (fun r Es new=>r= .gsl 901 3 1 l.length/\Es=[]/\new=some (1,l.map ic)):=by
 have hne':l.map ic≠[]:=fun h=>hne (qd.1 h);refine jnt goodO _ _ [.tmp 2] Tryz.func102 rfl rfl (by decide+kernel) rfl rfl (by simp) ?_;simp only[go_sem];refine jd6 (fun h=>absurd h hne') ?_;simp only[hne',go_sem];exact⟨jp9 l,by omega⟩
end
end Go.Proofs.YtdhlmmoicchgpaaGreat
namespace Go.Abs
section
theorem jku{a q:List Int}{m:Nat}{b R lo:Int}(hm:m<q.length)(h:val (a.drop (m+1))=val (q.drop (m+1))*b+R):
  val (a.drop m)=val ((q.set m lo).drop m)*b+(dgt a m+1048576*R-lo*b):=by
 rw[jd2 a m,jd2 (q.set m lo) m,h];have h1:dgt (q.set m lo) m=lo:=by simp[dgt,hm]
 have h2:(q.set m lo).drop (m+1)=q.drop (m+1):=by
  rw[List.drop_set_of_lt (by omega)]
 rw[h1,h2,yn,qG,qu];omega
theorem jrc{x q b R:Int}(h:x=q*b+R)(h0:0<=R)(h1:R<b):q=x/b/\R=x % b:=by
 have hb:0<b:=by omega
 have h2:x/b=q:=by
  rw[h,Int.add_comm,Int.add_mul_ediv_right _ _ (by omega),Int.ediv_eq_zero_of_lt h0 h1,jw]
 refine⟨h2.symm,?_⟩;have:=qH x b;rw[h2]at this;rw[q8]at this;omega
end
section
theorem jcu(n:Int):(BitVec.ofInt 64 n).toNat=(n % 18446744073709551616).toNat:=by
 rw[BitVec.toNat_ofInt];rfl
theorem and20(n:Int):bits .and .i64 n 1048575=n % 1048576:=by
 have h1:(BitVec.ofInt 64 n&&&BitVec.ofInt 64 1048575).toNat=(n % 1048576).toNat:=by
  rw[BitVec.toNat_and,jcu,jcu];have e:((1048575:Int) % 18446744073709551616).toNat=2^20-1:=by decide
  rw[e,jA];have:(n % 18446744073709551616) % 1048576=n % 1048576:=Int.emod_emod_of_dvd n ⟨17592186044416,by decide⟩;omega
 have h2:bits .and .i64 n 1048575=IntKind.i64.wrap ((BitVec.ofInt 64 n&&&BitVec.ofInt 64 1048575).toNat:Nat):=rfl;rw[h2,h1];have h3:=jI n (show(1048576:Int)≠0 by decide);have h4:=jk n (show(0:Int)<1048576 by decide);rw[yC h3];exact IntWalk.i64_in _ (by omega)
theorem or20(r a:Int)(hr:0<=r/\r<8796093022208)(ha:0<=a/\a<1048576):bits .or .i64 (r*1048576) a=r*1048576+a:=by
 have h1:(BitVec.ofInt 64 (r*1048576) ||| BitVec.ofInt 64 a).toNat=(r*1048576+a).toNat:=by
  rw[BitVec.toNat_or,jcu,jcu,jo (by omega) (by omega),jo (by omega) (by omega)];have e1:(r*1048576).toNat=2^20*r.toNat:=by omega
  rw[e1,<-vA (by omega:a.toNat<2^20)];omega
 have h2:bits .or .i64 (r*1048576) a=IntKind.i64.wrap ((BitVec.ofInt 64 (r*1048576) ||| BitVec.ofInt 64 a).toNat:Nat):=rfl;rw[h2,h1,yC (by omega)];exact IntWalk.i64_in _ (by omega)
theorem fd20(n:Int):n.fdiv 1048576=n/1048576:=jv n (by decide)
theorem and1(n:Int)(h: -9223372036854775808<=n/\n<=9223372036854775807):bits .and .i64 n 1=n % 2:=by
 have h1:(BitVec.ofInt 64 n&&&BitVec.ofInt 64 1).toNat=(n % 2).toNat:=by
  rw[BitVec.toNat_and,jcu,jcu];have e:((1:Int) % 18446744073709551616).toNat=2^1-1:=by decide
  rw[e,jA];omega
 have h2:bits .and .i64 n 1=IntKind.i64.wrap ((BitVec.ofInt 64 n&&&BitVec.ofInt 64 1).toNat:Nat):=rfl;rw[h2,h1,yC (by omega)];exact IntWalk.i64_in _ (by omega)
theorem jsc{out a b:List Int}{i:Nat}{c n:Int}(hi:i<out.length)(hz:dgt out i=0)(h:val out+1048576^i*c=val (a.take i)+val (b.take i))(hn:n=dgt a i+dgt b i+c):
  val (out.set i (n % 1048576))+1048576^(i+1)*(n/1048576)=val (a.take (i+1))+val (b.take (i+1)):=by
 rw[jgb _ _ _ hi,hz,jx,jcm,jcm,jdi];generalize (1048576:Int)^i=p at*;have e:p*(n % 1048576)+p*1048576*(n/1048576)=p*n:=by
  rw[qG,<-qu,qH]
 have e2:p*n=p*dgt a i+p*dgt b i+p*c:=by rw[hn,qu,qu]
 omega
theorem sub_step{out b:List Int}{i:Nat}{c n V:Int}(hi:i<out.length)(h:val out-1048576^i*c=V-val (b.take i))(hn:n=dgt out i-dgt b i-c):
  val (out.set i (n % 1048576))-1048576^(i+1)* -(n/1048576)=V-val (b.take (i+1)):=by
 rw[jgb _ _ _ hi,jcm,jdi];generalize (1048576:Int)^i=p at*;have e0:=qH n 1048576;have e:p*(n % 1048576-dgt out i)-p*1048576* -(n/1048576)=p*(n-dgt out i):=by
  rw[qG,<-j9];congr 1;omega
 have e2:p*(n-dgt out i)= -(p*dgt b i)-p*c:=by
  rw[hn,show dgt out i-dgt b i-c-dgt out i= -dgt b i-c by omega,j9,yV]
 omega
theorem jmr{l:List Int}{i j:Nat}{v:Int}(h:i≠j):dgt (l.set i v) j=dgt l j:=by
 unfold dgt;rw[jy h]
theorem mb20:min 20 64=(20:Nat):=rfl
theorem pw20:(2:Int)^20=1048576:=by decide
end
end Go.Abs
namespace Go.Proofs.YtdhlmmoicchgpaaGreat
section
open Go.Abs
attribute [local go_sem] ints ic mb20 pw20 fd20
theorem t_short(a:List Int)(d:Int)(ha:OkD a)(hd:1<=d/\d<1048576)(la:a.length<=1000000000000):Ctr G.P 156 [ints a,.int d] (· = .tup [ints (dig (val a/d).toNat),.int (val a % d)]):=by
 have w1:=jaa (n:=(a.length:Int)-1) (by omega);have w0:(a.length:Int)*8<=140737488355328:=by omega
 refine ja5 [.tmp 4,.tmp 5] Tryz.func156 ?_;simp only[w1,w0,go_sem];refine jaw [0,1,6,7,8] [11] (fun g:Nat×List Int×Int=>⟨[(0,.im (.sl (a.map ic))),(1,.im (.int d)),(6,.gsl 11 3 1 a.length),(7,.im (.int g.2.2)),(8,.im (.int ((g.1:Int)-1)))],[(11,1,g.2.1.map ic)],[]⟩)
  (fun g=>g.1<=a.length/\g.2.1.length=a.length/\OkD g.2.1/\0<=g.2.2/\g.2.2<d/\val (a.drop g.1)=val (g.2.1.drop g.1)*d+g.2.2) (fun g=>g.1) (a.length,List.replicate a.length 0,0) ?_
  ⟨zn _,qx,OkD.replicate _,yw _,by dsimp only;omega,by
   dsimp only;rw[qy (zn _),qy (by rw[qx];exact zn _)];simp[val]⟩ ?_
 ·simp only[w1,yY,qx,go_sem]
 intro⟨n,q,r⟩ ⟨h1,h2,h3,h4,h5,h6⟩;dsimp only at h1 h2 h3 h4 h5 h6;rcases n with _ | m
 ·have hg:decide ((0:Int)<=((0:Nat):Int)-1)=false:=by decide
  rw[yH,yH]at h6;obtain⟨e1,e2⟩:=jrc h6 h4 h5;have ht:=jfd q h3 (by omega);rw[e1]at ht;rw[<-e2];simp only[ints]at ht;have hql:a.length<=q.length:=by omega
  have htk:(q.map ic).take a.length=q.map ic:=zu (by rw[zq];omega);simp only[hg,hql,htk,go_sem];refine ja2 ht ?_;simp only[go_sem]
 ·have e1:((m+1:Nat):Int)-1=m:=by omega
  have hg:decide ((0:Int)<=(m:Int))=true:=ze (by omega);have hx:=jba (l:=a) (i:=m) (by omega);have hda:=ha.dgt m;have hq:(m:Int)<a.length:=by omega
  have hqx:=jba (l:=q) (i:=m) (by omega);have w2:=jaa (n:=r*1048576) (by omega);have w3:=or20 r (dgt a m) (by omega) hda;generalize hR:r*1048576+dgt a m=R at*;have hR0:0<=R:=by omega
  have hRd:R<d*1048576:=by omega
  have hlo:R/d<1048576:=j4 (by omega) (by rw[q8];exact hRd);have hlo0:0<=R/d:=jJ hR0 (by omega);have w4:IntKind.i64.wrap (R.tdiv d)=R/d:=by
   rw[vF hR0];exact jaa (by omega)
  have w5:R.tmod d=R % d:=vE hR0;have w6:decide (d=0)=false:=zw (by omega);have w7:=jaa (n:=(m:Int)-1) (by omega);have d0:¬d=0:=by omega
  have hs:=jku (lo:=R/d) (by omega:m<q.length) h6;have hmod:=jI R (by omega:d≠0);have hmod2:=jk R (by omega:0<d);have hdm:dgt a m+1048576*r-R/d*d=R % d:=by
   have:=qH R d;rw[q8 (R/d) d];omega
  rw[hdm]at hs;simp only[e1,hg,hq,za,hx,hqx,w2,w3,w4,w5,w6,d0,<-qI,go_sem];refine jai (m,q.set m (R/d),R % d) ?_ ?_ ⟨?_,?_,?_,hmod,hmod2,hs⟩
  ·simp only[w7,qI,go_sem]
  ·show m<m+1;omega
  ·show m<=a.length;omega
  ·show(q.set m (R/d)).length=a.length;rw[qk];exact h2
  ·exact h3.set ⟨hlo0,hlo⟩
end
section
open Go.Abs
attribute [local go_sem] ints ic mb20 pw20 fd20
def padD(n v:Nat):List Int:=dig v++List.replicate (n-(dig v).length) 0
theorem val_zeros{l:List Int}(hl:OkD l)(h:val l=0):l=List.replicate l.length 0:=by
 induction l with
 | nil=>rfl
 | cons d l ih=>
  have h1:=hl.head;have h2:=jb9 hl.tail;simp only[val]at h;have h3:=ih hl.tail (by omega);rw[List.length_cons,List.replicate_succ,<-h3,show d=0 by omega]
theorem pad_eq{l:List Int}(hl:OkD l):l=padD l.length (val l).toNat:=by
 have hlen:(dig (val l).toNat).length<=l.length:=by
  refine jc1 ?_;rw[yC (jb9 hl)];exact jf2 hl
 have h0:=jb9 hl;have hv:val (dig (val l).toNat)=val l:=by rw[jbb];omega
 have h1:=jdd l (dig (val l).toNat).length;have hlt:val l<1048576^(dig (val l).toNat).length:=by
  have:=jf2 (jc3 (val l).toNat);rw[hv]at this;exact this
 have h2:=jfj hl hlt;have h3:=val_zeros (hl.drop (dig (val l).toNat).length) h2;have h4:=jj7 hl hlt;have h5:l.take (dig (val l).toNat).length=dig (val l).toNat:=by
  have:∀(a b:List Int),OkD a->OkD b->a.length=b.length->val a=val b->a=b:=by
   intro a
   induction a with
   | nil=>intro b _ _ h _;exact(zF h.symm).symm
   | cons d a ih=>
    intro b ha hb h hv;cases b with
    | nil=>simp at h
    | cons e b=>
     have g1:=ha.head;have g2:=hb.head;simp only[val]at hv;rw[show d=e by omega,ih b ha.tail hb.tail (by simpa using h) (by omega)]
  refine this _ _ (hl.take _) (jc3 _) (by rw[qa];omega) (by rw[h4,hv])
 conv=>lhs;rw[<-yJ (dig (val l).toNat).length l]
 rw[h5,h3,yT];rfl
theorem jrk{a b out:List Int}{i:Nat}{c:Int}(hl:i+b.length<out.length)(ho:OkD out)(hz:∀j,i+b.length<=j->dgt out j=0)(hc:0<=c/\c<1048576)
  (hv:val out+1048576^(i+b.length)*c=val (a.take i)*val b+1048576^i*(dgt a i*val b)):
  OkD (out.set (i+b.length) c)/\(out.set (i+b.length) c).length=out.length/\val (out.set (i+b.length) c)=val (a.take (i+1))*val b/\∀j,i+1+b.length<=j->dgt (out.set (i+b.length) c) j=0:=by
 refine⟨ho.set hc,qk,?_,fun j hj=> ?_⟩
 ·rw[jgb _ _ _ hl,hz _ (zn _),jx,hv,jcm,yn,qG]
 ·have:=hz j (by omega);unfold dgt at this⊢;rw[jy (by omega)];exact this
theorem t_pmul(a b:List Int)(ha:OkD a)(hb:OkD b)(la:a.length<=100000000000)(lb:b.length<=100000000000):Ctr G.P 137 [ints a,ints b] (· =ints (dig (val a*val b).toNat)):=by
 have w0:=jaa (n:=(a.length:Int)+b.length) (by omega);have w00:((a.length:Int)+b.length)*8<=140737488355328:=by omega
 have w01:(0:Int)<=(a.length:Int)+b.length:=by omega
 have w02:((a.length:Int)+b.length).toNat=a.length+b.length:=by omega
 refine ja5 [.tmp 4] Tryz.func137 ?_;simp only[w0,w00,w01,w02,go_sem];refine jaw [1,5,18,19,20] [17] (fun g:Nat×List Int=>⟨[(1,.im (.sl (b.map ic))),(5,.gsl 17 3 1 (a.length+b.length)),(18,.im (.sl (a.map ic))),(19,.im (.int a.length)),(20,.im (.int g.1))],[(17,1,g.2.map ic)],[]⟩)
  (fun g=>g.1<=a.length/\g.2.length=a.length+b.length/\OkD g.2/\val g.2=val (a.take g.1)*val b/\∀j,g.1+b.length<=j->dgt g.2 j=0) (fun g=>a.length-g.1) (0,List.replicate (a.length+b.length) 0) ?_
  ⟨zI _,qx,OkD.replicate _,by dsimp only;rw[je0];simp[val],fun j _=>by
   unfold dgt;rw[yU];split<;>rfl⟩ ?_
 ·simp only[Int.natCast_zero,yY,qx,go_sem]
 intro⟨i,out0⟩ ⟨hi,hl0,ho0,hv0,hz0⟩;dsimp only at hi hl0 ho0 hv0 hz0;by_cases hp:(i:Int)<a.length
 case neg=>
  have hd:decide ((i:Int)<a.length)=false:=zw hp;rw[jc4 (l:=a) (i:=i) (by omega)]at hv0;have ht:=jfd out0 ho0 (by omega);rw[hv0]at ht;have hall:(out0.map ic).take (a.length+b.length)=out0.map ic:=zu (by rw[zq];omega);have hle:a.length+b.length<=out0.length:=by omega
  simp only[ints]at ht;simp only[hd,hle,hall,go_sem];refine ja2 ht ?_;simp only[go_sem]
 case pos=>
  have hd:decide ((i:Int)<a.length)=true:=ze hp;have hx:=jba hp;have h1:=jaa (n:=(i:Int)+1) (by omega);simp only[hd,za,hx,go_sem];refine jaw [1,5,6,7,8,18,19,20,25,26,27] [17] (fun g:Nat×List Int×Int=>⟨[(1,.im (.sl (b.map ic))),(5,.gsl 17 3 1 (a.length+b.length)),(6,.im (.int i)),(7,.im (.int (dgt a i))),(8,.im (.int g.2.2)),(18,.im (.sl (a.map ic))),(19,.im (.int a.length)),(20,.im (.int i)),(25,.im (.sl (b.map ic))),(26,.im (.int b.length)),(27,.im (.int g.1))],[(17,1,g.2.1.map ic)],[]⟩)
   (fun g=>g.1<=b.length/\g.2.1.length=a.length+b.length/\OkD g.2.1/\0<=g.2.2/\g.2.2<1048576/\val g.2.1+1048576^(i+g.1)*g.2.2=val (a.take i)*val b+1048576^i*(dgt a i*val (b.take g.1))/\∀j,i+b.length<=j->dgt g.2.1 j=0)
   (fun g=>b.length-g.1) (0,out0,0) ?_ ⟨zI _,hl0,ho0,yw _,by dsimp only;omega,by dsimp only;rw[List.take_zero,hv0];simp[val],hz0⟩ ?_
  ·simp only[Int.natCast_zero,go_sem]
  intro⟨k,out,c⟩ ⟨hk,hl,ho,hc0,hc1,hv,hz⟩;dsimp only at hk hl ho hc0 hc1 hv hz;by_cases hkl:(k:Int)<b.length
  case neg=>
   have d1:decide ((k:Int)<b.length)=false:=zw hkl;have hkb:k=b.length:=by omega
   subst hkb;rw[jc4 (l:=b) (zn _)]at hv;obtain⟨g1,g2,g3,g4⟩:=jrk (a:=a) (by omega) ho hz ⟨hc0,hc1⟩ hv;have w1:=jaa (n:=(i:Int)+b.length) (by omega);have hjn:((i:Int)+b.length).toNat=i+b.length:=by omega
   have hj0:(0:Int)<=(i:Int)+b.length:=by omega
   have hjl:(i:Int)+b.length<((a.length+b.length:Nat):Int):=by omega
   have hy:out[i+b.length]? =some (dgt out (i+b.length)):=jba (by omega);rw[hz _ (zn _)]at hy;have w2:=jaa (n:=0+c) (by omega);rw[jw]at w2;simp only[d1,w1,hjn,hj0,hjl,za,hy,w2,jw,go_sem];refine jai (i+1,out.set (i+b.length) c) ?_ ?_ ⟨?_,?_,g1,g3,g4⟩
   ·simp only[h1,Int.natCast_add,qI,go_sem]
   ·show a.length-(i+1)<a.length-i;omega
   ·show i+1<=a.length;omega
   ·show(out.set (i+b.length) c).length=_;rw[g2];exact hl
  case pos=>
   have d1:decide ((k:Int)<b.length)=true:=ze hkl;have hyb:=jba hkl;have hda:=ha.dgt i;have hdb:=hb.dgt k;have hdo:=ho.dgt (i+k);have hmul:=jl0 hda hdb;have w1:=jaa (n:=(i:Int)+k) (by omega);have w2:=jaa (n:=dgt a i*dgt b k) (by omega);have w3:=jaa (n:=dgt out (i+k)+dgt a i*dgt b k) (by omega);have w4:=jaa (n:=dgt out (i+k)+dgt a i*dgt b k+c) (by omega);have w5:=jaa (n:=(k:Int)+1) (by omega);have hjn:((i:Int)+k).toNat=i+k:=by omega
   have hj0:(0:Int)<=(i:Int)+k:=by omega
   have hjl:(i:Int)+k<((a.length+b.length:Nat):Int):=by omega
   have hy:out[i+k]? =some (dgt out (i+k)):=jba (by omega);have hs:=jm2 (out:=out) (b:=b) (j:=i+k) (i:=i) (k:=k) (c:=c) (x:=dgt a i) (V:=val (a.take i)*val b) rfl (by omega) hv rfl;generalize hn:dgt out (i+k)+dgt a i*dgt b k+c=n at*;have a1:=and20 n;simp only[d1,za,hyb,w1,w2,hjn,hj0,hjl,hy,w3,hn,w4,a1,go_sem];refine jai (k+1,out.set (i+k) (n % 1048576),n/1048576) ?_ ?_ ⟨?_,?_,ho.set (by omega),?_,?_,hs,fun j hj=> ?_⟩
   ·simp only[w5,hn,w4,Int.natCast_add,qI,go_sem]
   ·show b.length-(k+1)<b.length-k;omega
   ·show k+1<=b.length;omega
   ·show(out.set (i+k) _).length=_;rw[qk];exact hl
   ·show 0<=n/1048576;omega
   ·show n/1048576<1048576;omega
   ·have:=hz j hj;unfold dgt at this⊢;rw[jy (by omega)];exact this
theorem t_pmulO(a b:List Int)(ha:OkD a)(hb:OkD b)(la:a.length<=100000000000)(lb:b.length<=100000000000):
  CtrM G.P 137 [.im (ints a),.im (ints b)] [] (fun r Es new=>r= .gsl 901 3 1 (dig (val a*val b).toNat).length/\Es=[]/\new=some (1,(padD (a.length+b.length) (val a*val b).toNat).map ic)):=by
 have w0:=jaa (n:=(a.length:Int)+b.length) (by omega);have w00:((a.length:Int)+b.length)*8<=140737488355328:=by omega
 have w01:(0:Int)<=(a.length:Int)+b.length:=by omega
 have w02:((a.length:Int)+b.length).toNat=a.length+b.length:=by omega
 refine jnt good _ _ [.tmp 4] Tryz.func137 rfl rfl (by decide+kernel) rfl rfl (by simp) ?_;simp only[w0,w00,w01,w02,go_sem];refine jaw [1,5,18,19,20] [17] (fun g:Nat×List Int=>⟨[(1,.im (.sl (b.map ic))),(5,.gsl 17 3 1 (a.length+b.length)),(18,.im (.sl (a.map ic))),(19,.im (.int a.length)),(20,.im (.int g.1))],[(17,1,g.2.map ic)],[]⟩)
  (fun g=>g.1<=a.length/\g.2.length=a.length+b.length/\OkD g.2/\val g.2=val (a.take g.1)*val b/\∀j,g.1+b.length<=j->dgt g.2 j=0) (fun g=>a.length-g.1) (0,List.replicate (a.length+b.length) 0) ?_
  ⟨zI _,qx,OkD.replicate _,by dsimp only;rw[je0];simp[val],fun j _=>by
   unfold dgt;rw[yU];split<;>rfl⟩ ?_
 ·simp only[Int.natCast_zero,yY,qx,go_sem]
 intro⟨i,out0⟩ ⟨hi,hl0,ho0,hv0,hz0⟩;dsimp only at hi hl0 ho0 hv0 hz0;by_cases hp:(i:Int)<a.length
 case neg=>
  have hd:decide ((i:Int)<a.length)=false:=zw hp;rw[jc4 (l:=a) (i:=i) (by omega)]at hv0;have ht:=t_ptrimO out0 ho0 (by omega);rw[hv0,hl0]at ht;have hpad:=pad_eq ho0;rw[hl0,hv0]at hpad;have hall:(out0.map ic).take (a.length+b.length)=out0.map ic:=zu (by rw[zq];omega);have hle:a.length+b.length<=out0.length:=by omega
  simp only[hd,hle,hall,go_sem];refine jlv [(900,17)] (ht) (by decide) (by simp) (by simp[rnm,look]) (by repeat' (first | exact trivial | refine⟨rfl,?_⟩)) rfl rfl rfl rfl ?_ rfl;simp only[hpad,yx,go_sem]
 case pos=>
  have hd:decide ((i:Int)<a.length)=true:=ze hp;have hx:=jba hp;have h1:=jaa (n:=(i:Int)+1) (by omega);simp only[hd,za,hx,go_sem];refine jaw [1,5,6,7,8,18,19,20,25,26,27] [17] (fun g:Nat×List Int×Int=>⟨[(1,.im (.sl (b.map ic))),(5,.gsl 17 3 1 (a.length+b.length)),(6,.im (.int i)),(7,.im (.int (dgt a i))),(8,.im (.int g.2.2)),(18,.im (.sl (a.map ic))),(19,.im (.int a.length)),(20,.im (.int i)),(25,.im (.sl (b.map ic))),(26,.im (.int b.length)),(27,.im (.int g.1))],[(17,1,g.2.1.map ic)],[]⟩)
   (fun g=>g.1<=b.length/\g.2.1.length=a.length+b.length/\OkD g.2.1/\0<=g.2.2/\g.2.2<1048576/\val g.2.1+1048576^(i+g.1)*g.2.2=val (a.take i)*val b+1048576^i*(dgt a i*val (b.take g.1))/\∀j,i+b.length<=j->dgt g.2.1 j=0)
   (fun g=>b.length-g.1) (0,out0,0) ?_ ⟨zI _,hl0,ho0,yw _,by dsimp only;omega,by dsimp only;rw[List.take_zero,hv0];simp[val],hz0⟩ ?_
  ·simp only[Int.natCast_zero,go_sem]
  intro⟨k,out,c⟩ ⟨hk,hl,ho,hc0,hc1,hv,hz⟩;dsimp only at hk hl ho hc0 hc1 hv hz;by_cases hkl:(k:Int)<b.length
  case neg=>
   have d1:decide ((k:Int)<b.length)=false:=zw hkl;have hkb:k=b.length:=by omega
   subst hkb;rw[jc4 (l:=b) (zn _)]at hv;obtain⟨g1,g2,g3,g4⟩:=jrk (a:=a) (by omega) ho hz ⟨hc0,hc1⟩ hv;have w1:=jaa (n:=(i:Int)+b.length) (by omega);have hjn:((i:Int)+b.length).toNat=i+b.length:=by omega
   have hj0:(0:Int)<=(i:Int)+b.length:=by omega
   have hjl:(i:Int)+b.length<((a.length+b.length:Nat):Int):=by omega
   have hy:out[i+b.length]? =some (dgt out (i+b.length)):=jba (by omega);rw[hz _ (zn _)]at hy;have w2:=jaa (n:=0+c) (by omega);rw[jw]at w2;simp only[d1,w1,hjn,hj0,hjl,za,hy,w2,jw,go_sem];refine jai (i+1,out.set (i+b.length) c) ?_ ?_ ⟨?_,?_,g1,g3,g4⟩
   ·simp only[h1,Int.natCast_add,qI,go_sem]
   ·show a.length-(i+1)<a.length-i;omega
   ·show i+1<=a.length;omega
   ·show(out.set (i+b.length) c).length=_;rw[g2];exact hl
  case pos=>
   have d1:decide ((k:Int)<b.length)=true:=ze hkl;have hyb:=jba hkl;have hda:=ha.dgt i;have hdb:=hb.dgt k;have hdo:=ho.dgt (i+k);have hmul:=jl0 hda hdb;have w1:=jaa (n:=(i:Int)+k) (by omega);have w2:=jaa (n:=dgt a i*dgt b k) (by omega);have w3:=jaa (n:=dgt out (i+k)+dgt a i*dgt b k) (by omega);have w4:=jaa (n:=dgt out (i+k)+dgt a i*dgt b k+c) (by omega);have w5:=jaa (n:=(k:Int)+1) (by omega);have hjn:((i:Int)+k).toNat=i+k:=by omega
   have hj0:(0:Int)<=(i:Int)+k:=by omega
   have hjl:(i:Int)+k<((a.length+b.length:Nat):Int):=by omega
   have hy:out[i+k]? =some (dgt out (i+k)):=jba (by omega);have hs:=jm2 (out:=out) (b:=b) (j:=i+k) (i:=i) (k:=k) (c:=c) (x:=dgt a i) (V:=val (a.take i)*val b) rfl (by omega) hv rfl;generalize hn:dgt out (i+k)+dgt a i*dgt b k+c=n at*;have a1:=and20 n;simp only[d1,za,hyb,w1,w2,hjn,hj0,hjl,hy,w3,hn,w4,a1,go_sem];refine jai (k+1,out.set (i+k) (n % 1048576),n/1048576) ?_ ?_ ⟨?_,?_,ho.set (by omega),?_,?_,hs,fun j hj=> ?_⟩
   ·simp only[w5,hn,w4,Int.natCast_add,qI,go_sem]
   ·show b.length-(k+1)<b.length-k;omega
   ·show k+1<=b.length;omega
   ·show(out.set (i+k) _).length=_;rw[qk];exact hl
   ·show 0<=n/1048576;omega
   ·show n/1048576<1048576;omega
   ·have:=hz j hj;unfold dgt at this⊢;rw[jy (by omega)];exact this
end
section
open Go.Abs
attribute [local go_sem] ints ic
end
section
open Go.Abs
attribute [local go_sem] ints ic
end
section
open Go.Abs
attribute [local go_sem] ints ic
def okd(d:Int):Bool:= !decide (d<0)&& !decide (1048576<=d)
def jeu(s:Int)(l:List Int):Bool:=
 l.all okd&&(!decide (s< -1)&&(!decide (1<s)&&((decide ((l.length:Int)=0)==decide (s=0))&&(decide ((l.length:Int)=0) || !decide (dgt l (l.length-1)=0)))))
theorem okd_iff{d:Int}:okd d=true↔0<=d/\d<1048576:=by simp[okd]
theorem all_okd{l:List Int}:l.all okd=true↔OkD l:=by
 rw[List.all_eq_true];exact⟨fun h d hd=>okd_iff.1 (h d hd),fun h d hd=>okd_iff.2 (h d hd)⟩
theorem all_okd_succ{l:List Int}{i:Nat}(h:(i:Int)<l.length):(l.take (i+1)).all okd=((l.take i).all okd&&okd (dgt l i)):=by
 have hx:=jba h;rw[qN,hx,jz];simp
