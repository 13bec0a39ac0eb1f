/- A part of the proof. No further condition. -/
import Derived.Test.YtgncgpfjldefpaaGreatKX28
set_option linter.all false
set_option maxRecDepth 100000
namespace Go.Proofs.YtgncgpfjldefpaaGreat
section
open Go.Abs
attribute [local go_sem] ints ic Bat.c Pap.c Led.c bl
def u16c(m:Int):List IV:=[.sc (.int .u16 m)]
def sT(k:Int):List Bool->List Pap->Int
 | b::bs,x::r=>(if x.bat=k/\(b || x.ret)=true then x.grams else 0)+sT k bs r
 | _,_=>0
theorem sT_nil(k:Int)(ps:List Pap):sT k [] ps=0:=by cases ps<;>rfl
theorem sT_le(k:Int):∀(bs:List Bool) (ps:List Pap),(∀x∈ps,0<=x.grams)->sT k bs ps<=stSum k bs ps+sumG (rk k) ps
 | [],[],_=>by simp[sT,stSum,sumG]
 | [],x::r,h=>by
  have h1:=sT_le k [] r fun z hz=>h z (by simp[hz]);have h2:=h x (by simp);simp only[sT,stSum,sumG]at h1⊢;split<;>omega
 | _::_,[],_=>by simp[sT,stSum,sumG]
 | b::bs,x::r,h=>by
  have h1:=sT_le k bs r fun z hz=>h z (by simp[hz]);have h2:=h x (by simp);simp only[sT,stSum,sumG,rk]at h1⊢;by_cases e:x.bat=k
  ·obtain⟨xb,xg,xo,xr,xe⟩:=x;dsimp only at e h2⊢;cases b<;>cases xr<;>simp[e]<;>omega
  ·simp[e];omega
set_option maxHeartbeats 16000000 in
theorem pb_stands(k0:Ctr G.P 8 [] (· = .bool true))(p:Led)(cert drops:List Int)(hd16:∀m∈drops,0<=m/\m<=65535):Ctr G.P 3 [.agg p.c,ints cert,.sl (drops.map u16c)] (· = .bool true):=by
 have kF:=pb_few p;rcases hf:fewF p with _ | _
 ·rw[hf]at kF;simp only[ints,Led.c]at*;refine jab good _ _ [.tmp 6] Tryz.func3 rfl rfl (by decide+kernel) rfl ?_;simp only[go_sem];refine ja1 k0 (by decide) ?_;simp only[go_sem];refine ja1 kF (by decide) ?_;simp only[go_sem]
 rw[hf]at kF;obtain⟨_,_,hs,_⟩:=few_parts hf;rcases h50:decide (50<(cert.length:Int))with _ | _
 case true=>
  simp only[ints,Led.c]at*;refine jab good _ _ [.tmp 6] Tryz.func3 rfl rfl (by decide+kernel) rfl ?_;simp only[go_sem];refine ja1 k0 (by decide) ?_;simp only[go_sem];refine ja1 kF (by decide) ?_;simp only[List.length_map,h50,go_sem]
 have hc50:=of_decide_eq_false h50;have kR:=jex p hs;rcases hr:jbf p with _ | _
 ·rw[hr]at kR;simp only[ints,Led.c]at*;refine jab good _ _ [.tmp 6] Tryz.func3 rfl rfl (by decide+kernel) rfl ?_;simp only[go_sem];refine ja1 k0 (by decide) ?_;simp only[go_sem];refine ja1 kF (by decide) ?_;simp only[List.length_map,h50,go_sem];refine ja1 kR (by decide) ?_;simp only[go_sem]
 rw[hr]at kR;have hR:=jc1 hr;have kA:=jga p cert hs;have kB:=jga p;simp only[ints,Led.c]at kF kR kA kB;simp only[ints];refine jab good _ _ [.tmp 6] Tryz.func3 rfl rfl (by decide+kernel) rfl ?_;simp only[go_sem];refine ja1 k0 (by decide) ?_;simp only[go_sem];refine ja1 kF (by decide) ?_;simp only[List.length_map,h50,go_sem];refine ja1 kR (by decide) ?_;simp only[go_sem];refine jg3 [1,2,3,7,8,9] [3,71] [(8,71,3,1)] (fun g:Nat×List Int=>⟨[(1,.im (.sl (cert.map ic))),(2,.im (.sl (drops.map u16c))),(3,.loc 3 2 0 0),(7,.im (.bool true)),(8,.vec 71 3 1 (g.2.map ic)),(9,.im (.int g.1))],[(3,2,[p.c])],[(71,1,g.2.length)]⟩)
  (fun g=>g.1<=cert.length/\g.2.length=g.1/\∀i,i<g.1->(0<=cert.getD i 0/\cert.getD i 0<=1099511627776)/\g.2.getD i 0<=cert.getD i 0) (fun g=>cert.length-g.1) (0,[]) ?_ ?_ ⟨Nat.zero_le _,rfl,fun i hi=>by dsimp only at hi;omega⟩ ?_
 ·simp only[go_sem];simp
 ·simp only[Int.natCast_zero,List.map_nil,go_sem]
 intro⟨k,less⟩ ⟨hk,hll,hinv⟩;dsimp only at hk hll hinv;by_cases hp:(k:Int)<cert.length
 ·have hd:decide ((k:Int)<cert.length)=true:=decide_eq_true hp;obtain⟨v,hv⟩:=jbv hp;have hkc:k<cert.length:=by omega
  have h1:=jaa (n:=(k:Int)+1) (by omega);have hvD:cert.getD k 0=v:=by rw[List.getD_eq_getElem?_getD,hv];rfl
  have step:∀n:Int,(0<=v/\v<=1099511627776)->n<=v->∀i,i<k+1->(0<=cert.getD i 0/\cert.getD i 0<=1099511627776)/\(less++[n]).getD i 0<=cert.getD i 0:=fun n h2 h3 i hi=>by
   by_cases e:i<k
   ·have h4:=hinv i e;rw[List.getD_eq_getElem?_getD (l:=less++[n]),List.getElem?_append_left (by omega),<-List.getD_eq_getElem?_getD];exact h4
   ·have e:i=k:=by omega
    subst e;rw[hvD,List.getD_eq_getElem?_getD,List.getElem?_append_right (by omega),hll,Nat.sub_self];exact⟨h2,h3⟩
  rcases d1:decide (v<0)with _ | _
  case true=>
   simp only[hd,List.length_map,List.getElem?_map,hv,hp,hkc,d1,go_sem]
  rcases d2:decide (1099511627776<v)with _ | _
  case true=>
   simp only[hd,List.length_map,List.getElem?_map,hv,hp,hkc,d1,d2,go_sem]
  have v1:=of_decide_eq_false d1;have v2:=of_decide_eq_false d2;by_cases hq:(k:Int)<drops.length
  ·have hd3:decide ((k:Int)<drops.length)=true:=decide_eq_true hq;obtain⟨m,hm⟩:=jbv hq;have hm2:=hd16 m (List.mem_of_getElem? hm);have hkd:k<drops.length:=by omega
   have w1:=jaa (n:=v-m) (by omega);have w2:=jaa (n:=m) (by omega);simp only[hd,hd3,List.length_map,List.getElem?_map,hv,hp,hkc,d1,d2,hm,hq,hkd,u16c,w1,w2,go_sem];refine And.intro (fun c hc=> ?_) (And.intro (fun c hc=> ?_) (And.intro (by omega) ?_))
   ·obtain⟨z,_,rfl⟩:=List.mem_map.1 hc;rfl
   ·rw[List.mem_singleton.1 hc];rfl
   refine jad (k+1,less++[(v-m)]) ?_ ?_ ?_
   ·simp only[h1,Int.natCast_add,List.map_append,List.length_append,go_sem]
   ·show cert.length-(k+1)<cert.length-k;omega
   ·exact⟨by dsimp only;omega,by rw[List.length_append,hll];rfl,step (v-m) (by omega) (by omega)⟩
  ·have hd3:decide ((k:Int)<drops.length)=false:=decide_eq_false hq;simp only[hd,hd3,List.length_map,List.getElem?_map,hv,hp,hkc,d1,d2,go_sem];refine And.intro (fun c hc=> ?_) (And.intro (fun c hc=> ?_) (And.intro (by omega) ?_))
   ·obtain⟨z,_,rfl⟩:=List.mem_map.1 hc;rfl
   ·rw[List.mem_singleton.1 hc];rfl
   refine jad (k+1,less++[v]) ?_ ?_ ?_
   ·simp only[h1,Int.natCast_add,List.map_append,List.length_append,go_sem]
   ·show cert.length-(k+1)<cert.length-k;omega
   ·exact⟨by dsimp only;omega,by rw[List.length_append,hll];rfl,step v (by omega) (by omega)⟩
 have hd:decide ((k:Int)<cert.length)=false:=decide_eq_false hp;have hke:k=cert.length:=by omega
 subst hke;have kA:=kA fun v hv=>by
  obtain⟨i,hi,rfl⟩:=List.getElem_of_mem hv;have:=(hinv i hi).1;rw[List.getD_eq_getElem?_getD,List.getElem?_eq_getElem hi]at this;simp only[Option.getD_some]at this;omega
 have kB:=kB less hs fun v hv=>by
  obtain⟨i,hi,rfl⟩:=List.getElem_of_mem hv;have:=hinv i (by omega);rw[List.getD_eq_getElem?_getD (l:=less),List.getElem?_eq_getElem hi]at this;simp only[Option.getD_some]at this;omega
 have lA:=jk2 (cert:=cert) hr;have lB:=jk2 (cert:=less) hr;have fL:∀i,(jci p less)[i]? =some true->(jci p cert)[i]? =some true:=fun i h=>stand_less hr hll (fun k hk=>(hinv k hk).2) h;have fA:∀(i:Nat) (x:Pap),p.ps[i]? =some x->(jci p cert)[i]? =some true->x.live=true:=fun i x hx h=>jlh hr hx h;have fP:∀(i k:Nat) (x y:Pap),p.ps[i]? =some x->p.ps[k]? =some y->k<i->y.bat=x.bat->y.live=true->(jci p cert)[i]? =some true->(jci p cert)[k]? =some true:=fun i k x y hx hy h1 h2 h3 h4=>stand_pre hr hx hy h1 h2 h3 h4;have hgr:∀x∈p.ps,(0<=x.bat/\x.bat<(p.bs.length:Int))/\0<=x.grams/\x.grams<=1099511627776:=fun x hx=>by have:=jh9 hr x hx;omega
 have fS:∀(i:Nat) (x:Pap),p.ps[i]? =some x->(jci p cert)[i]? =some true->x.bat.toNat<cert.length/\sT x.bat (jci p cert) p.ps<=cert.getD x.bat.toNat 0:=fun i x hx h=>by
  obtain⟨h1,h2⟩:=stand_sum hr hx h;have h3:=sT_le x.bat (jci p cert) p.ps fun z hz=>(hgr z hz).2.1;have h4:=(hinv _ h1).1;exact⟨h1,by omega⟩
 simp only[hd,List.length_map,go_sem];refine ja1 kA (by decide) ?_;simp only[go_sem];refine ja1 kB (by decide) ?_;simp only[List.length_map,lA,lB,go_sem];generalize jci p cert=A at*;generalize jci p less=B at*;clear kA kB hinv hp hd kF kR k0 hd16;refine jaq [1,3,7,11,12,13] [3] (fun n:Nat=>⟨[(1,.im (.sl (cert.map ic))),(3,.loc 3 2 0 0),(7,.im (.bool true)),(11,.im (.sl (A.map bl))),(12,.im (.sl (B.map bl))),(13,.im (.int n))],[(3,2,[p.c])],[]⟩)
  (fun n=>n<=p.ps.length) (fun n=>p.ps.length-n) 0 ?_ (Nat.zero_le _) ?_
 ·simp only[Int.natCast_zero,go_sem]
 intro i hi;by_cases hp:(i:Int)<p.ps.length
 case neg=>
  have hd:decide ((i:Int)<p.ps.length)=false:=decide_eq_false hp;simp only[hd,List.length_map,lA,go_sem]
 have hd:decide ((i:Int)<p.ps.length)=true:=decide_eq_true hp;have h1:=jaa (n:=(i:Int)+1) (by omega);have hin:i<p.ps.length:=by omega
 obtain⟨x,hx⟩:=jbv hp;obtain⟨ai,hai⟩:∃b,A[i]? =some b:=⟨_,List.getElem?_eq_getElem (by omega)⟩;obtain⟨bi,hbi⟩:∃b,B[i]? =some b:=⟨_,List.getElem?_eq_getElem (by omega)⟩;have c1:ai=false->bi=false:=fun h=>by
  cases bi with
  | false=>rfl
  | true=>have:=fL i hbi;rw[hai,h]at this;cases this
 have c2:ai=true->x.ret=false/\x.gone=false:=fun h=>live_iff.1 (fA i x hx (by rw[hai,h]));have c3:ai=true->x.bat.toNat<cert.length/\sT x.bat A p.ps<=cert.getD x.bat.toNat 0:=fun h=>fS i x hx (by rw[hai,h]);have c4:ai=true->∀(k:Nat) (y:Pap),p.ps[k]? =some y->k<i->y.bat=x.bat->y.ret=false->y.gone=false->A[k]? =some true:=fun h k y hy h5 h6 h7 h8=>fP i k x y hx hy h5 h6 (live_iff.2 ⟨h7,h8⟩) (by rw[hai,h]);have hgx:=hgr x (List.mem_of_getElem? hx);clear fL fA fP fS;obtain⟨xb,xg,xo,xr,xe⟩:=x;dsimp only at c2 c3 c4 hgx;obtain⟨m,rfl⟩:=Int.eq_ofNat_of_zero_le hgx.1.1;rw[Int.toNat_natCast]at c3;rcases ai with _ | _
 ·have:=c1 rfl;subst this;clear c2 c3 c4;simp only[hd,hp,hin,List.length_map,List.getElem?_map,hx,hai,hbi,lA,lB,go_sem];refine jaq [1,3,7,11,12,13,14,15,16] [14,3] (fun g:Nat×Int=>⟨[(1,.im (.sl (cert.map ic))),(3,.loc 3 2 0 0),(7,.im (.bool true)),(11,.im (.sl (A.map bl))),(12,.im (.sl (B.map bl))),(13,.im (.int i)),(14,.loc 14 5 0 0),(15,.im (.int g.2)),(16,.im (.int g.1))],[(14,5,[[.int m,.int xg,.int xo,.bool xr,.bool xe]]),(3,2,[p.c])],[]⟩)
   (fun g=>g.1<=p.ps.length/\g.2+sT m (A.drop g.1) (p.ps.drop g.1)=sT m A p.ps/\0<=g.2/\g.2<=g.1*1099511627776) (fun g=>p.ps.length-g.1) (0,0) ?_ ⟨Nat.zero_le _,by simp,by simp,by simp⟩ ?_
  ·simp only[Int.natCast_zero,go_sem]
  intro⟨k,s⟩ ⟨hk,hsum,hs0,hs1⟩;dsimp only at hk hsum hs0 hs1;by_cases hq:(k:Int)<p.ps.length
  ·have hdk:decide ((k:Int)<p.ps.length)=true:=decide_eq_true hq;have hkn:k<p.ps.length:=by omega
   have hkA:k<A.length:=by omega
   have h2:=jaa (n:=(k:Int)+1) (by omega);obtain⟨y,hy⟩:=jbv hq;obtain⟨ak,hak⟩:∃b,A[k]? =some b:=⟨_,List.getElem?_eq_getElem hkA⟩;have hgy:=hgr y (List.mem_of_getElem? hy);have e1:p.ps.drop k=y::p.ps.drop (k+1):=by
    rw[List.drop_eq_getElem_cons hkn,(List.getElem?_eq_some_iff.1 hy).2]
   have e2:A.drop k=ak::A.drop (k+1):=by
    rw[List.drop_eq_getElem_cons hkA,(List.getElem?_eq_some_iff.1 hak).2]
   rw[e1,e2,sT]at hsum;clear e1 e2;have w3:=jaa (n:=s+y.grams) (by omega);obtain⟨yb,yg,yo,yr,ye⟩:=y;dsimp only at hsum hgy w3;by_cases hb:yb=(m:Int)
   ·have hdb:decide (yb=(m:Int))=true:=decide_eq_true hb;rcases ak with _ | _<;>rcases yr with _ | _
    all_goals first
     | (simp only[hdk,hq,hkn,List.length_map,List.getElem?_map,hy,hdb,hai,hp,hin,hak,lA,w3,go_sem]
        refine jad (k+1,s+yg) ?_ ?_ ?_
        ·simp only[h2,Int.natCast_add,go_sem]
         done
        ·show p.ps.length-(k+1)<p.ps.length-k;omega
        ·refine⟨by dsimp only;omega,?_,by dsimp only;omega,by dsimp only;omega⟩;rw[if_pos ⟨hb,rfl⟩]at hsum;dsimp only;omega)
     | (simp only[hdk,hq,hkn,List.length_map,List.getElem?_map,hy,hdb,hai,hp,hin,hak,lA,go_sem]
        refine jad (k+1,s) ?_ ?_ ?_
        ·simp only[h2,Int.natCast_add,go_sem]
         done
        ·show p.ps.length-(k+1)<p.ps.length-k;omega
        ·refine⟨by dsimp only;omega,?_,by dsimp only;omega,by dsimp only;omega⟩;rw[if_neg (fun h=>by cases h.2)]at hsum;dsimp only;omega)
   ·have hdb:decide (yb=(m:Int))=false:=decide_eq_false hb;rw[if_neg (fun h=>hb h.1)]at hsum;simp only[hdk,hq,hkn,List.length_map,List.getElem?_map,hy,hdb,lA,go_sem];refine jad (k+1,s) ?_ ?_ ?_
    ·simp only[h2,Int.natCast_add,go_sem]
    ·show p.ps.length-(k+1)<p.ps.length-k;omega
    ·exact⟨by dsimp only;omega,by dsimp only;omega,by dsimp only;omega,by dsimp only;omega⟩
  have hdk:decide ((k:Int)<p.ps.length)=false:=decide_eq_false hq;have hke:k=p.ps.length:=by omega
  subst hke;rw[List.drop_of_length_le (by omega),sT_nil,Int.add_zero]at hsum;simp only[hdk,hd,hp,hin,List.length_map,List.getElem?_map,hai,lA,go_sem];refine jad (i+1) ?_ ?_ ?_
  ·simp only[h1,Int.natCast_add,go_sem]
  ·show p.ps.length-(i+1)<p.ps.length-i;omega
  ·show i+1<=p.ps.length;omega
 ·obtain⟨rfl,rfl⟩:=c2 rfl;obtain⟨m1,m2⟩:=c3 rfl;have c4:=c4 rfl;clear c1 c2 c3;have hmin:min (m:Int) ((cert.length:Int)-1)=m:=by omega
  have w4:=jaa (n:=(cert.length:Int)-1) (by omega);have hmc:(m:Int)<(cert.length:Int):=by omega
  have hge:decide ((cert.length:Int)<=(m:Int))=false:=decide_eq_false (by omega);obtain⟨v,hv⟩:∃v,cert[m]? =some v:=⟨_,List.getElem?_eq_getElem m1⟩;rw[List.getD_eq_getElem?_getD,hv]at m2;simp only[Option.getD_some]at m2;rcases bi with _ | _
  all_goals
   simp only[hd,hp,hin,List.length_map,List.getElem?_map,hx,hai,hbi,lA,lB,go_sem];refine jaq [1,3,7,11,12,13,14,15,16] [14,3] (fun g:Nat×Int=>⟨[(1,.im (.sl (cert.map ic))),(3,.loc 3 2 0 0),(7,.im (.bool true)),(11,.im (.sl (A.map bl))),(12,.im (.sl (B.map bl))),(13,.im (.int i)),(14,.loc 14 5 0 0),(15,.im (.int g.2)),(16,.im (.int g.1))],[(14,5,[[.int m,.int xg,.int xo,.bool false,.bool false]]),(3,2,[p.c])],[]⟩)
    (fun g=>g.1<=p.ps.length/\g.2+sT m (A.drop g.1) (p.ps.drop g.1)=sT m A p.ps/\0<=g.2/\g.2<=g.1*1099511627776) (fun g=>p.ps.length-g.1) (0,0) ?_ ⟨Nat.zero_le _,by simp,by simp,by simp⟩ ?_
   ·simp only[Int.natCast_zero,go_sem]
   intro⟨k,s⟩ ⟨hk,hsum,hs0,hs1⟩;dsimp only at hk hsum hs0 hs1;by_cases hq:(k:Int)<p.ps.length
   ·have hdk:decide ((k:Int)<p.ps.length)=true:=decide_eq_true hq;have hkn:k<p.ps.length:=by omega
    have hkA:k<A.length:=by omega
    have h2:=jaa (n:=(k:Int)+1) (by omega);obtain⟨y,hy⟩:=jbv hq;obtain⟨ak,hak⟩:∃b,A[k]? =some b:=⟨_,List.getElem?_eq_getElem hkA⟩;have hgy:=hgr y (List.mem_of_getElem? hy);have e1:p.ps.drop k=y::p.ps.drop (k+1):=by
     rw[List.drop_eq_getElem_cons hkn,(List.getElem?_eq_some_iff.1 hy).2]
    have e2:A.drop k=ak::A.drop (k+1):=by
     rw[List.drop_eq_getElem_cons hkA,(List.getElem?_eq_some_iff.1 hak).2]
    rw[e1,e2,sT]at hsum;clear e1 e2;have w3:=jaa (n:=s+y.grams) (by omega);have c5:decide ((k:Int)<i)=true->y.bat=(m:Int)->y.ret=false->y.gone=false->ak=true:=fun h5 h6 h7 h8=>by
     have:=c4 k y hy (by have:=of_decide_eq_true h5;omega) h6 h7 h8;rw[hak]at this;injection this
    obtain⟨yb,yg,yo,yr,ye⟩:=y;dsimp only at hsum hgy w3 c5;by_cases hb:yb=(m:Int)
    ·have hdb:decide (yb=(m:Int))=true:=decide_eq_true hb;rcases dk:decide ((k:Int)<i)with _ | _<;>rcases ak with _ | _<;>rcases yr with _ | _<;>rcases ye with _ | _
     all_goals first
      | (exfalso
         have:=c5 dk hb rfl rfl;cases this
         done)
      | (simp only[hdk,hq,hkn,List.length_map,List.getElem?_map,hy,hdb,hai,hp,hin,dk,hak,lA,w3,go_sem]
         refine jad (k+1,s+yg) ?_ ?_ ?_
         ·simp only[h2,Int.natCast_add,go_sem]
          done
         ·show p.ps.length-(k+1)<p.ps.length-k;omega
         ·refine⟨by dsimp only;omega,?_,by dsimp only;omega,by dsimp only;omega⟩;rw[if_pos ⟨hb,rfl⟩]at hsum;dsimp only;omega)
      | (simp only[hdk,hq,hkn,List.length_map,List.getElem?_map,hy,hdb,hai,hp,hin,dk,hak,lA,go_sem]
         refine jad (k+1,s) ?_ ?_ ?_
         ·simp only[h2,Int.natCast_add,go_sem]
          done
         ·show p.ps.length-(k+1)<p.ps.length-k;omega
         ·refine⟨by dsimp only;omega,?_,by dsimp only;omega,by dsimp only;omega⟩;rw[if_neg (fun h=>by cases h.2)]at hsum;dsimp only;omega)
    ·have hdb:decide (yb=(m:Int))=false:=decide_eq_false hb;rw[if_neg (fun h=>hb h.1)]at hsum;simp only[hdk,hq,hkn,List.length_map,List.getElem?_map,hy,hdb,lA,go_sem];refine jad (k+1,s) ?_ ?_ ?_
     ·simp only[h2,Int.natCast_add,go_sem]
     ·show p.ps.length-(k+1)<p.ps.length-k;omega
     ·exact⟨by dsimp only;omega,by dsimp only;omega,by dsimp only;omega,by dsimp only;omega⟩
   have hdk:decide ((k:Int)<p.ps.length)=false:=decide_eq_false hq;have hke:k=p.ps.length:=by omega
   subst hke;rw[List.drop_of_length_le (by omega),sT_nil,Int.add_zero]at hsum;have hgt:decide (v<s)=false:=decide_eq_false (by omega);simp only[hdk,hd,hp,hin,List.length_map,List.getElem?_map,hai,lA,hge,w4,hmin,hmc,m1,hv,hgt,go_sem];refine jad (i+1) ?_ ?_ ?_
   ·simp only[h1,Int.natCast_add,go_sem]
   ·show p.ps.length-(i+1)<p.ps.length-i;omega
   ·show i+1<=p.ps.length;omega
end
end Go.Proofs.YtgncgpfjldefpaaGreat
