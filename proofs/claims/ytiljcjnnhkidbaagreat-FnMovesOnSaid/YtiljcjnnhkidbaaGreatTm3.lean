/- A machine over trees: an evaluator of the code, and that what it finds is so; part 3. -/
import Derived.Test.YtiljcjnnhkidbaaGreatTm2
import Derived.Laws.Sem
import Derived.Deep.LoopGhost
import Derived.OrdersHeld
import Derived.KernelRfl
import Derived.Carry
import Derived.ChangeArms
import Derived.ChangeOld
import Derived.OpenShut
import Derived.Laws.StructEq
import Derived.ChangeKeysEq
set_option linter.unusedSimpArgs false
set_option linter.unusedVariables false
namespace Go.TM
open Go Go.RowKit
def Co (T:oU) (tm:Array Value):List ResultVar→List RP→Prop
 | [],[]=>True
 |v::vs,r::rs=>VK T tm v r∧Co T tm vs rs
 |_,_=>False
theorem J9 {P:Program} {T:oU} (hT:jZ P T) {w0:World} {mu:Mu} {c:Cz} {st:St} {a:Act} {w:World} (h:Rel w0 mu c st a w):(rvs:List ResultVar)→(rs:List RP)→Co T a.tmps rvs rs→(t:RT)→(y:aO t)→{x:aO (ew rs t)}→{u:List (Option Lb)}→{r:List (Nat×Nat)}→Hp st rs t y=some (x,u,r)→
  (iR rs t x).2=y∧(iR rs t x).1.length=rs.length∧(∀l∈dO u,l.real=true)∧∃vals:List Value,(rvs.mapM (Hq a.tmps)).run P w=.ok vals w∧vals.length=rvs.length∧
   ∀(ρ:Lb→Option Lb) (j:Nat),(∀k l,nth u k=some (some l)→ρ l=some (.kO (j+k)))→(∀p∈r,ρ (.sp p.1 p.2)=none)→oB (c.map ρ) w j (iR rs t x).1 vals
 | [],[],_,t,y,x,u,r,he=>by
  injection he with he;injection he with e1 e2;injection e2 with e2 e3;subst e1 e2 e3;exact ⟨rfl,rfl,by simp [dO],[],rfl,rfl,fun _ _ _ _=>rfl⟩
 | [],_::_,hf,_,_,_,_,_,_=>hf.elim
 |_::_,[],hf,_,_,_,_,_,_=>hf.elim
 |rv::rvs,rr::rs,hf,t,y,x,u,r,he=>by
  unfold Hp at he;obtain ⟨cs,hc,he⟩:=Option.bind_eq_some_iff.1 he;obtain ⟨q,hq,he⟩:=Option.bind_eq_some_iff.1 he;obtain ⟨p,hp,he⟩:=Option.map_eq_some_iff.1 he;obtain ⟨x2,u2,r2⟩:=q;obtain ⟨x1,u1,r1⟩:=p;injection he with e1 e2;injection e2 with e2 e3;subst e1 e2 e3;obtain ⟨l1,l2,l3⟩:=J8 rr.ps _ cs _ hp;obtain ⟨vs,v,g1,g2,g3⟩:=RP.VL hT h hf.1 hc l2;obtain ⟨k1,k2,k3,vals,k4,k5,k6⟩:=J9 hT h rvs rs hf.2 t y hq;have h0:=fun (ρ:Lb→Option Lb) (j:Nat)=>AD h (ρ:=ρ) (f:=.kO) rr.ps (ew rs t) cs x2 vs j g1 hp
  have e0:=(h0 (fun _=>none) 0).1;refine ⟨?_,?_,fun l hl => ?_,v::vals,?_,by simp [k5],fun ρ j hu hr => ?_⟩
  ·show (iR rs t (fK rr.ps (ew rs t) x1).2).2=y;rw [e0];exact k1
  ·show (iR rs t (fK rr.ps (ew rs t) x1).2).1.length+1=_;rw [e0,k2];rfl
  ·rw [lr] at hl;rcases List.mem_append.1 hl with hl | hl
   ·unfold RP.lab at hl
    split at hl
    ·split at hl
     ·simp only [List.mem_singleton,Option.some.injEq] at hl;subst hl;rfl
     ·cases hl
    ·cases hl
   ·rcases List.mem_append.1 hl with hl | hl
    ·exact (h0 (fun _=>none) 0).2.1 l (lr.2 hl)
    ·exact k3 l (lr.2 hl)
  ·rw [List.mapM_cons];simp [Sem.run_bind,g2,k4]
  ·have e:(iR (rr::rs) t x1).1=rr.rv (fK rr.ps (ew rs t) x1).1::(iR rs t x2).1:=by
    show rr.rv (fK rr.ps (ew rs t) x1).1::(iR rs t (fK rr.ps (ew rs t) x1).2).1=_;rw [e0]
   show oB (c.map ρ) w j (iR (rr::rs) t x1).1 (v::vals);rw [e];rcases g3 with ⟨hnp,g3⟩ | ⟨tt,b,ty,us,abg,abh,hv,lq,Vv,Gt⟩
   ·have abh:rr.lab st=[]:=by
     unfold RP.lab
     split
     ·rename_i t' e';exact absurd e' (hnp t')
     ·rfl
    rw [abh,List.nil_append] at hu;have hL:=(h0 ρ j).2.2 (fun k l hk=>hu k l (by
     rw [pA,if_pos (U5 hk)];exact hk)) (fun p hp=>hr p (List.mem_append_left _ hp))
    have gS:=k6 ρ (j+rr.ps.length) (fun k l hk=>by
     have:=hu (rr.ps.length+k) l (by rw [pA,l1,if_neg (by omega),Nat.add_sub_cancel_left];exact hk);rw [Nat.add_assoc];exact this) (fun p hp=>hr p (List.mem_append_right _ hp))
    have hrv:∀os,rr.rv os=(match rr.agg,os with | false,[o]=>RV.one o | _,os=>RV.agg os):=by
     intro os;unfold RP.rv
     split
     ·rename_i t' e';exact absurd e' (hnp t')
     ·rfl
    rcases g3 with ⟨ha,rfl⟩ | ⟨ha,rfl⟩
    ·have er:rr.rv (fK rr.ps (ew rs t) x1).1=.agg (fK rr.ps (ew rs t) x1).1:=by rw [hrv,ha]
     rw [er];exact ⟨vs.toArray,vals,rfl,by simpa using hL,by rw [l3];exact gS⟩
    ·have hlen:cs.length=1:=g1.1;have:(fK rr.ps (ew rs t) x1).1.length=1:=by rw [l3,←l2,hlen]
     cases ho:(fK rr.ps (ew rs t) x1).1 with
     |nil=>rw [ho] at this;cases this
     |cons o l=>cases l with
      |cons _ _=>rw [ho] at this;simp at this
      |nil=>
       have er:rr.rv [o]=.one o:=by rw [hrv,ha]
       rw [er];rw [ho] at hL;refine ⟨v,vals,rfl,hL,?_⟩;rw [←l2,hlen] at gS;exact gS
   ·rw [abh] at hu;have hb:=hu 0 (.box b) rfl;have hL:=(h0 ρ (j+1)).2.2 (fun k l hk=>by
     have:=hu (k+1) l (by
      show nth (u1++u2) k=_;rw [pA,if_pos (U5 hk)];exact hk)
     rwa [show j+(k+1)=j+1+k by omega] at this) (fun p hp=>hr p (List.mem_append_left _ hp))
    have gS:=k6 ρ (j+(rr.ps.length+1)) (fun k l hk=>by
     have:=hu (rr.ps.length+k+1) l (by
      show nth (u1++u2) (rr.ps.length+k)=_;rw [pA,l1,if_neg (by omega),Nat.add_sub_cancel_left];exact hk)
     rwa [show j+(rr.ps.length+k+1)=j+(rr.ps.length+1)+k by omega] at this) (fun p hp=>hr p (List.mem_append_right _ hp))
    have er:rr.rv (fK rr.ps (ew rs t) x1).1=.ptr (fK rr.ps (ew rs t) x1).1:=by unfold RP.rv;rw [abg]
    rw [er];subst Gt;refine ⟨v,vals,rfl,⟨c.bx b,us,ty,hv,?_,Vv,hL⟩,by rw [l3];exact gS⟩;rw [Nat.add_zero] at hb;exact (Cz.nX lq).trans hb
def LM (mu:Mu) (lc:Nat→Nat→Loc) (i:Nat) (ps:List AP) (ga:List AV) (vs:List Value):Prop:=
 ∀(k:Nat) (p:AP) (av:AV) (v:Value),ps[k]?=some p→ga[k]?=some av→vs[k]?=some v→match p,av with
  |.io _ _,.io A=>v.oneCell'=true∧qW (lc (i+k) 0) A.r.width 0 A.xs.length v∧Sc.arr (i+k) 0 1 A.r.width A.xs.length (lc (i+k) 0)∈mu.an
  |.box _ _,.box _=>∃rh,v=.pointer (some ⟨rh,0,none⟩)∧Sc.box (i+k) 1 rh∈mu.an
  |.val _ _,.val _ _=>True
  |.dZ qs,.dZ os=>∃us,v=.agg us∧∀j A,os[j]?=some (.own A)→(∃r d,qs[j]?=some (.own r d))∧∃u,us.toList[j]?=some u∧u.oneCell'=true∧qW (lc (i+k) j) A.r.width 0 A.xs.length u∧Sc.arr (i+k) j 1 A.r.width A.xs.length (lc (i+k) j)∈mu.an
  |_,_=>False
theorem xF {w0:World} {mu:Mu} {c:Cz} {st:St} {a:Act} {w:World} (h:Rel w0 mu c st a w) {lc:Nat→Nat→Loc}:(ps:List AP)→(i:Nat)→(ga:List AV)→(vs:List Value)→ps.length=ga.length→ps.length=vs.length→LM mu lc i ps ga vs→{x:aO (cG ps)}→{u:List Lb}→{r:List (Nat×Nat)}→xa st i ps=some (x,u,r)→
  (∀l∈u,l.real=true)∧∃tb:List (Lb×Lb),tb.map (·.1)=u∧(∀p∈tb,p.2.nw=true)∧∀ρ:Lb→Option Lb,(∀p∈tb,ρ p.1=some p.2)→(∀p∈r,ρ (.sp p.1 p.2)=none)→kC (c.map ρ) w lc i ga vs (pD ps x)
 | [],i,ga,vs,h1,h2,_,x,u,r,he=>by
  injection he with he;injection he with e1 e2;injection e2 with e2 e3;subst e2 e3;have:ga=[]:=by simpa using h1.symm
  subst this;exact ⟨by simp,[],rfl,by simp,fun _ _ _=>rfl⟩
 |p::ps,i,[],vs,h1,_,_,_,_,_,_=>by simp at h1
 |p::ps,i,_::_,[],_,h2,_,_,_,_,_=>by simp at h2
 |p::ps,i,av::ga,v::vs,h1,h2,hl,x,u,r,he=>by
  have By:LM mu lc (i+1) ps ga vs:=fun k p' Rn v' e1 e2 e3=>by
   have:=hl (k+1) p' Rn v' (by simpa using e1) (by simpa using e2) (by simpa using e3)
   rwa [show i+(k+1)=i+1+k by omega] at this
  have h1':ps.length=ga.length:=by simpa using h1
  have h2':ps.length=vs.length:=by simpa using h2
  have h0:=hl 0 p av v rfl rfl rfl
  cases p with
  |val agg qs=>
   cases av with
   |val YP os=>
    obtain ⟨g1,tb,g2,g3,g4⟩:=xF h ps (i+1) ga vs h1' h2' By he;exact ⟨g1,tb,g2,g3,fun ρ hp hr=>g4 ρ hp hr⟩
   |io _=>exact h0.elim
   |box _=>exact h0.elim
   |dZ _=>exact h0.elim
  |io rr dd=>
   cases av with
   |val _ _=>exact h0.elim
   |box _=>exact h0.elim
   |dZ _=>exact h0.elim
   |io A=>
    obtain ⟨q1,q2,q3⟩:=h0;simp only [Nat.add_zero] at q2 q3;unfold xa at he;obtain ⟨q,hq,he⟩:=Option.bind_eq_some_iff.1 he;obtain ⟨p,hp,he⟩:=Option.map_eq_some_iff.1 he;obtain ⟨x2,u2,r2⟩:=q;obtain ⟨x1,u1,r1⟩:=p;injection he with e1 e2;injection e2 with e2 e3;subst e1 e2 e3;obtain ⟨g1,tb,g2,g3,g4⟩:=xF h ps (i+1) ga vs h1' h2' By hq;have YR:=h.hZ _ q3;have hV:il c st w (.one (.ref i 0 1 .full)) v:=⟨q1,YR.1,fun A' iB=>by
     obtain ⟨e1,e2,e3⟩:=YR.2 A' iB;rw [e1,e3];show qW (lc i 0) A.r.width 0 A'.xs.length v;rw [e2];exact q2⟩
    obtain ⟨a1,a2,ta,a3,a4,a5⟩:=Dv h i hV hp;obtain ⟨A',iB,ahU⟩:∃A',cO st i 0 1=some A'∧∃xs,ez rr A'.xs=some xs∧x1.1=xs:=by
     have hp:(bif Nat.beq i i&&(Nat.beq 0 0&&Nat.beq 1 1) then ((cO st i 0 1).bind fun A=>bif A.own&&A.md.is dd then (ez rr A.xs).map fun xs=>((xs,x2),[Lb.sp i 0],([]:List (Nat×Nat))) else none) else none)=some (x1,u1,r1):=hp;obtain ⟨_,hp1⟩:=bJ hp;obtain ⟨A',iB,hp2⟩:=Option.bind_eq_some_iff.1 hp1;obtain ⟨_,hp3⟩:=bJ hp2;obtain ⟨xs,Z8,e⟩:=Option.map_eq_some_iff.1 hp3;injection e with e _;exact ⟨A',iB,xs,Z8,by rw [←e]⟩
    obtain ⟨xs,Z8,ex⟩:=ahU;obtain ⟨e1,e2,e3⟩:=YR.2 A' iB;refine ⟨fun l hl => ?_,ta++tb,by simp [a3,g2],fun p hp => ?_,fun ρ hp hr => ?_⟩
    ·rcases List.mem_append.1 hl with hl | hl
     ·exact a2 l hl
     ·exact g1 l hl
    ·rcases List.mem_append.1 hp with hp | hp
     ·exact a4 p hp
     ·exact g3 p hp
    ·have hA5:=a5 ρ (fun p lP=>hp p (List.mem_append_left _ lP)) (fun p lP=>hr p (List.mem_append_left _ lP));have gS:=g4 ρ (fun p lP=>hp p (List.mem_append_right _ lP)) (fun p lP=>hr p (List.mem_append_right _ lP));have hA5:OwnAt (c.map ρ) w (.dE i 0) (c.lc i 0) { r:=rr,own:=true,xs:=x1.1,md:=dd } v:=hA5;rw [e3] at hA5;obtain ⟨er,UO⟩:=dm Z8;refine ⟨{ r:=rr,own:=true,xs:=x1.1,md:=dd },pD ps x1.2,rfl,?_,?_,hA5,?_⟩
     ·show rr.width=A.r.width;rw [←er];exact e1
     ·show List.length (x1.1:List (aO rr))=A.xs.length;rw [ex,UO,←e2]
      cases er
      rfl
     ·have:x1.2=x2:=a1;rw [this];exact gS
  |dZ qs=>
   cases av with
   |val _ _=>exact h0.elim
   |io _=>exact h0.elim
   |box _=>exact h0.elim
   |dZ os=>
    obtain ⟨us,rfl,q1⟩:=h0;simp only [Nat.add_zero] at q1;unfold xa at he;obtain ⟨q,hq,he⟩:=Option.bind_eq_some_iff.1 he;obtain ⟨p,hp,he⟩:=Option.map_eq_some_iff.1 he;obtain ⟨x2,u2,r2⟩:=q;obtain ⟨x1,u1⟩:=p;injection he with e1 e2;injection e2 with e2 e3;subst e1 e2 e3;obtain ⟨g1,tb,g2,g3,g4⟩:=xF h ps (i+1) ga vs h1' h2' By hq;obtain ⟨a1,a2,a3⟩:=lW qs 0 (cG ps) x2 hp
    let f:Lb→Lb×Lb:=fun l=>(l,match l with | .sp x y=>.dE x y | l=>l)
    refine ⟨fun l hl => ?_,u1.map f++tb,?_,fun p hp => ?_,fun ρ hp hr => ?_⟩
    ·rcases List.mem_append.1 hl with hl | hl
     ·obtain ⟨k,rfl⟩:=a2 l hl;rfl
     ·exact g1 l hl
    ·rw [List.map_append,List.map_map,g2]
     congr 1
     exact List.map_id u1
    ·rcases List.mem_append.1 hp with hp | hp
     ·obtain ⟨l,hl,rfl⟩:=List.mem_map.1 hp;obtain ⟨k,rfl⟩:=a2 l hl;rfl
     ·exact g3 p hp
    ·have gS:=g4 ρ (fun p lP=>hp p (List.mem_append_right _ lP)) hr;refine ⟨(pP qs (cG ps) x1).1,pD ps (pP qs (cG ps) x1).2,rfl,⟨us,rfl,fun j A hj => ?_⟩,by rw [a1];exact gS⟩;obtain ⟨⟨r,dd,hqr⟩,u,b1,b2,b3,b4⟩:=q1 j A hj;obtain ⟨A',xs,c1,c2,cd,c3,c4,c5⟩:=a3 j r dd hqr;rw [Nat.zero_add] at c1 c5;obtain ⟨e1,e2,e3⟩:=(h.hZ _ b4).2 A' c1;obtain ⟨er,UO⟩:=dm c3;have ha:=Dl h c1;have hρ:ρ (.sp i j)=some (.dE i j):=hp (.sp i j,.dE i j) (List.mem_append_left _ (List.mem_map.2 ⟨_,c5,rfl⟩));have hw:r.width=A.r.width:=by rw [←er];exact e1
     have hn:xs.length=A.xs.length:=by
      rw [←e2,UO]
      cases er
      rfl
     refine ⟨_,u,c4,b1,hw,hn,b2,?_,rfl,?_⟩
     ·show qW (lc i j) r.width 0 xs.length u;rw [hw,hn];exact b3
     ·show match lc i j with
       |.nil=>xs=[]
       |.at b off cap=>_
      obtain ⟨rA,auH,xsA,mdA⟩:=A';simp only at er c2 cd;subst er c2;have UO:xs=xsA:=UO;subst UO;unfold fJ at ha;have e3:c.lc i j=lc i j:=e3;rw [e3] at ha
      cases np:lc i j with
      |nil=>rw [np] at ha;exact ha
      |«at» b off cap=>
       rw [np] at ha;obtain ⟨k0,k2,k3,k4⟩:=ha;exact ⟨(Cz.nX k0).trans hρ,k2,k3,k4.map hρ⟩
  |box Lp qs=>
   cases av with
   |val _ _=>exact h0.elim
   |io _=>exact h0.elim
   |dZ _=>exact h0.elim
   |box os=>
    obtain ⟨rh,q1,q2⟩:=h0;simp only [Nat.add_zero] at q2;unfold xa at he;obtain ⟨q,hq,he⟩:=Option.bind_eq_some_iff.1 he;obtain ⟨p,hp,he⟩:=Option.map_eq_some_iff.1 he;obtain ⟨x2,u2,r2⟩:=q;obtain ⟨x1,u1,r1⟩:=p;injection he with e1 e2;injection e2 with e2 e3;subst e1 e2 e3;obtain ⟨g1,tb,g2,g3,g4⟩:=xF h ps (i+1) ga vs h1' h2' By hq;have YR:=h.hZ _ q2;have hV:il c st w (.one (.ptr i 1 0)) v:=⟨by rw [q1];rfl,YR.1,fun cs Aq=>by rw [YR.2 cs Aq,q1]⟩;obtain ⟨a1,a2,ta,a3,a4,a5⟩:=Dv h i hV hp;refine ⟨fun l hl => ?_,ta++tb,by simp [a3,g2],fun p hp => ?_,fun ρ hp hr => ?_⟩
    ·rcases List.mem_append.1 hl with hl | hl
     ·exact a2 l hl
     ·exact g1 l hl
    ·rcases List.mem_append.1 hp with hp | hp
     ·exact a4 p hp
     ·exact g3 p hp
    ·have hA5:=a5 ρ (fun p lP=>hp p (List.mem_append_left _ lP)) (fun p lP=>hr p (List.mem_append_left _ lP));have gS:=g4 ρ (fun p lP=>hp p (List.mem_append_right _ lP)) (fun p lP=>hr p (List.mem_append_right _ lP));refine ⟨(fK qs (cG ps) x1).1,pD ps (fK qs (cG ps) x1).2,rfl,hA5,?_⟩;have:(fK qs (cG ps) x1).2=x2:=a1;rw [this];exact gS
end Go.TM
namespace Go.TM
open Go Go.RowKit
def start (n:Nat) (ps:List AP) (x:aO (aG (ps.map some))):St:=ri 0 (ed (ps.map some) x++List.replicate (n+1-ps.length) none)
theorem tZ:(l:List (Option AP))→(x:aO (aG l))→(ed l x).length=l.length
 | [],_=>rfl
 |none::l,x=>by
  show (ed l x).length+1=l.length+1;rw [tZ l x]
 |some p::l,x=>by
  show (ed l (p.av (aG l) x).2).length+1=l.length+1;rw [tZ l _]
theorem BG {c:Cz} {w:World} {lc:Nat→Nat→Loc}:(ps:List AP)→(i:Nat)→(ga:List AV)→(vs:List Value)→{x:aO (aG (ps.map some))}→ib ps ga=some x→Cl c w lc i ga vs→
  ps.length=ga.length∧ps.length=vs.length∧∀k av,(ed (ps.map some) x)[k]?=some (some av)→∃v,vs[k]?=some v∧wH c w (i+k) (lc (i+k)) av v
 | [],i,[],vs,x,hx,h=>by
  have:vs=[]:=h;subst this;exact ⟨rfl,rfl,fun k av hk=>by
   have hk:([]:List (Option AV))[k]?=some (some av):=hk;simp at hk⟩
 | [],_,_::_,_,_,hx,_=>by simp [ib] at hx
 |_::_,_,[],_,_,hx,_=>by simp [ib] at hx
 |p::ps,i,av::ga,vs,x,hx,h=>by
  obtain ⟨v,l,rfl,h1,h2⟩:=h;unfold ib at hx
  cases hy:ib ps ga with
  |none=>simp [hy] at hx
  |some y=>
   simp only [hy] at hx;obtain ⟨g1,g2,g3⟩:=BG ps (i+1) ga l hy h2;obtain ⟨q1,q2⟩:=Ns (c:=c) (w:=w) (i:=i) (lc:=lc i) hx;refine ⟨by simp [g1],by simp [g2],fun k Rn hk => ?_⟩
   cases k with
   |zero=>
    have hk:some (some (p.av (aG (ps.map some)) x).1)=some (some Rn):=hk;simp only [Option.some.injEq] at hk;subst hk;exact ⟨v,rfl,q2 v h1⟩
   |succ k=>
    have hk:(ed (ps.map some) (p.av (aG (ps.map some)) x).2)[k]?=some (some Rn):=hk;rw [q1] at hk;obtain ⟨v',h3,h4⟩:=g3 k Rn hk;exact ⟨v',by simpa using h3,by rw [show i+(k+1)=i+1+k by omega];exact h4⟩
def lx (lc:Nat→Loc) (i:Nat):(j:Nat)→List OV→List Sc
 |_,[]=>[]
 |j,.own A::os=>.arr i j 1 A.r.width A.xs.length (lc j)::lx lc i (j+1) os
 |j,.int _ _::os=>lx lc i (j+1) os
 |j,.bool _::os=>lx lc i (j+1) os
 |j,.str _::os=>lx lc i (j+1) os
 |j,.shr _ _::os=>lx lc i (j+1) os
 |j,.nV _ _::os=>lx lc i (j+1) os
 |j,.fn _ _ _::os=>lx lc i (j+1) os
 |j,.gw::os=>lx lc i (j+1) os
theorem Dx {lc:Nat→Loc} {i:Nat}:(os:List OV)→(j:Nat)→∀p∈lx lc i j os,∃k A,os[k]?=some (.own A)∧p=.arr i (j+k) 1 A.r.width A.xs.length (lc (j+k))
 | [],j,p,h=>by simp [lx] at h
 |o::os,j,p,h=>by
  have rest:p∈lx lc i (j+1) os→∃k A,(o::os)[k]?=some (.own A)∧p=.arr i (j+k) 1 A.r.width A.xs.length (lc (j+k)):=by
   intro h;obtain ⟨k,A,h1,h2⟩:=Dx os (j+1) p h;refine ⟨k+1,A,by simpa using h1,?_⟩;rw [h2,show j+1+k=j+(k+1) by omega]
  cases o with
  |own A=>
   rcases List.mem_cons.1 h with h | h
   ·exact ⟨0,A,rfl,h⟩
   ·exact rest h
  |_=>exact rest h
theorem FV {lc:Nat→Loc} {i:Nat}:(os:List OV)→(j:Nat)→∀(k:Nat) (A:nu),os[k]?=some (.own A)→Sc.arr i (j+k) 1 A.r.width A.xs.length (lc (j+k))∈lx lc i j os
 | [],j,k,A,h=>by simp at h
 |o::os,j,0,A,h=>by
  simp only [List.getElem?_cons_zero,Option.some.injEq] at h;subst h;exact List.mem_cons_self
 |o::os,j,k+1,A,h=>by
  have:=FV (lc:=lc) (i:=i) os (j+1) k A (by simpa using h);rw [show j+1+k=j+(k+1) by omega] at this
  cases o with
  |own A=>exact List.mem_cons_of_mem _ this
  |_=>exact this
def Hr (lc:Nat→Nat→Loc):(i:Nat)→List AV→List Value→List Sc
 |_,[],_=>[]
 |_,_::_,[]=>[]
 |i,.val _ _::as,_::vs=>Hr lc (i+1) as vs
 |i,.io A::as,_::vs=>.arr i 0 1 A.r.width A.xs.length (lc i 0)::Hr lc (i+1) as vs
 |i,.dZ os::as,_::vs=>lx (lc i) i 0 os++Hr lc (i+1) as vs
 |i,.box _::as,v::vs=>.box i 1 (match v with | .pointer (some ad)=>ad.block | _=>0)::Hr lc (i+1) as vs
theorem xG {lc:Nat→Nat→Loc}:(i:Nat)→(as:List AV)→(vs:List Value)→∀p∈Hr lc i as vs,∃k av v,as[k]?=some av∧vs[k]?=some v∧((∃A,av=.io A∧p=.arr (i+k) 0 1 A.r.width A.xs.length (lc (i+k) 0))∨(∃os,av=.box os∧p=.box (i+k) 1 (match v with | .pointer (some ad)=>ad.block | _=>0))∨∃os j A,av=.dZ os∧os[j]?=some (.own A)∧p=.arr (i+k) j 1 A.r.width A.xs.length (lc (i+k) j))
 |_,[],_,p,h=>by simp [Hr] at h
 |_,_::_,[],p,h=>by simp [Hr] at h
 |i,.val _ _::as,_::vs,p,h=>by
  obtain ⟨k,av,v,h1,h2,h3⟩:=xG (i+1) as vs p h;exact ⟨k+1,av,v,by simpa using h1,by simpa using h2,by rw [show i+(k+1)=i+1+k by omega];exact h3⟩
 |i,.io A::as,v0::vs,p,h=>by
  rcases List.mem_cons.1 h with h | h
  ·exact ⟨0,.io A,v0,rfl,rfl,.inl ⟨A,rfl,h⟩⟩
  ·obtain ⟨k,av,v,h1,h2,h3⟩:=xG (i+1) as vs p h;exact ⟨k+1,av,v,by simpa using h1,by simpa using h2,by rw [show i+(k+1)=i+1+k by omega];exact h3⟩
 |i,.box os::as,v0::vs,p,h=>by
  rcases List.mem_cons.1 h with h | h
  ·exact ⟨0,.box os,v0,rfl,rfl,.inr (.inl ⟨os,rfl,h⟩)⟩
  ·obtain ⟨k,av,v,h1,h2,h3⟩:=xG (i+1) as vs p h;exact ⟨k+1,av,v,by simpa using h1,by simpa using h2,by rw [show i+(k+1)=i+1+k by omega];exact h3⟩
 |i,.dZ os::as,v0::vs,p,h=>by
  rcases List.mem_append.1 h with h | h
  ·obtain ⟨j,A,h1,h2⟩:=Dx os 0 p h;rw [Nat.zero_add] at h2;exact ⟨0,.dZ os,v0,rfl,rfl,.inr (.inr ⟨os,j,A,rfl,h1,h2⟩)⟩
  ·obtain ⟨k,av,v,h1,h2,h3⟩:=xG (i+1) as vs p h;exact ⟨k+1,av,v,by simpa using h1,by simpa using h2,by rw [show i+(k+1)=i+1+k by omega];exact h3⟩
theorem Rr {lc:Nat→Nat→Loc}:(i:Nat)→(as:List AV)→(vs:List Value)→as.length=vs.length→∀k av v,as[k]?=some av→vs[k]?=some v→(∀A,av=.io A→Sc.arr (i+k) 0 1 A.r.width A.xs.length (lc (i+k) 0)∈Hr lc i as vs)∧(∀os,av=.box os→Sc.box (i+k) 1 (match v with | .pointer (some ad)=>ad.block | _=>0)∈Hr lc i as vs)∧(∀os,av=.dZ os→∀j A,os[j]?=some (.own A)→Sc.arr (i+k) j 1 A.r.width A.xs.length (lc (i+k) j)∈Hr lc i as vs)
 |_,[],_,_,k,av,v,h,_=>by simp at h
 |_,_::_,[],hn,_,_,_,_,_=>by simp at hn
 |i,a0::as,v0::vs,hn,0,av,v,h1,h2=>by
  simp only [List.getElem?_cons_zero,Option.some.injEq] at h1 h2;subst h1 h2;refine ⟨fun A e => ?_,fun os e => ?_,fun os e j A hj => ?_⟩
  ·subst e;exact List.mem_cons_self
  ·subst e;exact List.mem_cons_self
  ·subst e;have:=FV (lc:=lc i) (i:=i) os 0 j A hj;rw [Nat.zero_add] at this;exact List.mem_append_left _ this
 |i,a0::as,v0::vs,hn,k+1,av,v,h1,h2=>by
  obtain ⟨g1,g2,g3⟩:=Rr (i+1) as vs (by simpa using hn) k av v (by simpa using h1) (by simpa using h2);have e:i+(k+1)=i+1+k:=by omega
  rw [e]
  cases a0 with
  |val _ _=>exact ⟨g1,g2,g3⟩
  |io _=>exact ⟨fun A h=>List.mem_cons_of_mem _ (g1 A h),fun os h=>List.mem_cons_of_mem _ (g2 os h),fun os h j A hj=>List.mem_cons_of_mem _ (g3 os h j A hj)⟩
  |box _=>exact ⟨fun A h=>List.mem_cons_of_mem _ (g1 A h),fun os h=>List.mem_cons_of_mem _ (g2 os h),fun os h j A hj=>List.mem_cons_of_mem _ (g3 os h j A hj)⟩
  |dZ _=>exact ⟨fun A h=>List.mem_append_right _ (g1 A h),fun os h=>List.mem_append_right _ (g2 os h),fun os h j A hj=>List.mem_append_right _ (g3 os h j A hj)⟩
def pn (ps:List AP) (mu:Mu):Prop:=
 ∀p∈mu.an,(∃i r W n l,p=.arr i 0 1 W n l∧∃d,ps[i]?=some (.io r d))∨(∃i rh b qs,p=.box i 1 rh∧ps[i]?=some (.box b qs))∨∃i j W n l qs,p=.arr i j 1 W n l∧ps[i]?=some (.dZ qs)
theorem Hs:(ps:List OP)→(t:RT)→(os:List OV)→(y:aO t)→{x:aO (oZ ps t)}→fC ps t os y=some x→∀(j:Nat) (A:nu),os[j]?=some (.own A)→(∃r d,ps[j]?=some (.own r d))∧∃B:nu,(fK ps t x).1[j]?=some (.own B)∧B.r.width=A.r.width∧B.xs.length=A.xs.length
 | [],t,[],y,x,h=>by intro k A hk;simp at hk
 | [],_,_::_,_,_,h=>by simp [fC] at h
 |_::_,_,[],_,_,h=>by simp [fC] at h
 |p::ps,t,o::os,y,x,h=>by
  unfold fC at h
  cases h1:vj p o with
  |none=>simp [h1] at h
  |some a=>
   cases h2:fC ps t os y with
   |none=>simp [h1,h2] at h
   |some z=>
    simp only [h1,h2] at h;have h:(a,z)=x:=Option.some.inj h;subst h;intro j A hj
    cases j with
    |succ j=>
     obtain ⟨⟨r,d,q1⟩,B,q2,q3⟩:=Hs ps t os y h2 j A (by simpa using hj);exact ⟨⟨r,d,by simpa using q1⟩,B,(by show (fK ps t z).1[j]?=_;exact q2),q3⟩
    |zero=>
     simp only [List.getElem?_cons_zero,Option.some.injEq] at hj;subst hj
     cases p with
     |own r d=>
      have h1:(bif A.md.is d then ez r A.xs else none)=some a:=h1;obtain ⟨_,h1⟩:=bJ h1;obtain ⟨er,UO⟩:=dm h1;refine ⟨⟨r,d,rfl⟩,{ r:=r,own:=true,xs:=a,md:=d },rfl,by show r.width=_;rw [←er],?_⟩;show List.length (a:List (aO r))=_;rw [UO]
      cases er
      rfl
     |_=>cases h1
theorem FW:(ps:List AP)→(ga:List AV)→{x:aO (aG (ps.map some))}→ib ps ga=some x→∀(k:Nat) (av:AV),ga[k]?=some av→∃p:AP,ps[k]?=some p∧match p,av with
  |.io _ _,.io A=>∃B:nu,(ed (ps.map some) x)[k]?=some (some (.io B))∧B.r.width=A.r.width∧B.xs.length=A.xs.length
  |.box _ _,.box _=>True
  |.val _ _,.val _ _=>True
  |.dZ qs,.dZ os=>∃EA:List OV,(ed (ps.map some) x)[k]?=some (some (AV.dZ EA))∧∀(j:Nat) (A:nu),os[j]?=some (OV.own A)→(∃r d,qs[j]?=some (OP.own r d))∧∃B:nu,EA[j]?=some (OV.own B)∧B.r.width=A.r.width∧B.xs.length=A.xs.length
  |_,_=>False
 | [],[],_,_=>by intro k av h;simp at h
 | [],_::_,_,hx=>by simp [ib] at hx
 |_::_,[],_,hx=>by simp [ib] at hx
 |p::ps,av::ga,x,hx=>by
  unfold ib at hx
  cases hy:ib ps ga with
  |none=>simp [hy] at hx
  |some y=>
   simp only [hy] at hx;have e2:(p.av (aG (ps.map some)) x).2=y:=(Ns (c:=⟨fun _=>0,fun _ _=>.nil,fun _=>none⟩) (w:=default) (i:=0) (lc:=fun _=>.nil) hx).1;intro k Rn hk
   cases k with
   |zero=>
    simp only [List.getElem?_cons_zero,Option.some.injEq] at hk;subst hk;refine ⟨p,rfl,?_⟩
    cases p with
    |val agg qs=>cases av with
     |val _ _=>trivial
     |io _=>cases agg<;>cases hx
     |box _=>cases agg<;>cases hx
     |dZ _=>cases agg<;>cases hx
    |io r d=>cases av with
     |val _ _=>cases hx
     |box _=>cases hx
     |dZ _=>cases hx
     |io A=>
      have hx:(bif A.md.is d then (match ez r A.xs with | some xs=>some ((xs,y):aO (.cons (.sl r) (aG (ps.map some)))) | none=>none) else none)=some x:=hx;obtain ⟨_,hx⟩:=bJ hx
      cases hc:ez r A.xs with
      |none=>rw [hc] at hx;cases hx
      |some xs=>
       rw [hc] at hx;injection hx with hx;obtain ⟨er,UO⟩:=dm hc;refine ⟨{ r:=r,own:=true,xs:=x.1,md:=d },rfl,by show r.width=_;rw [←er],?_⟩;show List.length (x.1:List (aO r))=_;rw [←hx];show xs.length=_;rw [UO]
       cases er
       rfl
    |box b qs=>cases av with
     |val _ _=>cases hx
     |io _=>cases hx
     |dZ _=>cases hx
     |box _=>trivial
    |dZ qs=>cases av with
     |val _ _=>cases hx
     |io _=>cases hx
     |box _=>cases hx
     |dZ os=>
      have hx:fC qs (aG (ps.map some)) os y=some x:=hx;exact ⟨_,rfl,Hs qs _ os y hx⟩
   |succ k=>
    obtain ⟨p',h1,h2⟩:=FW ps ga hy k Rn (by simpa using hk);refine ⟨p',by simpa using h1,?_⟩;have eh:(ed ((p::ps).map some) x)[k+1]?=(ed (ps.map some) y)[k]?:=by
     show (ed (ps.map some) (p.av (aG (ps.map some)) x).2)[k]?=_;rw [e2]
    cases p'<;>cases Rn<;>simp only at h2 ⊢ <;> (try exact h2)
    ·obtain ⟨B,q1,q2,q3⟩:=h2;exact ⟨B,eh.trans q1,q2,q3⟩
    ·obtain ⟨EA,q1,q2⟩:=h2;exact ⟨EA,eh.trans q1,q2⟩
end Go.TM
namespace Go.TM
open Go Go.RowKit
theorem Nt {P:Program} {fn:Func} {tm:Array Value} {w:World} {vals:List Value} (h:(fn.results.toList.mapM (Hq tm)).run P w=.ok vals w) :
  (results fn tm).run P w=.ok (if hs:vals.toArray.size=1 then vals.toArray[0] else .tuple vals.toArray) w:=by
 have e:results fn tm=(do let vs ←fn.results.mapM (Hq tm);pure (if h:vs.size=1 then vs[0] else .tuple vs):Sem Value):=rfl;rw [e,Array.mapM_eq_mapM_toList];simp [Sem.run_bind,h]
theorem Nu {c:Cz} {w:World} {mu:Mu} {lc:Nat→Nat→Loc} {ga:List AV} {args:Array Value} (hH:Handed c w mu) (hA:Cl c w lc 0 ga args.toList) {ps:List AP} {x:aO (aG (ps.map some))} (hx:ib ps ga=some x) {n:Nat} (hn:ps.length≤n) :
  ∃(GM:Mu) (c':Cz),GM.m=mu.m∧GM.ok=mu.ok∧pn ps GM∧LM GM lc 0 ps ga args.toList∧args.size=ps.length∧ga.length=ps.length∧
   Rel w GM c' (start n ps x) { tmps:=args++Array.replicate (n-args.size) undef,defers:=[] } w:=by
 obtain ⟨l1,l2,hold⟩:=BG ps 0 ga args.toList hx hA;have VM:=FW ps ga hx;have Ht:args.size=ps.length:=by rw [l2];simp
 let a:Act:={ tmps:=args++Array.replicate (n-args.size) undef,defers:=[] }
 have Z9:∀k v,args.toList[k]?=some v→a.eval (.tmp k)=v:=by
  intro k v hk;have dM:k<args.size:=by
   have:=(List.getElem?_eq_some_iff.1 hk).1;simpa using this
  show (args++Array.replicate (n-args.size) undef).getD k undef=v;rw [Array.getD_eq_getD_getElem?,Array.getElem?_append_left dM];rw [Array.getElem?_toList] at hk;rw [hk];rfl
 let GM:Mu:={ m:=mu.m,ok:=mu.ok,an:=Hr lc 0 ga args.toList }
 have hlen:(ed (ps.map some) x++List.replicate (n+1-ps.length) none).length=n+1:=by
  rw [List.length_append,tZ];simp;omega
 have Gv:∀(i:Nat) (av:AV),(ed (ps.map some) x++List.replicate (n+1-ps.length) none)[i]?=some (some av)→(ed (ps.map some) x)[i]?=some (some av):=by
  intro i av hi
  by_cases h:i<(ed (ps.map some) x).length
  ·rwa [List.getElem?_append_left h] at hi
  ·rw [List.getElem?_append_right (by omega),List.getElem?_replicate] at hi
   split at hi<;>simp at hi
 have EJ:FN w GM c w:=⟨fun b l hb=>⟨hH.lt b l hb,(hH.lb b l hb).imp id fun hh=>.inr ((hH.m b).2 ⟨l,hb,hh⟩)⟩,fun b _ hb=>.inr ((hH.ok b).2 hb),⟨rfl,rfl,rfl,Nat.le_refl _⟩,fun _ _ _=>rfl⟩;have abi:EK c w lc a 0 (ed (ps.map some) x++List.replicate (n+1-ps.length) none):=by
  intro i av hi;obtain ⟨v,h1,h2⟩:=hold i av (Gv i av hi);have:=Z9 i v h1;rw [Nat.zero_add] at h2 ⊢;rw [this];exact h2
 have aaa:∀k av v,ga[k]?=some av→args.toList[k]?=some v→wH c w k (lc k) av v:=by
  have key:∀(ga:List AV) (i:Nat) (vs:List Value),Cl c w lc i ga vs→∀k av v,ga[k]?=some av→vs[k]?=some v→wH c w (i+k) (lc (i+k)) av v:=by
   intro ga
   induction ga with
   |nil=>intro i vs _ k av v h;simp at h
   |cons a0 ga ih=>
    intro i vs h k av v h1 h2;obtain ⟨v0,l,rfl,g1,g2⟩:=h
    cases k with
    |zero=>simp at h1 h2;subst h1 h2;exact g1
    |succ k=>
     have:=ih (i+1) l g2 k av v (by simpa using h1) (by simpa using h2)
     rwa [show i+1+k=i+(k+1) by omega] at this
  intro k av v h1 h2;have:=key ga 0 args.toList hA k av v h1 h2
  rwa [Nat.zero_add] at this
 have ahV:∀p∈GM.an,VG (ed (ps.map some) x++List.replicate (n+1-ps.length) none) lc a p:=by
  intro p hp;obtain ⟨k,av,v,h1,h2,h3⟩:=xG 0 ga args.toList p hp;have hk:k<ps.length:=by rw [l1];exact (List.getElem?_eq_some_iff.1 h1).1
  simp only [Nat.zero_add] at h3;obtain ⟨p',q1,q2⟩:=VM k av h1;rcases h3 with ⟨A,rfl,rfl⟩ | ⟨os,rfl,rfl⟩ | ⟨os,j,A,rfl,hj,rfl⟩
  ·refine ⟨rfl,by rw [hlen];omega,fun Rn abj=>.inl ?_⟩
   cases p' with
   |io r dd=>
    obtain ⟨B,e1,e2,e3⟩:=q2;have:=Gv k Rn abj;rw [e1] at this;simp only [Option.some.injEq] at this;exact ⟨B,this.symm,fun _=>⟨e2,e3,rfl⟩⟩
   |val _ _=>exact q2.elim
   |box _ _=>exact q2.elim
   |dZ _=>exact q2.elim
  ·refine ⟨rfl,by rw [hlen];omega,fun EA _ => ?_⟩;obtain ⟨rh,vs,ty,e1,_⟩:=aaa k _ v h1 h2;rw [Z9 k v h2,e1]
  ·refine ⟨rfl,by rw [hlen];omega,fun Rn abj=>.inr ?_⟩
   cases p' with
   |io r dd=>exact q2.elim
   |val _ _=>exact q2.elim
   |box _ _=>exact q2.elim
   |dZ qs=>
    obtain ⟨EA,e1,e2⟩:=q2;have:=Gv k Rn abj;rw [e1] at this;simp only [Option.some.injEq] at this;obtain ⟨_,B,e3,e4,e5⟩:=e2 j A hj;refine ⟨EA,this.symm,fun A' iB => ?_⟩;rw [e3] at iB;injection iB with iB;injection iB with iB;subst iB;exact ⟨e4,e5,rfl⟩
 obtain ⟨c',hR⟩:=Rel.Rp (a:=a) EJ rfl abi ahV;refine ⟨GM,c',rfl,rfl,fun p hp => ?_,fun k p av v h0 h1 h2 => ?_,Ht,l1.symm,hR⟩
 ·obtain ⟨k,av,v,h1,h2,h3⟩:=xG 0 ga args.toList p hp;simp only [Nat.zero_add] at h3;obtain ⟨p',q1,q2⟩:=VM k av h1;rcases h3 with ⟨A,rfl,rfl⟩ | ⟨os,rfl,rfl⟩ | ⟨os,j,A,rfl,hj,rfl⟩
  ·cases p' with
   |io r dd=>exact .inl ⟨k,r,_,_,_,rfl,dd,q1⟩
   |val _ _=>exact q2.elim
   |box _ _=>exact q2.elim
   |dZ _=>exact q2.elim
  ·cases p' with
   |io r dd=>exact q2.elim
   |val _ _=>exact q2.elim
   |box b qs=>exact .inr (.inl ⟨k,_,b,qs,rfl,q1⟩)
   |dZ _=>exact q2.elim
  ·cases p' with
   |io r dd=>exact q2.elim
   |val _ _=>exact q2.elim
   |box b qs=>exact q2.elim
   |dZ qs=>exact .inr (.inr ⟨k,j,_,_,_,qs,rfl,q1⟩)
 ·obtain ⟨p',q1,q2⟩:=VM k av h1;rw [h0] at q1
  cases q1
  have hh:=aaa k av v h1 h2;obtain ⟨a1,a2,a3⟩:=Rr (lc:=lc) 0 ga args.toList (by rw [←l1,l2]) k av v h1 h2;rw [Nat.zero_add] at a1 a2 a3 ⊢
  cases p with
  |val _ _=>cases av with
   |val _ _=>trivial
   |io _=>exact q2.elim
   |box _=>exact q2.elim
   |dZ _=>exact q2.elim
  |dZ qs=>cases av with
   |val _ _=>exact q2.elim
   |io _=>exact q2.elim
   |box _=>exact q2.elim
   |dZ os=>
    obtain ⟨us,rfl,hl,abd⟩:=hh;obtain ⟨EA,_,e2⟩:=q2;obtain ⟨n1,_⟩:=cF.VF os 0 _ hl;refine ⟨us,rfl,fun j A hj=>⟨(e2 j A hj).1,?_⟩⟩;have dM:j<us.toList.length:=by rw [n1];exact (List.getElem?_eq_some_iff.1 hj).1
    have hO:OwnAt c w (.dE k j) (lc k j) A us.toList[j]:=abd j _ _ hj (List.getElem?_eq_getElem dM);exact ⟨_,List.getElem?_eq_getElem dM,hO.1,hO.2.1,a3 os rfl j A hj⟩
  |io r dd=>cases av with
   |val _ _=>exact q2.elim
   |box _=>exact q2.elim
   |dZ _=>exact q2.elim
   |io A=>
    have hO:OwnAt c w (.dE k 0) (lc k 0) A v:=hh;exact ⟨hO.1,hO.2.1,a1 A rfl⟩
  |box _ _=>cases av with
   |val _ _=>exact q2.elim
   |io _=>exact q2.elim
   |dZ _=>exact q2.elim
   |box os=>
    obtain ⟨rh,vs,ty,e1,_⟩:=hh;refine ⟨rh,e1,?_⟩;have:=a2 os rfl;rw [e1] at this;exact this
theorem Py {P:Program} {T:oU} (hT:jZ P T) {w0:World} {mu GM:Mu} (hm:GM.m=mu.m) (iP:GM.ok=mu.ok) {c:Cz} {st:St} {a:Act} {w:World} (h:Rel w0 GM c st a w) {fn:Func} {ps:List AP} {rs:List RP} (hrs:Co T a.tmps fn.results.toList rs)
  {lc:Nat→Nat→Loc} {ga:List AV} {vs:List Value} (h1:ps.length=ga.length) (h2:ps.length=vs.length) (hl:LM GM lc 0 ps ga vs) {e:Ex} {y:aO (ew rs (cG ps))} (hf:EL rs ps e st=some y) :
  (e=.normal∨e=.ret)∧∃v,(results fn a.tmps).run P w=.ok v w∧∃c',FN w0 mu c' w∧vh c' w (iR rs (cG ps) y).1 v∧kC c' w lc 0 ga vs (pD ps (iR rs (cG ps) y).2):=by
 have he:e=.normal∨e=.ret:=by
  cases e with
  |normal=>exact .inl rfl
  |ret=>exact .inr rfl
  |exit m=>cases hf
 refine ⟨he,?_⟩;have hf:((xa st 0 ps).bind fun x=>(Hp st rs (cG ps) x.1).bind fun q=>bif ye (dO q.2.1++x.2.1)&&apart (dO q.2.1++x.2.1) (q.2.2++x.2.2) then some q.1 else none)=some y:=by
  rcases he with rfl | rfl<;>exact hf
 obtain ⟨qx,hqx,hf⟩:=Option.bind_eq_some_iff.1 hf;obtain ⟨qr,hqr,hf⟩:=Option.bind_eq_some_iff.1 hf;obtain ⟨sQ,hy⟩:=bJ hf;injection hy with hy;obtain ⟨x1,u1,r1⟩:=qx;obtain ⟨x2,u2,r2⟩:=qr;subst hy;rw [Bool.and_eq_true] at sQ;obtain ⟨a1,tb,a2,a3,a4⟩:=xF h ps 0 ga vs h1 h2 hl hqx;obtain ⟨b1,b2,b3,vals,b4,b5,b6⟩:=J9 hT h fn.results.toList rs hrs (cG ps) x1 hqr;have FT:∀l∈dO u2++u1,l.real=true:=fun l hl=>(List.mem_append.1 hl).elim (b3 l) (a1 l)
 have Z7:=sd _ FT sQ.1;have hap:∀p∈r2++r1,Lb.sp p.1 p.2∉dO u2++u1:=by
  intro p hp hm;have h1:=List.all_eq_true.1 sQ.2 p hp;have h2:=List.all_eq_true.1 h1 _ hm;rw [(Lb.Dn rfl).2 rfl] at h2
  cases h2
 let tab:=Dq .kO 0 u2++tb
 have ahW:tab.map (·.1)=dO u2++u1:=by show (Dq .kO 0 u2++tb).map _=_;rw [List.map_append,Dr,a2]
 have Ax:=Classical.propDecidable
 let ρ:Lb→Option Lb:=fun l=>match look tab l with | some y=>some y | none=>if l=.out then some .out else none
 have hρt:∀p∈tab,ρ p.1=some p.2:=by
  intro p hp;have:=Dp tab (by rw [ahW];exact Z7) hp;show (match look tab p.1 with | some y=>some y | none=>_)=_;rw [this]
 have Du:∀ {l y},look tab l=some y→l∈dO u2++u1:=by
  intro l y hl;have:=BD tab hl;rw [←ahW];exact List.mem_map.2 ⟨_,this,rfl⟩
 have hρr:∀p∈r2++r1,ρ (.sp p.1 p.2)=none:=by
  intro p hp;show (match look tab (.sp p.1 p.2) with | some y=>some y | none=>if Lb.sp p.1 p.2=.out then some Lb.out else none)=none
  cases hl:look tab (.sp p.1 p.2) with
  |some y=>exact absurd (Du hl) (hap p hp)
  |none=>simp
 have hρo:ρ .out=some .out:=by
  show (match look tab Lb.out with | some y=>some y | none=>if Lb.out=Lb.out then some Lb.out else none)=_
  cases hl:look tab Lb.out with
  |some y=>have:=FT _ (Du hl);cases this
  |none=>simp
 have EJ:FN w0 mu (c.map ρ) w:=by
  refine ⟨fun b l hb => ?_,fun b hb hn => ?_,h.kept,by rw [←hm];exact h.old⟩
  ·obtain ⟨k,hk,e⟩:=Cz.map_some hb;obtain ⟨g1,g2⟩:=h.owned b k hk;refine ⟨g1,?_⟩;rw [←hm];refine g2.imp (fun e2 => ?_) id;subst e2;rw [hρo] at e
   cases e;rfl
  ·rw [←hm,←iP]
   cases hk:c.own b with
   |none=>exact h.free b hb hk
   |some k=>
    have e:ρ k=none:=(Cz.nX (ρ:=ρ) hk).symm.trans hn;rcases (h.owned b k hk).2 with g | g | g
    ·subst g;rw [hρo] at e;cases e
    ·exact absurd g (Nat.not_le_of_lt hb)
    ·exact .inl g
 have hX:=a4 ρ (fun p hp=>hρt p (List.mem_append_right _ hp)) (fun p hp=>hρr p (List.mem_append_right _ hp));have hR:=b6 ρ 0 (fun k l hk=>by
  have:=hρt _ (List.mem_append_left tb (AB .kO 0 u2 k l hk));exact this) (fun p hp=>hρr p (List.mem_append_left _ hp))
 refine ⟨_,Nt b4,c.map ρ,EJ,?_,by rw [b1];exact hX⟩;have hlen:vals.length=(iR rs (cG ps) x2).1.length:=by
  have:rs.length=fn.results.toList.length:=by
   have key:∀(l:List ResultVar) (m:List RP),Co T a.tmps l m→m.length=l.length:=by
    intro l
    induction l with
    |nil=>intro m hm;cases m with
     |nil=>rfl
     |cons _ _=>exact hm.elim
    |cons v l ih=>intro m hm;cases m with
     |nil=>exact hm.elim
     |cons r m=>simp [ih m hm.2]
   exact key _ _ hrs
  rw [b5,b2,this]
 by_cases hs:vals.toArray.size=1
 ·rw [dif_pos hs];have Db:vals.length=1:=by simpa using hs
  obtain ⟨v,rfl⟩:∃v,vals=[v]:=by
   cases vals with
   |nil=>cases Db
   |cons v l=>cases l with
    |nil=>exact ⟨v,rfl⟩
    |cons _ _=>simp at Db
  rw [Db] at hlen
  cases ho:(iR rs (cG ps) x2).1 with
  |nil=>rw [ho] at hlen;cases hlen
  |cons r l=>cases l with
   |cons _ _=>rw [ho] at hlen;simp at hlen
   |nil=>
    rw [ho] at hR;exact .inl ⟨r,rfl,hR⟩
 ·rw [dif_neg hs];refine .inr ⟨by rw [←hlen];simpa using hs,vals.toArray,rfl,by simpa using hR⟩
theorem Nv {P:Program} {T:oU} (hT:jZ P T) (hE:zZ P T) {S:mW} (hS:oM P S) {D:nb} {f:FuncId} {fn:Func} {code:Code} {n:Nat} {ps:List AP} {rs:List RP} {L:pM (aO (ew rs (cG ps)))} {okD:Nat→Array Oper→Prop}
  {t:aO (aG (ps.map some))→Option (aO (ew rs (cG ps)))}
  (hf:P.funcs[f]?=some fn) (hb:fn.body=some code) (hn:fn.ntmps=n) (YE:ps.length≤n) (z7:im n code=true) (LF:∀tm,Co T tm fn.results.toList rs)
  (hL:∀(w0:World) (mu:Mu) (y:aO (ew rs (cG ps))),pn ps mu→fO (pz P w0 mu n L y) code)
  (hD:∀(w0:World) (mu:Mu),uN (aO (ew rs (cG ps))) P T S D w0 mu n okD) (hD2:gj okD code)
  (Pz:∀(w0:World) (mu:Mu) (c:Cz) (a:Act) (w:World) x,Rel w0 mu c (start n ps x) a w→a.tmps.size=n→∃c2 lV,Rel w0 mu c2 lV a w∧gR T S D L code lV (EL rs ps)=t x):FnOk P f (o8 ps rs t):=by
 intro c w mu lc ga args A y hH hA hs ho;unfold o8 at hs
 cases hx:ib ps ga with
 |none=>rw [hx] at hs;cases hs
 |some x=>
  rw [hx] at hs;simp only [Option.some.injEq] at hs;subst hs;have GN:t x=some y:=ho;obtain ⟨GM,c',hm,iP,Hu,Rs,Ht,SF,hR⟩:=Nu hH hA hx YE;refine calls_of_wp hf hb ?_;rw [hn];have py:(args++Array.replicate (n-args.size) undef).size=n:=by simp;omega
  obtain ⟨c2,lV,hR2,ahY⟩:=Pz w GM c' _ w x hR py;refine Dk (qg hT hE hS w GM n) (hD w GM) code z7 (hL w GM y Hu) hD2 (fun {e} {c1} {G3} {a1} {w1} h1 h2 h3 => ?_) hR2 py (ahY.trans GN);obtain ⟨he,v,ve,c2,MP,hV,hX⟩:=Py (P:=P) hT hm iP h1 (LF a1.tmps) SF.symm (by rw [←Ht];simp) Rs h3;have Hm:a1.defers=[]∧∃v,(results fn a1.tmps).run P w1=.ok v w1∧(∃v',Ending.returned v=.returned v'∧∃c',FN w mu c' w1∧vh c' w1 (iR rs (cG ps) y).1 v'∧kC c' w1 lc 0 ga args.toList (pD ps (iR rs (cG ps) y).2)):=
   ⟨h1.plain,v,ve,v,rfl,c2,MP,hV,hX⟩
  rcases he with rfl | rfl<;>exact Hm
theorem ahZ {P:Program} {T:oU} (hT:jZ P T) (hE:zZ P T) {S:mW} (hS:oM P S) {D:nb} {f:FuncId} {fn:Func} {code:Code} {n:Nat} {ps:List AP} {rs:List RP} {L:pM (aO (ew rs (cG ps)))} {okD:Nat→Array Oper→Prop}
  {t:aO (aG (ps.map some))→Option (aO (ew rs (cG ps)))}
  (hf:P.funcs[f]?=some fn) (hb:fn.body=some code) (hn:fn.ntmps=n) (YE:ps.length≤n) (z7:im n code=true) (LF:∀tm,Co T tm fn.results.toList rs)
  (hL:∀(w0:World) (mu:Mu) (y:aO (ew rs (cG ps))),pn ps mu→fO (pz P w0 mu n L y) code)
  (hD:∀(w0:World) (mu:Mu),uN (aO (ew rs (cG ps))) P T S D w0 mu n okD) (hD2:gj okD code)
  (Pz:∀x,gR T S D L code (start n ps x) (EL rs ps)=t x):FnOk P f (o8 ps rs t):=
 Nv hT hE hS hf hb hn YE z7 LF hL hD hD2 (fun _ _ c _ _ x h _=>⟨c,_,h,Pz x⟩)
end Go.TM
namespace Go.TM
open Go Go.RowKit
def iter {X E:Type} (round:X→Option (Sum X E)):Nat→X→Option E
 |0,_=>none
 |n+1,x=>match round x with
  |some (.inl y)=>iter round n y
  |some (.inr e)=>some e
  |none=>none
theorem EM {X E:Type} {round:X→Option (Sum X E)}:(n:Nat)→{x:X}→{e:E}→iter round n x=some e→∀m,n≤m→iter round m x=some e
 |0,_,_,h,_,_=>by cases h
 |n+1,x,e,h,0,hm=>by omega
 |n+1,x,e,h,m+1,hm=>by
  unfold iter at h ⊢
  cases hr:round x with
  |none=>rw [hr] at h;cases h
  |some z=>cases z with
   |inl y=>rw [hr] at h;exact EM n h m (by omega)
   |inr e'=>rw [hr] at h;exact h
noncomputable def aJ {X E:Type} (round:X→Option (Sum X E)) (x:X):Option E:=
 have:=Classical.propDecidable (∃e n,iter round n x=some e)
 if h:∃e n,iter round n x=some e then some (Classical.choose h) else none
theorem Hv {X E:Type} {round:X→Option (Sum X E)} {x:X} {e:E} {n:Nat} (h:iter round n x=some e):aJ round x=some e:=by
 have hex:∃e n,iter round n x=some e:=⟨e,n,h⟩;unfold aJ;simp only;rw [dif_pos hex];obtain ⟨m,hm⟩:=Classical.choose_spec hex;have h1:=EM m hm (max m n) (Nat.le_max_left _ _);have h2:=EM n h (max m n) (Nat.le_max_right _ _);rw [h1] at h2;exact h2
theorem yp {X E:Type} {round:X→Option (Sum X E)} {x:X} {e:E} (h:aJ round x=some e):∃n,iter round n x=some e:=by
 unfold aJ at h;simp only at h
 split at h
 ·rename_i hex;injection h with h;rw [←h];exact Classical.choose_spec hex
 ·cases h
theorem jJ {X E:Type} (round:X→Option (Sum X E)) (x:X):aJ round x=match round x with | some (.inl y)=>aJ round y | some (.inr e)=>some e | none=>none:=by
 cases hr:round x with
 |none=>
  cases h:aJ round x with
  |none=>rfl
  |some e=>
   obtain ⟨n,hn⟩:=yp h
   cases n with
   |zero=>cases hn
   |succ n=>unfold iter at hn;rw [hr] at hn;cases hn
 |some z=>cases z with
  |inr e=>exact Hv (n:=1) (by unfold iter;rw [hr])
  |inl y=>
   simp only
   cases h:aJ round y with
   |some e=>
    obtain ⟨n,hn⟩:=yp h;exact Hv (n:=n+1) (by unfold iter;rw [hr];exact hn)
   |none=>
    cases h2:aJ round x with
    |none=>rfl
    |some e=>
     obtain ⟨n,hn⟩:=yp h2
     cases n with
     |zero=>cases hn
     |succ n=>
      unfold iter at hn;rw [hr] at hn;rw [Hv hn] at h
      cases h
def Dy (st:St) (hp:List (Option AP)):Option (aO (aG hp)):=
 (qh st 0 hp).bind fun q=>bif ye q.2.1&&apart q.2.1 q.2.2 then some q.1 else none
def pE (hp:List (Option AP)) (x:aO (aG hp)):St:=ri 0 (ed hp x)
def iq:List AP→List (Option AP)→Bool
 | [],_=>true
 |.val _ _::ps,_::hp=>iq ps hp
 |.io _ _::ps,o::hp=>(match o with | none=>true | some (.io _ _)=>true | _=>false)&&iq ps hp
 |.box _ _::ps,o::hp=>(match o with | none=>true | some (.box l _)=>l | some (.val _ _)=>true | _=>false)&&iq ps hp
 |.dZ _::_,_::_=>false
 |_::_,[]=>false
theorem yq:(ps:List AP)→(hp:List (Option AP))→iq ps hp=true→∀(i:Nat) (p:AP),ps[i]?=some p→∃o,hp[i]?=some o∧match p with
  |.val _ _=>True
  |.io _ _=>o=none∨∃r d,o=some (.io r d)
  |.box _ _=>o=none∨(∃a b,o=some (.val a b))∨∃b,o=some (.box true b)
  |.dZ _=>False
 | [],_,_=>by intro i p h;simp at h
 |p::ps,[],h=>by cases p<;>simp [iq] at h
 |p::ps,o::hp,h=>by
  intro i p' hi;have gS:iq ps hp=true:=by
   cases p with
   |val _ _=>exact h
   |io _=>unfold iq at h;rw [Bool.and_eq_true] at h;exact h.2
   |dZ _=>cases h
   |box _ _=>unfold iq at h;rw [Bool.and_eq_true] at h;exact h.2
  cases i with
  |succ i=>exact (yq ps hp gS i p' (by simpa using hi)).imp fun o ho=>⟨by simpa using ho.1,ho.2⟩
  |zero=>
   simp only [List.getElem?_cons_zero,Option.some.injEq] at hi;subst hi;refine ⟨o,rfl,?_⟩
   cases p with
   |val _ _=>trivial
   |dZ _=>cases h
   |io _=>
    unfold iq at h;rw [Bool.and_eq_true] at h
    cases o with
    |none=>exact .inl rfl
    |some q=>cases q with
     |io r d=>exact .inr ⟨r,d,rfl⟩
     |val _ _=>cases h.1
     |box _ _=>cases h.1
     |dZ _=>cases h.1
   |box _ _=>
    unfold iq at h;rw [Bool.and_eq_true] at h
    cases o with
    |none=>exact .inl rfl
    |some q=>cases q with
     |io r d=>cases h.1
     |dZ _=>cases h.1
     |val a b=>exact .inr (.inl ⟨a,b,rfl⟩)
     |box l b=>
      have:l=true:=h.1;subst this;exact .inr (.inr ⟨b,rfl⟩)
end Go.TM
namespace Go.TM
open Go Go.RowKit
theorem VN {st:St} {k:Nat} {rr:RT} {dd:Md} {t:RT} {V:V} {y:aO t} {x:aO (.cons (.sl rr) t)} {u:List Lb} {r:List (Nat×Nat)} (h:FU st k (.io rr dd) t V y=some (x,u,r)):∃A,cO st k 0 1=some A∧ez rr A.xs=some x.1:=by
 cases V with
 |agg _=>cases h
 |p8 _=>cases h
 |one cx=>cases cx with
  |ref a j g vw=>cases vw with
   |full=>
    have h:(bif Nat.beq a k&&(Nat.beq j 0&&Nat.beq g 1) then ((cO st a j g).bind fun A=>bif A.own&&A.md.is dd then (ez rr A.xs).map fun xs=>((xs,y),[Lb.sp a j],([]:List (Nat×Nat))) else none) else none)=some (x,u,r):=h;obtain ⟨h1,h2⟩:=bJ h;rw [Bool.and_eq_true,Bool.and_eq_true] at h1;have e1:=Nat.eq_of_beq_eq_true h1.1;have e2:=Nat.eq_of_beq_eq_true h1.2.1;have e3:=Nat.eq_of_beq_eq_true h1.2.2;subst e1 e2 e3;obtain ⟨A,hA,h3⟩:=Option.bind_eq_some_iff.1 h2;obtain ⟨_,h4⟩:=bJ h3;obtain ⟨xs,Z8,e⟩:=Option.map_eq_some_iff.1 h4;injection e with e _;exact ⟨A,hA,by rw [Z8,←e];rfl⟩
   |«from» _=>cases h
   |sub _ _=>cases h
  |_=>cases h
theorem SI {st:St} {k:Nat} {qs:List OP} {t:RT} {V:V} {y:aO t} {x:aO (oZ qs t)} {u:List Lb} {r:List (Nat×Nat)} (h:FU st k (.box true qs) t V y=some (x,u,r)):V=.one (.ptr k 1 0)∧∃cs,fV st k 1=some cs:=by
 cases V with
 |agg _=>cases h
 |p8 _=>cases h
 |one cx=>cases cx with
  |ptr b g off=>
   have h:(bif Nat.beq off 0&&(!true||(Nat.beq b k&&Nat.beq g 1)) then ((fV st b g).bind fun cs=>(nA st qs t cs y).map fun q=>(q.1,Lb.box b::dO q.2.1,q.2.2)) else none)=some (x,u,r):=h;obtain ⟨h1,h2⟩:=bJ h;simp only [Bool.not_true,Bool.false_or] at h1;rw [Bool.and_eq_true,Bool.and_eq_true] at h1;have e1:=Nat.eq_of_beq_eq_true h1.1;have e2:=Nat.eq_of_beq_eq_true h1.2.1;have e3:=Nat.eq_of_beq_eq_true h1.2.2;subst e1 e2 e3;obtain ⟨cs,Aq,_⟩:=Option.bind_eq_some_iff.1 h2;exact ⟨rfl,cs,Aq⟩
  |_=>cases h
theorem AF {w0:World} {mu:Mu} {c:Cz} {st:St} {a:Act} {w:World} (h:Rel w0 mu c st a w):(l:List (Option AP))→(k:Nat)→{x:aO (aG l)}→{u:List Lb}→{r:List (Nat×Nat)}→qh st k l=some (x,u,r)→∀(i:Nat),
  (∀rr dd,l[i]?=some (some (.io rr dd))→∃B A:nu,(ed l x)[i]?=some (some (.io B))∧cO st (k+i) 0 1=some A∧B.r.width=A.r.width∧B.xs.length=A.xs.length)∧
  (∀qs,l[i]?=some (some (.box true qs))→(∃cs,fV st (k+i) 1=some cs)∧dN st (k+i)=.one (.ptr (k+i) 1 0))∧
  (l[i]?=some none→(ed l x)[i]?=some none)∧(∀ag b,l[i]?=some (some (.val ag b))→∃os,(ed l x)[i]?=some (some (.val ag os)))
 | [],k,x,u,r,he=>by intro i;simp
 |none::l,k,x,u,r,he=>by
  intro i
  cases i with
  |zero=>exact ⟨fun _ _ h=>by simp at h,fun _ h=>by simp at h,fun _=>rfl,fun _ _ h=>by simp at h⟩
  |succ i=>
   have:=AF h l (k+1) he i;rw [show k+1+i=k+(i+1) by omega] at this;exact this
 |some p::l,k,x,u,r,he=>by
  intro i;unfold qh at he
  cases h1:qh st (k+1) l with
  |none=>simp [h1] at he
  |some q1=>
   obtain ⟨y,us,rs⟩:=q1;simp only [h1] at he
   cases h2:FU st k p (aG l) (dN st k) y with
   |none=>simp [h2] at he
   |some q2=>
    obtain ⟨x1,u1,r1⟩:=q2;simp only [h2] at he;injection he with he;injection he with e1 e2;subst e1
    cases i with
    |succ i=>
     have hh:=AF h l (k+1) h1 i;rw [show k+1+i=k+(i+1) by omega] at hh;have e:(p.av (aG l) x1).2=y:=(Dv h k (h.jj k) h2).1;have e2:(ed (some p::l) x1)[i+1]?=(ed l y)[i]?:=by
      show (ed l (p.av (aG l) x1).2)[i]?=_;rw [e]
     rw [e2];exact hh
    |zero=>
     have e2:(ed (some p::l) x1)[0]?=some (some (p.av (aG l) x1).1):=rfl;rw [e2];simp only [List.getElem?_cons_zero,Option.some.injEq,Nat.add_zero];refine ⟨fun rr dd e => ?_,fun qs e => ?_,(fun e=>by cases e),fun ag b e => ?_⟩
     ·subst e;obtain ⟨A,hA,hc⟩:=VN h2;obtain ⟨er,UO⟩:=dm hc;refine ⟨_,A,rfl,hA,by show rr.width=_;rw [←er],?_⟩;show List.length (x1.1:List (aO rr))=_;rw [UO]
      cases er
      rfl
     ·subst e;obtain ⟨q1,q2⟩:=SI h2;exact ⟨q2,q1⟩
     ·subst e;exact ⟨_,rfl⟩
end Go.TM
namespace Go.TM
open Go Go.RowKit
theorem EN {w0:World} {mu:Mu} {c:Cz} {st:St} {a:Act} {w:World} (h:Rel w0 mu c st a w) {ps:List AP} (hs:pn ps mu) {hp:List (Option AP)} (rq:iq ps hp=true) {x:aO (aG hp)} (hx:Dy st hp=some x):∃c',Rel w0 mu c' (pE hp x) a w:=by
 obtain ⟨q,hq,Pn⟩:=Option.bind_eq_some_iff.1 hx;obtain ⟨sQ,LK⟩:=bJ Pn;injection LK with LK;obtain ⟨x0,u,r⟩:=q;subst LK;rw [Bool.and_eq_true] at sQ;obtain ⟨FT,tb,Vx,ahM,hold⟩:=AE h hp 0 hq;have hat:=AF h hp 0 hq;have Z7:=sd _ FT sQ.1;have hap:∀p∈r,Lb.sp p.1 p.2∉u:=by
  intro p hp hm;have h1:=List.all_eq_true.1 sQ.2 p hp;have h2:=List.all_eq_true.1 h1 _ hm;rw [(Lb.Dn rfl).2 rfl] at h2
  cases h2
 have Ax:=Classical.propDecidable
 let ρ:Lb→Option Lb:=fun l=>match look tb l with | some y=>some y | none=>if l=.out then some .out else none
 have hρt:∀p∈tb,ρ p.1=some p.2:=by
  intro p hp;have:=Dp tb (by rw [Vx];exact Z7) hp;show (match look tb p.1 with | some y=>some y | none=>_)=_;rw [this]
 have Du:∀ {l y},look tb l=some y→l∈u:=by
  intro l y hl;have:=BD tb hl;rw [←Vx];exact List.mem_map.2 ⟨_,this,rfl⟩
 have hρr:∀p∈r,ρ (.sp p.1 p.2)=none:=by
  intro p hp;show (match look tb (.sp p.1 p.2) with | some y=>some y | none=>if Lb.sp p.1 p.2=.out then some Lb.out else none)=none
  cases hl:look tb (.sp p.1 p.2) with
  |some y=>exact absurd (Du hl) (hap p hp)
  |none=>simp
 have hρo:ρ .out=some .out:=by
  show (match look tb Lb.out with | some y=>some y | none=>if Lb.out=Lb.out then some Lb.out else none)=_
  cases hl:look tb Lb.out with
  |some y=>have:=FT _ (Du hl);cases this
  |none=>simp
 have EJ:FN w0 mu (c.map ρ) w:=by
  refine ⟨fun b l hb => ?_,fun b hb hn => ?_,h.kept,h.old⟩
  ·obtain ⟨k,hk,e⟩:=Cz.map_some hb;obtain ⟨g1,g2⟩:=h.owned b k hk;refine ⟨g1,g2.imp (fun e2 => ?_) id⟩;subst e2;rw [hρo] at e
   cases e;rfl
  ·cases hk:c.own b with
   |none=>exact h.free b hb hk
   |some k=>
    have e:ρ k=none:=(Cz.nX (ρ:=ρ) hk).symm.trans hn;rcases (h.owned b k hk).2 with g | g | g
    ·subst g;rw [hρo] at e;cases e
    ·exact absurd g (Nat.not_le_of_lt hb)
    ·exact .inl g
 refine Rel.Rp EJ h.plain (hold ρ hρt hρr) (fun p hpm => ?_);have YR:=h.hZ p hpm;have hlen:∀(i:Nat) (o:Option AP),hp[i]?=some o→i<(ed hp x0).length:=fun i o ho=>by rw [tZ];exact (List.getElem?_eq_some_iff.1 ho).1
 rcases hs p hpm with ⟨i,rr,W,n,l,rfl,dd,hpi⟩ | ⟨i,rh,b,qs,rfl,hpi⟩ | ⟨i,j,W,n,l,qs,rfl,hpi⟩
 ·obtain ⟨o,ho,Yh⟩:=yq ps hp rq i _ hpi;refine ⟨rfl,hlen i o ho,fun av Nk=>.inl ?_⟩;rcases Yh with rfl | ⟨r2,d2,rfl⟩
  ·rw [(hat i).2.2.1 ho] at Nk;cases Nk
  ·obtain ⟨B,A,e1,e2,e3,e4⟩:=(hat i).1 r2 d2 ho;rw [e1] at Nk;simp only [Option.some.injEq] at Nk;rw [Nat.zero_add] at e2;obtain ⟨f1,f2,f3⟩:=YR.2 A e2;exact ⟨B,Nk.symm,fun _=>⟨e3.trans f1,e4.trans f2,f3⟩⟩
 ·obtain ⟨o,ho,Yh⟩:=yq ps hp rq i _ hpi;refine ⟨rfl,hlen i o ho,fun os xA => ?_⟩;rcases Yh with rfl | ⟨a1,b1,rfl⟩ | ⟨b1,rfl⟩
  ·rw [(hat i).2.2.1 ho] at xA;cases xA
  ·obtain ⟨EA,e⟩:=(hat i).2.2.2 a1 b1 ho;rw [e] at xA;cases xA
  ·obtain ⟨⟨cs,Aq⟩,hv⟩:=(hat i).2.1 b1 ho;rw [Nat.zero_add] at Aq hv;have xD:=h.jj i;rw [hv] at xD;rw [xD.2.2 cs Aq,YR.2 cs Aq]
 ·obtain ⟨o,ho,Yh⟩:=yq ps hp rq i _ hpi;exact Yh.elim
def EO (id:Nat) (hp e0 e1:List (Option AP)):Ex→St→Option (Sum (aO (aG hp)) (Sum (aO (aG e0)) (aO (aG e1))))
 |.normal,st=>(Dy st hp).map .inl
 |.exit m,st=>bif Nat.beq m id then (Dy st e0).map fun y=>.inr (.inl y) else none
 |.ret,st=>(Dy st e1).map fun y=>.inr (.inr y)
noncomputable def EP {R:Type} (hp e0 e1:List (Option AP)) (round:aO (aG hp)→Option (Sum (aO (aG hp)) (Sum (aO (aG e0)) (aO (aG e1))))) (st:St) (k:Ex→St→Option R):Option R:=
 (Dy st hp).bind fun x=>(aJ round x).bind fun z=>match z with
  |.inl y=>k .normal (pE e0 y)
  |.inr y=>k .ret (pE e1 y)
theorem YS {R:Type} {P:Program} {T:oU} {S:mW} {D:nb} {n id:Nat} {w0:World} {mu:Mu} {ps:List AP} {hp e0 e1:List (Option AP)} {b:Code} {r:R} {L:pM R} {okD:Nat→Array Oper→Prop}
  {L':pM (Sum (aO (aG hp)) (Sum (aO (aG e0)) (aO (aG e1))))} {round:aO (aG hp)→Option (Sum (aO (aG hp)) (Sum (aO (aG e0)) (aO (aG e1))))}
  (I9:wG P T S w0 mu n) (hD:uN (Sum (aO (aG hp)) (Sum (aO (aG e0)) (aO (aG e1)))) P T S D w0 mu n okD) (hs:pn ps mu) (hf:(iq ps hp&&(iq ps e0&&iq ps e1))=true) (z7:im n b=true) (hD2:gj okD b)
  (Hn:∀z,fO (pz P w0 mu n L' z) b) (PA:∀x,gR T S D L' b (pE hp x) (EO id hp e0 e1)=round x) (hL:∀st k,L id b st k=EP hp e0 e1 round st k):pz P w0 mu n L r id b:=by
 intro k Q hk c st a w h hn hv;rw [Bool.and_eq_true,Bool.and_eq_true] at hf;rw [hL] at hv;unfold EP at hv;obtain ⟨x,hx,hv⟩:=Option.bind_eq_some_iff.1 hv;obtain ⟨z,hz,hv⟩:=Option.bind_eq_some_iff.1 hv;obtain ⟨c1,h1⟩:=EN h hs hf.1 hx;obtain ⟨m,hm⟩:=yp hz;refine wp_block ?_;refine wp_loop_ghost (fun m a w=>∃x c,Rel w0 mu c (pE hp x) a w∧a.tmps.size=n∧iter round m x=some z) m ⟨x,c1,h1,hn,hm⟩ ?_
 rintro m a w ⟨x,c,hR,hn,hi⟩
 cases m with
 |zero=>cases hi
 |succ m=>
  unfold iter at hi
  cases hr:round x with
  |none=>rw [hr] at hi;cases hi
  |some y=>
   rw [hr] at hi;refine Dk I9 hD b z7 (Hn y) hD2 (fun {e} {c2} {lV} {a2} {w2} g1 g2 g3 => ?_) hR hn ((PA x).trans hr)
   cases e with
   |normal=>
    obtain ⟨x2,q1,rfl⟩:=Option.map_eq_some_iff.1 g3;obtain ⟨c3,g4⟩:=EN g1 hs hf.1 q1;exact ⟨m,Nat.lt_succ_self m,x2,c3,g4,g2,hi⟩
   |exit m'=>
    obtain ⟨wo,g5⟩:=bJ g3;have wo:=Nat.eq_of_beq_eq_true wo;subst wo;obtain ⟨x2,q1,rfl⟩:=Option.map_eq_some_iff.1 g5;injection hi with hi;subst hi;obtain ⟨c3,g4⟩:=EN g1 hs hf.2.1 q1;show (if m'=m' then Q .normal a2 w2 else Q (.exit m') a2 w2);rw [if_pos rfl];exact hk g4 g2 hv
   |ret=>
    obtain ⟨x2,q1,rfl⟩:=Option.map_eq_some_iff.1 g3;injection hi with hi;subst hi;obtain ⟨c3,g4⟩:=EN g1 hs hf.2.2 q1;exact hk g4 g2 hv
end Go.TM
namespace Go.TM
open Go Go.RowKit
section
variable {P:Program} {ops:Array Oper} {Q:Exit→Act→World→Prop} {md:Region.Mode} {ds:List Nat}
def xc (md:Region.Mode) (ops:Array Oper) (i:Nat):Nat→Nat→Bool
 |0,_=>false
 |fuel+1,d=>match ops[d]? with
  |some o=>o.after.any fun e=>Region.binds md e&&(e.on==i||xc md ops i fuel e.on)
  |none=>false
def xd (md:Region.Mode) (ops:Array Oper) (bB:Array Bool):Prop:=
 ∀j oj,ops[j]?=some oj→bB.getD j false=true→∀e∈oj.after,Region.binds md e=true→bB.getD e.on false=true
theorem xd.set {bB:Array Bool} {i:Nat} (h:xd md ops bB) (hi:i∈Region.ready md ops bB):xd md ops (bB.setIfInBounds i true):=by
 obtain ⟨_,oi,Rt,lu⟩:=mem_ready.1 hi;intro j oj hj hl e he hb
 by_cases Yi:i=j
 ·subst Yi;have:oj=oi:=Option.some.inj (hj.symm.trans Rt);subst this;exact getD_set_true (lu e he hb)
 ·rw [getD_set_ne false Yi] at hl;exact getD_set_true (h j oj hj hl e he hb)
theorem xd.none (md:Region.Mode) (ops:Array Oper) (n:Nat):xd md ops (Array.replicate n false):=by
 intro j oj _ hl;simp [Array.getD_eq_getD_getElem?,Array.getElem?_replicate] at hl
 split at hl<;>simp at hl
theorem Dz {bB:Array Bool} {i:Nat} (hc:xd md ops bB):∀(fuel d:Nat),xc md ops i fuel d=true→bB.getD d false=true→bB.getD i false=true
 |0,_,h,_=>by simp [xc] at h
 |fuel+1,d,h,hl=>by
  unfold xc at h
  cases ho:ops[d]? with
  |none=>rw [ho] at h;simp at h
  |some o=>
   rw [ho] at h;obtain ⟨e,he,h1⟩:=Array.any_eq_true'.1 h;simp only [Bool.and_eq_true,Bool.or_eq_true,beq_iff_eq] at h1;have hle:=hc d o ho hl e he h1.1;rcases h1.2 with h2 | h2
   ·rw [←h2];exact hle
   ·exact Dz hc fuel e.on h2 hle
theorem Gw {bB:Array Bool} {i d fuel:Nat} (hc:xd md ops bB) (hr:xc md ops i fuel d=true) (MQ:bB.getD i true=false):d∉Region.ready md ops bB:=by
 intro hd;obtain ⟨_,o,ho,lu⟩:=mem_ready.1 hd;have hi:bB.getD i false=true:=by
  cases fuel with
  |zero=>simp [xc] at hr
  |succ n=>
   unfold xc at hr;rw [ho] at hr;obtain ⟨e,he,h1⟩:=Array.any_eq_true'.1 hr;simp only [Bool.and_eq_true,Bool.or_eq_true,beq_iff_eq] at h1;have hle:=lu e he h1.1;rcases h1.2 with h2 | h2
   ·rw [←h2];exact hle
   ·exact Dz hc n e.on h2 hle
 rcases Nat.lt_or_ge i bB.size with h' | h'
 ·simp [h'] at MQ hi;rw [MQ] at hi
  cases hi
 ·simp [Array.getElem?_eq_none h'] at MQ
def rB (P:Program) (md:Region.Mode) (ops:Array Oper) (Q:Exit→Act→World→Prop) (ds:List Nat):Nat→Array Bool→Act→World→Prop
 |0,bB,a,w=>Region.ready md ops bB=[]∧Q .normal a w
 |fuel+1,bB,a,w=>
  (Region.ready md ops bB=[]→Q .normal a w)∧
  ∀i∈Region.ready md ops bB,wpOp P ops Q i (fun a' w'=>(i∉ds→ln w w')∧rB P md ops Q ds fuel (bB.setIfInBounds i true) a' w') a w
theorem Ce:∀(fuel:Nat) (bB:Array Bool) (a:Act) (w:World),rB P md ops Q ds fuel bB a w→wpAny P md ops Q fuel bB a w
 |0,_,_,_,h=>h
 |fuel+1,_,_,_,h=>⟨h.1,fun i hi=>wpOp_mono (fun a' w' h'=>Ce fuel _ a' w' h'.2) (h.2 i hi)⟩
theorem LN {i:Nat} {oi:Oper} {v:Value} {w0:World} (hi:ops[i]?=some oi) (Nw:∀(j:Nat) (o:Oper) cs b,ops[j]?=some o→o.op≠.select cs b)
  (hQ:∀c a w,Q (.panic c) (a.put oi.dst v) w→Q (.panic c) a w) (n:Nat) :
  ∀(fuel:Nat) (bB:Array Bool) (a:Act) (w:World),
   (∀j oj,ops[j]?=some oj→j≠i→bB.getD j true=false→(∀e∈oj.after,Region.binds md e=true→e.on≠i)→oi.apart ops oj=true)→
   xd md ops bB→(∀d∈ds,bB.getD d true=false→xc md ops i n d=true)→
   i∈Region.ready md ops bB→YieldsIf P ops (ln w0) oi v a→ln w0 w→
   rB P md ops Q ds fuel (bB.setIfInBounds i true) (a.put oi.dst v) w→rB P md ops Q ds (fuel+1) bB a w:=by
 intro fuel
 induction fuel with
 |zero=>
  intro bB a w _ _ _ hr hy hS H;refine ⟨fun h=>(by rw [h] at hr;cases hr),fun j hj => ?_⟩
  by_cases LO:j=i
  ·subst LO;exact hy.wpOp hi hS ⟨fun _=>ln.refl w,H⟩
  ·have:=ready_mono hj LO;rw [H.1] at this
   cases this
 |succ fuel ih=>
  intro bB a w Hb hc hd hr hy hS H;refine ⟨fun h=>(by rw [h] at hr;cases hr),fun j hj => ?_⟩
  by_cases LO:j=i
  ·subst LO;exact hy.wpOp hi hS ⟨fun _=>ln.refl w,H⟩
  ·have h1:=H.2 j (ready_mono hj LO);obtain ⟨PB,oj,hoj,lu⟩:=mem_ready.1 hj;have SJ:=(mem_ready.1 hr).1;have abl:∀e∈oj.after,Region.binds md e=true→e.on≠i:=fun e he hb heq=>by
    have h1:=lu e he hb;rw [heq] at h1;rcases Nat.lt_or_ge i bB.size with h' | h'
    ·simp [h'] at SJ h1;rw [SJ] at h1;cases h1
    ·simp [Array.getElem?_eq_none h'] at h1
   have hjd:j∉ds:=fun hm=>Gw hc (hd j hm PB) SJ hj
   have h2:=wpOp_putIf hoj (Hb j oj hoj LO PB abl) (fun cs b=>Nw i oi cs b hi) (fun cs b=>Nw j oj cs b hoj) hQ hy h1;have PC:∀k ok,ops[k]?=some ok→k≠i→(bB.setIfInBounds j true).getD k true=false→
     (∀e∈ok.after,Region.binds md e=true→e.on≠i)→oi.apart ops ok=true:=fun k ok hk hki MQ Yj=>by
    refine Hb k ok hk hki ?_ Yj
    by_cases Nx:j=k
    ·subst Nx;exact PB
    ·rw [getD_set_ne true Nx] at MQ;exact MQ
   have UN:∀d∈ds,(bB.setIfInBounds j true).getD d true=false→xc md ops i n d=true:=fun d hm MQ=>by
    refine hd d hm ?_
    by_cases Nx:j=d
    ·subst Nx;exact PB
    ·rw [getD_set_ne true Nx] at MQ;exact MQ
   refine wpOp_mono (fun a' w' h3=>⟨h3.2.1,ih (bB.setIfInBounds j true) a' w' PC (hc.set hj) UN (ready_mono hr (Ne.symm LO)) h3.1 (hS.trans (h3.2.1 hjd)) ?_⟩) h2;rw [Array.setIfInBounds_comm _ _ LO];exact h3.2.2
theorem PD {i:Nat} {oi:Oper} {v:Value} (hi:ops[i]?=some oi) (Nw:∀(j:Nat) (o:Oper) cs b,ops[j]?=some o→o.op≠.select cs b)
  (hQ:∀c a w,Q (.panic c) (a.put oi.dst v) w→Q (.panic c) a w) :
  ∀(fuel:Nat) (bB:Array Bool) (a:Act) (w:World),
   (∀j oj,ops[j]?=some oj→j≠i→bB.getD j true=false→(∀e∈oj.after,Region.binds md e=true→e.on≠i)→oi.apart ops oj=true)→
   i∈Region.ready md ops bB→Yields P ops oi v a→
   rB P md ops Q ds fuel (bB.setIfInBounds i true) (a.put oi.dst v) w→rB P md ops Q ds (fuel+1) bB a w:=by
 intro fuel
 induction fuel with
 |zero=>
  intro bB a w _ hr hy H;refine ⟨fun h=>(by rw [h] at hr;cases hr),fun j hj => ?_⟩
  by_cases LO:j=i
  ·subst LO;exact (hy.yieldsIf (S:=fun _=>True)).wpOp hi trivial ⟨fun _=>ln.refl w,H⟩
  ·have:=ready_mono hj LO;rw [H.1] at this
   cases this
 |succ fuel ih=>
  intro bB a w Hb hr hy H;refine ⟨fun h=>(by rw [h] at hr;cases hr),fun j hj => ?_⟩
  by_cases LO:j=i
  ·subst LO;exact (hy.yieldsIf (S:=fun _=>True)).wpOp hi trivial ⟨fun _=>ln.refl w,H⟩
  ·have h1:=H.2 j (ready_mono hj LO);obtain ⟨PB,oj,hoj,lu⟩:=mem_ready.1 hj;have SJ:=(mem_ready.1 hr).1;have abl:∀e∈oj.after,Region.binds md e=true→e.on≠i:=fun e he hb heq=>by
    have h1:=lu e he hb;rw [heq] at h1;rcases Nat.lt_or_ge i bB.size with h' | h'
    ·simp [h'] at SJ h1;rw [SJ] at h1;cases h1
    ·simp [Array.getElem?_eq_none h'] at h1
   have h2:=wpOp_put hoj (Hb j oj hoj LO PB abl) (fun cs b=>Nw i oi cs b hi) (fun cs b=>Nw j oj cs b hoj) hQ hy h1;have PC:∀k ok,ops[k]?=some ok→k≠i→(bB.setIfInBounds j true).getD k true=false→
     (∀e∈ok.after,Region.binds md e=true→e.on≠i)→oi.apart ops ok=true:=fun k ok hk hki MQ Yj=>by
    refine Hb k ok hk hki ?_ Yj
    by_cases Nx:j=k
    ·subst Nx;exact PB
    ·rw [getD_set_ne true Nx] at MQ;exact MQ
   refine wpOp_mono (fun a' w' h3=>⟨h3.2.1,ih (bB.setIfInBounds j true) a' w' PC (ready_mono hr (Ne.symm LO)) h3.1 ?_⟩) h2;rw [Array.setIfInBounds_comm _ _ LO];exact h3.2.2
end
end Go.TM
namespace Go.TM
open Go Go.RowKit
def Cp (i:Nat):List Nat→Bool
 | []=>false
 |x::l=>Nat.beq x i||Cp i l
def upB (ops:List Oper) (ls:List Nat) (j:Nat):Bool:=
 match nth ops j with
 |some o => !Cp j ls&&o.after.toList.all fun e => !Region.binds .any e||Cp e.on ls
 |none=>false
def Ru (ops:Array Oper) (Ny:List Oper) (n:Nat) (ls:List Nat) (i:Nat):Bool:=
 match nth Ny i with
 |some oi=>(List.range n).all fun j=>Nat.beq j i||(Cp j ls||match nth Ny j with
  |some oj=>(oj.after.toList.any fun e=>Region.binds .any e&&Nat.beq e.on i)||oi.apart ops oj
  |none=>true)
 |none=>false
def LP (Ny:List Oper) (n:Nat) (ls:List Nat) (i:Nat):Bool:=(List.range n).all fun j=>Nat.beq j i || !upB Ny ls j
def Pl.ed:Pl→List Nat
 |.nil=>[]
 |.op i _ _=>[i]
 |.alt p q=>p.ed++q.ed
def VO (Ny:List Oper) (n:Nat) (ls hs:List Nat):Bool:=(List.range n).all fun j => !upB Ny ls j||Cp j hs
def nB (ops:Array Oper) (Ny:List Oper) (n:Nat) (ds:List Nat):Bool→List Nat→Pl→Bool
 |al,ls,.nil => !al&&(List.range n).all fun j => !upB Ny ls j
 |al,ls,.op i kd r=>upB Ny ls i&&((match kd with
   |.any => !al&&Ru ops Ny n ls i
   |.take => !al&&(Ru ops Ny n ls i&&ds.all fun d=>Cp d ls||xc .any ops i n d)
   |.one=>al||LP Ny n ls i
   |.last=>(al||LP Ny n ls i)&&Cp i ds)&&nB ops Ny n ds false (i::ls) r)
 |al,ls,.alt p q=>(al||VO Ny n ls (p.ed++q.ed))&&(nB ops Ny n ds true ls p&&nB ops Ny n ds true ls q)
def Ka:Pl→List Nat
 |.nil=>[]
 |.op i .last l=>i::Ka l
 |.op _ _ l=>Ka l
 |.alt p q=>Ka p++Ka q
def Pl.depth:Pl→Nat
 |.nil=>0
 |.op _ _ l=>l.depth+1
 |.alt p q=>Nat.max p.depth q.depth
def Hw (ops:Array Oper) (l:Pl):Bool:=
 Region.noSelect ops&&(Nat.ble l.depth ops.size&&nB ops ops.toList ops.size (Ka l) false [] l)
structure Yk (n:Nat) (ls:List Nat) (bB:Array Bool):Prop where
 size:bB.size=n
 gf:∀j,bB.getD j false=Cp j ls
 gt:∀j,bB.getD j true=(Cp j ls||decide (n≤j))
theorem Yk.push {n:Nat} {ls:List Nat} {bB:Array Bool} (h:Yk n ls bB) {i:Nat} (hi:i<n):Yk n (i::ls) (bB.setIfInBounds i true) where
 size:=by simp [h.size]
 gf:=fun j=>by
  unfold Cp
  by_cases e:i=j
  ·subst e;have:Nat.beq i i=true:=Nat.beq_refl i;rw [this];simp [h.size,hi]
  ·rw [getD_set_ne false e,h.gf j];have:Nat.beq i j=false:=by
    cases hq:Nat.beq i j
    ·rfl
    ·exact absurd (Nat.eq_of_beq_eq_true hq) e
   simp [this]
 gt:=fun j=>by
  unfold Cp
  by_cases e:i=j
  ·subst e;simp [h.size,hi]
  ·rw [getD_set_ne true e,h.gt j];have:Nat.beq i j=false:=by
    cases hq:Nat.beq i j
    ·rfl
    ·exact absurd (Nat.eq_of_beq_eq_true hq) e
   simp [this]
theorem Yk.none (n:Nat):Yk n [] (Array.replicate n false) where
 size:=by simp
 gf:=fun j=>by
  simp only [Array.getD_eq_getD_getElem?,Array.getElem?_replicate,Cp]
  split<;>rfl
 gt:=fun j=>by
  simp only [Array.getD_eq_getD_getElem?,Array.getElem?_replicate,Cp]
  split
  ·rename_i h;simp;omega
  ·rename_i h;simp;omega
theorem BH {ops:Array Oper} {ls:List Nat} {bB:Array Bool} (h:Yk ops.size ls bB) (j:Nat):upB ops.toList ls j=true↔j∈Region.ready .any ops bB:=by
 rw [mem_ready];unfold upB;rw [nv,Array.getElem?_toList,h.gt j]
 cases ho:ops[j]? with
 |none=>simp
 |some o=>
  have dM:j<ops.size:=(Array.getElem?_eq_some_iff.1 ho).1;have hn:decide (ops.size≤j)=false:=by simp;omega
  simp only [hn,Bool.or_false,Bool.and_eq_true,Bool.not_eq_true',List.all_eq_true,Array.mem_toList_iff,Bool.or_eq_true,Option.some.injEq,exists_eq_left',h.gf]
  constructor
  ·rintro ⟨h0,h1⟩
   exact ⟨h0,fun e he hb=>(h1 e he).resolve_left (by simp [hb])⟩
  ·rintro ⟨h0,h1⟩
   refine ⟨h0,fun e he => ?_⟩
   cases hb:Region.binds .any e
   ·exact .inl rfl
   ·exact .inr (h1 e he hb)
theorem SK {i j:Nat} (h:i≠j):Nat.beq i j=false:=by
 cases hq:Nat.beq i j
 ·rfl
 ·exact absurd (Nat.eq_of_beq_eq_true hq) h
theorem Hy {ops:Array Oper} {ls:List Nat} {bB:Array Bool} (h:Yk ops.size ls bB) {i:Nat} {oi:Oper} (hi:ops[i]?=some oi) (hf:Ru ops ops.toList ops.size ls i=true) :
  ∀j oj,ops[j]?=some oj→j≠i→bB.getD j true=false→(∀e∈oj.after,Region.binds .any e=true→e.on≠i)→oi.apart ops oj=true:=by
 intro j oj hj LO MQ Yj;unfold Ru at hf;rw [nv,Array.getElem?_toList,hi] at hf;have dM:j<ops.size:=(Array.getElem?_eq_some_iff.1 hj).1;have h1:=List.all_eq_true.1 hf j (List.mem_range.2 dM);rw [nv,Array.getElem?_toList,hj,SK LO,Bool.false_or] at h1;rw [h.gt j,Bool.or_eq_false_iff] at MQ;rw [MQ.1,Bool.false_or,Bool.or_eq_true] at h1;rcases h1 with h1 | h1
 ·obtain ⟨e,he,h2⟩:=List.any_eq_true.1 h1;rw [Bool.and_eq_true] at h2;exact absurd (Nat.eq_of_beq_eq_true h2.2) (Yj e (Array.mem_toList_iff.1 he) h2.1)
 ·exact h1
theorem Nz {ops:Array Oper} {ls:List Nat} {bB:Array Bool} (h:Yk ops.size ls bB) {i:Nat} (hf:LP ops.toList ops.size ls i=true):∀j∈Region.ready .any ops bB,j=i:=by
 intro j hj;have dM:j<ops.size:=by
  obtain ⟨_,o,ho,_⟩:=mem_ready.1 hj;exact (Array.getElem?_eq_some_iff.1 ho).1
 have h1:=List.all_eq_true.1 hf j (List.mem_range.2 dM);rw [(BH h j).2 hj,Bool.not_true,Bool.or_false] at h1;exact Nat.eq_of_beq_eq_true h1
theorem DA {P:Program} {T:oU} {S:mW} {w0:World} {mu:Mu} {c:Cz} {st bQ:St} {a:Act} {w:World} {ops:Array Oper} {o:Oper} {C:World→Prop} (h:Rel w0 mu c st a w)
  (hd:∀k,o.dst=some k→k<a.tmps.size) (hv:(EC T S ops.toList st o).val=some bQ)
  (base:(Q6 T S st o).val=some bQ→∃v,(∀w':World,C w'→(execOp a.eval o).run P w'=.ok (.value v) w')∧Rel w0 mu c bQ (a.put o.dst v) w) :
  ∃v,YieldsIf P ops C o v a∧Rel w0 mu c bQ (a.put o.dst v) w:=by
 unfold EC at hv;unfold YieldsIf Region.wanted
 cases hg:o.guard with
 |none=>
  simp only [hg] at hv ⊢;obtain ⟨v,h1,h2⟩:=base hv;exact ⟨v,.inl ⟨trivial,h1⟩,h2⟩
 |some p=>
  obtain ⟨j,want⟩:=p;simp only [hg] at hv ⊢
  cases hj:(nth ops.toList j).bind (·.dst) with
  |none=>simp [hj,N.val] at hv
  |some d=>
   simp only [hj] at hv
   split at hv
   ·rename_i b Vo;obtain ⟨h1,h2⟩:=Bz h Vo;rw [Hd (ops:=ops) hj h1 h2];have yes:(Q6 T S (TM.bR st (some d) (.one (.bool b))) o).val=some bQ→∃v,(∀w':World,C w'→(execOp a.eval o).run P w'=.ok (.value v) w')∧Rel w0 mu c bQ (a.put o.dst v) w:=fun e=>base (by rwa [BA st d Vo] at e)
    have no:(N.done (TM.bR (TM.bR st (some d) (.one (.bool b))) o.dst (.p8 []))).val=some bQ→Rel w0 mu c bQ (a.put o.dst undef) w:=by
     intro e;simp only [N.val,Option.some.injEq] at e;subst e;rw [BA st d Vo];exact h.bR (BB _ _ _) hd
    rcases Ay hv with ⟨hb,G6⟩ | ⟨hb,G6⟩
    ·subst hb
     cases want
     ·exact ⟨undef,.inr ⟨rfl,rfl⟩,no G6⟩
     ·obtain ⟨v,h3,h4⟩:=yes G6;exact ⟨v,.inl ⟨rfl,h3⟩,h4⟩
    ·subst hb
     cases want
     ·obtain ⟨v,h3,h4⟩:=yes G6;exact ⟨v,.inl ⟨rfl,h3⟩,h4⟩
     ·exact ⟨undef,.inr ⟨rfl,rfl⟩,no G6⟩
   ·rename_i Vo;simp only [N.val,Option.some.injEq] at hv;subst hv;rw [Cb (ops:=ops) hj (He h Vo)];exact ⟨undef,.inr ⟨by cases want<;>rfl,rfl⟩,h.bR (BB _ _ _) hd⟩
   ·simp [N.val] at hv
theorem YT {P:Program} {T:oU} (hT:jZ P T) {S:mW} {w0:World} {mu:Mu} {c:Cz} {st:St} {a:Act} {w:World} (h:Rel w0 mu c st a w) {o:Oper} (hk:kindOk S st o .take=true)
  {bQ:St} (hv:(Q6 T S st o).val=some bQ) (hd:∀k,o.dst=some k→k<a.tmps.size):∃v,(∀w':World,ln w w'→(execOp a.eval o).run P w'=.ok (.value v) w')∧Rel w0 mu c bQ (a.put o.dst v) w:=by
 unfold kindOk at hk;unfold Q6 at hv
 cases ho:o.op with
 |load t x=>
  simp only [ho] at hv;obtain ⟨v,h1,h2⟩:=MT hT h (cU h x) hv hd;exact ⟨v,fun w' hw=>by simp only [execOp,ho];exact vg (h1 w' hw),h2⟩
 |_=>simp [ho] at hk
theorem DB {i:Nat}:(l:List Nat)→Cp i l=true→i∈l
 | [],h=>by cases h
 |x::l,h=>by
  unfold Cp at h;rw [Bool.or_eq_true] at h;rcases h with h | h
  ·rw [Nat.eq_of_beq_eq_true h];exact List.mem_cons_self
  ·exact List.mem_cons_of_mem _ (DB l h)
theorem AG {R:Type} {P:Program} {T:oU} (hT:jZ P T) (hE:zZ P T) {S:mW} {w0:World} {mu:Mu} {n:Nat} (I9:wG P T S w0 mu n) {ops:Array Oper} {ds:List Nat} {Q:Exit→Act→World→Prop} (hQ:∀c a w,¬Q (.panic c) a w)
  {k:St→Option R} {r:R} (hk:Next w0 mu n r k (Q .normal)) (hns:Region.noSelect ops=true) (z7:Ck n ops.toList=true) :
  (l:Pl)→(ls:List Nat)→(bB:Array Bool)→(fuel:Nat)→{c:Cz}→{st:St}→{a:Act}→{w:World}→Yk ops.size ls bB→xd .any ops bB→l.depth≤fuel→
   Rel w0 mu c st a w→a.tmps.size=n→w5 T S ops.toList l st k=some r→
   (nB ops ops.toList ops.size ds false ls l=true→rB P .any ops Q ds fuel bB a w)∧
   (nB ops ops.toList ops.size ds true ls l=true→∃NA,fuel=NA+1∧∀i∈l.ed,i∈Region.ready .any ops bB∧wpOp P ops Q i (fun a' w'=>(i∉ds→ln w w')∧rB P .any ops Q ds NA (bB.setIfInBounds i true) a' w') a w)
 |.nil,ls,bB,fuel,c,st,a,w,hl,_,_,h,hn,hv=>by
  refine ⟨fun hb => ?_,fun hb=>by simp [nB] at hb⟩;unfold nB at hb;rw [Bool.and_eq_true] at hb;have hr:Region.ready .any ops bB=[]:=by
   refine List.eq_nil_iff_forall_not_mem.2 fun j hj => ?_
   obtain ⟨_,o,ho,_⟩:=mem_ready.1 hj;have dM:j<ops.size:=(Array.getElem?_eq_some_iff.1 ho).1;have h1:=List.all_eq_true.1 hb.2 j (List.mem_range.2 dM);rw [(BH hl j).2 hj] at h1
   cases h1
  have hq:=hk h hn hv
  cases fuel with
  |zero=>exact ⟨hr,hq⟩
  |succ fuel=>exact ⟨fun _=>hq,fun i hi=>by rw [hr] at hi;cases hi⟩
 |.op i kd l,ls,bB,0,c,st,a,w,hl,_,hf,h,hn,hv=>absurd hf (by simp [Pl.depth])
 |.op i kd l,ls,bB,fuel+1,c,st,a,w,hl,hs,hf,h,hn,hv=>by
  have hf:l.depth≤fuel:=Nat.le_of_succ_le_succ hf;have first:∀al,nB ops ops.toList ops.size ds al ls (.op i kd l)=true→upB ops.toList ls i=true∧nB ops ops.toList ops.size ds false (i::ls) l=true:=by
   intro al hb;unfold nB at hb;rw [Bool.and_eq_true,Bool.and_eq_true] at hb;exact ⟨hb.1,hb.2.2⟩
  have step:upB ops.toList ls i=true→nB ops ops.toList ops.size ds false (i::ls) l=true→(kd=.one∨i∈ds)→wpOp P ops Q i (fun a' w'=>(i∉ds→ln w w')∧rB P .any ops Q ds fuel (bB.setIfInBounds i true) a' w') a w:=by
   intro hup gS hds;have hir:=(BH hl i).1 hup;obtain ⟨_,o,Rt,_⟩:=mem_ready.1 hir;have dM:i<ops.size:=(Array.getElem?_eq_some_iff.1 Rt).1;unfold w5 at hv;rw [nv,Array.getElem?_toList,Rt] at hv;obtain ⟨Yl,hv⟩:=bJ hv;rw [N.fold_eq] at hv;obtain ⟨bQ,h1,h2⟩:=Option.bind_eq_some_iff.1 hv;have UN:∀k,o.dst=some k→k<a.tmps.size:=fun k hk=>by rw [hn];exact EF z7 (by rw [Array.mem_toList_iff];exact Array.mem_of_getElem? Rt) k hk
   have next:∀ {c':Cz} {a':Act} {w':World},Rel w0 mu c' bQ a' w'→a'.tmps.size=n→rB P .any ops Q ds fuel (bB.setIfInBounds i true) a' w':=fun hr YM=>
    (AG hT hE I9 hQ hk hns z7 l (i::ls) _ fuel (hl.push dM) (hs.set hir) hf hr YM h2).1 gS
   have hko:kd=.one→kindOk S st o .one=true:=fun e=>by rw [e] at Yl;exact Yl
   unfold wpOp;rw [Rt];rcases M9 I9 h hn (fun k hk=>by rw [←hn];exact UN k hk) h1 with ⟨hw,x9⟩ | ⟨hw,Dt⟩
   ·simp only [hw,if_true];refine .inl (Oper.wp_mono (fun a' w' ⟨⟨c',hr,py⟩,YK⟩=>⟨fun Z7 => ?_,next hr (py.trans hn)⟩) (x9 Q));rcases hds with e | e
    ·exact YK (hko e)
    ·exact absurd e Z7
   ·simp only [hw,Bool.false_eq_true,if_false];exact ⟨fun _=>ln.refl w,next Dt ((vf _ _ _).trans hn)⟩
  refine ⟨fun hb => ?_,fun hb=>⟨fuel,rfl,fun j hj => ?_⟩⟩
  ·obtain ⟨hup,gS⟩:=first _ hb;have hir:=(BH hl i).1 hup;unfold nB at hb;rw [Bool.and_eq_true,Bool.and_eq_true] at hb;obtain ⟨_,Rv,_⟩:=hb;have alone:LP ops.toList ops.size ls i=true→(kd=.one∨i∈ds)→rB P .any ops Q ds (fuel+1) bB a w:=by
    intro hal hds;refine ⟨fun e=>absurd hir (by rw [e];exact List.not_mem_nil),fun j hj => ?_⟩;have:=Nz hl hal j hj;subst this;exact step hup gS hds
   obtain ⟨_,o,Rt,_⟩:=mem_ready.1 hir;have dM:i<ops.size:=(Array.getElem?_eq_some_iff.1 Rt).1;unfold w5 at hv;rw [nv,Array.getElem?_toList,Rt] at hv;obtain ⟨Yl,hv⟩:=bJ hv;rw [N.fold_eq] at hv;obtain ⟨bQ,h1,h2⟩:=Option.bind_eq_some_iff.1 hv;have UN:∀k,o.dst=some k→k<a.tmps.size:=fun k hk=>by rw [hn];exact EF z7 (by rw [Array.mem_toList_iff];exact Array.mem_of_getElem? Rt) k hk
   have next:∀ {c':Cz} {a':Act} {w':World},Rel w0 mu c' bQ a' w'→a'.tmps.size=n→rB P .any ops Q ds fuel (bB.setIfInBounds i true) a' w':=fun hr YM=>
    (AG hT hE I9 hQ hk hns z7 l (i::ls) _ fuel (hl.push dM) (hs.set hir) hf hr YM h2).1 gS
   have Nw:=Region.noSelect_spec hns
   cases kd with
   |one=>exact alone (by simpa using Rv) (.inl rfl)
   |last=>
    simp only [Bool.false_or,Bool.and_eq_true] at Rv;exact alone Rv.1 (.inr (DB ds Rv.2))
   |any=>
    simp only [Bool.not_false,Bool.true_and] at Rv;obtain ⟨v,hy,Dt⟩:=DA (P:=P) (ops:=ops) (C:=fun _=>True) h UN h1 (fun e=>by
     obtain ⟨v,g1,g2⟩:=Rg hT hE h Yl e UN;exact ⟨v,fun w' _=>g1 w',g2⟩)
    refine PD Rt Nw (fun c a w hq=>absurd hq (hQ _ _ _)) fuel bB a w (Hy hl Rt Rv) hir ?_ (next Dt ((vf _ _ _).trans hn));rcases hy with ⟨g1,g2⟩ | g
    ·exact .inl ⟨g1,fun w'=>g2 w' trivial⟩
    ·exact .inr g
   |take=>
    simp only [Bool.not_false,Bool.true_and,Bool.and_eq_true] at Rv;obtain ⟨v,hy,Dt⟩:=DA (P:=P) (ops:=ops) (C:=ln w) h UN h1 (fun e=>YT hT h Yl e UN);refine LN Rt Nw (fun c a w hq=>absurd hq (hQ _ _ _)) ops.size fuel bB a w (Hy hl Rt Rv.1) hs (fun d hm MQ => ?_) hir hy (ln.refl w) (next Dt ((vf _ _ _).trans hn));have h3:=List.all_eq_true.1 Rv.2 d hm;rw [hl.gt d,Bool.or_eq_false_iff] at MQ;rw [MQ.1,Bool.false_or] at h3;exact h3
  ·have hj:j=i:=by simpa [Pl.ed] using hj
   subst hj;obtain ⟨hup,gS⟩:=first _ hb;refine ⟨(BH hl j).1 hup,step hup gS ?_⟩;unfold nB at hb;rw [Bool.and_eq_true,Bool.and_eq_true] at hb;obtain ⟨_,Rv,_⟩:=hb
   cases kd with
   |one=>exact .inl rfl
   |last=>
    simp only [Bool.true_or,Bool.true_and] at Rv;exact .inr (DB ds Rv)
   |any=>simp at Rv
   |take=>simp at Rv
 |.alt p q,ls,bB,fuel,c,st,a,w,hl,hs,hf,h,hn,hv=>by
  have hv:both (w5 T S ops.toList p st k) (w5 T S ops.toList q st k)=some r:=hv;obtain ⟨G6,O8⟩:=Sb hv;have hf:Nat.max p.depth q.depth≤fuel:=hf;have hp:=(AG (ds:=ds) hT hE I9 hQ hk hns z7 p ls bB fuel hl hs (Nat.le_trans (Nat.le_max_left _ _) hf) h hn G6).2;have hq:=(AG (ds:=ds) hT hE I9 hQ hk hns z7 q ls bB fuel hl hs (Nat.le_trans (Nat.le_max_right _ _) hf) h hn O8).2;have ed:nB ops ops.toList ops.size ds true ls p=true→nB ops ops.toList ops.size ds true ls q=true→∃NA,fuel=NA+1∧∀i∈p.ed++q.ed,i∈Region.ready .any ops bB∧wpOp P ops Q i (fun a' w'=>(i∉ds→ln w w')∧rB P .any ops Q ds NA (bB.setIfInBounds i true) a' w') a w:=by
   intro h1 h2;obtain ⟨f1,e1,g1⟩:=hp h1;obtain ⟨f2,e2,g2⟩:=hq h2;have:f1=f2:=by omega
   subst this;exact ⟨f1,e1,fun i hi=>(List.mem_append.1 hi).elim (g1 i) (g2 i)⟩
  have parts:∀al,nB ops ops.toList ops.size ds al ls (.alt p q)=true→(al||VO ops.toList ops.size ls (p.ed++q.ed))=true∧nB ops ops.toList ops.size ds true ls p=true∧nB ops ops.toList ops.size ds true ls q=true:=by
   intro al hb;unfold nB at hb;rw [Bool.and_eq_true,Bool.and_eq_true] at hb;exact hb
  refine ⟨fun hb => ?_,fun hb => ?_⟩
  ·obtain ⟨hc,h1,h2⟩:=parts _ hb;obtain ⟨f,rfl,g⟩:=ed h1 h2;have amS:∀j∈Region.ready .any ops bB,j∈p.ed++q.ed:=by
    intro j hj;have dM:j<ops.size:=by
     obtain ⟨_,o,ho,_⟩:=mem_ready.1 hj;exact (Array.getElem?_eq_some_iff.1 ho).1
    rw [Bool.false_or] at hc;have h1:=List.all_eq_true.1 hc j (List.mem_range.2 dM);rw [(BH hl j).2 hj,Bool.not_true,Bool.false_or] at h1;exact DB _ h1
   refine ⟨fun e => ?_,fun j hj=>(g j (amS j hj)).2⟩;have lO:∃i,i∈p.ed++q.ed:=by
    have key:∀(l:Pl),nB ops ops.toList ops.size ds true ls l=true→∃i,i∈l.ed:=by
     intro l
     induction l with
     |nil=>intro h;simp [nB] at h
     |op i _ _ _=>intro _;exact ⟨i,by simp [Pl.ed]⟩
     |alt p q ih _=>
      intro h;unfold nB at h;rw [Bool.and_eq_true,Bool.and_eq_true] at h;obtain ⟨i,hi⟩:=ih h.2.1;exact ⟨i,List.mem_append_left _ hi⟩
    obtain ⟨i,hi⟩:=key p h1;exact ⟨i,List.mem_append_left _ hi⟩
   obtain ⟨i,hi⟩:=lO;have:=(g i hi).1;rw [e] at this
   cases this
  ·obtain ⟨_,h1,h2⟩:=parts _ hb;exact ed h1 h2
theorem uQ {R:Type} {P:Program} {T:oU} (hT:jZ P T) (hE:zZ P T) (hm:P.follows .mixedOrders=true) {S:mW} {D:nb} {w0:World} {mu:Mu} {n:Nat} (I9:wG P T S w0 mu n) :
  uN R P T S D w0 mu n (fun id ops=>Hw ops (D id)=true):=by
 intro id ops Q k r iP z7 hk c st a w h hn hv;unfold Hw at iP;rw [Bool.and_eq_true,Bool.and_eq_true] at iP;obtain ⟨hns,hlen,hb⟩:=iP
 let Q':Exit→Act→World→Prop:=fun e a w=>e=.normal∧Q .normal a w
 have key:(Code.region id ops true).wp P Q' a w:=by
  refine wp_region_any hm (Ce _ _ _ _ ((AG hT hE I9 (ds:=Ka (D id)) (Q:=Q') (fun c a w hq=>by cases hq.1) (fun {c st a w} g1 g2 g3=>⟨rfl,hk g1 g2 g3⟩) hns z7 (D id) [] _ ops.size (Yk.none _) (xd.none _ _ _) (Nat.le_of_ble_eq_true hlen) h.drew hn hv).1 hb))
 exact Code.wp_mono (fun e a w hq=>by obtain ⟨rfl,hq⟩:=hq;exact hq) key
end Go.TM
namespace Go.TM
open Go Go.RowKit
abbrev YU:RT→Type→Type
 |.nil,R=>R
 |.cons t r,R=>den t→YU r R
abbrev nr {R:Type}:(r:RT)→YU r R→aO r→R
 |.nil,f,_=>f
 |.cons _ r,f,x=>nr r (f x.1) x.2
def ik:nb:=fun _=>.nil
def noL {R:Type}:pM R:=fun _ _ _ _=>none
def VP (f:Func):Code:=match f.body with | some c=>c | none=>.skip
def nn:Nat→List (Option AP)
 |0=>[]
 |n+1=>none::nn n
structure Rec where
 size:Nat
 agg:Bool
 du:List (Nat×Nat)
 row:Option RT
 elem:Option (RT×Nat)
 kind:Option Ty
 mX:List Nat
 eq:Bool
 dp:Bool:=false
 cap:Bool:=false
inductive Tr where
 |leaf
 |node (l:Tr) (k:Nat) (v:Rec) (r:Tr)
def Tr.flat:Tr→Tr
 |.leaf=>.leaf
 |.node l k v r=>.node l.flat k { v with dp:=false } r.flat
def Tr.Ao (l:List Nat):Tr→Tr
 |.leaf=>.leaf
 |.node a k v b=>.node (a.Ao l) k { v with cap:=l.any (Nat.beq k) } (b.Ao l)
def Tr.find:Tr→Nat→Option Rec
 |.leaf,_=>none
 |.node l k v r,t=>bif Nat.beq t k then some v else bif Nat.blt t k then l.find t else r.find t
def Tr.all (p:Nat→Rec→Bool):Tr→Bool
 |.leaf=>true
 |.node l k v r=>l.all p&&(p k v&&r.all p)
theorem Tr.DC {p:Nat→Rec→Bool}:(tr:Tr)→tr.all p=true→∀ {t v},tr.find t=some v→p t v=true
 |.leaf,_,_,_,h=>by cases h
 |.node l k v r,h,t,u,hf=>by
  unfold Tr.all at h;rw [Bool.and_eq_true,Bool.and_eq_true] at h;unfold Tr.find at hf
  cases hb:Nat.beq t k with
  |true=>
   rw [hb] at hf;injection hf with hf;subst hf;rw [Nat.eq_of_beq_eq_true hb];exact h.2.1
  |false=>
   rw [hb] at hf
   cases hl:Nat.blt t k with
   |true=>rw [hl] at hf;exact Tr.DC l h.1 hf
   |false=>rw [hl] at hf;exact Tr.DC r h.2.2 hf
def mv (tr:Tr):oU where
 cells t:=(tr.find t).map (·.size)
 agg t:=match tr.find t with | some r=>r.agg | none=>false
 off t f:=match tr.find t with | some r=>(nth r.du f).map (·.1) | none=>none
 fsz t f:=match tr.find t with | some r=>(nth r.du f).map (·.2) | none=>none
 row t:=match tr.find t with | some r=>r.row | none=>none
 elem t:=match tr.find t with | some r=>r.elem | none=>none
 p8 _:=none
 kind t:=match tr.find t with | some r=>r.kind | none=>none
 one t f:=match tr.find t with | some r=>r.mX.any (Nat.beq f) | none=>false
 eq t:=match tr.find t with | some r=>r.eq | none=>false
 dp t:=match tr.find t with | some r=>r.dp | none=>false
 cap t:=match tr.find t with | some r=>r.cap | none=>false
def pQ:RT→List Value→Bool
 |.nil,[]=>true
 |.cons (.int k) r,.int l n::vs=>decide (k=l)&&decide (n=0)&&pQ r vs
 |.cons .bool r,.bool b::vs => !b&&pQ r vs
 |.cons .str r,.string s::vs=>(match s.data.toList with | []=>true | _=>false)&&pQ r vs
 |.cons (.sl _) r,.slice none 0 0::vs=>pQ r vs
 |_,_=>false
theorem xH:(r:RT)→(vs:List Value)→pQ r vs=true→ll r vs
 |.nil,[],_=>rfl
 |.nil,_::_,h=>by simp [pQ] at h
 |.cons t r,[],h=>by cases t<;>simp [pQ] at h
 |.cons t r,v::vs,h=>by
  cases t with
  |int k=>
   cases v<;>try (simp [pQ] at h;done)
   rename_i l n;simp only [pQ,Bool.and_eq_true,decide_eq_true_eq] at h;obtain ⟨⟨rfl,rfl⟩,h⟩:=h;exact ⟨vs,rfl,xH r vs h⟩
  |bool=>
   cases v<;>try (simp [pQ] at h;done)
   rename_i b;simp only [pQ,Bool.and_eq_true,Bool.not_eq_true'] at h;obtain ⟨rfl,h⟩:=h;exact ⟨vs,rfl,xH r vs h⟩
  |str=>
   cases v<;>try (simp [pQ] at h;done)
   rename_i s;simp only [pQ,Bool.and_eq_true] at h;obtain ⟨h1,h⟩:=h;refine ⟨vs,?_,xH r vs h⟩;obtain ⟨d⟩:=s;obtain ⟨d⟩:=d
   cases d with
   |nil=>rfl
   |cons _ _=>simp at h1
  |sl q=>
   cases v<;>try (simp [pQ] at h;done)
   rename_i a n m
   cases a with
   |some _=>simp [pQ] at h
   |none=>cases n with
    |succ _=>simp [pQ] at h
    |zero=>cases m with
     |succ _=>simp [pQ] at h
     |zero=>
      have h:pQ r vs=true:=h;exact ⟨vs,rfl,xH r vs h⟩
def wI {α:Type} (o:Option α) (p:α→Bool):Bool:=match o with | some x=>p x | none=>false
theorem iC {α:Type} {o:Option α} {p:α→Bool} (h:wI o p=true):∃x,o=some x∧p x=true:=by
 cases o with
 |none=>cases h
 |some x=>exact ⟨x,rfl,h⟩
def yr (P:Program):List Field→List (Nat×Nat)→Bool
 | [],[]=>true
 |f::fs,(o,s)::ps=>Nat.beq f.offset o&&(wI (P.info? f.type) (fun i=>Nat.beq i.size s)&&(Nat.blt 0 s&&yr P fs ps))
 |_,_=>false
theorem Cq {P:Program}:(fs:List Field)→(ps:List (Nat×Nat))→yr P fs ps=true→
  fs.mapM (fun f=>(P.info? f.type).map fun i=>(f.offset,i.size))=some ps∧∀(k:Nat) p,ps[k]?=some p→∃JJ n,fs[k]?=some JJ∧JJ.offset=p.1∧(P.info? JJ.type).map (·.size)=some (n+1)
 | [],[],_=>⟨rfl,fun k p h=>by simp at h⟩
 | [],_::_,h=>by simp [yr] at h
 |_::_,[],h=>by simp [yr] at h
 |f::fs,(o,s)::ps,h=>by
  unfold yr at h;rw [Bool.and_eq_true,Bool.and_eq_true,Bool.and_eq_true] at h;obtain ⟨h1,h2,h3,h4⟩:=h;obtain ⟨i,hi,his⟩:=iC h2;have h1:=Nat.eq_of_beq_eq_true h1;have his:=Nat.eq_of_beq_eq_true his;obtain ⟨g1,g2⟩:=Cq fs ps h4;refine ⟨by simp [List.mapM_cons,hi,g1,h1,his],fun k p hp => ?_⟩
  cases k with
  |zero=>
   simp at hp;subst hp;have h3:0<s:=Nat.le_of_ble_eq_true h3;exact ⟨f,s-1,rfl,h1,by rw [hi];simp [his];omega⟩
  |succ k=>exact g2 k p (by simpa using hp)
def NB (P:Program) (t:Nat):Ty→Bool
 |.int k=>wI (P.underlying t) fun | .int l=>decide (k=l) | _=>false
 |.bool=>wI (P.underlying t) fun | .bool=>true | _=>false
 |.str=>wI (P.underlying t) fun | .string=>true | _=>false
 |.sl _=>false
def LQ (P:Program) (t:Nat) (r:Rec):Bool:=
 wI (P.info? t) (fun i=>Nat.beq i.size r.size&&(match r.row with | some q=>wI i.zero (fun z=>pQ q z.cells.toList) | none=>true)) &&
 (wI (P.underlying t) (fun d=>(d.isRow==r.agg)&&(bif r.agg then true else Nat.beq r.size 1)&&(match d with | .struct fs=>bif r.agg then yr P fs.toList r.du else Nat.beq r.du.length 0 | _ => !r.agg&&Nat.beq r.du.length 0)
   && (match r.elem with | some (q,b)=>(match d with | .slice e=>wI (P.info? e) (fun i=>Nat.beq i.size q.width&&(Nat.blt 0 q.width&&(Nat.beq i.bytes b&&(Nat.blt 0 b&&wI i.zero (fun z=>pQ q z.cells.toList))))) | _=>false) | none=>true)) &&
 ((match r.kind with | some k=>NB P t k | none=>true)&&(match r.elem with | some (.cons (.int .u8) .nil,_)=>wI (P.underlying t) (fun d=>match d with | .slice e=>NB P e (.int .u8) | _=>false) | _=>true)))
def aaf (P:Program) (t:Nat) (l:List Nat):Bool:=l.all fun f=>wI (P.underlying t) fun d=>match d with | .struct fs=>wI fs[f]? (fun JJ=>wI (P.underlying JJ.type) fun e => !e.isRow) | _=>false
def zT (P:Program) (t:Nat) (r:Rec):Bool:=LQ P t r&&aaf P t r.mX
theorem kQ {P:Program} {tr:Tr} (h:tr.all (zT P)=true):jZ P (mv tr):=by
 have ah1:∀ {t r},tr.find t=some r→zT P t r=true:=fun hf=>Tr.DC tr h hf
 have get:∀ {t r},tr.find t=some r→LQ P t r=true:=fun hf=>(Bool.and_eq_true _ _▸ah1 hf).1
 have base:∀ {t r},tr.find t=some r→(∃i,P.info? t=some i∧i.size=r.size∧∀q,r.row=some q→∃z,i.zero=some z∧ll q z.cells.toList)∧
   (∃d,P.underlying t=some d∧d.isRow=r.agg∧(r.agg=false→r.size=1)∧(r.du≠[]∨r.agg=true→∃fs,d=.struct fs∧yr P fs.toList r.du=true)∧
    ∀q b,r.elem=some (q,b)→∃e i z,d=.slice e∧P.info? e=some i∧i.size=q.width∧0<q.width∧i.bytes=b∧0<b∧i.zero=some z∧ll q z.cells.toList)∧
   ∀k,r.kind=some k→NB P t k=true:=by
  intro t r hf;have h1:=get hf;unfold LQ at h1;rw [Bool.and_eq_true,Bool.and_eq_true,Bool.and_eq_true] at h1;obtain ⟨h1,h2,h3,_⟩:=h1;obtain ⟨i,hi,h4⟩:=iC h1;rw [Bool.and_eq_true] at h4;obtain ⟨d,hd,h5⟩:=iC h2;rw [Bool.and_eq_true,Bool.and_eq_true,Bool.and_eq_true] at h5;obtain ⟨⟨⟨g1,g2⟩,g3⟩,g4⟩:=h5;refine ⟨⟨i,hi,Nat.eq_of_beq_eq_true h4.1,fun q hq => ?_⟩,⟨d,hd,by simpa using g1,fun Rq => ?_,fun lO => ?_,fun q b he => ?_⟩,fun k hk => ?_⟩
  ·have h6:=h4.2;rw [hq] at h6;obtain ⟨z,hz,h7⟩:=iC h6;exact ⟨z,hz,xH q _ h7⟩
  ·rw [Rq] at g2;exact Nat.eq_of_beq_eq_true g2
  ·cases Rq:r.agg with
   |true=>
    rw [Rq] at g3
    cases d with
    |struct fs=>exact ⟨fs,rfl,g3⟩
    |_=>simp at g3
   |false=>
    rw [Rq] at g3;rcases lO with lO | lO
    ·have:Nat.beq r.du.length 0=true:=by
      cases d with
      |struct fs=>exact g3
      |_=>simpa using g3
     exact absurd (List.length_eq_zero_iff.1 (Nat.eq_of_beq_eq_true this)) lO
    ·rw [Rq] at lO;cases lO
  ·rw [he] at g4
   cases d with
   |slice e=>
    obtain ⟨i,h6,h7⟩:=iC g4;rw [Bool.and_eq_true,Bool.and_eq_true,Bool.and_eq_true,Bool.and_eq_true] at h7;obtain ⟨k1,k2,k3,k4,k5⟩:=h7;obtain ⟨z,hz,h8⟩:=iC k5;exact ⟨e,i,z,rfl,h6,Nat.eq_of_beq_eq_true k1,Nat.le_of_ble_eq_true k2,Nat.eq_of_beq_eq_true k3,Nat.le_of_ble_eq_true k4,hz,xH q _ h8⟩
   |_=>cases g4
  ·rw [hk] at h3;exact h3
 have look:∀ {α:Type} {t:Nat} {g:Rec→Option α} {x:α},(match tr.find t with | some r=>g r | none=>none)=some x→∃r,tr.find t=some r∧g r=some x:=by
  intro α t g x hx
  cases hf:tr.find t with
  |none=>rw [hf] at hx;cases hx
  |some r=>rw [hf] at hx;exact ⟨r,rfl,hx⟩
 have ah2:∀ {t:Nat} {g:Rec→Bool},(match tr.find t with | some r=>g r | none=>false)=true→∃r,tr.find t=some r∧g r=true:=by
  intro t g hx
  cases hf:tr.find t with
  |none=>rw [hf] at hx;cases hx
  |some r=>rw [hf] at hx;exact ⟨r,rfl,hx⟩
 exact {
  cells:=fun t n ht=>by
   obtain ⟨r,hf,rfl⟩:=Option.map_eq_some_iff.1 ht;obtain ⟨⟨i,hi,hs,_⟩,_⟩:=base hf;rw [hi];simp [hs]
  agg:=fun t n ht=>by
   obtain ⟨r,hf,rfl⟩:=Option.map_eq_some_iff.1 ht;obtain ⟨_,⟨d,hd,h1,h2,_⟩,_⟩:=base hf;have e:(mv tr).agg t=r.agg:=by show (match tr.find t with | some r=>r.agg | none=>false)=_;rw [hf]
   exact ⟨d,hd,h1.trans e.symm,fun h=>h2 (e▸h)⟩
  off:=fun t f k ht=>by
   obtain ⟨r,hf,hk⟩:=look ht;obtain ⟨p,hp,rfl⟩:=Option.map_eq_some_iff.1 hk;obtain ⟨_,⟨d,hd,_,_,h3,_⟩,_⟩:=base hf;rw [nv] at hp;obtain ⟨fs,rfl,hfs⟩:=h3 (.inl (by intro e;rw [e] at hp;simp at hp));obtain ⟨JJ,n,g1,g2,g3⟩:=(Cq fs.toList r.du hfs).2 f p hp;exact ⟨fs,JJ,n,hd,by simpa using g1,g2,g3⟩
  bld:=fun t ht=>by
   obtain ⟨r,hf,Rq⟩:=ah2 (g:=fun r=>r.agg) ht;obtain ⟨_,⟨d,hd,_,_,h3,_⟩,_⟩:=base hf;obtain ⟨fs,rfl,hfs⟩:=h3 (.inr Rq);refine ⟨fs,r.du,hd,(Cq fs.toList r.du hfs).1,fun f o s ho hs => ?_⟩;have ho:(match tr.find t with | some r=>(nth r.du f).map (·.1) | none=>none)=some o:=ho;have hs:(match tr.find t with | some r=>(nth r.du f).map (·.2) | none=>none)=some s:=hs;rw [hf] at ho hs;obtain ⟨p,hp,rfl⟩:=Option.map_eq_some_iff.1 ho;obtain ⟨p',lP,rfl⟩:=Option.map_eq_some_iff.1 hs;rw [hp] at lP;injection lP with e;subst e;rw [nv] at hp;exact hp
  row:=fun t q ht=>by
   obtain ⟨r,hf,hk⟩:=look (g:=fun r=>r.row) ht;obtain ⟨⟨i,hi,_,h1⟩,_⟩:=base hf;obtain ⟨z,hz,UJ⟩:=h1 q hk;exact ⟨i,z,hi,hz,UJ⟩
  elem:=fun t q b ht=>by
   obtain ⟨r,hf,hk⟩:=look (g:=fun r=>r.elem) ht;obtain ⟨_,⟨d,hd,_,_,_,h4⟩,_⟩:=base hf;obtain ⟨e,i,z,rfl,h5⟩:=h4 q b hk;exact ⟨e,i,z,hd,h5⟩
  u8:=fun t e b ht hu=>by
   obtain ⟨r,hf,hk⟩:=look (g:=fun r=>r.elem) ht;have h1:=get hf;unfold LQ at h1;rw [Bool.and_eq_true,Bool.and_eq_true,Bool.and_eq_true] at h1;have h2:=h1.2.2.2;rw [hk] at h2;obtain ⟨d,hd,h3⟩:=iC h2;rw [hu] at hd;injection hd with hd;subst hd;obtain ⟨d2,hd2,h4⟩:=iC h3;rw [hd2]
   cases d2<;>simp at h4
   rw [←h4]
  one:=fun t f ht=>by
   have ht:(match tr.find t with | some r=>r.mX.any (Nat.beq f) | none=>false)=true:=ht
   cases hf:tr.find t with
   |none=>rw [hf] at ht;cases ht
   |some r=>
    rw [hf] at ht;have h2:aaf P t r.mX=true:=(Bool.and_eq_true _ _▸ah1 hf).2;obtain ⟨g,hg,hb⟩:=List.any_eq_true.1 ht;have hb:=Nat.eq_of_beq_eq_true hb;subst hb;have h3:=List.all_eq_true.1 h2 f hg;obtain ⟨d,hd,h4⟩:=iC h3
    cases d with
    |struct fs=>
     obtain ⟨JJ,amU,h5⟩:=iC h4;obtain ⟨e,he,h6⟩:=iC h5;exact ⟨fs,JJ,e,hd,amU,he,by simpa using h6⟩
    |_=>cases h4
  kind:=fun t y ht=>by
   obtain ⟨r,hf,hk⟩:=look (g:=fun r=>r.kind) ht;have h1:=(base hf).2.2 y hk
   cases y with
   |int k=>
    obtain ⟨d,hd,h2⟩:=iC h1;refine ⟨d,hd,?_⟩
    cases d<;>simp at h2
    rw [h2];rfl
   |bool=>
    obtain ⟨d,hd,h2⟩:=iC h1;refine ⟨d,hd,?_⟩
    cases d<;>simp at h2
    rfl
   |str=>
    obtain ⟨d,hd,h2⟩:=iC h1;refine ⟨d,hd,?_⟩
    cases d<;>simp at h2
    rfl
   |sl _=>cases h1 }
end Go.TM
namespace Go.TM
open Go Go.RowKit
def fD:Code→List (Nat×Code)
 |.seq a b=>fD a++fD b
 |.cond _ a b=>fD a++fD b
 |.block id (.loop b)=>[(id,b)]
 |.block _ a=>fD a
 |_=>[]
theorem ua {ok:Nat→Code→Prop}:(c:Code)→(∀p∈fD c,ok p.1 p.2)→fO ok c:=by
 intro c
 induction c with
 |seq a b iha ihb=>
  intro h;unfold fD at h;exact ⟨iha fun p hp=>h p (List.mem_append_left _ hp),ihb fun p hp=>h p (List.mem_append_right _ hp)⟩
 |cond x a b iha ihb=>
  intro h;unfold fD at h;exact ⟨iha fun p hp=>h p (List.mem_append_left _ hp),ihb fun p hp=>h p (List.mem_append_right _ hp)⟩
 |block id a ih=>
  intro h
  by_cases hb:∃b',a=.loop b'
  ·obtain ⟨b',rfl⟩:=hb;exact h (id,b') (by unfold fD;exact List.mem_cons_self)
  ·cases a with
   |loop b'=>exact absurd ⟨b',rfl⟩ hb
   |_=>unfold fD at h;unfold fO;exact ih h
 |_=>intro _;unfold fO;trivial
def BI (c:Code) (i:Nat):Code:=match nth (fD c) i with | some p=>p.2 | none=>.skip
def ly (D:nb):Code→Bool
 |.region id ops true=>Hw ops (D id)
 |.seq a b=>ly D a&&ly D b
 |.cond _ a b=>ly D a&&ly D b
 |.block _ (.loop _)=>true
 |.block _ a=>ly D a
 |_=>true
theorem wJ {D:nb}:(c:Code)→ly D c=true→gj (fun id ops=>Hw ops (D id)=true) c:=by
 intro c
 induction c with
 |region id ops dr=>
  intro h
  cases dr with
  |true=>exact h
  |false=>unfold gj;trivial
 |seq a b iha ihb=>
  intro h;unfold ly at h;rw [Bool.and_eq_true] at h;exact ⟨iha h.1,ihb h.2⟩
 |cond x a b iha ihb=>
  intro h;unfold ly at h;rw [Bool.and_eq_true] at h;exact ⟨iha h.1,ihb h.2⟩
 |block id a ih=>
  intro h
  by_cases hb:∃b',a=.loop b'
  ·obtain ⟨b',rfl⟩:=hb;unfold gj;trivial
  ·cases a with
   |loop b'=>exact absurd ⟨b',rfl⟩ hb
   |_=>unfold ly at h;unfold gj;exact ih h
 |_=>intro _;unfold gj;trivial
def Src.same:Src→Src→Bool
 |.tmp a,.tmp b=>Nat.beq a b
 |.cell a,.cell b=>Nat.beq a b
 |.ptr a,.ptr b=>Nat.beq a b
 |_,_=>false
theorem Src.DD:{a b:Src}→a.same b=true→a=b
 |.tmp _,.tmp _,h=>congrArg Src.tmp (Nat.eq_of_beq_eq_true h)
 |.cell _,.cell _,h=>congrArg Src.cell (Nat.eq_of_beq_eq_true h)
 |.ptr _,.ptr _,h=>congrArg Src.ptr (Nat.eq_of_beq_eq_true h)
 |.tmp _,.cell _,h=>by cases h
 |.tmp _,.ptr _,h=>by cases h
 |.cell _,.tmp _,h=>by cases h
 |.cell _,.ptr _,h=>by cases h
 |.ptr _,.tmp _,h=>by cases h
 |.ptr _,.cell _,h=>by cases h
def NC (T:oU):List ResultVar→List RP→Bool
 | [],[]=>true
 |.tmp t::vs,r::rs=>(r.src.same (.tmp t)||r.src.same (.ptr t))&&NC T vs rs
 |.cell t ty::vs,r::rs=>r.src.same (.cell t)&&((match T.cells ty with | some n=>Nat.beq n r.ps.length | none=>false)&&((T.agg ty==r.agg)&&NC T vs rs))
 |_,_=>false
theorem BJ {T:oU} (tm:Array Value):(vs:List ResultVar)→(rs:List RP)→NC T vs rs=true→Co T tm vs rs
 | [],[],_=>trivial
 | [],_::_,h=>by simp [NC] at h
 |v::_,[],h=>by cases v<;>simp [NC] at h
 |.tmp t::vs,r::rs,h=>by
  unfold NC at h;rw [Bool.and_eq_true,Bool.or_eq_true] at h;exact ⟨h.1.imp Src.DD Src.DD,BJ tm vs rs h.2⟩
 |.cell t ty::vs,r::rs,h=>by
  unfold NC at h;rw [Bool.and_eq_true,Bool.and_eq_true,Bool.and_eq_true] at h;obtain ⟨h1,h2,h3,h4⟩:=h;refine ⟨⟨Src.DD h1,?_,by simpa using h3⟩,BJ tm vs rs h4⟩
  cases hc:T.cells ty with
  |none=>rw [hc] at h2;cases h2
  |some n=>rw [hc] at h2;rw [Nat.eq_of_beq_eq_true h2]
abbrev abq:=List (Nat×(Pm×Pm×Pm×Al))
def Cr:abq→mW
 | [],_=>none
 |(g,s)::l,f=>bif Nat.beq f g then some s else Cr l f
structure tS (P:Program) (f:FuncId) (Gs:Al):Prop where
 ok:FnOk P f Gs
 fn:∃fn,P.funcs[f]?=some fn∧(fn.name == "runtime.NumGoroutine")=false∧fn.body.isNone=false
theorem VQ {P:Program}:oM P (Cr []):=fun f a b c Gs h=>by cases h
theorem SL {P:Program} {g:Nat} {a b c:Pm} {Gs:Al} {l:abq} (hk:tS P g Gs) (hl:oM P (Cr l)):oM P (Cr ((g,(a,b,c,Gs))::l)):=by
 intro f a' b' c' amV h;unfold Cr at h
 cases hb:Nat.beq f g with
 |true=>
  rw [hb] at h;injection h with h;injection h with _ h;injection h with _ h;injection h with _ h;subst h;rw [Nat.eq_of_beq_eq_true hb];exact ⟨hk.ok,hk.fn⟩
 |false=>rw [hb] at h;exact hl f a' b' c' amV h
def fnB (T:oU) (D:nb) (fn:Func) (code:Code) (n:Nat) (ps:List AP) (rs:List RP):Bool:=
 Nat.beq fn.ntmps n&&(Nat.ble ps.length n&&(im n code&&(NC T fn.results.toList rs&&ly D code)))
theorem YV {P:Program} {tr:Tr} (hT:tr.all (zT P)=true) (hE:zZ P (mv tr)) (hm:P.follows .mixedOrders=true) {S:mW} (hS:oM P S) {D:nb} {f:FuncId} {fn:Func} {code:Code} {n:Nat} {ps:List AP} {rs:List RP}
  {L:pM (aO (ew rs (cG ps)))} {t:aO (aG (ps.map some))→Option (aO (ew rs (cG ps)))}
  (hf:P.funcs[f]?=some fn) (hb:fn.body=some code) (sQ:fnB (mv tr) D fn code n ps rs=true) (ND:(fn.name == "runtime.NumGoroutine")=false)
  (hL:∀(w0:World) (mu:Mu) (y:aO (ew rs (cG ps))),pn ps mu→∀p∈fD code,pz P w0 mu n L y p.1 p.2)
  (Pz:∀x,gR (mv tr) S D L code (start n ps x) (EL rs ps)=t x):tS P f (o8 ps rs t):=by
 unfold fnB at sQ;rw [Bool.and_eq_true,Bool.and_eq_true,Bool.and_eq_true,Bool.and_eq_true] at sQ;obtain ⟨h1,h2,h3,h4,h5⟩:=sQ;refine ⟨ahZ (kQ hT) hE hS hf hb (Nat.eq_of_beq_eq_true h1) (Nat.le_of_ble_eq_true h2) h3 (fun tm=>BJ tm _ _ h4) (fun w0 mu y hs=>ua code (hL w0 mu y hs))
  (fun w0 mu=>uQ (kQ hT) hE hm (qg (kQ hT) hE hS w0 mu n)) (wJ code h5) Pz,fn,hf,ND,by rw [hb];rfl⟩
def Kb (D:nb) (ps:List AP) (hp e0 e1:List (Option AP)) (n:Nat) (b:Code):Bool:=
 (iq ps hp&&(iq ps e0&&iq ps e1))&&(im n b&&ly D b)
theorem SM {R:Type} {P:Program} {tr:Tr} (hT:tr.all (zT P)=true) (hE:zZ P (mv tr)) (hm:P.follows .mixedOrders=true) {S:mW} (hS:oM P S) {D:nb} {n id:Nat} {w0:World} {mu:Mu} {ps:List AP} {hp e0 e1:List (Option AP)} {b:Code} {r:R} {L:pM R}
  {L':pM (Sum (aO (aG hp)) (Sum (aO (aG e0)) (aO (aG e1))))} {round:aO (aG hp)→Option (Sum (aO (aG hp)) (Sum (aO (aG e0)) (aO (aG e1))))}
  (hs:pn ps mu) (sQ:Kb D ps hp e0 e1 n b=true)
  (Hn:∀z,∀p∈fD b,pz P w0 mu n L' z p.1 p.2) (PA:∀x,gR (mv tr) S D L' b (pE hp x) (EO id hp e0 e1)=round x) (hL:∀st k,L id b st k=EP hp e0 e1 round st k):pz P w0 mu n L r id b:=by
 unfold Kb at sQ;rw [Bool.and_eq_true,Bool.and_eq_true (im n b)] at sQ;exact YS (qg (kQ hT) hE hS w0 mu n) (uQ (kQ hT) hE hm (qg (kQ hT) hE hS w0 mu n)) hs sQ.1 sQ.2.1 (wJ b sQ.2.2) (fun z=>ua b (Hn z)) PA hL
def cg {A B C:Type} (o:Option (Sum A B)) (f:A→Option C) (g:B→Option C):Option C:=
 o.bind fun z=>match z with
  |.inl y=>f y
  |.inr y=>g y
end Go.TM
namespace Go.TM
open Go Go.RowKit Go.ChangeShapes
def RT.app:RT→RT→RT
 |.nil,s=>s
 |.cons t r,s=>.cons t (r.app s)
def YW:(r s:RT)→aO r→aO s→aO (r.app s)
 |.nil,_,_,y=>y
 |.cons _ r,s,x,y=>(x.1,YW r s x.2 y)
mutual
def Jb:(t:Ty)→den t→Prop
 |.int k,n=>(Lit.int k n).wf=true
 |.bool,_=>True
 |.str,s=>ByteArray.size s≤maxLen
 |.sl r,xs=>(Yw xs).length≤maxLen∧∀x∈Yw xs,Hz r x
def Hz:(r:RT)→aO r→Prop
 |.nil,_=>True
 |.cons t r,x=>Jb t x.1∧Hz r x.2
end
theorem HA (x:aO .nil):Hz .nil x:=Hz.eq_1 x▸trivial
theorem rC {t:Ty} {r:RT} {x:aO (.cons t r)}:Hz (.cons t r) x↔Jb t x.1∧Hz r x.2:=Hz.eq_2 t r x▸Iff.rfl
theorem ah3 {k:IntKind} {n:Int}:Jb (.int k) n↔(Lit.int k n).wf=true:=Jb.eq_1 k n▸Iff.rfl
theorem abr {b:Bool}:Jb .bool b:=Jb.eq_2 b▸trivial
theorem ah4 {s:ByteArray}:Jb .str s↔ByteArray.size s≤maxLen:=Jb.eq_3 s▸Iff.rfl
theorem ah5 {r:RT} {xs:List (aO r)}:Jb (.sl r) xs↔(xs.length≤maxLen∧∀x∈xs,Hz r x):=Jb.eq_4 r xs▸Iff.rfl
theorem RT.ER:(r s:RT)→(r.app s).width=r.width+s.width
 |.nil,s=>by simp [RT.app,RT.width]
 |.cons t r,s=>by simp [RT.app,RT.width,RT.ER r s];omega
theorem eU.cat {w:World} {ok:Nat→Prop}:(r s:RT)→(l m:List Value)→(x:aO r)→(y:aO s)→eU w ok r l x→eU w ok s m y→eU w ok (r.app s) (l++m) (YW r s x y)
 |.nil,s,l,m,x,y,h,h'=>by
  have:l=[]:=h;subst this;exact h'
 |.cons t r,s,l,m,x,y,h,h'=>by
  obtain ⟨v,l',rfl,h1,h2⟩:=h;exact ⟨v,l'++m,rfl,h1,eU.cat r s l' m x.2 y h2 h'⟩
theorem Hz.cat:(r s:RT)→(x:aO r)→(y:aO s)→Hz r x→Hz s y→Hz (r.app s) (YW r s x y)
 |.nil,_,_,_,_,h'=>h'
 |.cons t r,s,x,y,h,h'=>by
  exact rC.2 ⟨(rC.1 h).1,Hz.cat r s x.2 y (rC.1 h).2 h'⟩
def HB (P:Program) (row:TypeId→Option RT):Nat→List Field→Option RT
 |_,[]=>some .nil
 |off,f::fs=>match row f.type with
  |some q=>(match HB P row (off+q.width) fs with
   |some r=>bif Nat.beq f.offset off&&Nat.beq (P.cellsOf f.type) q.width then some (q.app r) else none
   |none=>none)
  |none=>none
def HC (P:Program):Nat→TypeId→Option RT
 |0,_=>none
 |n+1,t=>match P.underlying t with
  |some .bool=>some (.cons .bool .nil)
  |some (.int k)=>some (.cons (.int k) .nil)
  |some .string=>some (.cons .str .nil)
  |some (.slice e)=>(match HC P n e with
   |some q=>bif Nat.beq (P.cellsOf e) q.width&&Nat.blt 0 q.width then some (.cons (.sl q) .nil) else none
   |none=>none)
  |some (.struct fs)=>(match HB P (HC P n) 0 fs.toList with
   |some r=>bif Nat.beq (P.cellsOf t) r.width then some r else none
   |none=>none)
  |_=>none
theorem Rw {α:Type} {Pr:Nat→α→Prop}:(n:Nat)→(∀i,i<n→∃x,Pr i x)→∃xs:List α,xs.length=n∧∀(i:Nat) x,xs[i]?=some x→Pr i x
 |0,_=>⟨[],rfl,fun i x h=>by simp at h⟩
 |n+1,h=>by
  obtain ⟨xs,h1,h2⟩:=Rw n (fun i hi=>h i (by omega));obtain ⟨x,hx⟩:=h n (by omega);refine ⟨xs++[x],by simp [h1],fun i y hy => ?_⟩
  by_cases hi:i<n
  ·rw [List.getElem?_append_left (by omega)] at hy;exact h2 i y hy
  ·rw [List.getElem?_append_right (by omega)] at hy;have Hn:i=n:=by
    have:=(List.getElem?_eq_some_iff.1 hy).1;simp at this;omega
   subst Hn;rw [h1,Nat.sub_self] at hy;simp at hy;rw [←hy];exact hx
theorem Kc {w:World} {a:Addr} {v:Value} (h:w.cell? a=some v):a.spot=none:=by
 unfold World.cell? at h
 split at h
 ·split at h
  ·cases h
  ·rename_i hs;simpa using hs
 ·cases h
theorem NF {α β:Type} {f:α→Option β}:(l:List α)→{m:List β}→l.mapM f=some m→m.length=l.length∧∀(i:Nat) a,l[i]?=some a→f a=m[i]?
 | [],m,h=>by
  simp at h;subst h;exact ⟨rfl,fun i a ha=>by simp at ha⟩
 |a::l,m,h=>by
  rw [List.mapM_cons] at h
  cases ha:f a with
  |none=>simp [ha] at h
  |some b=>
   cases hl:l.mapM f with
   |none=>simp [ha,hl] at h
   |some m'=>
    simp [ha,hl] at h;subst h;obtain ⟨h1,h2⟩:=NF l hl;refine ⟨by simp [h1],fun i x hx => ?_⟩
    cases i with
    |zero=>simp at hx;subst hx;simpa using ha
    |succ i=>simpa using h2 i x (by simpa using hx)
theorem FX {w:World} {base n:Nat} {a:Addr} {vs:List Value} (h:w.cells? base a n=some vs):vs.length=n∧w.rangeAt a.block a.off vs∧(0<n→a.spot=none):=by
 unfold World.cells? at h
 split at h
 ·obtain ⟨h1,h2⟩:=NF _ h;simp at h1;have each:∀j v,vs[j]?=some v→w.cell? (a.add j)=some v:=by
   intro j v hv;have hj:j<n:=by
    have:=(List.getElem?_eq_some_iff.1 hv).1;omega
   rw [h2 j j (by simp [hj]),hv]
  refine ⟨h1,fun j v hv => ?_,fun hn => ?_⟩
  ·have:=each j v hv;have hs:=Kc this;have e:a.add j=⟨a.block,a.off+j,none⟩:=by
    unfold Addr.add at hs ⊢
    split
    ·rename_i h0;subst h0;rw [if_pos rfl] at hs;obtain ⟨b,o,s⟩:=a;simp at hs;subst hs;rfl
    ·rfl
   rw [←e];exact this
  ·have dM:0<vs.length:=by omega
   have:=each 0 vs[0] (by simp [dM]);have hs:=Kc this;simpa [Addr.add] using hs
 ·cases h
theorem Ke {P:Program} {w:World} {cs:List Value} {row:TypeId→Option RT}:(fs:List Field)→(off:Nat)→(r:RT)→HB P row off fs=some r→
  (∀f∈fs,∀q,row f.type=some q→∃x:aO q,eU w (fun _=>True) q ((cs.drop f.offset).take (P.cellsOf f.type)) x∧Hz q x)→off+r.width≤cs.length→
  ∃x:aO r,eU w (fun _=>True) r ((cs.drop off).take r.width) x∧Hz r x
 | [],off,r,h,_,_=>by
  simp only [HB,Option.some.injEq] at h;subst h;exact ⟨(),by simp [RT.width,eU],HA _⟩
 |f::fs,off,r,h,hf,hl=>by
  unfold HB at h
  cases hq:row f.type with
  |none=>simp [hq] at h
  |some q=>
   simp only [hq] at h
   cases hr:HB P row (off+q.width) fs with
   |none=>simp [hr] at h
   |some r'=>
    simp only [hr] at h;obtain ⟨h1,h2⟩:=bJ h;injection h2 with h2;subst h2;rw [Bool.and_eq_true] at h1;have ho:=Nat.eq_of_beq_eq_true h1.1;have hc:=Nat.eq_of_beq_eq_true h1.2;rw [RT.ER] at hl;obtain ⟨x,Pn,LK⟩:=hf f List.mem_cons_self q hq;obtain ⟨y,hy1,hy2⟩:=Ke fs (off+q.width) r' hr (fun g hg=>hf g (List.mem_cons_of_mem _ hg)) (by omega);refine ⟨YW q r' x y,?_,Hz.cat q r' x y LK hy2⟩;rw [RT.ER,List.take_add,List.drop_drop];rw [ho,hc] at Pn;exact eU.cat q r' _ _ x y Pn hy1
theorem LR {H:Type} {enc:TypeId×Value→H} {P:Program} {w:World} {base:Nat} {spare:Nat→Bool} {held:Bool}:(n:Nat)→∀ {t:TypeId} {r:RT} {fuel:Nat} {cs:List Value} {y:DataW H×List MemPlace},HC P n t=some r→
  DataW.trod enc P w base spare held fuel t cs=some y→∃x:aO r,eU w (fun _=>True) r cs x∧Hz r x
 |0,_,_,_,_,_,h,_=>by cases h
 |n+1,t,r,fuel,cs,y,h,hd=>by
  unfold HC at h
  cases hu:P.underlying t with
  |none=>simp [hu] at h
  |some d=>
   cases d with
   |bool=>
    simp only [hu,Option.some.injEq] at h;subst h;obtain ⟨b,rfl,_⟩:=DataW.trod_bool hu hd;exact ⟨((b:Bool),()),⟨_,_,rfl,Bw.2 rfl,rfl⟩,rC.2 ⟨abr,HA _⟩⟩
   |int k=>
    simp only [hu,Option.some.injEq] at h;subst h;obtain ⟨m,rfl,_,hw⟩:=DataW.trod_int hu hd;exact ⟨((m:Int),()),⟨_,_,rfl,yh.2 rfl,rfl⟩,rC.2 ⟨ah3.2 hw,HA _⟩⟩
   |string=>
    simp only [hu,Option.some.injEq] at h;subst h;obtain ⟨s,rfl,_,hw⟩:=DataW.trod_string hu hd;exact ⟨((s:ByteArray),()),⟨_,_,rfl,ED.2 rfl,rfl⟩,rC.2 ⟨ah4.2 hw,HA _⟩⟩
   |slice e=>
    simp only [hu] at h
    cases hq:HC P n e with
    |none=>simp [hq] at h
    |some q=>
     simp only [hq] at h;obtain ⟨h1,h2⟩:=bJ h;injection h2 with h2;subst h2;rw [Bool.and_eq_true] at h1;have hw:=Nat.eq_of_beq_eq_true h1.1;have abt:0<q.width:=Nat.le_of_ble_eq_true h1.2;rcases DataW.trod_slice hu hd with ⟨rfl,_⟩ | ⟨a,len,cap,elems,rest,m,_,rfl,_,hb,hl,hm,hlen,hel,_,_⟩
     ·exact ⟨(([]:List (aO q)),()),⟨_,_,rfl,(rf _ _ _ _ _).2 (.inl ⟨rfl,rfl⟩),rfl⟩,rC.2 ⟨ah5.2 ⟨Nat.zero_le _,fun x hx=>by cases hx⟩,HA _⟩⟩
     ·have each:∀i,i<len→∃x:aO q,(fH w (fun _=>True) q a.block (a.off+i*q.width) x∧Hz q x)∧a.spot=none∧a.block<w.heap.size:=by
       intro i hi;have h3:=hel i hi;rw [List.getElem?_eq_getElem (by omega),Option.bind_eq_some_iff] at h3;obtain ⟨vs,Gt,hy⟩:=h3;obtain ⟨x,hx,hs⟩:=LR n hq hy;obtain ⟨g1,g2,g3⟩:=FX Gt;have hbk:(a.add (i*P.cellsOf e)).block=a.block:=by unfold Addr.add;split<;>rfl
       have hof:(a.add (i*P.cellsOf e)).off=a.off+i*q.width:=by
        unfold Addr.add;rw [hw]
        split
        ·rename_i h0;rw [h0];rfl
        ·rfl
       rw [hbk,hof] at g2;refine ⟨x,⟨(qf q _ _ x).2 ⟨vs,g2,hx⟩,hs⟩,?_,?_⟩
       ·have h4:=hel 0 (by omega);rw [List.getElem?_eq_getElem (by omega),Option.bind_eq_some_iff] at h4;obtain ⟨vs0,amX,_⟩:=h4;have:=(FX amX).2.2 (by omega);simpa [Addr.add] using this
       ·have dM:0<vs.length:=by omega
        have h5:=Q7 (g2 0 vs[0] (by simp [dM]));exact h5
      obtain ⟨xs,Pn,LK⟩:=Rw len each;refine ⟨((xs:List (aO q)),()),⟨_,_,rfl,(rf _ _ _ _ _).2 (.inr ⟨a,cap,by rw [Pn],by rw [Pn];exact hl,fun lO => ?_,fun i x hi=>(LK i x hi).1.1⟩),rfl⟩,?_⟩
      ·have dM:0<xs.length:=List.length_pos_iff.2 lO;have:=(LK 0 xs[0] (by simp [dM])).2;exact ⟨this.1,this.2,trivial⟩
      ·refine rC.2 ⟨ah5.2 ⟨by show xs.length≤maxLen;omega,fun x hx => ?_⟩,HA _⟩;obtain ⟨i,hi⟩:=List.getElem?_of_mem hx;exact (LK i x hi).1.2
   |struct fs=>
    simp only [hu] at h
    cases hq:HB P (HC P n) 0 fs.toList with
    |none=>simp [hq] at h
    |some q=>
     simp only [hq] at h;obtain ⟨h1,h2⟩:=bJ h;injection h2 with h2;subst h2;have hw:=Nat.eq_of_beq_eq_true h1;obtain ⟨xs,m,_,_,hlen,Z8,hel⟩:=DataW.trod_struct hu hd;obtain ⟨x,g1,g2⟩:=Ke (w:=w) (cs:=cs) fs.toList 0 q hq (fun f hf p hp=>by
      obtain ⟨i,hi⟩:=List.getElem?_of_mem hf;rw [Array.getElem?_toList] at hi;have h3:=hel i f hi;have dM:i<fs.size:=(Array.getElem?_eq_some_iff.1 hi).1;rw [List.getElem?_eq_getElem (by omega)] at h3;exact LR n hp h3) (by omega)
     refine ⟨x,?_,g2⟩;have:(cs.drop 0).take q.width=cs:=by rw [List.drop_zero,List.take_of_length_le (by omega)]
     rwa [this] at g1
   |_=>simp [hu] at h
end Go.TM
namespace Go.TM
open Go Go.RowKit Go.ChangeShapes
mutual
theorem Ty.AH:(t:Ty)→Ty.eq? t t=some ⟨rfl⟩
 |.int k=>by simp [Ty.eq?]
 |.bool=>rfl
 |.str=>rfl
 |.sl r=>by simp [Ty.eq?,RT.AH r]
theorem RT.AH:(r:RT)→RT.eq? r r=some ⟨rfl⟩
 |.nil=>rfl
 |.cons t r=>by simp [RT.eq?,Ty.AH t,RT.AH r]
end
theorem PE (r:RT) (xs:List (aO r)):ez r xs=some xs:=by
 unfold ez;rw [RT.AH]
theorem wK {p:OP} {ps:List OP} {t:RT} {o:OV} {os:List OV} {y:aO t} {x:den p.ty} {z:aO (oZ ps t)} (h1:vj p o=some x) (h2:fC ps t os y=some z):fC (p::ps) t (o::os) y=some ((x,z):aO (oZ (p::ps) t)):=by
 unfold fC;rw [h1,h2];rfl
theorem SN {k:IntKind} {n:Int}:vj (.int k) (.int k n)=some n:=if_pos rfl
def qi:RT→List OP
 |.nil=>[]
 |.cons (.int k) r=>.int k::qi r
 |.cons .bool r=>.bool::qi r
 |.cons .str r=>.str::qi r
 |.cons (.sl q) r=>.shr q::qi r
def Cz.free:Cz:={ bx:=fun _=>0,lc:=fun _ _=>.nil,own:=fun _=>none }
theorem NG {w:World} {f:Nat→Lb}:(r:RT)→(t:RT)→(j:Nat)→(vs:List Value)→(x:aO r)→(y:aO t)→eU w (fun _=>True) r vs x→Hz r x→
  ∃z:aO (oZ (qi r) t),cF Cz.free w f j (fK (qi r) t z).1 vs∧fC (qi r) t (fK (qi r) t z).1 y=some z∧(Hz t y→Hz (oZ (qi r) t) z)
 |.nil,t,j,vs,x,y,h,_=>by
  have:vs=[]:=h;subst this;exact ⟨y,rfl,rfl,id⟩
 |.cons ty r,t,j,vs,x,y,h,hs=>by
  obtain ⟨v,l,rfl,h1,h2⟩:=h;obtain ⟨s1,s2⟩:=rC.1 hs;obtain ⟨z,g1,g2,g3⟩:=NG (f:=f) r t (j+1) l x.2 y h2 s2
  cases ty with
  |int k=>
   refine ⟨(x.1,z),⟨l,by rw [yh.1 h1],g1⟩,?_,fun hy=>rC.2 ⟨s1,g3 hy⟩⟩;exact wK (p:=.int k) (o:=.int k x.1) (SN) g2
  |bool=>
   refine ⟨(x.1,z),⟨l,by rw [Bw.1 h1],g1⟩,?_,fun hy=>rC.2 ⟨s1,g3 hy⟩⟩;exact wK (p:=.bool) (o:=.bool x.1) (rfl) g2
  |str=>
   refine ⟨(x.1,z),⟨l,by rw [ED.1 h1],g1⟩,?_,fun hy=>rC.2 ⟨s1,g3 hy⟩⟩;exact wK (p:=.str) (o:=.str x.1) (rfl) g2
  |sl q=>
   refine ⟨(x.1,z),⟨v,l,rfl,ev.stays ⟨Nat.le_refl _,fun _ _ _=>rfl,fun _ _ _=>rfl⟩ _ _ _ h1,g1⟩,?_,fun hy=>rC.2 ⟨s1,g3 hy⟩⟩;exact wK (p:=.shr q) (o:=.shr q x.1) (PE q x.1) g2
def OP.same:OP→OP→Bool
 |.int k,.int l=>decide (k=l)
 |.bool,.bool=>true
 |.str,.str=>true
 |.shr r,.shr s=>(RT.eq? r s).isSome
 |_,_=>false
theorem OP.DD {p q:OP} (h:p.same q=true):p=q:=by
 cases p<;>cases q<;>simp [OP.same] at h
 ·rw [h]
 ·rfl
 ·rfl
 ·rename_i r s;obtain ⟨⟨e⟩,_⟩:=Option.isSome_iff_exists.1 h;rw [e]
def BK:List OP→List OP→Bool
 | [],[]=>true
 |p::l,q::m=>p.same q&&BK l m
 |_,_=>false
theorem HD:(l m:List OP)→BK l m=true→l=m
 | [],[],_=>rfl
 |p::l,q::m,h=>by
  unfold BK at h;rw [Bool.and_eq_true] at h;rw [OP.DD h.1,HD l m h.2]
 | [],_::_,h=>by simp [BK] at h
 |_::_,[],h=>by simp [BK] at h
def O9 (P:Program):List TypeId→List AP→Bool
 | [],[]=>true
 |t::ts,.val agg os::ps=>(match HC P 30 t with
   |some r=>BK (qi r) os
   |none=>false)&&((match P.underlying t with | some (.struct _)=>agg | _ => !agg)&&(P.readableRec t&&(Nat.blt t P.types.size&&O9 P ts ps)))
 |_,_=>false
theorem one_cell {P:Program} {w:World} {r:Reach} {b:Nat} {t:TypeId} {v:Value} {rt:RT} (hn:HC P 30 t=some rt) (hs:∀fs,P.underlying t≠some (.struct fs)) (h:Value.okWide P w r b t v):v.cells.toList=[v]:=by
 cases hu:P.underlying t with
 |none=>simp [HC,hu] at hn
 |some d=>
  cases v<;>try rfl
  rename_i cs
  exfalso
  cases d<;>first | exact hs _ hu | (simp [HC,hu] at hn;done) | (simp [Value.okWide,hu,Cell.okWide,Cell.ok] at h)
theorem Kf {H:Type} {enc:TypeId×Value→H} {P:Program} {w:World} {lc:Nat→Nat→Loc}:(ts:List TypeId)→(ps:List AP)→O9 P ts ps=true→(i:Nat)→(vs:List Value)→(ds:List (DataW H))→(p:List MemPlace)→
  (∀(j:Nat) t v,ts[j]?=some t→vs[j]?=some v→∃b,Value.okWide P w .any b t v)→DataW.TrodAll enc P w 0 (fun _=>true) true ts vs ds p→
  ∃(x:aO (aG (ps.map some))) (ga:List AV),ib ps ga=some x∧Cl Cz.free w lc i ga vs∧Hz (aG (ps.map some)) x
 | [],[],_,i,vs,ds,p,_,hA=>by
  obtain ⟨rfl,_,_⟩:=trodAll_nil hA;exact ⟨(),[],rfl,rfl,HA _⟩
 | [],_::_,hb,_,_,_,_,_,_=>by simp [O9] at hb
 |t::ts,[],hb,_,_,_,_,_,_=>by simp [O9] at hb
 |t::ts,.io _ _::_,hb,_,_,_,_,_,_=>by simp [O9] at hb
 |t::ts,.box _ _::_,hb,_,_,_,_,_,_=>by simp [O9] at hb
 |t::ts,.dZ _::_,hb,_,_,_,_,_,_=>by simp [O9] at hb
 |t::ts,.val agg os::ps,hb,i,vs,ds,p,yn,hA=>by
  obtain ⟨v,vs',d,ds',p',q',rfl,rfl,rfl,h1,h2⟩:=trodAll_cons hA;unfold O9 at hb;rw [Bool.and_eq_true,Bool.and_eq_true,Bool.and_eq_true,Bool.and_eq_true] at hb;obtain ⟨b1,b2,_,_,b5⟩:=hb;obtain ⟨y,ga,g1,g2,g3⟩:=Kf (lc:=lc) ts ps b5 (i+1) vs' ds' q' (fun j t v ht hv=>yn (j+1) t v (by simpa using ht) (by simpa using hv)) h2;obtain ⟨b0,iP⟩:=yn 0 t v rfl rfl
  cases hr:HC P 30 t with
  |none=>rw [hr] at b1;cases b1
  |some r=>
   rw [hr] at b1;have xA:=HD _ _ b1;subst xA;obtain ⟨fuel,hd⟩:=h1;obtain ⟨x,Pn,LK⟩:=LR 30 hr hd;obtain ⟨z,k1,k2,k3⟩:=NG (f:=.dE i) r (aG (ps.map some)) 0 v.cells.toList x y Pn LK
   cases agg with
   |false=>
    have hs:∀fs,P.underlying t≠some (.struct fs):=by
     intro fs e;rw [e] at b2
     cases b2
    rw [one_cell hr hs iP] at k1;refine ⟨z,.val false (fK (qi r) (aG (ps.map some)) z).1::ga,?_,⟨v,vs',rfl,k1,g2⟩,k3 g3⟩;show (match ib ps ga with | some y=>J3 (.val false (qi r)) (aG (ps.map some)) (.val false _) y | none=>none)=_;rw [g1];exact k2
   |true=>
    obtain ⟨fs,hu⟩:∃fs,P.underlying t=some (.struct fs):=by
     cases hu:P.underlying t with
     |none=>rw [hu] at b2;cases b2
     |some d=>
      rw [hu] at b2
      cases d<;>first | exact ⟨_,rfl⟩ | cases b2
    obtain ⟨cs,rfl,_⟩:∃cs,v=.agg cs∧True:=by
     unfold Value.okWide at iP;rw [hu] at iP;obtain ⟨cs,e,_⟩:=iP;exact ⟨cs,e,trivial⟩
    refine ⟨z,.val true (fK (qi r) (aG (ps.map some)) z).1::ga,?_,⟨.agg cs,vs',rfl,⟨cs,rfl,k1⟩,g2⟩,k3 g3⟩;show (match ib ps ga with | some y=>J3 (.val true (qi r)) (aG (ps.map some)) (.val true _) y | none=>none)=_;rw [g1];exact k2
theorem Kg {H:Type} {enc:TypeId×Value→H} {P:Program} (hl:laidOutB P=true) {W W':World} (hb:Below W.heap.size W W'):(ts:List TypeId)→(ps:List AP)→O9 P ts ps=true→(vs:List Value)→(ds:List (DataW H))→(p:List MemPlace)→(∀x∈p,x.block<W.heap.size)→
  DataW.TrodAll enc P W 0 (fun _=>true) true ts vs ds p→DataW.TrodAll enc P W' 0 (fun b=>decide (b<W.heap.size)) true ts vs ds p
 | [],[],_,vs,ds,p,_,hA=>by
  obtain ⟨rfl,rfl,rfl⟩:=trodAll_nil hA;exact trodAll_mk0
 | [],_::_,hb,_,_,_,_,_=>by simp [O9] at hb
 |t::ts,[],hb,_,_,_,_,_=>by simp [O9] at hb
 |t::ts,.io _ _::_,hb,_,_,_,_,_=>by simp [O9] at hb
 |t::ts,.box _ _::_,hb,_,_,_,_,_=>by simp [O9] at hb
 |t::ts,.dZ _::_,hb,_,_,_,_,_=>by simp [O9] at hb
 |t::ts,.val agg os::ps,hp,vs,ds,p,dM,hA=>by
  obtain ⟨v,vs',d,ds',p',q',rfl,rfl,rfl,h1,h2⟩:=trodAll_cons hA;unfold O9 at hp;rw [Bool.and_eq_true,Bool.and_eq_true,Bool.and_eq_true,Bool.and_eq_true] at hp;obtain ⟨_,_,b3,b4,b5⟩:=hp;exact trodAll_cons_mk (Below.trod hl b3 (Nat.le_of_ble_eq_true b4) h1 hb (fun x hx=>dM x (List.mem_append_left _ hx))) (Kg hl hb ts ps b5 vs' ds' q' (fun x hx=>dM x (List.mem_append_right _ hx)) h2)
theorem SO {H:Type} {enc:TypeId×Value→H} {P:Program} (hl:laidOutB P=true) {f:FuncId} {ps:List AP} {s:Nat} {t:aO (aG (ps.map some))→Option (aO (ew [{ src:=.tmp s,agg:=false,ps:=[.bool] }] (cG ps)))}
  (hk:tS P f (o8 ps [{ src:=.tmp s,agg:=false,ps:=[.bool] }] t)) {ts:List TypeId} (YE:O9 P ts ps=true) (amZ:∀x,Hz (aG (ps.map some)) x→∃y,t x=some y∧y.1=true)
  {W:World} {base:Nat} {args:Array Value} {ds:List (DataW H)} {p:List MemPlace} (yn:∀(j:Nat) t v,ts[j]?=some t→args[j]?=some v→Value.okWide P W .any base t v)
  (hA:DataW.TrodAll enc P W 0 (fun _=>true) true ts args.toList ds p) (dM:∀x∈p,x.block<W.heap.size) :
  Calls P f args W fun e W'=>e=.returned (.bool true)∧Below W.heap.size W W'∧DataW.TrodAll enc P W' 0 (fun b=>decide (b<W.heap.size)) true ts args.toList ds p:=by
 obtain ⟨x,ga,h1,h2,h3⟩:=Kf (lc:=fun _ _=>.nil) ts ps YE 0 args.toList ds p (fun j t v ht hv=>⟨base,yn j t v ht (by rwa [Array.getElem?_toList] at hv)⟩) hA;obtain ⟨y,hy,hy1⟩:=amZ x h3
 let μ:Mu:={ m:=fun _=>False,ok:=fun _=>True,an:=[] }
 have hH:Handed Cz.free W μ:={
  m:=fun b=>⟨fun h=>h.elim,fun ⟨l,h,_⟩=>by cases h⟩
  ok:=fun b=>⟨fun _=>rfl,fun _=>trivial⟩
  lt:=fun b l h=>by cases h
  lb:=fun b l h=>by cases h }
 have hs:o8 ps [{ src:=.tmp s,agg:=false,ps:=[.bool] }] t ga=some { r:=ew [{ src:=.tmp s,agg:=false,ps:=[.bool] }] (cG ps),o:=t x,res:=fun y=>{ outs:=(iR [{ src:=.tmp s,agg:=false,ps:=[.bool] }] (cG ps) y).1,exts:=pD ps (iR [{ src:=.tmp s,agg:=false,ps:=[.bool] }] (cG ps) y).2 } }:=by
  unfold o8;rw [h1]
 refine (hk.ok Cz.free W μ (fun _ _=>.nil) ga args _ y hH h2 hs hy).mono fun e W' ⟨v,he,c',hb,hV,_⟩ => ?_
 have ah7:Below W.heap.size W W':=⟨hb.kept.1,hb.kept.2.1,hb.kept.2.2.1,hb.kept.2.2.2,fun k hk=>hb.old k hk (fun h=>h.elim)⟩;have hv:v=.bool true:=by
  have hV:vh c' W' [.one (.bool y.1)] v:=hV;rcases hV with ⟨r,e1,g⟩ | ⟨g,_⟩
  ·simp only [List.cons.injEq,and_true] at e1;subst e1;obtain ⟨v',l,e2,g2,_⟩:=g;simp only [List.cons.injEq] at e2;obtain ⟨e2,_⟩:=e2;obtain ⟨l',g3,_⟩:=g2;simp only [List.cons.injEq] at g3;rw [e2,g3.1,hy1]
  ·simp at g
 exact ⟨by rw [he,hv],ah7,Kg hl ah7 ts ps YE args.toList ds p dM hA⟩
theorem cD {a:Int} (h1 : -9223372036854775808≤a) (h2:a<9223372036854775808):IntKind.i64.wrap a=a:=by
 rw [IntKind.wrap_i64];omega
theorem sC {X E:Type} {round:X→Option (Sum X E)} {n:Nat} (st:Nat→X) (g:Nat→Option E) (VR:∃e,round (st n)=some (.inr e)∧g n=some e)
  (FY:∀k,k<n→(∃e,round (st k)=some (.inr e)∧g k=some e)∨(round (st k)=some (.inl (st (k+1)))∧g k=g (k+1))):∀k,k≤n→aJ round (st k)=g k:=by
 have key:∀d k,k+d=n→aJ round (st k)=g k:=by
  intro d
  induction d with
  |zero=>
   intro k hk;have:k=n:=by omega
   subst this;obtain ⟨e,h1,h2⟩:=VR;rw [jJ,h1,h2]
  |succ d ih=>
   intro k hk;rcases FY k (by omega) with ⟨e,h1,h2⟩ | ⟨h1,h2⟩
   ·rw [jJ,h1,h2]
   ·rw [jJ,h1,h2];exact ih (k+1) (by omega)
 intro k hk;exact key (n-k) k (by omega)
theorem ck {X E:Type} {round:X→Option (Sum X E)} (n:Nat) (st:Nat→X) {e:E} (VR:round (st n)=some (.inr e))
  (FY:∀k,k<n→round (st k)=some (.inl (st (k+1)))):aJ round (st 0)=some e:=
 sC st (fun _=>some e) ⟨e,VR,rfl⟩ (fun k hk=>.inr ⟨FY k hk,rfl⟩) 0 (Nat.zero_le _)
theorem dG {X E:Type} {round:X→Option (Sum X E)} (n:Nat) (I:Nat→X→Prop) (Q:E→Prop) (VR:∀x,I n x→∃e,round x=some (.inr e)∧Q e)
  (FY:∀k x,k<n→I k x→(∃e,round x=some (.inr e)∧Q e)∨(∃y,round x=some (.inl y)∧I (k+1) y)) {x:X} (h:I 0 x):∃e,aJ round x=some e∧Q e:=by
 have key:∀d k x,k+d=n→I k x→∃e,aJ round x=some e∧Q e:=by
  intro d
  induction d with
  |zero=>
   intro k x hk hI;have:k=n:=by omega
   subst this;obtain ⟨e,h1,h2⟩:=VR x hI;exact ⟨e,by rw [jJ,h1],h2⟩
  |succ d ih=>
   intro k x hk hI;rcases FY k x (by omega) hI with ⟨e,h1,h2⟩ | ⟨y,h1,h2⟩
   ·exact ⟨e,by rw [jJ,h1],h2⟩
   ·obtain ⟨e,h3,h4⟩:=ih (k+1) y (by omega) h2;exact ⟨e,by rw [jJ,h1];exact h3,h4⟩
 exact key n 0 x (by omega) h
theorem kD {A B C:Type} {a:A} {f:A→Option C} {g:B→Option C}:cg (some (.inl a)) f g=f a:=rfl
theorem VS {A B C:Type} {b:B} {f:A→Option C} {g:B→Option C}:cg (some (.inr b)) f g=g b:=rfl
theorem ak {p:Prop} [Decidable p] (h:p):decide p=true:=decide_eq_true h
theorem aq {p:Prop} [Decidable p] (h:¬p):decide p=false:=decide_eq_false h
theorem aF (k:Nat):Int.toNat ((k:Nat):Int)=k:=rfl
theorem fl {a b:Nat} (h:a<b):Nat.blt a b=true:=Nat.ble_eq_true_of_le h
theorem aT {a b:Nat} (h:a≤b):Nat.ble a b=true:=Nat.ble_eq_true_of_le h
theorem ax (k:Nat):decide ((0:Int)≤((k:Nat):Int))=true:=ak (by omega)
theorem aE {k n:Nat} (h:k<n):decide (((k:Nat):Int)<((n:Nat):Int))=true:=ak (by omega)
theorem aM (n:Nat):decide (((n:Nat):Int)<((n:Nat):Int))=false:=aq (by omega)
theorem aN {k:Nat} (h:k<4611686018427387904):IntKind.i64.wrap (((k:Nat):Int)+(1:Int))=(((k+1:Nat)):Int):=by
 rw [cD]<;>omega
theorem HE (bs:ByteArray):∀(d i:Nat) (r:List UInt8),bs.size-i=d→ByteArray.toList.loop bs i r=r.reverse++bs.data.toList.drop i
 |0,i,r,h=>by
  unfold ByteArray.toList.loop;rw [if_neg (by omega)];have:bs.data.toList.drop i=[]:=List.drop_of_length_le (by
   have:bs.data.toList.length=bs.size:=Array.length_toList;omega)
  rw [this,List.append_nil]
 |d+1,i,r,h=>by
  unfold ByteArray.toList.loop;have dM:i<bs.size:=by omega
  rw [if_pos dM,HE bs d (i+1) _ (by omega)];have VT:i<bs.data.toList.length:=by
   have:bs.data.toList.length=bs.size:=Array.length_toList;omega
  rw [List.reverse_cons,List.append_assoc,List.drop_eq_getElem_cons VT]
  congr 2
  simp [ByteArray.get!,dM]
theorem HF (bs:ByteArray):bs.toList=bs.data.toList:=by
 unfold ByteArray.toList;rw [HE bs _ 0 [] rfl];simp
theorem SP {a b:ByteArray}:wB a b=true↔a=b:=by
 unfold wB;rw [beq_iff_eq]
 constructor
 ·intro h;rw [HF,HF] at h;obtain ⟨⟨x⟩⟩:=a;obtain ⟨⟨y⟩⟩:=b;exact congrArg (fun l=>ByteArray.mk ⟨l⟩) h
 ·intro h;rw [h]
theorem PF (a:ByteArray):wB a a=true:=SP.2 rfl
def wl {α:Type} (f:α→Nat) (xs:List α):Nat:=xs.foldr (fun x n=>f x+n) 0
theorem LS {α:Type} (f:α→Nat):wl f []=0:=rfl
theorem sf {α:Type} (f:α→Nat) (x:α) (xs:List α):wl f (x::xs)=f x+wl f xs:=rfl
theorem HG {α:Type} (f:α→Nat) (xs ys:List α):wl f (xs++ys)=wl f xs+wl f ys:=by
 induction xs with
 |nil=>simp [wl]
 |cons x xs ih=>
  show f x+wl f (xs++ys)=f x+wl f xs+wl f ys;rw [ih];omega
theorem HH {α:Type} (f:α→Nat) (xs:List α):∀x∈xs,f x≤wl f xs:=by
 induction xs with
 |nil=>intro x h;cases h
 |cons y xs ih=>
  intro x h;show f x≤f y+wl f xs;rcases List.mem_cons.1 h with rfl | h
  ·omega
  ·have:=ih x h;omega
theorem nc {α:Type} (f:α→Nat) (h:∀x,f x=0) (xs:List α):wl f xs=0:=by
 induction xs with
 |nil=>rfl
 |cons y xs ih=>show f y+wl f xs=0;rw [h,ih]
theorem qj {X Y E F:Type} {r1:X→Option (Sum X E)} {r2:Y→Option (Sum Y F)} (n:Nat) (R:Nat→X→Y→Prop) (Q:E→F→Prop)
  (FY:∀k x y,k≤n→R k x y→(∃e f,r1 x=some (.inr e)∧r2 y=some (.inr f)∧Q e f)∨(k<n∧∃x' y',r1 x=some (.inl x')∧r2 y=some (.inl y')∧R (k+1) x' y')) {x:X} {y:Y} (h:R 0 x y) :
  ∃e f,aJ r1 x=some e∧aJ r2 y=some f∧Q e f:=by
 have key:∀d k x y,k+d=n→R k x y→∃e f,aJ r1 x=some e∧aJ r2 y=some f∧Q e f:=by
  intro d
  induction d with
  |zero=>
   intro k x y hk hR;rcases FY k x y (by omega) hR with ⟨e,f,h1,h2,h3⟩ | ⟨dM,_⟩
   ·exact ⟨e,f,by rw [jJ,h1],by rw [jJ,h2],h3⟩
   ·omega
  |succ d ih=>
   intro k x y hk hR;rcases FY k x y (by omega) hR with ⟨e,f,h1,h2,h3⟩ | ⟨_,x',y',h1,h2,h3⟩
   ·exact ⟨e,f,by rw [jJ,h1],by rw [jJ,h2],h3⟩
   ·obtain ⟨e,f,g1,g2,g3⟩:=ih (k+1) x' y' (by omega) h3;exact ⟨e,f,by rw [jJ,h1];exact g1,by rw [jJ,h2];exact g2,g3⟩
 exact key n 0 x y (by omega) h
end Go.TM
namespace Go.TM
open Go Go.RowKit
def uR (P:Program):Nat→RT→List Field→Bool
 |_,.nil,[]=>true
 |off,.cons t r,f::fs=>Nat.beq f.offset off&&((f.name != "_")&&(P.plainKey f.type&&(NB P f.type t&&uR P (off+1) r fs)))
 |_,_,_=>false
def ES (P:Program) (t:TypeId) (r:RT):Bool:=
 match P.underlying t with
 |some (.struct fs) => !P.stoodInHeld t&&(!P.eqGuardType P.depth t&&uR P 0 r fs.toList)
 |_=>false
def aah (P:Program) (t:Nat) (r:Rec):Bool := !r.eq||(match r.row with | some q=>ES P t q | none=>false)
theorem PG {P:Program} {c:Cz} {st:St} {w w':World} {t:TypeId} {ty:Ty} {d:Nat} {a b:CV} {x y:Value} {r:Bool} {q:RT} {l:List CV} (hk:NB P t ty=true) (hf:u0 (.cons ty q) (a::l)=true) (h:yc a b=some r) (hx:qd c st w a x) (hy:qd c st w b y) :
  (Op.equalIn (d+1) t x y).run P w'=.ok r w'∧u0 q l=true:=by
 cases ty with
 |sl _=>cases a<;>simp [u0] at hf
 |int k=>
  obtain ⟨e,he,h2⟩:=iC hk
  cases a<;>try (simp [u0] at hf;done)
  rename_i k1 n;simp only [u0,Bool.and_eq_true,decide_eq_true_eq] at hf
  cases b<;>try (simp [yc] at h;done)
  rename_i k2 m;simp only [yc] at h
  split at h
  ·rename_i Yl;subst Yl
   cases h
   cases e<;>simp at h2
   have hx:x=.int k1 n:=hx;have hy:y=.int k1 m:=hy;subst hx hy;refine ⟨?_,hf.2⟩;rw [run_equalIn_int w' d t k1 _ n m he]
   congr 1
  ·cases h
 |bool=>
  obtain ⟨e,he,h2⟩:=iC hk
  cases a<;>try (simp [u0] at hf;done)
  cases b<;>try (simp [yc] at h;done)
  rename_i p q';simp only [yc,Option.some.injEq] at h;subst h
  cases e<;>simp at h2
  have hx:x=.bool p:=hx;have hy:y=.bool q':=hy;subst hx hy;exact ⟨run_equalIn_bool' w' d t p q' he,hf⟩
 |str=>
  obtain ⟨e,he,h2⟩:=iC hk
  cases a<;>try (simp [u0] at hf;done)
  cases b<;>try (simp [yc] at h;done)
  rename_i p q';simp only [yc,Option.some.injEq] at h;subst h
  cases e<;>simp at h2
  have hx:x=.string p:=hx;have hy:y=.string q':=hy;subst hx hy;exact ⟨run_equalIn_string w' d t p q' he,hf⟩
theorem DE {P:Program} {c:Cz} {st:St} {w w':World} {d:Nat} {us vs:Array Value}:(fs:List Field)→(off:Nat)→(q:RT)→(l m:List CV)→{b:Bool}→uR P off q fs=true→u0 q l=true→p9 l m=some b→
  iQ c st w l (us.toList.drop off)→iQ c st w m (vs.toList.drop off)→(Op.eqFields (d+1) us vs fs).run P w'=.ok b w'
 | [],off,q,l,m,b,hf,rq,hc,hl,hm=>by
  cases q with
  |cons t r=>cases t<;>simp [uR] at hf
  |nil=>
   cases l with
   |cons _ _=>simp [u0] at rq
   |nil=>cases m with
    |cons _ _=>simp [p9] at hc
    |nil=>
     simp only [p9,Option.some.injEq] at hc;subst hc;simp [Op.eqFields]
 |f::fs,off,q,l,m,b,hf,rq,hc,hl,hm=>by
  cases q with
  |nil=>simp [uR] at hf
  |cons t r=>
   unfold uR at hf;rw [Bool.and_eq_true,Bool.and_eq_true,Bool.and_eq_true,Bool.and_eq_true] at hf;obtain ⟨h1,h2,h3,h4,h5⟩:=hf;have h1:=Nat.eq_of_beq_eq_true h1
   cases l with
   |nil=>cases t<;>simp [u0] at rq
   |cons x l=>cases m with
    |nil=>simp [p9] at hc
    |cons y m=>
     simp only [p9] at hc
     cases he:yc x y with
     |none=>simp [he] at hc
     |some b1=>
      cases hes:p9 l m with
      |none=>simp [he,hes] at hc
      |some b2=>
       simp only [he,hes,Option.some.injEq] at hc;subst hc;have YD:off<us.size:=by
        have:=hl.1;simp at this;omega
       have MM:off<vs.size:=by
        have:=hm.1;simp at this;omega
       have hdu:us.toList.drop off=us[off]::us.toList.drop (off+1):=by
        have:off<us.toList.length:=by simpa using YD
        rw [List.drop_eq_getElem_cons this];simp
       have hdv:vs.toList.drop off=vs[off]::vs.toList.drop (off+1):=by
        have:off<vs.toList.length:=by simpa using MM
        rw [List.drop_eq_getElem_cons this];simp
       rw [hdu] at hl;rw [hdv] at hm;have rx:=hl.2 0 x us[off] rfl rfl;have ry:=hm.2 0 y vs[off] rfl rfl;obtain ⟨k1,k2⟩:=PG (w':=w') (d:=d) h4 rq he rx ry;have rl:iQ c st w l (us.toList.drop (off+1)):=⟨by have:=hl.1;simpa using this,fun i a v ha hv=>hl.2 (i+1) a v (by simpa using ha) (by simpa using hv)⟩;have rm:iQ c st w m (vs.toList.drop (off+1)):=⟨by have:=hm.1;simpa using this,fun i a v ha hv=>hm.2 (i+1) a v (by simpa using ha) (by simpa using hv)⟩;have ih:=DE (w':=w') (d:=d) fs (off+1) r l m h5 k2 hes rl rm;unfold Op.eqFields;rw [if_pos (by simpa using h2)];have p1:(part f.type us f.offset).run P w'=.ok us[off] w':=run_part_plain w' h3 (by rw [h1];exact Array.getElem?_eq_getElem YD);have p2:(part f.type vs f.offset).run P w'=.ok vs[off] w':=run_part_plain w' h3 (by rw [h1];exact Array.getElem?_eq_getElem MM);simp only [Sem.run_bind,p1,p2,k1,Result.andThen_ok]
       cases b1
       ·simp
       ·simp [ih]
theorem PH {P:Program} {tr:Tr} (h:tr.all (aah P)=true):zZ P (mv tr):=by
 intro t ht c st w l m us vs b op ox oy rq hc hl hm w';have ht:(match tr.find t with | some r=>r.eq | none=>false)=true:=ht
 cases hf:tr.find t with
 |none=>rw [hf] at ht;cases ht
 |some r=>
  rw [hf] at ht;have ht:r.eq=true:=ht;have h1:=Tr.DC tr h hf;unfold aah at h1;rw [ht,Bool.not_true,Bool.false_or] at h1;unfold oU.fits at rq;have w6:(mv tr).row t=r.row:=by show (match tr.find t with | some r=>r.row | none=>none)=_;rw [hf]
  rw [w6] at rq
  cases hq:r.row with
  |none=>rw [hq] at h1;cases h1
  |some q=>
   rw [hq] at h1 rq;have h1:ES P t q=true:=h1;have rq:u0 q l=true:=rq;unfold ES at h1
   split at h1
   ·rename_i fs hu;rw [Bool.and_eq_true,Bool.and_eq_true,Bool.not_eq_true',Bool.not_eq_true'] at h1;have hfo:P.fieldsOf t=fs:=by unfold Program.fieldsOf;rw [hu]
    refine ⟨run_eqGuard_agg w' op t ox oy us vs h1.2.1,?_⟩;show (Op.equalIn (9999+1) t (.agg us) (.agg vs)).run P w'=.ok b w';rw [run_equalIn_struct w' 9999 t us vs (by rw [hfo];exact hu) h1.1,hfo];exact DE (d:=9998) fs.toList 0 q l m h1.2.2 rq hc (by simpa using hl) (by simpa using hm)
   ·cases h1
end Go.TM
namespace Go.TM
open Go Go.RowKit
def NH (n:Nat) (ps:List AP) (x:aO (aG (ps.map some))):St:=bR (start n ps x) (some 0) (.one .gw)
def Rx (n:Nat) (r:RT) (xs:List (aO r)) (ps:List AP) (x:aO (aG (ps.map some))):St:=bR (start n ps x) (some 0) (.one (.nn r xs))
theorem NI {P:Program} {tr:Tr} (hT:tr.all (zT P)=true) (hE:zZ P (mv tr)) (hm:P.follows .mixedOrders=true) {S:mW} (hS:oM P S) {D:nb} {f:FuncId} {fn:Func} {code:Code} {n:Nat} {r:RT} {qs:List AP} {rs:List RP}
  {L:pM (aO (ew rs (cG (.val false [.shr r]::qs))))} {t:aO (aG ((AP.val false [.shr r]::qs).map some))→Option (aO (ew rs (cG (.val false [.shr r]::qs))))}
  (hf:P.funcs[f]?=some fn) (hb:fn.body=some code) (sQ:fnB (mv tr) D fn code n (.val false [.shr r]::qs) rs=true) (ND:(fn.name == "runtime.NumGoroutine")=false)
  (hL:∀(w0:World) (mu:Mu) (y:aO (ew rs (cG (.val false [.shr r]::qs)))),pn (.val false [.shr r]::qs) mu→∀p∈fD code,pz P w0 mu n L y p.1 p.2)
  (VU:∀z,gR (mv tr) S D L code (NH n (.val false [.shr r]::qs) (([]:List (aO r)),z)) (EL rs (.val false [.shr r]::qs))=t (([]:List (aO r)),z))
  (hnn:∀x,gR (mv tr) S D L code (Rx n r x.1 (.val false [.shr r]::qs) x) (EL rs (.val false [.shr r]::qs))=t x):tS P f (o8 (.val false [.shr r]::qs) rs t):=by
 unfold fnB at sQ;rw [Bool.and_eq_true,Bool.and_eq_true,Bool.and_eq_true,Bool.and_eq_true] at sQ;obtain ⟨h1,h2,h3,h4,h5⟩:=sQ;refine ⟨Nv (kQ hT) hE hS hf hb (Nat.eq_of_beq_eq_true h1) (Nat.le_of_ble_eq_true h2) h3 (fun tm=>BJ tm _ _ h4) (fun w0 mu y hs=>ua code (hL w0 mu y hs))
  (fun w0 mu=>uQ (kQ hT) hE hm (qg (kQ hT) hE hS w0 mu n)) (wJ code h5) (fun w0 mu c a w x hR hn => ?_),fn,hf,ND,by rw [hb];rfl⟩
 have abt:0<n:=by
  have:=Nat.le_of_ble_eq_true h2;simp at this;omega
 have xD:=hR.jj 0;have hg:dN (start n (.val false [.shr r]::qs) x) 0=.one (.shr r x.1):=rfl;rw [hg] at xD;have GZ:ev w c.ok (.sl r) (a.eval (.tmp 0)) x.1:=xD;have h0:0<a.tmps.size:=by omega
 by_cases hv:a.eval (.tmp 0)=.slice none 0 0
 ·refine ⟨c,NH n (.val false [.shr r]::qs) x,?_,?_⟩
  ·have:=hR.bR (d:=some 0) (v:=.one .gw) (u:=a.eval (.tmp 0)) hv (fun k e=>by cases e;exact h0)
   rwa [Hc a 0 _ h0 rfl] at this
  ·have hx:x.1=([]:List (aO r)):=by
    rcases (rf _ _ _ _ _).1 GZ with ⟨_,h⟩ | ⟨_,_,h,_⟩
    ·exact h
    ·rw [hv] at h;cases h
   obtain ⟨x1,z⟩:=x;simp only at hx;subst hx;exact VU z
 ·refine ⟨c,Rx n r x.1 (.val false [.shr r]::qs) x,?_,hnn x⟩;have:=hR.bR (d:=some 0) (v:=.one (.nn r x.1)) (u:=a.eval (.tmp 0)) ⟨GZ,hv⟩ (fun k e=>by cases e;exact h0)
  rwa [Hc a 0 _ h0 rfl] at this
end Go.TM
namespace Go.TM
open Go Go.RowKit
section
variable {R:Type} (T:oU) (S:mW) (D:nb) (L:pM R)
noncomputable def HI:Nat→Code→St→(St→Option R)→(Ex→St→Option R)→Option R
 |0,_,st,g,_=>g st
 |n+1,.seq a b,st,g,k=>gR T S D L a st fun e bQ=>match e with
  |.normal=>HI n b bQ g k
  |e=>k e bQ
 |_,_,_,_,_=>none
end
def zU:Nat→Code→Code
 |0,c=>c
 |n+1,.seq _ b=>zU n b
 |_,_=>.skip
theorem ET {n:Nat}:(m:Nat)→(c:Code)→im n c=true→im n (zU m c)=true
 |0,_,h=>h
 |m+1,c,h=>by
  cases c with
  |seq a b=>
   unfold im at h;rw [Bool.and_eq_true] at h;exact ET m b h.2
  |_=>rfl
theorem AI {ok:Nat→Code→Prop}:(m:Nat)→(c:Code)→fO ok c→fO ok (zU m c)
 |0,_,h=>h
 |m+1,c,h=>by
  cases c with
  |seq a b=>exact AI m b h.2
  |_=>exact trivial
theorem Cs {ok:Nat→Array Oper→Prop}:(m:Nat)→(c:Code)→gj ok c→gj ok (zU m c)
 |0,_,h=>h
 |m+1,c,h=>by
  cases c with
  |seq a b=>exact Cs m b h.2
  |_=>exact trivial
theorem HJ {R:Type} {P:Program} {T:oU} {S:mW} {D:nb} {L:pM R} {w0:World} {mu:Mu} {n:Nat} {r:R} {ok:Nat→Array Oper→Prop} (I9:wG P T S w0 mu n) (hD:uN R P T S D w0 mu n ok)
  {k:Ex→St→Option R} {Q:Exit→Act→World→Prop} (hk:Ri w0 mu n r k Q) {g:St→Option R}:(m:Nat)→(cd:Code)→im n cd=true→fO (pz P w0 mu n L r) cd→gj ok cd→
  (∀ {c:Cz} {st:St} {a:Act} {w:World},Rel w0 mu c st a w→a.tmps.size=n→g st=some r→(zU m cd).wp P Q a w)→
  {c:Cz}→{st:St}→{a:Act}→{w:World}→Rel w0 mu c st a w→a.tmps.size=n→HI T S D L m cd st g k=some r→cd.wp P Q a w
 |0,cd,_,_,_,hg,c,st,a,w,h,hn,hv=>hg h hn hv
 |m+1,cd,hd,hL,hw,hg,c,st,a,w,h,hn,hv=>by
  cases cd with
  |seq x y=>
   have hv:(gR T S D L x st fun e bQ=>match e with
    |.normal=>HI T S D L m y bQ g k
    |e=>k e bQ)=some r:=hv
   unfold im at hd;rw [Bool.and_eq_true] at hd;refine wp_seq (Dk I9 hD x hd.1 hL.1 hw.1 (fun {e} {c} {st} {a} {w} h1 h2 h3 => ?_) h hn hv)
   cases e with
   |normal=>exact HJ I9 hD hk m y hd.2 hL.2 hw.2 hg h1 h2 h3
   |exit m=>exact hk h1 h2 h3
   |ret=>exact hk h1 h2 h3
  |_=>have hv:(none:Option R)=some r:=hv;cases hv
def ah8 {R:Type} (P:Program) (w0:World) (mu:Mu) (n:Nat) (k:Ex→St→Option R) (r:R) (b:Code) (hp:List (Option AP)) (g:aO (aG hp)→Option R):Prop:=
 ∀x,g x=some r→∀ {Q:Exit→Act→World→Prop},Ri w0 mu n r k Q→∀ {c:Cz} {a:Act} {w:World},Rel w0 mu c (pE hp x) a w→a.tmps.size=n→b.wp P Q a w
structure VV (tr:Tr) (S:mW) (D:nb) (n:Nat) (ps:List AP) {R:Type} (L:pM R) (k:Ex→St→Option R) (P:Program) (b:Code) (hp:List (Option AP)) (g:aO (aG hp)→Option R):Prop where
 ok:∀(w0:World) (mu:Mu) (r:R),pn ps mu→im n b=true→gj (fun id ops=>Hw ops (D id)=true) b→fO (pz P w0 mu n L r) b→ah8 P w0 mu n k r b hp g
theorem VW {P:Program} {tr:Tr} (hT:tr.all (zT P)=true) (hE:zZ P (mv tr)) (hm:P.follows .mixedOrders=true) {S:mW} (hS:oM P S) {D:nb} {n:Nat} {ps:List AP} {R:Type} {L:pM R} {k:Ex→St→Option R} {b:Code} {hp:List (Option AP)} {g:aO (aG hp)→Option R}
  (h:∀x,gR (mv tr) S D L b (pE hp x) k=g x):VV tr S D n ps L k P b hp g:=
 ⟨fun w0 mu _ _ hd hw hL x hx _ hk _ _ _ hr hn=>Dk (qg (kQ hT) hE hS w0 mu n) (uQ (kQ hT) hE hm (qg (kQ hT) hE hS w0 mu n)) b hd hL hw hk hr hn ((h x).trans hx)⟩
theorem YX {P:Program} {tr:Tr} (hT:tr.all (zT P)=true) (hE:zZ P (mv tr)) (hm:P.follows .mixedOrders=true) {S:mW} (hS:oM P S) {D:nb} {n:Nat} {ps:List AP} {R:Type} {L:pM R} {k:Ex→St→Option R} {b b':Code} {hp lP:List (Option AP)} {g:aO (aG hp)→Option R} {g':aO (aG lP)→Option R} {m:Nat}
  (hb:zU m b=b') (rq:iq ps lP=true) (h:∀x,HI (mv tr) S D L m b (pE hp x) (fun st=>(Dy st lP).bind g') k=g x) (hs:VV tr S D n ps L k P b' lP g'):VV tr S D n ps L k P b hp g:=
 ⟨fun w0 mu r hsh hd hw hL x hx Q hk c a w hr hn=>HJ (qg (kQ hT) hE hS w0 mu n) (uQ (kQ hT) hE hm (qg (kQ hT) hE hS w0 mu n)) hk m b hd hL hw (fun {c} {st} {a} {w} h1 h2 h3=>by
  obtain ⟨y,hy,h4⟩:=Option.bind_eq_some_iff.1 h3;obtain ⟨c',h5⟩:=EN h1 hsh rq hy;rw [hb];exact hs.ok w0 mu r hsh (hb▸ET m b hd) (hb▸Cs m b hw) (hb▸AI m b hL) y h4 hk h5 h2) hr hn ((h x).trans hx)⟩
theorem NJ {P:Program} {tr:Tr} (hT:tr.all (zT P)=true) (hE:zZ P (mv tr)) (hm:P.follows .mixedOrders=true) {S:mW} (hS:oM P S) {D:nb} {f:FuncId} {fn:Func} {code b':Code} {n m:Nat} {ps:List AP} {rs:List RP}
  {L:pM (aO (ew rs (cG ps)))} {t:aO (aG (ps.map some))→Option (aO (ew rs (cG ps)))} {lP:List (Option AP)} {g':aO (aG lP)→Option (aO (ew rs (cG ps)))}
  (hf:P.funcs[f]?=some fn) (hb:fn.body=some code) (sQ:fnB (mv tr) D fn code n ps rs=true) (ND:(fn.name == "runtime.NumGoroutine")=false)
  (hL:∀(w0:World) (mu:Mu) (y:aO (ew rs (cG ps))),pn ps mu→∀p∈fD code,pz P w0 mu n L y p.1 p.2)
  (hr:zU m code=b') (rq:iq ps lP=true) (Pz:∀x,HI (mv tr) S D L m code (start n ps x) (fun st=>(Dy st lP).bind g') (EL rs ps)=t x)
  (hs:VV tr S D n ps L (EL rs ps) P b' lP g'):tS P f (o8 ps rs t):=by
 unfold fnB at sQ;rw [Bool.and_eq_true,Bool.and_eq_true,Bool.and_eq_true,Bool.and_eq_true] at sQ;obtain ⟨h1,h2,h3,h4,h5⟩:=sQ;refine ⟨fun c w mu lc ga args A y hH hA mY ho => ?_,fn,hf,ND,by rw [hb];rfl⟩;unfold o8 at mY
 cases hx:ib ps ga with
 |none=>rw [hx] at mY;cases mY
 |some x=>
  rw [hx] at mY;simp only [Option.some.injEq] at mY;subst mY;have GN:t x=some y:=ho;obtain ⟨GM,c',hmm,iP,Hu,Rs,Ht,SF,hR⟩:=Nu hH hA hx (Nat.le_of_ble_eq_true h2);refine calls_of_wp hf hb ?_;have hn:=Nat.eq_of_beq_eq_true h1;rw [hn];have py:(args++Array.replicate (n-args.size) undef).size=n:=by
   have:args.size≤n:=by
    have h6:=Nat.le_of_ble_eq_true h2;have h7:=(BG ps 0 ga args.toList hx hA).2.1;simp at h7;omega
   simp;omega
  have hlp:=ua code (hL w GM y Hu);have hdr:=wJ code h5;refine HJ (qg (kQ hT) hE hS w GM n) (uQ (kQ hT) hE hm (qg (kQ hT) hE hS w GM n)) (k:=EL rs ps) (r:=y) (fun {e} {c1} {G3} {a1} {w1} q1 q2 q3 => ?_) m code h3 hlp hdr (fun {c1} {G3} {a1} {w1} q1 q2 q3 => ?_) hR py ((Pz x).trans GN)
  ·obtain ⟨he,v,ve,c2,MP,hV,hX⟩:=Py (P:=P) (kQ hT) hmm iP q1 (BJ a1.tmps _ _ h4) SF.symm (by rw [←Ht];simp) Rs q3;have Hm:a1.defers=[]∧∃v,(results fn a1.tmps).run P w1=.ok v w1∧(∃v',Ending.returned v=.returned v'∧∃c',FN w mu c' w1∧vh c' w1 (iR rs (cG ps) y).1 v'∧kC c' w1 lc 0 ga args.toList (pD ps (iR rs (cG ps) y).2)):=
    ⟨q1.plain,v,ve,v,rfl,c2,MP,hV,hX⟩
   rcases he with rfl | rfl<;>exact Hm
  ·obtain ⟨z,hz,q4⟩:=Option.bind_eq_some_iff.1 q3;obtain ⟨c2,q5⟩:=EN q1 Hu rq hz;rw [hr];refine hs.ok w GM y Hu (hr▸ET m code h3) (hr▸Cs m code hdr) (hr▸AI m code hlp) z q4 (fun {e} {c1} {G3} {a1} {w1} q1 q2 q3 => ?_) q5 q2;obtain ⟨he,v,ve,c2,MP,hV,hX⟩:=Py (P:=P) (kQ hT) hmm iP q1 (BJ a1.tmps _ _ h4) SF.symm (by rw [←Ht];simp) Rs q3;have Hm:a1.defers=[]∧∃v,(results fn a1.tmps).run P w1=.ok v w1∧(∃v',Ending.returned v=.returned v'∧∃c',FN w mu c' w1∧vh c' w1 (iR rs (cG ps) y).1 v'∧kC c' w1 lc 0 ga args.toList (pD ps (iR rs (cG ps) y).2)):=
    ⟨q1.plain,v,ve,v,rfl,c2,MP,hV,hX⟩
   rcases he with rfl | rfl<;>exact Hm
end Go.TM
namespace Go.TM
open Go Go.RowKit
noncomputable section
structure TK (P:Program) where
 tr:Tr
 hT:tr.all (zT P)=true
 hE:zZ P (mv tr)
 hm:P.follows .mixedOrders=true
structure KF (P:Program) where
 f:FuncId
 m:Pm×Pm×Pm
 Gs:Al
 ok:tS P f Gs
def KF.sl {P:Program} (k:KF P):Nat×(Pm×Pm×Pm×Al):=(k.f,(k.m.1,k.m.2.1,k.m.2.2,k.Gs))
def abu {P:Program}:List (KF P)→abq
 | []=>[]
 |k::l=>k.sl::abu l
theorem HK {P:Program}:(l:List (KF P))→oM P (Cr (abu l))
 | []=>VQ
 |k::l=>SL k.ok (HK l)
def kw {P:Program} {f:FuncId} {s:Al} (h:tS P f s):KF P:=⟨f,(.shr,.shr,.shr),s,h⟩
def kv {P:Program} (m:Pm×Pm×Pm) {f:FuncId} {s:Al} (h:tS P f s):KF P:=⟨f,m,s,h⟩
structure LD where
 i:Nat
 b:Code
 hp:List (Option AP)
 e:List (Option AP)
 q:List (Option AP)
 r:aO (aG hp)→Option (Sum (aO (aG hp)) (Sum (aO (aG e)) (aO (aG q))))
def LD.Ok (l:LD) (P:Program) (n:Nat) (ps:List AP):Prop:=
 ∀ {R:Type} (L:pM R) (y:R) (w0:World) (mu:Mu),(∀st k,L l.i l.b st k=EP l.hp l.e l.q l.r st k)→pn ps mu→pz P w0 mu n L y l.i l.b
structure KLs (P:Program) (n:Nat) (ps:List AP) where
 d:LD
 ok:d.Ok P n ps
def oC {P:Program} {n:Nat} {ps:List AP} {R:Type}:List (KLs P n ps)→pM R
 | []=>noL
 |l::ls=>fun id b st k=>bif Nat.beq id l.d.i then EP l.d.hp l.d.e l.d.q l.d.r st k else oC ls id b st k
def HL {P:Program} {n:Nat} {ps:List AP}:List (KLs P n ps)→List (Nat×Code)
 | []=>[]
 |l::ls=>(l.d.i,l.d.b)::HL ls
def NK {P:Program} {n:Nat} {ps:List AP}:List (KLs P n ps)→Bool
 | []=>true
 |l::ls=>ls.all (fun m => !Nat.beq m.d.i l.d.i)&&NK ls
theorem VX {P:Program} {n:Nat} {ps:List AP} {R:Type}:(ls:List (KLs P n ps))→NK ls=true→∀l∈ls,∀st (k:Ex→St→Option R),oC ls l.d.i l.d.b st k=EP l.d.hp l.d.e l.d.q l.d.r st k
 | [],_,l,h=>by cases h
 |m::ls,hb,l,h=>by
  intro st k;unfold NK at hb;rw [Bool.and_eq_true] at hb;rcases List.mem_cons.1 h with rfl | h
  ·show (bif Nat.beq l.d.i l.d.i then _ else _)=_;rw [Nat.beq_refl];rfl
  ·show (bif Nat.beq l.d.i m.d.i then _ else oC ls l.d.i l.d.b st k)=_;have:=List.all_eq_true.1 hb.1 l h;rw [Bool.not_eq_true'] at this;rw [this];exact VX ls hb.2 l h st k
theorem Ry {P:Program} {n:Nat} {ps:List AP}:(ls:List (KLs P n ps))→∀p∈HL ls,∃l∈ls,p=(l.d.i,l.d.b)
 | [],p,h=>by cases h
 |m::ls,p,h=>by
  rcases List.mem_cons.1 h with rfl | h
  ·exact ⟨m,List.mem_cons_self,rfl⟩
  ·obtain ⟨l,h1,h2⟩:=Ry ls p h;exact ⟨l,List.mem_cons_of_mem _ h1,h2⟩
theorem LU {P:Program} {n:Nat} {ps:List AP} {R:Type} {ls:List (KLs P n ps)} (hb:NK ls=true) {c:Code} (hc:fD c=HL ls) (y:R) (w0:World) (mu:Mu) (hs:pn ps mu):∀p∈fD c,pz P w0 mu n (oC ls) y p.1 p.2:=by
 rw [hc];intro p hp;obtain ⟨l,hl,rfl⟩:=Ry ls p hp;exact l.ok (oC ls) y w0 mu (VX ls hb l hl) hs
structure FC (P:Program) where
 t:TK P
 l:List (KF P)
 D:nb
 fn:Func
 ps:List AP
abbrev FC.code {P:Program} (F:FC P):Code:=VP F.fn
abbrev FC.S {P:Program} (F:FC P):mW:=Cr (abu F.l)
abbrev FC.T {P:Program} (F:FC P):oU:=mv F.t.tr
abbrev FC.KL {P:Program} (F:FC P):Type:=KLs P F.fn.ntmps F.ps
abbrev FC.Ok {P:Program} (F:FC P) (l:LD):Prop:=l.Ok P F.fn.ntmps F.ps
abbrev FC.fin {P:Program} (F:FC P) (rs:List RP):Ex→St→Option (aO (ew rs (cG F.ps))):=EL rs F.ps
def FC.lp {P:Program} (F:FC P) (j:Nat):Code:=BI F.code j
theorem FC.kl {P:Program} (F:FC P) {l:LD} (ls:List F.KL) (h1:(Kb F.D F.ps l.hp l.e l.q F.fn.ntmps l.b&&NK ls)=true) (h2:fD l.b=HL ls)
  (ht:∀x,gR F.T F.S F.D (oC ls) l.b (pE l.hp x) (EO l.i l.hp l.e l.q)=l.r x):F.Ok l:=by
 rw [Bool.and_eq_true] at h1;exact fun _ _ w0 mu hL hs=>SM F.t.hT F.t.hE F.t.hm (HK F.l) hs h1.1 (fun z=>LU h1.2 h2 z w0 mu hs) ht hL
theorem FC.l9 {P:Program} (F:FC P) {l:LD} (h:∀x,(Kb F.D F.ps l.hp l.e l.q F.fn.ntmps l.b&&(fD l.b).isEmpty,gR F.T F.S F.D noL l.b (pE l.hp x) (EO l.i l.hp l.e l.q))=(true,l.r x)):F.Ok l:=by
 have h1:=congrArg Prod.fst (h (Ak _));have h1:(Kb F.D F.ps l.hp l.e l.q F.fn.ntmps l.b&&(fD l.b).isEmpty)=true:=h1;rw [Bool.and_eq_true] at h1;have ht:∀x,gR F.T F.S F.D noL l.b (pE l.hp x) (EO l.i l.hp l.e l.q)=l.r x:=fun x=>congrArg Prod.snd (h x)
 have g:F.Ok l:=F.kl [] (by rw [h1.1];rfl) (List.isEmpty_iff.1 h1.2) ht;exact @g
abbrev FC.am1 {P:Program} (F:FC P) (rs:List RP) (t:YU (aG (F.ps.map some)) (Option (aO (ew rs (cG F.ps))))):Al:=o8 F.ps rs (nr (aG (F.ps.map some)) t)
abbrev FC.Kn {P:Program} (F:FC P) (rs:List RP) (f:FuncId) (t:YU (aG (F.ps.map some)) (Option (aO (ew rs (cG F.ps))))):Prop:=tS P f (F.am1 rs t)
def FC.chk {P:Program} (F:FC P) (rs:List RP):Bool:=F.fn.body.isSome&&(fnB F.T F.D F.fn F.code F.fn.ntmps F.ps rs && !(F.fn.name == "runtime.NumGoroutine"))
theorem FC.PI {P:Program} {F:FC P} {rs:List RP} (h:F.chk rs=true):F.fn.body=some F.code∧fnB F.T F.D F.fn F.code F.fn.ntmps F.ps rs=true∧(F.fn.name == "runtime.NumGoroutine")=false:=by
 unfold FC.chk at h;rw [Bool.and_eq_true,Bool.and_eq_true,Bool.not_eq_true'] at h;obtain ⟨h1,h2,h3⟩:=h;refine ⟨?_,h2,h3⟩;obtain ⟨c,hc⟩:=Option.isSome_iff_exists.1 h1;unfold FC.code VP;rw [hc]
theorem FC.kf {P:Program} (F:FC P) {rs:List RP} {f:FuncId} {t:YU (aG (F.ps.map some)) (Option (aO (ew rs (cG F.ps))))} (ls:List F.KL) (hf:P.funcs[f]?=some F.fn) (h1:(F.chk rs&&NK ls)=true) (h2:fD F.code=HL ls)
  (ht:∀x,gR F.T F.S F.D (oC ls) F.code (start F.fn.ntmps F.ps x) (F.fin rs)=nr (aG (F.ps.map some)) t x):F.Kn rs f t:=by
 rw [Bool.and_eq_true] at h1;obtain ⟨hb,hc,hn⟩:=F.PI h1.1;exact YV F.t.hT F.t.hE F.t.hm (HK F.l) (D:=F.D) (L:=oC ls) hf hb hc hn (fun w0 mu y hs=>LU h1.2 h2 y w0 mu hs) ht
theorem FC.nC {P:Program} (F:FC P) {rs:List RP} {f:FuncId} {t:YU (aG (F.ps.map some)) (Option (aO (ew rs (cG F.ps))))} (hf:P.funcs[f]?=some F.fn)
  (h:∀x,(F.chk rs&&(fD F.code).isEmpty,gR F.T F.S F.D noL F.code (start F.fn.ntmps F.ps x) (F.fin rs))=(true,nr (aG (F.ps.map some)) t x)):F.Kn rs f t:=by
 have h1:=congrArg Prod.fst (h (Ak _));have h1:(F.chk rs&&(fD F.code).isEmpty)=true:=h1;rw [Bool.and_eq_true] at h1;exact F.kf [] hf (by rw [h1.1];rfl) (List.isEmpty_iff.1 h1.2) fun x=>congrArg Prod.snd (h x)
theorem FC.Ym {P:Program} (F:FC P) {rs:List RP} {f:FuncId} {t:YU (aG (F.ps.map some)) (Option (aO (ew rs (cG F.ps))))} (hf:P.funcs[f]?=some F.fn) (h1:(F.chk rs&&(fD F.code).isEmpty)=true)
  (ht:∀x,gR F.T F.S F.D noL F.code (start F.fn.ntmps F.ps x) (F.fin rs)=nr (aG (F.ps.map some)) t x):F.Kn rs f t:=by
 rw [Bool.and_eq_true] at h1;exact F.kf [] hf (by rw [h1.1];rfl) (List.isEmpty_iff.1 h1.2) ht
theorem FC.kl1 {P:Program} (F:FC P) {l:LD} (h1:(Kb F.D F.ps l.hp l.e l.q F.fn.ntmps l.b&&(fD l.b).isEmpty)=true)
  (ht:∀x,gR F.T F.S F.D noL l.b (pE l.hp x) (EO l.i l.hp l.e l.q)=l.r x):F.Ok l:=by
 rw [Bool.and_eq_true] at h1;have g:F.Ok l:=F.kl [] (by rw [h1.1];rfl) (List.isEmpty_iff.1 h1.2) ht;exact @g
theorem FC.kfn {P:Program} (F:FC P) {rs:List RP} {f:FuncId} {t:YU (aG (F.ps.map some)) (Option (aO (ew rs (cG F.ps))))} (ls:List F.KL) (hf:P.funcs[f]?=some F.fn) (r:RT) (qs:List AP) (hq:F.ps=.val false [.shr r]::qs) (h1:(F.chk rs&&NK ls)=true) (h2:fD F.code=HL ls)
  (h4:∀x,gR F.T F.S F.D (oC ls) F.code (bR (start F.fn.ntmps F.ps (hq▸(([]:List (aO r)),x))) (some 0) (.one .gw)) (F.fin rs)=nr (aG (F.ps.map some)) t (hq▸(([]:List (aO r)),x)))
  (h5:∀x,gR F.T F.S F.D (oC ls) F.code (bR (start F.fn.ntmps F.ps (hq▸x)) (some 0) (.one (.nn r x.1))) (F.fin rs)=nr (aG (F.ps.map some)) t (hq▸x)):F.Kn rs f t:=by
 rw [Bool.and_eq_true] at h1;obtain ⟨hb,hc,hn⟩:=F.PI h1.1;obtain ⟨tt,l,D,fn,ps⟩:=F;simp only at hq;subst hq;exact NI tt.hT tt.hE tt.hm (HK l) (D:=D) (L:=oC ls) hf hb hc hn (fun w0 mu y hs=>LU h1.2 h2 y w0 mu hs) h4 h5
theorem FC.ah9 {P:Program} (F:FC P) (ls:List F.KL) {R:Type} {k:Ex→St→Option R} {b:Code} {hp:List (Option AP)} {g:aO (aG hp)→Option R} (h:∀x,gR F.T F.S F.D (oC ls) b (pE hp x) k=g x):VV F.t.tr F.S F.D F.fn.ntmps F.ps (oC ls) k P b hp g:=
 VW F.t.hT F.t.hE F.t.hm (HK F.l) h
theorem FC.aaj {P:Program} (F:FC P) (ls:List F.KL) {R:Type} {k:Ex→St→Option R} {b b':Code} {hp lP:List (Option AP)} {g:aO (aG hp)→Option R} {g':aO (aG lP)→Option R} (m:Nat) (hs:VV F.t.tr F.S F.D F.fn.ntmps F.ps (oC ls) k P b' lP g')
  (hb:zU m b=b') (rq:iq F.ps lP=true) (h:∀x,HI F.T F.S F.D (oC ls) m b (pE hp x) (fun st=>(Dy st lP).bind g') k=g x):VV F.t.tr F.S F.D F.fn.ntmps F.ps (oC ls) k P b hp g:=
 YX F.t.hT F.t.hE F.t.hm (HK F.l) hb rq h hs
theorem FC.am3 {P:Program} (F:FC P) (ls:List F.KL) {rs:List RP} {f:FuncId} {t:YU (aG (F.ps.map some)) (Option (aO (ew rs (cG F.ps))))} (hf:P.funcs[f]?=some F.fn) (m:Nat) {b':Code} {lP:List (Option AP)} {g':aO (aG lP)→Option (aO (ew rs (cG F.ps)))} (hs:VV F.t.tr F.S F.D F.fn.ntmps F.ps (oC ls) (F.fin rs) P b' lP g')
  (h1:(F.chk rs&&(NK ls&&iq F.ps lP))=true) (h2:fD F.code=HL ls) (hr:zU m F.code=b') (ht:∀x,HI F.T F.S F.D (oC ls) m F.code (start F.fn.ntmps F.ps x) (fun st=>(Dy st lP).bind g') (F.fin rs)=nr (aG (F.ps.map some)) t x):F.Kn rs f t:=by
 rw [Bool.and_eq_true,Bool.and_eq_true] at h1;obtain ⟨hb,hc,hn⟩:=F.PI h1.1;exact NJ F.t.hT F.t.hE F.t.hm (HK F.l) (D:=F.D) (L:=oC ls) hf hb hc hn (fun w0 mu y hs=>LU h1.2.1 h2 y w0 mu hs) hr h1.2.2 ht hs
def sp:List (Nat×AP)→Nat→List (Option AP)
 | [],k=>nn k
 |(g,p)::l,k=>nn g++some p::sp l k
abbrev vl (l:List OP):AP:=.val false l
abbrev va (l:List OP):AP:=.val true l
abbrev Pl.a (i:Nat) (p:Pl):Pl:=.op i .any p
abbrev Pl.t (i:Nat) (p:Pl):Pl:=.op i .take p
abbrev Pl.o (i:Nat) (p:Pl):Pl:=.op i .one p
abbrev Pl.l (i:Nat) (p:Pl):Pl:=.op i .last p
def dr (i:Nat) (p:Pl) (D:nb:=ik):nb:=fun id=>bif Nat.beq id i then p else D id
end
end Go.TM
namespace Go.TM
open Go Go.RowKit
noncomputable section
end
end Go.TM
