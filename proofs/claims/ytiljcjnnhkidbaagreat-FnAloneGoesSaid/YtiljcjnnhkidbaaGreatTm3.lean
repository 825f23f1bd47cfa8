/- A machine over trees: an evaluator of the code, and that what it finds is so; part 3. -/
import Derived.Test.YtiljcjnnhkidbaaGreatTm2
import Derived.Laws.Sem
import Derived.Deep.LoopGhost
import Derived.OrdersHeld
import Derived.KernelRfl
import Derived.Carry
import Derived.ChangeArms
import Derived.ChangeOld
import Derived.OpenShut
import Derived.Laws.StructEq
import Derived.ChangeKeysEq
set_option linter.unusedSimpArgs false
set_option linter.unusedVariables false
namespace Go.TM
open Go Go.RowKit
inductive Src where
 |tmp (t:Nat)
 |cell (t:Nat)
 |ptr (t:Nat)  -- Sh struct behind a pointer,atq is nu back
structure RP where
 src:Src
 agg:Bool
 ps:List OP
def ew:List RP→RT→RT
 | [],t=>t
 |r::rs,t=>pb r.ps (ew rs t)
def vu:List OP→RT→RT
 | [],t=>t
 |.own r _::ps,t=>.cons (.sl r) (vu ps t)
 |.int _::ps,t=>vu ps t
 |.bool::ps,t=>vu ps t
 |.str::ps,t=>vu ps t
 |.shr _::ps,t=>vu ps t
 |.oZ _::ps,t=>vu ps t
 |.fn _ _::ps,t=>vu ps t
def cF:List AP→RT
 | []=>.nil
 |.val _ _::l=>cF l
 |.io r _::l=>.cons (.sl r) (cF l)
 |.box _ ps::l=>pb ps (cF l)
 |.dR ps::l=>vu ps (cF l)
def RP.cells (st:St) (r:RP):Option (List CV):=
 match r.src with
 |.tmp t=>match dI st t with
  |.agg cs=>bif r.agg then some cs else none
  |.one c=>bif r.agg then none else some [c]
  |.qd _=>none
 |.cell t=>match dI st t with
  |.one (.ptr b g off)=>bif Nat.beq off 0 then fM st b g else none
  |_=>none
 |.ptr t=>match dI st t with
  |.one (.ptr b g off)=>bif Nat.beq off 0 then fM st b g else none
  |_=>none
def RP.lab (st:St) (r:RP):List (Option Lb):=
 match r.src with
 |.ptr t=>(match dI st t with | .one (.ptr b _ _)=>[some (.box b)] | _=>[])
 |_=>[]
def Hy (st:St):(rs:List RP)→(t:RT)→aO t→Option (aO (ew rs t)×List (Option Lb)×List (Nat×Nat))
 | [],_,y=>some (y,[],[])
 |r::rs,t,y=>(r.cells st).bind fun cs=>(Hy st rs t y).bind fun q=>(nw st r.ps (ew rs t) cs q.1).map fun p=>(p.1,r.lab st++(p.2.1++q.2.1),p.2.2++q.2.2)
def pc (st:St) (i:Nat):(j:Nat)→(ps:List OP)→(t:RT)→aO t→Option (aO (vu ps t)×List Lb)
 |_,[],_,y=>some (y,[])
 |j,.own r d::ps,t,y=>(pc st i (j+1) ps t y).bind fun q=>(cE st i j 1).bind fun A=>bif A.own&&A.md.is d then (ef r A.xs).map fun xs=>((xs,q.1),.sp i j::q.2) else none
 |j,.int _::ps,t,y=>pc st i (j+1) ps t y
 |j,.bool::ps,t,y=>pc st i (j+1) ps t y
 |j,.str::ps,t,y=>pc st i (j+1) ps t y
 |j,.shr _::ps,t,y=>pc st i (j+1) ps t y
 |j,.oZ _::ps,t,y=>pc st i (j+1) ps t y
 |j,.fn _ _::ps,t,y=>pc st i (j+1) ps t y
def xk (st:St):(i:Nat)→(ps:List AP)→Option (aO (cF ps)×List Lb×List (Nat×Nat))
 |_,[]=>some ((),[],[])
 |i,.val _ _::l=>xk st (i+1) l
 |i,.io r d::l=>(xk st (i+1) l).bind fun q=>(FU st i (.io r d) (cF l) (.one (.ref i 0 1 .full)) q.1).map fun p=>(p.1,p.2.1++q.2.1,p.2.2++q.2.2)
 |i,.box _ ps::l=>(xk st (i+1) l).bind fun q=>(FU st i (.box true ps) (cF l) (.one (.ptr i 1 0)) q.1).map fun p=>(p.1,p.2.1++q.2.1,p.2.2++q.2.2)
 |i,.dR ps::l=>(xk st (i+1) l).bind fun q=>(pc st i 0 ps (cF l) q.1).map fun p=>(p.1,p.2++q.2.1,q.2.2)
def ER (rs:List RP) (ps:List AP):Ex→St→Option (aO (ew rs (cF ps)))
 |.exit _,_=>none
 |_,st=>(xk st 0 ps).bind fun x=>(Hy st rs (cF ps) x.1).bind fun q=>bif yo (dJ q.2.1++x.2.1)&&apart (dJ q.2.1++x.2.1) (q.2.2++x.2.2) then some q.1 else none
def RP.rv (r:RP) (os:List OV):RV:=
 match r.src with
 |.ptr _=>.ptr os
 |_=>match r.agg,os with
  |false,[o]=>.one o
  |_,os=>.agg os
def iP:(rs:List RP)→(t:RT)→aO (ew rs t)→List RV×aO t
 | [],_,x=>([],x)
 |r::rs,t,x=>(r.rv (fC r.ps (ew rs t) x).1::(iP rs t (fC r.ps (ew rs t) x).2).1,(iP rs t (fC r.ps (ew rs t) x).2).2)
def pW:(ps:List OP)→(t:RT)→aO (vu ps t)→List (Option ns)×aO t
 | [],_,x=>([],x)
 |.own r d::ps,t,x=>(some { r:=r,own:=true,xs:=x.1,md:=d }::(pW ps t x.2).1,(pW ps t x.2).2)
 |.int _::ps,t,x=>(none::(pW ps t x).1,(pW ps t x).2)
 |.bool::ps,t,x=>(none::(pW ps t x).1,(pW ps t x).2)
 |.str::ps,t,x=>(none::(pW ps t x).1,(pW ps t x).2)
 |.shr _::ps,t,x=>(none::(pW ps t x).1,(pW ps t x).2)
 |.oZ _::ps,t,x=>(none::(pW ps t x).1,(pW ps t x).2)
 |.fn _ _::ps,t,x=>(none::(pW ps t x).1,(pW ps t x).2)
def pJ:(ps:List AP)→aO (cF ps)→List XV
 | [],_=>[]
 |.val _ _::l,x=>pJ l x
 |.io r d::l,x=>.io { r:=r,own:=true,xs:=x.1,md:=d }::pJ l x.2
 |.box _ ps::l,x=>.box (fC ps (cF l) x).1::pJ l (fC ps (cF l) x).2
 |.dR ps::l,x=>.dR (pW ps (cF l) x).1::pJ l (pW ps (cF l) x).2
def pe (ps:List AP) (rs:List RP) (t:aO (aH (ps.map some))→Option (aO (ew rs (cF ps)))):Ap:=fun fS=>
 match ib ps fS with
 |some x=>some { r:=ew rs (cF ps),o:=t x,res:=fun y=>{ outs:=(iP rs (cF ps) y).1,exts:=pJ ps (iP rs (cF ps) y).2 } }
 |none=>none
theorem lP {st:St} {i:Nat}:(ps:List OP)→(j:Nat)→(t:RT)→(y:aO t)→{x:aO (vu ps t)}→{u:List Lb}→pc st i j ps t y=some (x,u)→(pW ps t x).2=y∧(∀l∈u,∃k,l=.sp i k)∧
  ∀(k:Nat) (r:RT) (d:Md),ps[k]?=some (.own r d)→∃A xs,cE st i (j+k) 1=some A∧A.own=true∧A.md=d∧ef r A.xs=some xs∧nth (pW ps t x).1 k=some (some { r:=r,own:=true,xs:=xs,md:=d })∧.sp i (j+k)∈u
 | [],j,t,y,x,u,h=>by
  injection h with h;injection h with e1 e2;subst e1 e2;exact ⟨rfl,by simp,fun k r d hk=>by simp at hk⟩
 |.own r d::ps,j,t,y,x,u,h=>by
  unfold pc at h;obtain ⟨q,hq,h⟩:=Option.bind_eq_some_iff.1 h;obtain ⟨A,hA,h⟩:=Option.bind_eq_some_iff.1 h;obtain ⟨ho,h⟩:=bI h;rw [Bool.and_eq_true] at ho;obtain ⟨xs,hxs,h⟩:=Option.map_eq_some_iff.1 h;injection h with e1 e2;subst e1 e2;obtain ⟨z,us⟩:=q;obtain ⟨g1,g2,g3⟩:=lP ps (j+1) t y hq;refine ⟨g1,fun l hl => ?_,fun k r' d' hk => ?_⟩
  ·rcases List.mem_cons.1 hl with rfl | hl
   ·exact ⟨j,rfl⟩
   ·exact g2 l hl
  ·cases k with
   |zero=>
    simp only [List.getElem?_cons_zero,Option.some.injEq,OP.own.injEq] at hk;obtain ⟨rfl,_⟩:=hk;exact ⟨A,xs,hA,ho.1,Md.xe.1 ho.2,hxs,rfl,List.mem_cons_self⟩
   |succ k=>
    obtain ⟨A',xs',k1,k2,kd,k3,k4,k5⟩:=g3 k r' d' (by simpa using hk);rw [show j+1+k=j+(k+1) by omega] at k1 k5;exact ⟨A',xs',k1,k2,kd,k3,k4,List.mem_cons_of_mem _ k5⟩
 |.int _::ps,j,t,y,x,u,h=>mH (lP ps (j+1) t y h) (by simp) (fun k=>rfl)
 |.bool::ps,j,t,y,x,u,h=>mH (lP ps (j+1) t y h) (by simp) (fun k=>rfl)
 |.str::ps,j,t,y,x,u,h=>mH (lP ps (j+1) t y h) (by simp) (fun k=>rfl)
 |.shr _::ps,j,t,y,x,u,h=>mH (lP ps (j+1) t y h) (by simp) (fun k=>rfl)
 |.oZ _::ps,j,t,y,x,u,h=>mH (lP ps (j+1) t y h) (by simp) (fun k=>rfl)
 |.fn _ _::ps,j,t,y,x,u,h=>mH (lP ps (j+1) t y h) (by simp) (fun k=>rfl)
where
 mH {st:St} {i j:Nat} {p:OP} {ps:List OP} {D:Type} {y z:D} {L L':List (Option ns)} {u:List Lb} (h:z=y∧(∀l∈u,∃k,l=.sp i k)∧∀(k:Nat) (r:RT) (d:Md),ps[k]?=some (.own r d)→∃A xs,cE st i (j+1+k) 1=some A∧A.own=true∧A.md=d∧ef r A.xs=some xs∧nth L k=some (some { r:=r,own:=true,xs:=xs,md:=d })∧.sp i (j+1+k)∈u)
   (hp:∀r d,p≠.own r d) (hL:∀k,nth L' (k+1)=nth L k):z=y∧(∀l∈u,∃k,l=.sp i k)∧∀(k:Nat) (r:RT) (d:Md),(p::ps)[k]?=some (.own r d)→∃A xs,cE st i (j+k) 1=some A∧A.own=true∧A.md=d∧ef r A.xs=some xs∧nth L' k=some (some { r:=r,own:=true,xs:=xs,md:=d })∧.sp i (j+k)∈u:=by
  obtain ⟨h1,h2,h3⟩:=h;refine ⟨h1,h2,fun k r d hk => ?_⟩
  cases k with
  |zero=>
   simp only [List.getElem?_cons_zero,Option.some.injEq] at hk;exact absurd hk (hp r d)
  |succ k=>
   obtain ⟨A',xs',k1,k2,kd,k3,k4,k5⟩:=h3 k r d (by simpa using hk);rw [show j+1+k=j+(k+1) by omega] at k1 k5;exact ⟨A',xs',k1,k2,kd,k3,by rw [hL];exact k4,k5⟩
theorem Kq {st:St}:(ps:List OP)→(t:RT)→(cs:List CV)→(y:aO t)→{x:aO (pb ps t)}→{u:List (Option Lb)}→{r:List (Nat×Nat)}→nw st ps t cs y=some (x,u,r)→u.length=ps.length∧cs.length=ps.length∧(fC ps t x).1.length=ps.length
 | [],t,[],y,x,u,r,h=>by
  injection h with h;injection h with e1 e2;injection e2 with e2 e3;subst e1 e2 e3;exact ⟨rfl,rfl,rfl⟩
 | [],t,_::_,y,x,u,r,h=>by simp [nw] at h
 |_::_,t,[],y,x,u,r,h=>by simp [nw] at h
 |p::ps,t,c::cs,y,x,u,r,h=>by
  unfold nw at h
  cases hc:ld st p.rj c with
  |none=>simp [hc] at h
  |some q1=>
   obtain ⟨o,u1,r1⟩:=q1
   cases hq:nw st ps t cs y with
   |none=>simp [hc,hq] at h
   |some q2=>
    obtain ⟨z,us,rs⟩:=q2;simp only [hc,hq] at h
    cases ho:vt p o with
    |none=>simp [ho] at h
    |some a1=>
     simp only [ho] at h;injection h with h;injection h with e1 e2;injection e2 with e2 e3;subst e1 e2 e3;obtain ⟨g1,g2,g3⟩:=Kq ps t cs y hq;exact ⟨by simp [g1],by simp [g2],by simp [fC,g3]⟩
def VO (T:oB) (fr:Array Value):ResultVar→RP→Prop
 |.tmp t,r=>r.src=.tmp t∨r.src=.ptr t
 |.cell t ty,r=>r.src=.cell t∧T.cells ty=some r.ps.length∧T.agg ty=r.agg
def Hz (tm:Array Value):ResultVar→Sem Value
 |.tmp t=>pure (tm.getD t undef)
 |.cell a t=>do loadVar t (←asAddr (tm.getD a undef))
theorem RP.VP {P:Program} {T:oB} (hT:jF P T) {w0:World} {mu:Mu} {c:Cz} {st:St} {a:Act} {w:World} (h:Rel w0 mu c st a w) {r:RP} {rv:ResultVar} (hr:VO T a.tmps rv r) {cs:List CV} (hc:r.cells st=some cs) (hn:cs.length=r.ps.length) :
  ∃vs v,iO c st w cs vs∧(Hz a.tmps rv).run P w=.ok v w∧(((∀t,r.src≠.ptr t)∧((r.agg=true∧v=.agg vs.toArray)∨(r.agg=false∧(vs=[v]))))∨
   (∃t b ty us,r.src=.ptr t∧r.lab st=[some (.box b)]∧v=.pointer (some ⟨c.bx b,0,none⟩)∧c.own (c.bx b)=some (.box b)∧w.heap[c.bx b]?=some (.cells us ty (0,0))∧vs=us.toList)):=by
 unfold RP.cells at hc
 cases rv with
 |tmp t=>
  rcases (hr:r.src=.tmp t∨r.src=.ptr t) with hs | hs
  case inr=>
   rw [hs] at hc;have xP:=h.je t;simp only at hc
   cases hv:dI st t with
   |qd _=>rw [hv] at hc;cases hc
   |agg l=>rw [hv] at hc;cases hc
   |one x=>
    cases x with
    |ptr b g off=>
     rw [hv] at hc xP;obtain ⟨ho,hb⟩:=bI hc;have ho:=Nat.eq_of_beq_eq_true ho;subst ho;obtain ⟨sl,k1,k2,k3⟩:=j5 hb;obtain ⟨q1,vs,ty',q2,q3⟩:=h.boxes b sl cs k1 k3;have e:a.tmps.getD t undef=.pointer (some ⟨c.bx b,0,none⟩):=xP.2.2 cs hb;refine ⟨vs.toList,a.tmps.getD t undef,q3,rfl,.inr ⟨t,b,ty',vs,hs,?_,e,q1,q2,rfl⟩⟩;unfold RP.lab;rw [hs];simp only [hv]
    |_=>rw [hv] at hc;cases hc
  rw [hs] at hc;have xP:=h.je t;simp only at hc
  cases hv:dI st t with
  |qd _=>rw [hv] at hc;cases hc
  |agg l=>
   rw [hv] at hc xP;obtain ⟨Ry,hc1⟩:=bI hc
   cases hc1
   obtain ⟨vs,e,hl⟩:=xP;exact ⟨vs.toList,a.eval (.tmp t),hl,rfl,.inl ⟨fun t' e'=>(by rw [hs] at e';cases e'),.inl ⟨Ry,by rw [e]⟩⟩⟩
  |one x=>
   rw [hv] at hc xP;simp only at hc
   cases Ry:r.agg with
   |true=>rw [Ry] at hc;cases hc
   |false=>
    rw [Ry] at hc
    cases hc
    refine ⟨[a.eval (.tmp t)],a.eval (.tmp t),⟨rfl,fun i y z hy hz => ?_⟩,rfl,.inl ⟨fun t' e'=>(by rw [hs] at e';cases e'),.inr ⟨rfl,rfl⟩⟩⟩
    cases i with
    |zero=>simp at hy hz;subst hy hz;exact xP
    |succ i=>simp at hy
 |cell t ty=>
  obtain ⟨hs,h1,h2⟩:=hr;rw [hs] at hc;have xP:=h.je t;simp only at hc
  cases hv:dI st t with
  |qd _=>rw [hv] at hc;cases hc
  |agg l=>rw [hv] at hc;cases hc
  |one x=>
   cases x with
   |ptr b g off=>
    rw [hv] at hc xP;obtain ⟨ho,hb⟩:=bI hc;have ho:=Nat.eq_of_beq_eq_true ho;subst ho;obtain ⟨sl,k1,k2,k3⟩:=j5 hb;obtain ⟨q1,vs,ty',q2,q3⟩:=h.boxes b sl cs k1 k3;have e:a.tmps.getD t undef=.pointer (some ⟨c.bx b,0,none⟩):=xP.2.2 cs hb;have acj:w.rangeAt (c.bx b) 0 vs.toList:=by
     have:=FI (off:=0) q2 vs.toList.length
     rwa [List.drop_zero,List.take_length] at this
    have hlen:vs.toList.length=r.ps.length:=by rw [←q3.1,hn]
    have vm:=wN (P:=P) hT h1 w (c.bx b) 0 vs.toList acj hlen;refine ⟨vs.toList,valOf (T.agg ty) vs.toList,q3,?_,.inl ⟨fun t' e'=>(by rw [hs] at e';cases e'),?_⟩⟩
    ·simp [Hz,e,asAddr,Sem.run_bind,vm]
    ·rw [h2]
     cases Ry:r.agg with
     |true=>exact .inl ⟨rfl,by simp [valOf]⟩
     |false=>
      obtain ⟨_,_,_,Nb⟩:=hT.agg ty _ h1;have h3:=Nb (by rw [h2,Ry]);refine .inr ⟨rfl,?_⟩;have:vs.toList.length=1:=by rw [hlen,h3]
      cases Gv:vs.toList with
      |nil=>rw [Gv] at this;cases this
      |cons x l=>cases l with
       |nil=>rfl
       |cons _ _=>rw [Gv] at this;simp at this
   |_=>rw [hv] at hc;cases hc
end Go.TM
namespace Go.TM
open Go Go.RowKit
def Cr (T:oB) (tm:Array Value):List ResultVar→List RP→Prop
 | [],[]=>True
 |v::vs,r::rs=>VO T tm v r∧Cr T tm vs rs
 |_,_=>False
theorem Kr {P:Program} {T:oB} (hT:jF P T) {w0:World} {mu:Mu} {c:Cz} {st:St} {a:Act} {w:World} (h:Rel w0 mu c st a w):(rvs:List ResultVar)→(rs:List RP)→Cr T a.tmps rvs rs→(t:RT)→(y:aO t)→{x:aO (ew rs t)}→{u:List (Option Lb)}→{r:List (Nat×Nat)}→Hy st rs t y=some (x,u,r)→
  (iP rs t x).2=y∧(iP rs t x).1.length=rs.length∧(∀l∈dJ u,l.real=true)∧∃vals:List Value,(rvs.mapM (Hz a.tmps)).run P w=.ok vals w∧vals.length=rvs.length∧
   ∀(ρ:Lb→Option Lb) (j:Nat),(∀k l,nth u k=some (some l)→ρ l=some (.kK (j+k)))→(∀p∈r,ρ (.sp p.1 p.2)=none)→oC (c.map ρ) w j (iP rs t x).1 vals
 | [],[],_,t,y,x,u,r,he=>by
  injection he with he;injection he with e1 e2;injection e2 with e2 e3;subst e1 e2 e3;exact ⟨rfl,rfl,by simp [dJ],[],rfl,rfl,fun _ _ _ _=>rfl⟩
 | [],_::_,hf,_,_,_,_,_,_=>hf.elim
 |_::_,[],hf,_,_,_,_,_,_=>hf.elim
 |rv::rvs,rr::rs,hf,t,y,x,u,r,he=>by
  unfold Hy at he;obtain ⟨cs,hc,he⟩:=Option.bind_eq_some_iff.1 he;obtain ⟨q,hq,he⟩:=Option.bind_eq_some_iff.1 he;obtain ⟨p,hp,he⟩:=Option.map_eq_some_iff.1 he;obtain ⟨x2,u2,r2⟩:=q;obtain ⟨x1,u1,r1⟩:=p;injection he with e1 e2;injection e2 with e2 e3;subst e1 e2 e3;obtain ⟨l1,l2,l3⟩:=Kq rr.ps _ cs _ hp;obtain ⟨vs,v,g1,g2,g3⟩:=RP.VP hT h hf.1 hc l2;obtain ⟨k1,k2,k3,vals,k4,k5,k6⟩:=Kr hT h rvs rs hf.2 t y hq;have h0:=fun (ρ:Lb→Option Lb) (j:Nat)=>AE h (ρ:=ρ) (f:=.kK) rr.ps (ew rs t) cs x2 vs j g1 hp
  have e0:=(h0 (fun _=>none) 0).1;refine ⟨?_,?_,fun l hl => ?_,v::vals,?_,by simp [k5],fun ρ j hu hr => ?_⟩
  ·show (iP rs t (fC rr.ps (ew rs t) x1).2).2=y;rw [e0];exact k1
  ·show (iP rs t (fC rr.ps (ew rs t) x1).2).1.length+1=_;rw [e0,k2];rfl
  ·rw [lj] at hl;rcases List.mem_append.1 hl with hl | hl
   ·unfold RP.lab at hl
    split at hl
    ·split at hl
     ·simp only [List.mem_singleton,Option.some.injEq] at hl;subst hl;rfl
     ·cases hl
    ·cases hl
   ·rcases List.mem_append.1 hl with hl | hl
    ·exact (h0 (fun _=>none) 0).2.1 l (lj.2 hl)
    ·exact k3 l (lj.2 hl)
  ·rw [List.mapM_cons];simp [Sem.run_bind,g2,k4]
  ·have e:(iP (rr::rs) t x1).1=rr.rv (fC rr.ps (ew rs t) x1).1::(iP rs t x2).1:=by
    show rr.rv (fC rr.ps (ew rs t) x1).1::(iP rs t (fC rr.ps (ew rs t) x1).2).1=_;rw [e0]
   show oC (c.map ρ) w j (iP (rr::rs) t x1).1 (v::vals);rw [e];rcases g3 with ⟨hnp,g3⟩ | ⟨tt,b,ty,us,ack,acm,hv,ku,VA,Gv⟩
   ·have acm:rr.lab st=[]:=by
     unfold RP.lab
     split
     ·rename_i t' e';exact absurd e' (hnp t')
     ·rfl
    rw [acm,List.nil_append] at hu;have hL:=(h0 ρ j).2.2 (fun k l hk=>hu k l (by
     rw [pG,if_pos (Vc hk)];exact hk)) (fun p hp=>hr p (List.mem_append_left _ hp))
    have gM:=k6 ρ (j+rr.ps.length) (fun k l hk=>by
     have:=hu (rr.ps.length+k) l (by rw [pG,l1,if_neg (by omega),Nat.add_sub_cancel_left];exact hk);rw [Nat.add_assoc];exact this) (fun p hp=>hr p (List.mem_append_right _ hp))
    have hrv:∀os,rr.rv os=(match rr.agg,os with | false,[o]=>RV.one o | _,os=>RV.agg os):=by
     intro os;unfold RP.rv
     split
     ·rename_i t' e';exact absurd e' (hnp t')
     ·rfl
    rcases g3 with ⟨ha,rfl⟩ | ⟨ha,rfl⟩
    ·have er:rr.rv (fC rr.ps (ew rs t) x1).1=.agg (fC rr.ps (ew rs t) x1).1:=by rw [hrv,ha]
     rw [er];exact ⟨vs.toArray,vals,rfl,by simpa using hL,by rw [l3];exact gM⟩
    ·have hlen:cs.length=1:=g1.1;have:(fC rr.ps (ew rs t) x1).1.length=1:=by rw [l3,←l2,hlen]
     cases ho:(fC rr.ps (ew rs t) x1).1 with
     |nil=>rw [ho] at this;cases this
     |cons o l=>cases l with
      |cons _ _=>rw [ho] at this;simp at this
      |nil=>
       have er:rr.rv [o]=.one o:=by rw [hrv,ha]
       rw [er];rw [ho] at hL;refine ⟨v,vals,rfl,hL,?_⟩;rw [←l2,hlen] at gM;exact gM
   ·rw [acm] at hu;have hb:=hu 0 (.box b) rfl;have hL:=(h0 ρ (j+1)).2.2 (fun k l hk=>by
     have:=hu (k+1) l (by
      show nth (u1++u2) k=_;rw [pG,if_pos (Vc hk)];exact hk)
     rwa [show j+(k+1)=j+1+k by omega] at this) (fun p hp=>hr p (List.mem_append_left _ hp))
    have gM:=k6 ρ (j+(rr.ps.length+1)) (fun k l hk=>by
     have:=hu (rr.ps.length+k+1) l (by
      show nth (u1++u2) (rr.ps.length+k)=_;rw [pG,l1,if_neg (by omega),Nat.add_sub_cancel_left];exact hk)
     rwa [show j+(rr.ps.length+k+1)=j+(rr.ps.length+1)+k by omega] at this) (fun p hp=>hr p (List.mem_append_right _ hp))
    have er:rr.rv (fC rr.ps (ew rs t) x1).1=.ptr (fC rr.ps (ew rs t) x1).1:=by unfold RP.rv;rw [ack]
    rw [er];subst Gv;refine ⟨v,vals,rfl,⟨c.bx b,us,ty,hv,?_,VA,hL⟩,by rw [l3];exact gM⟩;rw [Nat.add_zero] at hb;exact (Cz.nV ku).trans hb
def L1 (mu:Mu) (lc:Nat→Nat→Loc) (i:Nat) (ps:List AP) (fS:List AV) (vs:List Value):Prop:=
 ∀(k:Nat) (p:AP) (av:AV) (v:Value),ps[k]?=some p→fS[k]?=some av→vs[k]?=some v→match p,av with
  |.io _ _,.io A=>v.oneCell'=true∧o8 (lc (i+k) 0) A.r.width 0 A.xs.length v∧Sk.arr (i+k) 0 1 A.r.width A.xs.length (lc (i+k) 0)∈mu.an
  |.box _ _,.box _=>∃rn,v=.pointer (some ⟨rn,0,none⟩)∧Sk.box (i+k) 1 rn∈mu.an
  |.val _ _,.val _ _=>True
  |.dR qs,.dR os=>∃us,v=.agg us∧∀j A,os[j]?=some (.own A)→(∃r d,qs[j]?=some (.own r d))∧∃u,us.toList[j]?=some u∧u.oneCell'=true∧o8 (lc (i+k) j) A.r.width 0 A.xs.length u∧Sk.arr (i+k) j 1 A.r.width A.xs.length (lc (i+k) j)∈mu.an
  |_,_=>False
theorem xR {w0:World} {mu:Mu} {c:Cz} {st:St} {a:Act} {w:World} (h:Rel w0 mu c st a w) {lc:Nat→Nat→Loc}:(ps:List AP)→(i:Nat)→(fS:List AV)→(vs:List Value)→ps.length=fS.length→ps.length=vs.length→L1 mu lc i ps fS vs→{x:aO (cF ps)}→{u:List Lb}→{r:List (Nat×Nat)}→xk st i ps=some (x,u,r)→
  (∀l∈u,l.real=true)∧∃tb:List (Lb×Lb),tb.map (·.1)=u∧(∀p∈tb,p.2.nu=true)∧∀ρ:Lb→Option Lb,(∀p∈tb,ρ p.1=some p.2)→(∀p∈r,ρ (.sp p.1 p.2)=none)→kx (c.map ρ) w lc i fS vs (pJ ps x)
 | [],i,fS,vs,h1,h2,_,x,u,r,he=>by
  injection he with he;injection he with e1 e2;injection e2 with e2 e3;subst e2 e3;have:fS=[]:=by simpa using h1.symm
  subst this;exact ⟨by simp,[],rfl,by simp,fun _ _ _=>rfl⟩
 |p::ps,i,[],vs,h1,_,_,_,_,_,_=>by simp at h1
 |p::ps,i,_::_,[],_,h2,_,_,_,_,_=>by simp at h2
 |p::ps,i,av::fS,v::vs,h1,h2,hl,x,u,r,he=>by
  have By:L1 mu lc (i+1) ps fS vs:=fun k p' Rv v' e1 e2 e3=>by
   have:=hl (k+1) p' Rv v' (by simpa using e1) (by simpa using e2) (by simpa using e3)
   rwa [show i+(k+1)=i+1+k by omega] at this
  have h1':ps.length=fS.length:=by simpa using h1
  have h2':ps.length=vs.length:=by simpa using h2
  have h0:=hl 0 p av v rfl rfl rfl
  cases p with
  |val agg qs=>
   cases av with
   |val Zn os=>
    obtain ⟨g1,tb,g2,g3,g4⟩:=xR h ps (i+1) fS vs h1' h2' By he;exact ⟨g1,tb,g2,g3,fun ρ hp hr=>g4 ρ hp hr⟩
   |io _=>exact h0.elim
   |box _=>exact h0.elim
   |dR _=>exact h0.elim
  |io rr dd=>
   cases av with
   |val _ _=>exact h0.elim
   |box _=>exact h0.elim
   |dR _=>exact h0.elim
   |io A=>
    obtain ⟨q1,q2,q3⟩:=h0;simp only [Nat.add_zero] at q2 q3;unfold xk at he;obtain ⟨q,hq,he⟩:=Option.bind_eq_some_iff.1 he;obtain ⟨p,hp,he⟩:=Option.map_eq_some_iff.1 he;obtain ⟨x2,u2,r2⟩:=q;obtain ⟨x1,u1,r1⟩:=p;injection he with e1 e2;injection e2 with e2 e3;subst e1 e2 e3;obtain ⟨g1,tb,g2,g3,g4⟩:=xR h ps (i+1) fS vs h1' h2' By hq;have Zp:=h.hY _ q3;have hV:hU c st w (.one (.ref i 0 1 .full)) v:=⟨q1,Zp.1,fun A' iy=>by
     obtain ⟨e1,e2,e3⟩:=Zp.2 A' iy;rw [e1,e3];show o8 (lc i 0) A.r.width 0 A'.xs.length v;rw [e2];exact q2⟩
    obtain ⟨a1,a2,ta,a3,a4,a5⟩:=DA h i hV hp;obtain ⟨A',iy,aiG⟩:∃A',cE st i 0 1=some A'∧∃xs,ef rr A'.xs=some xs∧x1.1=xs:=by
     have hp:(bif Nat.beq i i&&(Nat.beq 0 0&&Nat.beq 1 1) then ((cE st i 0 1).bind fun A=>bif A.own&&A.md.is dd then (ef rr A.xs).map fun xs=>((xs,x2),[Lb.sp i 0],([]:List (Nat×Nat))) else none) else none)=some (x1,u1,r1):=hp;obtain ⟨_,hp1⟩:=bI hp;obtain ⟨A',iy,hp2⟩:=Option.bind_eq_some_iff.1 hp1;obtain ⟨_,hp3⟩:=bI hp2;obtain ⟨xs,hxs,e⟩:=Option.map_eq_some_iff.1 hp3;injection e with e _;exact ⟨A',iy,xs,hxs,by rw [←e]⟩
    obtain ⟨xs,hxs,ex⟩:=aiG;obtain ⟨e1,e2,e3⟩:=Zp.2 A' iy;refine ⟨fun l hl => ?_,ta++tb,by simp [a3,g2],fun p hp => ?_,fun ρ hp hr => ?_⟩
    ·rcases List.mem_append.1 hl with hl | hl
     ·exact a2 l hl
     ·exact g1 l hl
    ·rcases List.mem_append.1 hp with hp | hp
     ·exact a4 p hp
     ·exact g3 p hp
    ·have hA5:=a5 ρ (fun p lJ=>hp p (List.mem_append_left _ lJ)) (fun p lJ=>hr p (List.mem_append_left _ lJ));have gM:=g4 ρ (fun p lJ=>hp p (List.mem_append_right _ lJ)) (fun p lJ=>hr p (List.mem_append_right _ lJ));have hA5:OwnAt (c.map ρ) w (.dC i 0) (c.lc i 0) { r:=rr,own:=true,xs:=x1.1,md:=dd } v:=hA5;rw [e3] at hA5;obtain ⟨er,UQ⟩:=cU hxs;refine ⟨{ r:=rr,own:=true,xs:=x1.1,md:=dd },pJ ps x1.2,rfl,?_,?_,hA5,?_⟩
     ·show rr.width=A.r.width;rw [←er];exact e1
     ·show List.length (x1.1:List (aO rr))=A.xs.length;rw [ex,UQ,←e2]
      cases er
      rfl
     ·have:x1.2=x2:=a1;rw [this];exact gM
  |dR qs=>
   cases av with
   |val _ _=>exact h0.elim
   |io _=>exact h0.elim
   |box _=>exact h0.elim
   |dR os=>
    obtain ⟨us,rfl,q1⟩:=h0;simp only [Nat.add_zero] at q1;unfold xk at he;obtain ⟨q,hq,he⟩:=Option.bind_eq_some_iff.1 he;obtain ⟨p,hp,he⟩:=Option.map_eq_some_iff.1 he;obtain ⟨x2,u2,r2⟩:=q;obtain ⟨x1,u1⟩:=p;injection he with e1 e2;injection e2 with e2 e3;subst e1 e2 e3;obtain ⟨g1,tb,g2,g3,g4⟩:=xR h ps (i+1) fS vs h1' h2' By hq;obtain ⟨a1,a2,a3⟩:=lP qs 0 (cF ps) x2 hp
    let f:Lb→Lb×Lb:=fun l=>(l,match l with | .sp x y=>.dC x y | l=>l)
    refine ⟨fun l hl => ?_,u1.map f++tb,?_,fun p hp => ?_,fun ρ hp hr => ?_⟩
    ·rcases List.mem_append.1 hl with hl | hl
     ·obtain ⟨k,rfl⟩:=a2 l hl;rfl
     ·exact g1 l hl
    ·rw [List.map_append,List.map_map,g2]
     congr 1
     exact List.map_id u1
    ·rcases List.mem_append.1 hp with hp | hp
     ·obtain ⟨l,hl,rfl⟩:=List.mem_map.1 hp;obtain ⟨k,rfl⟩:=a2 l hl;rfl
     ·exact g3 p hp
    ·have gM:=g4 ρ (fun p lJ=>hp p (List.mem_append_right _ lJ)) hr;refine ⟨(pW qs (cF ps) x1).1,pJ ps (pW qs (cF ps) x1).2,rfl,⟨us,rfl,fun j A hj => ?_⟩,by rw [a1];exact gM⟩;obtain ⟨⟨r,dd,hqr⟩,u,b1,b2,b3,b4⟩:=q1 j A hj;obtain ⟨A',xs,c1,c2,cd,c3,c4,c5⟩:=a3 j r dd hqr;rw [Nat.zero_add] at c1 c5;obtain ⟨e1,e2,e3⟩:=(h.hY _ b4).2 A' c1;obtain ⟨er,UQ⟩:=cU c3;have ha:=Dr h c1;have hρ:ρ (.sp i j)=some (.dC i j):=hp (.sp i j,.dC i j) (List.mem_append_left _ (List.mem_map.2 ⟨_,c5,rfl⟩));have hw:r.width=A.r.width:=by rw [←er];exact e1
     have hn:xs.length=A.xs.length:=by
      rw [←e2,UQ]
      cases er
      rfl
     refine ⟨_,u,c4,b1,hw,hn,b2,?_,rfl,?_⟩
     ·show o8 (lc i j) r.width 0 xs.length u;rw [hw,hn];exact b3
     ·show match lc i j with
       |.nil=>xs=[]
       |.at b off cap=>_
      obtain ⟨rA,avB,xsA,mdA⟩:=A';simp only at er c2 cd;subst er c2;have UQ:xs=xsA:=UQ;subst UQ;unfold fy at ha;have e3:c.lc i j=lc i j:=e3;rw [e3] at ha
      cases nk:lc i j with
      |nil=>rw [nk] at ha;exact ha
      |«at» b off cap=>
       rw [nk] at ha;obtain ⟨k0,k2,k3,k4⟩:=ha;exact ⟨(Cz.nV k0).trans hρ,k2,k3,k4.map hρ⟩
  |box LJ qs=>
   cases av with
   |val _ _=>exact h0.elim
   |io _=>exact h0.elim
   |dR _=>exact h0.elim
   |box os=>
    obtain ⟨rn,q1,q2⟩:=h0;simp only [Nat.add_zero] at q2;unfold xk at he;obtain ⟨q,hq,he⟩:=Option.bind_eq_some_iff.1 he;obtain ⟨p,hp,he⟩:=Option.map_eq_some_iff.1 he;obtain ⟨x2,u2,r2⟩:=q;obtain ⟨x1,u1,r1⟩:=p;injection he with e1 e2;injection e2 with e2 e3;subst e1 e2 e3;obtain ⟨g1,tb,g2,g3,g4⟩:=xR h ps (i+1) fS vs h1' h2' By hq;have Zp:=h.hY _ q2;have hV:hU c st w (.one (.ptr i 1 0)) v:=⟨by rw [q1];rfl,Zp.1,fun cs Ao=>by rw [Zp.2 cs Ao,q1]⟩;obtain ⟨a1,a2,ta,a3,a4,a5⟩:=DA h i hV hp;refine ⟨fun l hl => ?_,ta++tb,by simp [a3,g2],fun p hp => ?_,fun ρ hp hr => ?_⟩
    ·rcases List.mem_append.1 hl with hl | hl
     ·exact a2 l hl
     ·exact g1 l hl
    ·rcases List.mem_append.1 hp with hp | hp
     ·exact a4 p hp
     ·exact g3 p hp
    ·have hA5:=a5 ρ (fun p lJ=>hp p (List.mem_append_left _ lJ)) (fun p lJ=>hr p (List.mem_append_left _ lJ));have gM:=g4 ρ (fun p lJ=>hp p (List.mem_append_right _ lJ)) (fun p lJ=>hr p (List.mem_append_right _ lJ));refine ⟨(fC qs (cF ps) x1).1,pJ ps (fC qs (cF ps) x1).2,rfl,hA5,?_⟩;have:(fC qs (cF ps) x1).2=x2:=a1;rw [this];exact gM
end Go.TM
namespace Go.TM
open Go Go.RowKit
def start (n:Nat) (ps:List AP) (x:aO (aH (ps.map some))):St:=rp 0 (eb (ps.map some) x++List.replicate (n+1-ps.length) none)
theorem ui:(l:List (Option AP))→(x:aO (aH l))→(eb l x).length=l.length
 | [],_=>rfl
 |none::l,x=>by
  show (eb l x).length+1=l.length+1;rw [ui l x]
 |some p::l,x=>by
  show (eb l (p.av (aH l) x).2).length+1=l.length+1;rw [ui l _]
theorem BG {c:Cz} {w:World} {lc:Nat→Nat→Loc}:(ps:List AP)→(i:Nat)→(fS:List AV)→(vs:List Value)→{x:aO (aH (ps.map some))}→ib ps fS=some x→Co c w lc i fS vs→
  ps.length=fS.length∧ps.length=vs.length∧∀k av,(eb (ps.map some) x)[k]?=some (some av)→∃v,vs[k]?=some v∧wR c w (i+k) (lc (i+k)) av v
 | [],i,[],vs,x,hx,h=>by
  have:vs=[]:=h;subst this;exact ⟨rfl,rfl,fun k av hk=>by
   have hk:([]:List (Option AV))[k]?=some (some av):=hk;simp at hk⟩
 | [],_,_::_,_,_,hx,_=>by simp [ib] at hx
 |_::_,_,[],_,_,hx,_=>by simp [ib] at hx
 |p::ps,i,av::fS,vs,x,hx,h=>by
  obtain ⟨v,l,rfl,h1,h2⟩:=h;unfold ib at hx
  cases hy:ib ps fS with
  |none=>simp [hy] at hx
  |some y=>
   simp only [hy] at hx;obtain ⟨g1,g2,g3⟩:=BG ps (i+1) fS l hy h2;obtain ⟨q1,q2⟩:=NG (c:=c) (w:=w) (i:=i) (lc:=lc i) hx;refine ⟨by simp [g1],by simp [g2],fun k Rv hk => ?_⟩
   cases k with
   |zero=>
    have hk:some (some (p.av (aH (ps.map some)) x).1)=some (some Rv):=hk;simp only [Option.some.injEq] at hk;subst hk;exact ⟨v,rfl,q2 v h1⟩
   |succ k=>
    have hk:(eb (ps.map some) (p.av (aH (ps.map some)) x).2)[k]?=some (some Rv):=hk;rw [q1] at hk;obtain ⟨v',h3,h4⟩:=g3 k Rv hk;exact ⟨v',by simpa using h3,by rw [show i+(k+1)=i+1+k by omega];exact h4⟩
def lk (lc:Nat→Loc) (i:Nat):(j:Nat)→List OV→List Sk
 |_,[]=>[]
 |j,.own A::os=>.arr i j 1 A.r.width A.xs.length (lc j)::lk lc i (j+1) os
 |j,.int _ _::os=>lk lc i (j+1) os
 |j,.bool _::os=>lk lc i (j+1) os
 |j,.str _::os=>lk lc i (j+1) os
 |j,.shr _ _::os=>lk lc i (j+1) os
 |j,.oZ _ _::os=>lk lc i (j+1) os
 |j,.fn _ _ _::os=>lk lc i (j+1) os
 |j,.gj::os=>lk lc i (j+1) os
theorem DC {lc:Nat→Loc} {i:Nat}:(os:List OV)→(j:Nat)→∀p∈lk lc i j os,∃k A,os[k]?=some (.own A)∧p=.arr i (j+k) 1 A.r.width A.xs.length (lc (j+k))
 | [],j,p,h=>by simp [lk] at h
 |o::os,j,p,h=>by
  have rest:p∈lk lc i (j+1) os→∃k A,(o::os)[k]?=some (.own A)∧p=.arr i (j+k) 1 A.r.width A.xs.length (lc (j+k)):=by
   intro h;obtain ⟨k,A,h1,h2⟩:=DC os (j+1) p h;refine ⟨k+1,A,by simpa using h1,?_⟩;rw [h2,show j+1+k=j+(k+1) by omega]
  cases o with
  |own A=>
   rcases List.mem_cons.1 h with h | h
   ·exact ⟨0,A,rfl,h⟩
   ·exact rest h
  |_=>exact rest h
theorem FV {lc:Nat→Loc} {i:Nat}:(os:List OV)→(j:Nat)→∀(k:Nat) (A:ns),os[k]?=some (.own A)→Sk.arr i (j+k) 1 A.r.width A.xs.length (lc (j+k))∈lk lc i j os
 | [],j,k,A,h=>by simp at h
 |o::os,j,0,A,h=>by
  simp only [List.getElem?_cons_zero,Option.some.injEq] at h;subst h;exact List.mem_cons_self
 |o::os,j,k+1,A,h=>by
  have:=FV (lc:=lc) (i:=i) os (j+1) k A (by simpa using h);rw [show j+1+k=j+(k+1) by omega] at this
  cases o with
  |own A=>exact List.mem_cons_of_mem _ this
  |_=>exact this
def HA (lc:Nat→Nat→Loc):(i:Nat)→List AV→List Value→List Sk
 |_,[],_=>[]
 |_,_::_,[]=>[]
 |i,.val _ _::as,_::vs=>HA lc (i+1) as vs
 |i,.io A::as,_::vs=>.arr i 0 1 A.r.width A.xs.length (lc i 0)::HA lc (i+1) as vs
 |i,.dR os::as,_::vs=>lk (lc i) i 0 os++HA lc (i+1) as vs
 |i,.box _::as,v::vs=>.box i 1 (match v with | .pointer (some ad)=>ad.block | _=>0)::HA lc (i+1) as vs
theorem xS {lc:Nat→Nat→Loc}:(i:Nat)→(as:List AV)→(vs:List Value)→∀p∈HA lc i as vs,∃k av v,as[k]?=some av∧vs[k]?=some v∧((∃A,av=.io A∧p=.arr (i+k) 0 1 A.r.width A.xs.length (lc (i+k) 0))∨(∃os,av=.box os∧p=.box (i+k) 1 (match v with | .pointer (some ad)=>ad.block | _=>0))∨∃os j A,av=.dR os∧os[j]?=some (.own A)∧p=.arr (i+k) j 1 A.r.width A.xs.length (lc (i+k) j))
 |_,[],_,p,h=>by simp [HA] at h
 |_,_::_,[],p,h=>by simp [HA] at h
 |i,.val _ _::as,_::vs,p,h=>by
  obtain ⟨k,av,v,h1,h2,h3⟩:=xS (i+1) as vs p h;exact ⟨k+1,av,v,by simpa using h1,by simpa using h2,by rw [show i+(k+1)=i+1+k by omega];exact h3⟩
 |i,.io A::as,v0::vs,p,h=>by
  rcases List.mem_cons.1 h with h | h
  ·exact ⟨0,.io A,v0,rfl,rfl,.inl ⟨A,rfl,h⟩⟩
  ·obtain ⟨k,av,v,h1,h2,h3⟩:=xS (i+1) as vs p h;exact ⟨k+1,av,v,by simpa using h1,by simpa using h2,by rw [show i+(k+1)=i+1+k by omega];exact h3⟩
 |i,.box os::as,v0::vs,p,h=>by
  rcases List.mem_cons.1 h with h | h
  ·exact ⟨0,.box os,v0,rfl,rfl,.inr (.inl ⟨os,rfl,h⟩)⟩
  ·obtain ⟨k,av,v,h1,h2,h3⟩:=xS (i+1) as vs p h;exact ⟨k+1,av,v,by simpa using h1,by simpa using h2,by rw [show i+(k+1)=i+1+k by omega];exact h3⟩
 |i,.dR os::as,v0::vs,p,h=>by
  rcases List.mem_append.1 h with h | h
  ·obtain ⟨j,A,h1,h2⟩:=DC os 0 p h;rw [Nat.zero_add] at h2;exact ⟨0,.dR os,v0,rfl,rfl,.inr (.inr ⟨os,j,A,rfl,h1,h2⟩)⟩
  ·obtain ⟨k,av,v,h1,h2,h3⟩:=xS (i+1) as vs p h;exact ⟨k+1,av,v,by simpa using h1,by simpa using h2,by rw [show i+(k+1)=i+1+k by omega];exact h3⟩
theorem Rz {lc:Nat→Nat→Loc}:(i:Nat)→(as:List AV)→(vs:List Value)→as.length=vs.length→∀k av v,as[k]?=some av→vs[k]?=some v→(∀A,av=.io A→Sk.arr (i+k) 0 1 A.r.width A.xs.length (lc (i+k) 0)∈HA lc i as vs)∧(∀os,av=.box os→Sk.box (i+k) 1 (match v with | .pointer (some ad)=>ad.block | _=>0)∈HA lc i as vs)∧(∀os,av=.dR os→∀j A,os[j]?=some (.own A)→Sk.arr (i+k) j 1 A.r.width A.xs.length (lc (i+k) j)∈HA lc i as vs)
 |_,[],_,_,k,av,v,h,_=>by simp at h
 |_,_::_,[],hn,_,_,_,_,_=>by simp at hn
 |i,a0::as,v0::vs,hn,0,av,v,h1,h2=>by
  simp only [List.getElem?_cons_zero,Option.some.injEq] at h1 h2;subst h1 h2;refine ⟨fun A e => ?_,fun os e => ?_,fun os e j A hj => ?_⟩
  ·subst e;exact List.mem_cons_self
  ·subst e;exact List.mem_cons_self
  ·subst e;have:=FV (lc:=lc i) (i:=i) os 0 j A hj;rw [Nat.zero_add] at this;exact List.mem_append_left _ this
 |i,a0::as,v0::vs,hn,k+1,av,v,h1,h2=>by
  obtain ⟨g1,g2,g3⟩:=Rz (i+1) as vs (by simpa using hn) k av v (by simpa using h1) (by simpa using h2);have e:i+(k+1)=i+1+k:=by omega
  rw [e]
  cases a0 with
  |val _ _=>exact ⟨g1,g2,g3⟩
  |io _=>exact ⟨fun A h=>List.mem_cons_of_mem _ (g1 A h),fun os h=>List.mem_cons_of_mem _ (g2 os h),fun os h j A hj=>List.mem_cons_of_mem _ (g3 os h j A hj)⟩
  |box _=>exact ⟨fun A h=>List.mem_cons_of_mem _ (g1 A h),fun os h=>List.mem_cons_of_mem _ (g2 os h),fun os h j A hj=>List.mem_cons_of_mem _ (g3 os h j A hj)⟩
  |dR _=>exact ⟨fun A h=>List.mem_append_right _ (g1 A h),fun os h=>List.mem_append_right _ (g2 os h),fun os h j A hj=>List.mem_append_right _ (g3 os h j A hj)⟩
def pv (ps:List AP) (mu:Mu):Prop:=
 ∀p∈mu.an,(∃i r W n l,p=.arr i 0 1 W n l∧∃d,ps[i]?=some (.io r d))∨(∃i rn b qs,p=.box i 1 rn∧ps[i]?=some (.box b qs))∨∃i j W n l qs,p=.arr i j 1 W n l∧ps[i]?=some (.dR qs)
theorem HB:(ps:List OP)→(t:RT)→(os:List OV)→(y:aO t)→{x:aO (pb ps t)}→fp ps t os y=some x→∀(j:Nat) (A:ns),os[j]?=some (.own A)→(∃r d,ps[j]?=some (.own r d))∧∃B:ns,(fC ps t x).1[j]?=some (.own B)∧B.r.width=A.r.width∧B.xs.length=A.xs.length
 | [],t,[],y,x,h=>by intro k A hk;simp at hk
 | [],_,_::_,_,_,h=>by simp [fp] at h
 |_::_,_,[],_,_,h=>by simp [fp] at h
 |p::ps,t,o::os,y,x,h=>by
  unfold fp at h
  cases h1:vt p o with
  |none=>simp [h1] at h
  |some a=>
   cases h2:fp ps t os y with
   |none=>simp [h1,h2] at h
   |some z=>
    simp only [h1,h2] at h;have h:(a,z)=x:=Option.some.inj h;subst h;intro j A hj
    cases j with
    |succ j=>
     obtain ⟨⟨r,d,q1⟩,B,q2,q3⟩:=HB ps t os y h2 j A (by simpa using hj);exact ⟨⟨r,d,by simpa using q1⟩,B,(by show (fC ps t z).1[j]?=_;exact q2),q3⟩
    |zero=>
     simp only [List.getElem?_cons_zero,Option.some.injEq] at hj;subst hj
     cases p with
     |own r d=>
      have h1:(bif A.md.is d then ef r A.xs else none)=some a:=h1;obtain ⟨_,h1⟩:=bI h1;obtain ⟨er,UQ⟩:=cU h1;refine ⟨⟨r,d,rfl⟩,{ r:=r,own:=true,xs:=a,md:=d },rfl,by show r.width=_;rw [←er],?_⟩;show List.length (a:List (aO r))=_;rw [UQ]
      cases er
      rfl
     |_=>cases h1
theorem FW:(ps:List AP)→(fS:List AV)→{x:aO (aH (ps.map some))}→ib ps fS=some x→∀(k:Nat) (av:AV),fS[k]?=some av→∃p:AP,ps[k]?=some p∧match p,av with
  |.io _ _,.io A=>∃B:ns,(eb (ps.map some) x)[k]?=some (some (.io B))∧B.r.width=A.r.width∧B.xs.length=A.xs.length
  |.box _ _,.box _=>True
  |.val _ _,.val _ _=>True
  |.dR qs,.dR os=>∃EF:List OV,(eb (ps.map some) x)[k]?=some (some (AV.dR EF))∧∀(j:Nat) (A:ns),os[j]?=some (OV.own A)→(∃r d,qs[j]?=some (OP.own r d))∧∃B:ns,EF[j]?=some (OV.own B)∧B.r.width=A.r.width∧B.xs.length=A.xs.length
  |_,_=>False
 | [],[],_,_=>by intro k av h;simp at h
 | [],_::_,_,hx=>by simp [ib] at hx
 |_::_,[],_,hx=>by simp [ib] at hx
 |p::ps,av::fS,x,hx=>by
  unfold ib at hx
  cases hy:ib ps fS with
  |none=>simp [hy] at hx
  |some y=>
   simp only [hy] at hx;have e2:(p.av (aH (ps.map some)) x).2=y:=(NG (c:=⟨fun _=>0,fun _ _=>.nil,fun _=>none⟩) (w:=default) (i:=0) (lc:=fun _=>.nil) hx).1;intro k Rv hk
   cases k with
   |zero=>
    simp only [List.getElem?_cons_zero,Option.some.injEq] at hk;subst hk;refine ⟨p,rfl,?_⟩
    cases p with
    |val agg qs=>cases av with
     |val _ _=>trivial
     |io _=>cases agg<;>cases hx
     |box _=>cases agg<;>cases hx
     |dR _=>cases agg<;>cases hx
    |io r d=>cases av with
     |val _ _=>cases hx
     |box _=>cases hx
     |dR _=>cases hx
     |io A=>
      have hx:(bif A.md.is d then (match ef r A.xs with | some xs=>some ((xs,y):aO (.cons (.sl r) (aH (ps.map some)))) | none=>none) else none)=some x:=hx;obtain ⟨_,hx⟩:=bI hx
      cases hc:ef r A.xs with
      |none=>rw [hc] at hx;cases hx
      |some xs=>
       rw [hc] at hx;injection hx with hx;obtain ⟨er,UQ⟩:=cU hc;refine ⟨{ r:=r,own:=true,xs:=x.1,md:=d },rfl,by show r.width=_;rw [←er],?_⟩;show List.length (x.1:List (aO r))=_;rw [←hx];show xs.length=_;rw [UQ]
       cases er
       rfl
    |box b qs=>cases av with
     |val _ _=>cases hx
     |io _=>cases hx
     |dR _=>cases hx
     |box _=>trivial
    |dR qs=>cases av with
     |val _ _=>cases hx
     |io _=>cases hx
     |box _=>cases hx
     |dR os=>
      have hx:fp qs (aH (ps.map some)) os y=some x:=hx;exact ⟨_,rfl,HB qs _ os y hx⟩
   |succ k=>
    obtain ⟨p',h1,h2⟩:=FW ps fS hy k Rv (by simpa using hk);refine ⟨p',by simpa using h1,?_⟩;have eh:(eb ((p::ps).map some) x)[k+1]?=(eb (ps.map some) y)[k]?:=by
     show (eb (ps.map some) (p.av (aH (ps.map some)) x).2)[k]?=_;rw [e2]
    cases p'<;>cases Rv<;>simp only at h2 ⊢ <;> (try exact h2)
    ·obtain ⟨B,q1,q2,q3⟩:=h2;exact ⟨B,eh.trans q1,q2,q3⟩
    ·obtain ⟨EF,q1,q2⟩:=h2;exact ⟨EF,eh.trans q1,q2⟩
end Go.TM
namespace Go.TM
open Go Go.RowKit
theorem NH {P:Program} {fn:Func} {tm:Array Value} {w:World} {vals:List Value} (h:(fn.results.toList.mapM (Hz tm)).run P w=.ok vals w) :
  (results fn tm).run P w=.ok (if hs:vals.toArray.size=1 then vals.toArray[0] else .tuple vals.toArray) w:=by
 have e:results fn tm=(do let vs ←fn.results.mapM (Hz tm);pure (if h:vs.size=1 then vs[0] else .tuple vs):Sem Value):=rfl;rw [e,Array.mapM_eq_mapM_toList];simp [Sem.run_bind,h]
theorem NI {c:Cz} {w:World} {mu:Mu} {lc:Nat→Nat→Loc} {fS:List AV} {args:Array Value} (hH:Handed c w mu) (hA:Co c w lc 0 fS args.toList) {ps:List AP} {x:aO (aH (ps.map some))} (hx:ib ps fS=some x) {n:Nat} (hn:ps.length≤n) :
  ∃(GP:Mu) (c':Cz),GP.m=mu.m∧GP.ok=mu.ok∧pv ps GP∧L1 GP lc 0 ps fS args.toList∧args.size=ps.length∧fS.length=ps.length∧
   Rel w GP c' (start n ps x) { tmps:=args++Array.replicate (n-args.size) undef,defers:=[] } w:=by
 obtain ⟨l1,l2,hold⟩:=BG ps 0 fS args.toList hx hA;have VQ:=FW ps fS hx;have HC:args.size=ps.length:=by rw [l2];simp
 let a:Act:={ tmps:=args++Array.replicate (n-args.size) undef,defers:=[] }
 have aaM:∀k v,args.toList[k]?=some v→a.eval (.tmp k)=v:=by
  intro k v hk;have dO:k<args.size:=by
   have:=(List.getElem?_eq_some_iff.1 hk).1;simpa using this
  show (args++Array.replicate (n-args.size) undef).getD k undef=v;rw [Array.getD_eq_getD_getElem?,Array.getElem?_append_left dO];rw [Array.getElem?_toList] at hk;rw [hk];rfl
 let GP:Mu:={ m:=mu.m,ok:=mu.ok,an:=HA lc 0 fS args.toList }
 have hlen:(eb (ps.map some) x++List.replicate (n+1-ps.length) none).length=n+1:=by
  rw [List.length_append,ui];simp;omega
 have Dn:∀(i:Nat) (av:AV),(eb (ps.map some) x++List.replicate (n+1-ps.length) none)[i]?=some (some av)→(eb (ps.map some) x)[i]?=some (some av):=by
  intro i av hi
  by_cases h:i<(eb (ps.map some) x).length
  ·rwa [List.getElem?_append_left h] at hi
  ·rw [List.getElem?_append_right (by omega),List.getElem?_replicate] at hi
   split at hi<;>simp at hi
 have EO:FN w GP c w:=⟨fun b l hb=>⟨hH.lt b l hb,(hH.lb b l hb).imp id fun hh=>.inr ((hH.m b).2 ⟨l,hb,hh⟩)⟩,fun b _ hb=>.inr ((hH.ok b).2 hb),⟨rfl,rfl,rfl,Nat.le_refl _⟩,fun _ _ _=>rfl⟩;have acn:EP c w lc a 0 (eb (ps.map some) x++List.replicate (n+1-ps.length) none):=by
  intro i av hi;obtain ⟨v,h1,h2⟩:=hold i av (Dn i av hi);have:=aaM i v h1;rw [Nat.zero_add] at h2 ⊢;rw [this];exact h2
 have aaN:∀k av v,fS[k]?=some av→args.toList[k]?=some v→wR c w k (lc k) av v:=by
  have key:∀(fS:List AV) (i:Nat) (vs:List Value),Co c w lc i fS vs→∀k av v,fS[k]?=some av→vs[k]?=some v→wR c w (i+k) (lc (i+k)) av v:=by
   intro fS
   induction fS with
   |nil=>intro i vs _ k av v h;simp at h
   |cons a0 fS ih=>
    intro i vs h k av v h1 h2;obtain ⟨v0,l,rfl,g1,g2⟩:=h
    cases k with
    |zero=>simp at h1 h2;subst h1 h2;exact g1
    |succ k=>
     have:=ih (i+1) l g2 k av v (by simpa using h1) (by simpa using h2)
     rwa [show i+1+k=i+(k+1) by omega] at this
  intro k av v h1 h2;have:=key fS 0 args.toList hA k av v h1 h2
  rwa [Nat.zero_add] at this
 have aiH:∀p∈GP.an,VK (eb (ps.map some) x++List.replicate (n+1-ps.length) none) lc a p:=by
  intro p hp;obtain ⟨k,av,v,h1,h2,h3⟩:=xS 0 fS args.toList p hp;have hk:k<ps.length:=by rw [l1];exact (List.getElem?_eq_some_iff.1 h1).1
  simp only [Nat.zero_add] at h3;obtain ⟨p',q1,q2⟩:=VQ k av h1;rcases h3 with ⟨A,rfl,rfl⟩ | ⟨os,rfl,rfl⟩ | ⟨os,j,A,rfl,hj,rfl⟩
  ·refine ⟨rfl,by rw [hlen];omega,fun Rv aco=>.inl ?_⟩
   cases p' with
   |io r dd=>
    obtain ⟨B,e1,e2,e3⟩:=q2;have:=Dn k Rv aco;rw [e1] at this;simp only [Option.some.injEq] at this;exact ⟨B,this.symm,fun _=>⟨e2,e3,rfl⟩⟩
   |val _ _=>exact q2.elim
   |box _ _=>exact q2.elim
   |dR _=>exact q2.elim
  ·refine ⟨rfl,by rw [hlen];omega,fun EF _ => ?_⟩;obtain ⟨rn,vs,ty,e1,_⟩:=aaN k _ v h1 h2;rw [aaM k v h2,e1]
  ·refine ⟨rfl,by rw [hlen];omega,fun Rv aco=>.inr ?_⟩
   cases p' with
   |io r dd=>exact q2.elim
   |val _ _=>exact q2.elim
   |box _ _=>exact q2.elim
   |dR qs=>
    obtain ⟨EF,e1,e2⟩:=q2;have:=Dn k Rv aco;rw [e1] at this;simp only [Option.some.injEq] at this;obtain ⟨_,B,e3,e4,e5⟩:=e2 j A hj;refine ⟨EF,this.symm,fun A' iy => ?_⟩;rw [e3] at iy;injection iy with iy;injection iy with iy;subst iy;exact ⟨e4,e5,rfl⟩
 obtain ⟨c',hR⟩:=Rel.Rx (a:=a) EO rfl acn aiH;refine ⟨GP,c',rfl,rfl,fun p hp => ?_,fun k p av v h0 h1 h2 => ?_,HC,l1.symm,hR⟩
 ·obtain ⟨k,av,v,h1,h2,h3⟩:=xS 0 fS args.toList p hp;simp only [Nat.zero_add] at h3;obtain ⟨p',q1,q2⟩:=VQ k av h1;rcases h3 with ⟨A,rfl,rfl⟩ | ⟨os,rfl,rfl⟩ | ⟨os,j,A,rfl,hj,rfl⟩
  ·cases p' with
   |io r dd=>exact .inl ⟨k,r,_,_,_,rfl,dd,q1⟩
   |val _ _=>exact q2.elim
   |box _ _=>exact q2.elim
   |dR _=>exact q2.elim
  ·cases p' with
   |io r dd=>exact q2.elim
   |val _ _=>exact q2.elim
   |box b qs=>exact .inr (.inl ⟨k,_,b,qs,rfl,q1⟩)
   |dR _=>exact q2.elim
  ·cases p' with
   |io r dd=>exact q2.elim
   |val _ _=>exact q2.elim
   |box b qs=>exact q2.elim
   |dR qs=>exact .inr (.inr ⟨k,j,_,_,_,qs,rfl,q1⟩)
 ·obtain ⟨p',q1,q2⟩:=VQ k av h1;rw [h0] at q1
  cases q1
  have hh:=aaN k av v h1 h2;obtain ⟨a1,a2,a3⟩:=Rz (lc:=lc) 0 fS args.toList (by rw [←l1,l2]) k av v h1 h2;rw [Nat.zero_add] at a1 a2 a3 ⊢
  cases p with
  |val _ _=>cases av with
   |val _ _=>trivial
   |io _=>exact q2.elim
   |box _=>exact q2.elim
   |dR _=>exact q2.elim
  |dR qs=>cases av with
   |val _ _=>exact q2.elim
   |io _=>exact q2.elim
   |box _=>exact q2.elim
   |dR os=>
    obtain ⟨us,rfl,hl,ach⟩:=hh;obtain ⟨EF,_,e2⟩:=q2;obtain ⟨n1,_⟩:=cD.VJ os 0 _ hl;refine ⟨us,rfl,fun j A hj=>⟨(e2 j A hj).1,?_⟩⟩;have dO:j<us.toList.length:=by rw [n1];exact (List.getElem?_eq_some_iff.1 hj).1
    have hO:OwnAt c w (.dC k j) (lc k j) A us.toList[j]:=ach j _ _ hj (List.getElem?_eq_getElem dO);exact ⟨_,List.getElem?_eq_getElem dO,hO.1,hO.2.1,a3 os rfl j A hj⟩
  |io r dd=>cases av with
   |val _ _=>exact q2.elim
   |box _=>exact q2.elim
   |dR _=>exact q2.elim
   |io A=>
    have hO:OwnAt c w (.dC k 0) (lc k 0) A v:=hh;exact ⟨hO.1,hO.2.1,a1 A rfl⟩
  |box _ _=>cases av with
   |val _ _=>exact q2.elim
   |io _=>exact q2.elim
   |dR _=>exact q2.elim
   |box os=>
    obtain ⟨rn,vs,ty,e1,_⟩:=hh;refine ⟨rn,e1,?_⟩;have:=a2 os rfl;rw [e1] at this;exact this
theorem PJ {P:Program} {T:oB} (hT:jF P T) {w0:World} {mu GP:Mu} (hm:GP.m=mu.m) (iN:GP.ok=mu.ok) {c:Cz} {st:St} {a:Act} {w:World} (h:Rel w0 GP c st a w) {fn:Func} {ps:List AP} {rs:List RP} (hrs:Cr T a.tmps fn.results.toList rs)
  {lc:Nat→Nat→Loc} {fS:List AV} {vs:List Value} (h1:ps.length=fS.length) (h2:ps.length=vs.length) (hl:L1 GP lc 0 ps fS vs) {e:Ex} {y:aO (ew rs (cF ps))} (hf:ER rs ps e st=some y) :
  (e=.normal∨e=.ret)∧∃v,(results fn a.tmps).run P w=.ok v w∧∃c',FN w0 mu c' w∧vq c' w (iP rs (cF ps) y).1 v∧kx c' w lc 0 fS vs (pJ ps (iP rs (cF ps) y).2):=by
 have he:e=.normal∨e=.ret:=by
  cases e with
  |normal=>exact .inl rfl
  |ret=>exact .inr rfl
  |exit m=>cases hf
 refine ⟨he,?_⟩;have hf:((xk st 0 ps).bind fun x=>(Hy st rs (cF ps) x.1).bind fun q=>bif yo (dJ q.2.1++x.2.1)&&apart (dJ q.2.1++x.2.1) (q.2.2++x.2.2) then some q.1 else none)=some y:=by
  rcases he with rfl | rfl<;>exact hf
 obtain ⟨qx,hqx,hf⟩:=Option.bind_eq_some_iff.1 hf;obtain ⟨qr,hqr,hf⟩:=Option.bind_eq_some_iff.1 hf;obtain ⟨s8,hy⟩:=bI hf;injection hy with hy;obtain ⟨x1,u1,r1⟩:=qx;obtain ⟨x2,u2,r2⟩:=qr;subst hy;rw [Bool.and_eq_true] at s8;obtain ⟨a1,tb,a2,a3,a4⟩:=xR h ps 0 fS vs h1 h2 hl hqx;obtain ⟨b1,b2,b3,vals,b4,b5,b6⟩:=Kr hT h fn.results.toList rs hrs (cF ps) x1 hqr;have FT:∀l∈dJ u2++u1,l.real=true:=fun l hl=>(List.mem_append.1 hl).elim (b3 l) (a1 l)
 have hnd:=sn _ FT s8.1;have hap:∀p∈r2++r1,Lb.sp p.1 p.2∉dJ u2++u1:=by
  intro p hp hm;have h1:=List.all_eq_true.1 s8.2 p hp;have h2:=List.all_eq_true.1 h1 _ hm;rw [(Lb.Dt rfl).2 rfl] at h2
  cases h2
 let tab:=Dv .kK 0 u2++tb
 have aiI:tab.map (·.1)=dJ u2++u1:=by show (Dv .kK 0 u2++tb).map _=_;rw [List.map_append,Dw,a2]
 have Az:=Classical.propDecidable
 let ρ:Lb→Option Lb:=fun l=>match look tab l with | some y=>some y | none=>if l=.out then some .out else none
 have hρt:∀p∈tab,ρ p.1=some p.2:=by
  intro p hp;have:=Du tab (by rw [aiI];exact hnd) hp;show (match look tab p.1 with | some y=>some y | none=>_)=_;rw [this]
 have Dz:∀ {l y},look tab l=some y→l∈dJ u2++u1:=by
  intro l y hl;have:=BD tab hl;rw [←aiI];exact List.mem_map.2 ⟨_,this,rfl⟩
 have hρr:∀p∈r2++r1,ρ (.sp p.1 p.2)=none:=by
  intro p hp;show (match look tab (.sp p.1 p.2) with | some y=>some y | none=>if Lb.sp p.1 p.2=.out then some Lb.out else none)=none
  cases hl:look tab (.sp p.1 p.2) with
  |some y=>exact absurd (Dz hl) (hap p hp)
  |none=>simp
 have hρo:ρ .out=some .out:=by
  show (match look tab Lb.out with | some y=>some y | none=>if Lb.out=Lb.out then some Lb.out else none)=_
  cases hl:look tab Lb.out with
  |some y=>have:=FT _ (Dz hl);cases this
  |none=>simp
 have EO:FN w0 mu (c.map ρ) w:=by
  refine ⟨fun b l hb => ?_,fun b hb hn => ?_,h.kept,by rw [←hm];exact h.old⟩
  ·obtain ⟨k,hk,e⟩:=Cz.map_some hb;obtain ⟨g1,g2⟩:=h.owned b k hk;refine ⟨g1,?_⟩;rw [←hm];refine g2.imp (fun e2 => ?_) id;subst e2;rw [hρo] at e
   cases e;rfl
  ·rw [←hm,←iN]
   cases hk:c.own b with
   |none=>exact h.free b hb hk
   |some k=>
    have e:ρ k=none:=(Cz.nV (ρ:=ρ) hk).symm.trans hn;rcases (h.owned b k hk).2 with g | g | g
    ·subst g;rw [hρo] at e;cases e
    ·exact absurd g (Nat.not_le_of_lt hb)
    ·exact .inl g
 have hX:=a4 ρ (fun p hp=>hρt p (List.mem_append_right _ hp)) (fun p hp=>hρr p (List.mem_append_right _ hp));have hR:=b6 ρ 0 (fun k l hk=>by
  have:=hρt _ (List.mem_append_left tb (AD .kK 0 u2 k l hk));exact this) (fun p hp=>hρr p (List.mem_append_left _ hp))
 refine ⟨_,NH b4,c.map ρ,EO,?_,by rw [b1];exact hX⟩;have hlen:vals.length=(iP rs (cF ps) x2).1.length:=by
  have:rs.length=fn.results.toList.length:=by
   have key:∀(l:List ResultVar) (m:List RP),Cr T a.tmps l m→m.length=l.length:=by
    intro l
    induction l with
    |nil=>intro m hm;cases m with
     |nil=>rfl
     |cons _ _=>exact hm.elim
    |cons v l ih=>intro m hm;cases m with
     |nil=>exact hm.elim
     |cons r m=>simp [ih m hm.2]
   exact key _ _ hrs
  rw [b5,b2,this]
 by_cases hs:vals.toArray.size=1
 ·rw [dif_pos hs];have Df:vals.length=1:=by simpa using hs
  obtain ⟨v,rfl⟩:∃v,vals=[v]:=by
   cases vals with
   |nil=>cases Df
   |cons v l=>cases l with
    |nil=>exact ⟨v,rfl⟩
    |cons _ _=>simp at Df
  rw [Df] at hlen
  cases ho:(iP rs (cF ps) x2).1 with
  |nil=>rw [ho] at hlen;cases hlen
  |cons r l=>cases l with
   |cons _ _=>rw [ho] at hlen;simp at hlen
   |nil=>
    rw [ho] at hR;exact .inl ⟨r,rfl,hR⟩
 ·rw [dif_neg hs];refine .inr ⟨by rw [←hlen];simpa using hs,vals.toArray,rfl,by simpa using hR⟩
theorem NJ {P:Program} {T:oB} (hT:jF P T) (hE:AB P T) {S:mS} (hS:oO P S) {D:m9} {f:FuncId} {fn:Func} {code:Code} {n:Nat} {ps:List AP} {rs:List RP} {L:pT (aO (ew rs (cF ps)))} {okD:Nat→Array Oper→Prop}
  {t:aO (aH (ps.map some))→Option (aO (ew rs (cF ps)))}
  (hf:P.funcs[f]?=some fn) (hb:fn.body=some code) (hn:fn.ntmps=n) (Zc:ps.length≤n) (wF:ij n code=true) (LU:∀tm,Cr T tm fn.results.toList rs)
  (hL:∀(w0:World) (mu:Mu) (y:aO (ew rs (cF ps))),pv ps mu→fG (pF P w0 mu n L y) code)
  (hD:∀(w0:World) (mu:Mu),uV (aO (ew rs (cF ps))) P T S D w0 mu n okD) (hD2:fY okD code)
  (PK:∀(w0:World) (mu:Mu) (c:Cz) (a:Act) (w:World) x,Rel w0 mu c (start n ps x) a w→a.tmps.size=n→∃c2 lO,Rel w0 mu c2 lO a w∧gL T S D L code lO (ER rs ps)=t x):FnOk P f (pe ps rs t):=by
 intro c w mu lc fS args A y hH hA hs ho;unfold pe at hs
 cases hx:ib ps fS with
 |none=>rw [hx] at hs;cases hs
 |some x=>
  rw [hx] at hs;simp only [Option.some.injEq] at hs;subst hs;have GQ:t x=some y:=ho;obtain ⟨GP,c',hm,iN,HD,RA,HC,SO,hR⟩:=NI hH hA hx Zc;refine calls_of_wp hf hb ?_;rw [hn];have oN:(args++Array.replicate (n-args.size) undef).size=n:=by simp;omega
  obtain ⟨c2,lO,hR2,aiK⟩:=PK w GP c' _ w x hR oN;refine Dq (qk hT hE hS w GP n) (hD w GP) code wF (hL w GP y HD) hD2 (fun {e} {c1} {G7} {a1} {w1} h1 h2 h3 => ?_) hR2 oN (aiK.trans GQ);obtain ⟨he,v,vm,c2,M4,hV,hX⟩:=PJ (P:=P) hT hm iN h1 (LU a1.tmps) SO.symm (by rw [←HC];simp) RA h3;have Hv:a1.defers=[]∧∃v,(results fn a1.tmps).run P w1=.ok v w1∧(∃v',Ending.returned v=.returned v'∧∃c',FN w mu c' w1∧vq c' w1 (iP rs (cF ps) y).1 v'∧kx c' w1 lc 0 fS args.toList (pJ ps (iP rs (cF ps) y).2)):=
   ⟨h1.plain,v,vm,v,rfl,c2,M4,hV,hX⟩
  rcases he with rfl | rfl<;>exact Hv
theorem aiL {P:Program} {T:oB} (hT:jF P T) (hE:AB P T) {S:mS} (hS:oO P S) {D:m9} {f:FuncId} {fn:Func} {code:Code} {n:Nat} {ps:List AP} {rs:List RP} {L:pT (aO (ew rs (cF ps)))} {okD:Nat→Array Oper→Prop}
  {t:aO (aH (ps.map some))→Option (aO (ew rs (cF ps)))}
  (hf:P.funcs[f]?=some fn) (hb:fn.body=some code) (hn:fn.ntmps=n) (Zc:ps.length≤n) (wF:ij n code=true) (LU:∀tm,Cr T tm fn.results.toList rs)
  (hL:∀(w0:World) (mu:Mu) (y:aO (ew rs (cF ps))),pv ps mu→fG (pF P w0 mu n L y) code)
  (hD:∀(w0:World) (mu:Mu),uV (aO (ew rs (cF ps))) P T S D w0 mu n okD) (hD2:fY okD code)
  (PK:∀x,gL T S D L code (start n ps x) (ER rs ps)=t x):FnOk P f (pe ps rs t):=
 NJ hT hE hS hf hb hn Zc wF LU hL hD hD2 (fun _ _ c _ _ x h _=>⟨c,_,h,PK x⟩)
end Go.TM
namespace Go.TM
open Go Go.RowKit
def iter {X E:Type} (round:X→Option (Sum X E)):Nat→X→Option E
 |0,_=>none
 |n+1,x=>match round x with
  |some (.inl y)=>iter round n y
  |some (.inr e)=>some e
  |none=>none
theorem ES {X E:Type} {round:X→Option (Sum X E)}:(n:Nat)→{x:X}→{e:E}→iter round n x=some e→∀m,n≤m→iter round m x=some e
 |0,_,_,h,_,_=>by cases h
 |n+1,x,e,h,0,hm=>by omega
 |n+1,x,e,h,m+1,hm=>by
  unfold iter at h ⊢
  cases hr:round x with
  |none=>rw [hr] at h;cases h
  |some z=>cases z with
   |inl y=>rw [hr] at h;exact ES n h m (by omega)
   |inr e'=>rw [hr] at h;exact h
noncomputable def aJ {X E:Type} (round:X→Option (Sum X E)) (x:X):Option E:=
 have:=Classical.propDecidable (∃e n,iter round n x=some e)
 if h:∃e n,iter round n x=some e then some (Classical.choose h) else none
theorem HE {X E:Type} {round:X→Option (Sum X E)} {x:X} {e:E} {n:Nat} (h:iter round n x=some e):aJ round x=some e:=by
 have hex:∃e n,iter round n x=some e:=⟨e,n,h⟩;unfold aJ;simp only;rw [dif_pos hex];obtain ⟨m,hm⟩:=Classical.choose_spec hex;have h1:=ES m hm (max m n) (Nat.le_max_left _ _);have h2:=ES n h (max m n) (Nat.le_max_right _ _);rw [h1] at h2;exact h2
theorem yA {X E:Type} {round:X→Option (Sum X E)} {x:X} {e:E} (h:aJ round x=some e):∃n,iter round n x=some e:=by
 unfold aJ at h;simp only at h
 split at h
 ·rename_i hex;injection h with h;rw [←h];exact Classical.choose_spec hex
 ·cases h
theorem jH {X E:Type} (round:X→Option (Sum X E)) (x:X):aJ round x=match round x with | some (.inl y)=>aJ round y | some (.inr e)=>some e | none=>none:=by
 cases hr:round x with
 |none=>
  cases h:aJ round x with
  |none=>rfl
  |some e=>
   obtain ⟨n,hn⟩:=yA h
   cases n with
   |zero=>cases hn
   |succ n=>unfold iter at hn;rw [hr] at hn;cases hn
 |some z=>cases z with
  |inr e=>exact HE (n:=1) (by unfold iter;rw [hr])
  |inl y=>
   simp only
   cases h:aJ round y with
   |some e=>
    obtain ⟨n,hn⟩:=yA h;exact HE (n:=n+1) (by unfold iter;rw [hr];exact hn)
   |none=>
    cases h2:aJ round x with
    |none=>rfl
    |some e=>
     obtain ⟨n,hn⟩:=yA h2
     cases n with
     |zero=>cases hn
     |succ n=>
      unfold iter at hn;rw [hr] at hn;rw [HE hn] at h
      cases h
def DD (st:St) (hp:List (Option AP)):Option (aO (aH hp)):=
 (ql st 0 hp).bind fun q=>bif yo q.2.1&&apart q.2.1 q.2.2 then some q.1 else none
def pK (hp:List (Option AP)) (x:aO (aH hp)):St:=rp 0 (eb hp x)
def ik:List AP→List (Option AP)→Bool
 | [],_=>true
 |.val _ _::ps,_::hp=>ik ps hp
 |.io _ _::ps,o::hp=>(match o with | none=>true | some (.io _ _)=>true | _=>false)&&ik ps hp
 |.box _ _::ps,o::hp=>(match o with | none=>true | some (.box l _)=>l | some (.val _ _)=>true | _=>false)&&ik ps hp
 |.dR _::_,_::_=>false
 |_::_,[]=>false
theorem yB:(ps:List AP)→(hp:List (Option AP))→ik ps hp=true→∀(i:Nat) (p:AP),ps[i]?=some p→∃o,hp[i]?=some o∧match p with
  |.val _ _=>True
  |.io _ _=>o=none∨∃r d,o=some (.io r d)
  |.box _ _=>o=none∨(∃a b,o=some (.val a b))∨∃b,o=some (.box true b)
  |.dR _=>False
 | [],_,_=>by intro i p h;simp at h
 |p::ps,[],h=>by cases p<;>simp [ik] at h
 |p::ps,o::hp,h=>by
  intro i p' hi;have gM:ik ps hp=true:=by
   cases p with
   |val _ _=>exact h
   |io _=>unfold ik at h;rw [Bool.and_eq_true] at h;exact h.2
   |dR _=>cases h
   |box _ _=>unfold ik at h;rw [Bool.and_eq_true] at h;exact h.2
  cases i with
  |succ i=>exact (yB ps hp gM i p' (by simpa using hi)).imp fun o ho=>⟨by simpa using ho.1,ho.2⟩
  |zero=>
   simp only [List.getElem?_cons_zero,Option.some.injEq] at hi;subst hi;refine ⟨o,rfl,?_⟩
   cases p with
   |val _ _=>trivial
   |dR _=>cases h
   |io _=>
    unfold ik at h;rw [Bool.and_eq_true] at h
    cases o with
    |none=>exact .inl rfl
    |some q=>cases q with
     |io r d=>exact .inr ⟨r,d,rfl⟩
     |val _ _=>cases h.1
     |box _ _=>cases h.1
     |dR _=>cases h.1
   |box _ _=>
    unfold ik at h;rw [Bool.and_eq_true] at h
    cases o with
    |none=>exact .inl rfl
    |some q=>cases q with
     |io r d=>cases h.1
     |dR _=>cases h.1
     |val a b=>exact .inr (.inl ⟨a,b,rfl⟩)
     |box l b=>
      have:l=true:=h.1;subst this;exact .inr (.inr ⟨b,rfl⟩)
end Go.TM
namespace Go.TM
open Go Go.RowKit
theorem VR {st:St} {k:Nat} {rr:RT} {dd:Md} {t:RT} {V:V} {y:aO t} {x:aO (.cons (.sl rr) t)} {u:List Lb} {r:List (Nat×Nat)} (h:FU st k (.io rr dd) t V y=some (x,u,r)):∃A,cE st k 0 1=some A∧ef rr A.xs=some x.1:=by
 cases V with
 |agg _=>cases h
 |qd _=>cases h
 |one cx=>cases cx with
  |ref a j g vw=>cases vw with
   |full=>
    have h:(bif Nat.beq a k&&(Nat.beq j 0&&Nat.beq g 1) then ((cE st a j g).bind fun A=>bif A.own&&A.md.is dd then (ef rr A.xs).map fun xs=>((xs,y),[Lb.sp a j],([]:List (Nat×Nat))) else none) else none)=some (x,u,r):=h;obtain ⟨h1,h2⟩:=bI h;rw [Bool.and_eq_true,Bool.and_eq_true] at h1;have e1:=Nat.eq_of_beq_eq_true h1.1;have e2:=Nat.eq_of_beq_eq_true h1.2.1;have e3:=Nat.eq_of_beq_eq_true h1.2.2;subst e1 e2 e3;obtain ⟨A,hA,h3⟩:=Option.bind_eq_some_iff.1 h2;obtain ⟨_,h4⟩:=bI h3;obtain ⟨xs,hxs,e⟩:=Option.map_eq_some_iff.1 h4;injection e with e _;exact ⟨A,hA,by rw [hxs,←e];rfl⟩
   |«from» _=>cases h
   |sub _ _=>cases h
  |_=>cases h
theorem SR {st:St} {k:Nat} {qs:List OP} {t:RT} {V:V} {y:aO t} {x:aO (pb qs t)} {u:List Lb} {r:List (Nat×Nat)} (h:FU st k (.box true qs) t V y=some (x,u,r)):V=.one (.ptr k 1 0)∧∃cs,fM st k 1=some cs:=by
 cases V with
 |agg _=>cases h
 |qd _=>cases h
 |one cx=>cases cx with
  |ptr b g off=>
   have h:(bif Nat.beq off 0&&(!true||(Nat.beq b k&&Nat.beq g 1)) then ((fM st b g).bind fun cs=>(nw st qs t cs y).map fun q=>(q.1,Lb.box b::dJ q.2.1,q.2.2)) else none)=some (x,u,r):=h;obtain ⟨h1,h2⟩:=bI h;simp only [Bool.not_true,Bool.false_or] at h1;rw [Bool.and_eq_true,Bool.and_eq_true] at h1;have e1:=Nat.eq_of_beq_eq_true h1.1;have e2:=Nat.eq_of_beq_eq_true h1.2.1;have e3:=Nat.eq_of_beq_eq_true h1.2.2;subst e1 e2 e3;obtain ⟨cs,Ao,_⟩:=Option.bind_eq_some_iff.1 h2;exact ⟨rfl,cs,Ao⟩
  |_=>cases h
theorem AG {w0:World} {mu:Mu} {c:Cz} {st:St} {a:Act} {w:World} (h:Rel w0 mu c st a w):(l:List (Option AP))→(k:Nat)→{x:aO (aH l)}→{u:List Lb}→{r:List (Nat×Nat)}→ql st k l=some (x,u,r)→∀(i:Nat),
  (∀rr dd,l[i]?=some (some (.io rr dd))→∃B A:ns,(eb l x)[i]?=some (some (.io B))∧cE st (k+i) 0 1=some A∧B.r.width=A.r.width∧B.xs.length=A.xs.length)∧
  (∀qs,l[i]?=some (some (.box true qs))→(∃cs,fM st (k+i) 1=some cs)∧dI st (k+i)=.one (.ptr (k+i) 1 0))∧
  (l[i]?=some none→(eb l x)[i]?=some none)∧(∀ag b,l[i]?=some (some (.val ag b))→∃os,(eb l x)[i]?=some (some (.val ag os)))
 | [],k,x,u,r,he=>by intro i;simp
 |none::l,k,x,u,r,he=>by
  intro i
  cases i with
  |zero=>exact ⟨fun _ _ h=>by simp at h,fun _ h=>by simp at h,fun _=>rfl,fun _ _ h=>by simp at h⟩
  |succ i=>
   have:=AG h l (k+1) he i;rw [show k+1+i=k+(i+1) by omega] at this;exact this
 |some p::l,k,x,u,r,he=>by
  intro i;unfold ql at he
  cases h1:ql st (k+1) l with
  |none=>simp [h1] at he
  |some q1=>
   obtain ⟨y,us,rs⟩:=q1;simp only [h1] at he
   cases h2:FU st k p (aH l) (dI st k) y with
   |none=>simp [h2] at he
   |some q2=>
    obtain ⟨x1,u1,r1⟩:=q2;simp only [h2] at he;injection he with he;injection he with e1 e2;subst e1
    cases i with
    |succ i=>
     have hh:=AG h l (k+1) h1 i;rw [show k+1+i=k+(i+1) by omega] at hh;have e:(p.av (aH l) x1).2=y:=(DA h k (h.je k) h2).1;have e2:(eb (some p::l) x1)[i+1]?=(eb l y)[i]?:=by
      show (eb l (p.av (aH l) x1).2)[i]?=_;rw [e]
     rw [e2];exact hh
    |zero=>
     have e2:(eb (some p::l) x1)[0]?=some (some (p.av (aH l) x1).1):=rfl;rw [e2];simp only [List.getElem?_cons_zero,Option.some.injEq,Nat.add_zero];refine ⟨fun rr dd e => ?_,fun qs e => ?_,(fun e=>by cases e),fun ag b e => ?_⟩
     ·subst e;obtain ⟨A,hA,hc⟩:=VR h2;obtain ⟨er,UQ⟩:=cU hc;refine ⟨_,A,rfl,hA,by show rr.width=_;rw [←er],?_⟩;show List.length (x1.1:List (aO rr))=_;rw [UQ]
      cases er
      rfl
     ·subst e;obtain ⟨q1,q2⟩:=SR h2;exact ⟨q2,q1⟩
     ·subst e;exact ⟨_,rfl⟩
end Go.TM
namespace Go.TM
open Go Go.RowKit
theorem ET {w0:World} {mu:Mu} {c:Cz} {st:St} {a:Act} {w:World} (h:Rel w0 mu c st a w) {ps:List AP} (hs:pv ps mu) {hp:List (Option AP)} (rD:ik ps hp=true) {x:aO (aH hp)} (hx:DD st hp=some x):∃c',Rel w0 mu c' (pK hp x) a w:=by
 obtain ⟨q,hq,PA⟩:=Option.bind_eq_some_iff.1 hx;obtain ⟨s8,LZ⟩:=bI PA;injection LZ with LZ;obtain ⟨x0,u,r⟩:=q;subst LZ;rw [Bool.and_eq_true] at s8;obtain ⟨FT,tb,VC,aiy,hold⟩:=AF h hp 0 hq;have hat:=AG h hp 0 hq;have hnd:=sn _ FT s8.1;have hap:∀p∈r,Lb.sp p.1 p.2∉u:=by
  intro p hp hm;have h1:=List.all_eq_true.1 s8.2 p hp;have h2:=List.all_eq_true.1 h1 _ hm;rw [(Lb.Dt rfl).2 rfl] at h2
  cases h2
 have Az:=Classical.propDecidable
 let ρ:Lb→Option Lb:=fun l=>match look tb l with | some y=>some y | none=>if l=.out then some .out else none
 have hρt:∀p∈tb,ρ p.1=some p.2:=by
  intro p hp;have:=Du tb (by rw [VC];exact hnd) hp;show (match look tb p.1 with | some y=>some y | none=>_)=_;rw [this]
 have Dz:∀ {l y},look tb l=some y→l∈u:=by
  intro l y hl;have:=BD tb hl;rw [←VC];exact List.mem_map.2 ⟨_,this,rfl⟩
 have hρr:∀p∈r,ρ (.sp p.1 p.2)=none:=by
  intro p hp;show (match look tb (.sp p.1 p.2) with | some y=>some y | none=>if Lb.sp p.1 p.2=.out then some Lb.out else none)=none
  cases hl:look tb (.sp p.1 p.2) with
  |some y=>exact absurd (Dz hl) (hap p hp)
  |none=>simp
 have hρo:ρ .out=some .out:=by
  show (match look tb Lb.out with | some y=>some y | none=>if Lb.out=Lb.out then some Lb.out else none)=_
  cases hl:look tb Lb.out with
  |some y=>have:=FT _ (Dz hl);cases this
  |none=>simp
 have EO:FN w0 mu (c.map ρ) w:=by
  refine ⟨fun b l hb => ?_,fun b hb hn => ?_,h.kept,h.old⟩
  ·obtain ⟨k,hk,e⟩:=Cz.map_some hb;obtain ⟨g1,g2⟩:=h.owned b k hk;refine ⟨g1,g2.imp (fun e2 => ?_) id⟩;subst e2;rw [hρo] at e
   cases e;rfl
  ·cases hk:c.own b with
   |none=>exact h.free b hb hk
   |some k=>
    have e:ρ k=none:=(Cz.nV (ρ:=ρ) hk).symm.trans hn;rcases (h.owned b k hk).2 with g | g | g
    ·subst g;rw [hρo] at e;cases e
    ·exact absurd g (Nat.not_le_of_lt hb)
    ·exact .inl g
 refine Rel.Rx EO h.plain (hold ρ hρt hρr) (fun p hpm => ?_);have Zp:=h.hY p hpm;have hlen:∀(i:Nat) (o:Option AP),hp[i]?=some o→i<(eb hp x0).length:=fun i o ho=>by rw [ui];exact (List.getElem?_eq_some_iff.1 ho).1
 rcases hs p hpm with ⟨i,rr,W,n,l,rfl,dd,hpi⟩ | ⟨i,rn,b,qs,rfl,hpi⟩ | ⟨i,j,W,n,l,qs,rfl,hpi⟩
 ·obtain ⟨o,ho,YT⟩:=yB ps hp rD i _ hpi;refine ⟨rfl,hlen i o ho,fun av Ny=>.inl ?_⟩;rcases YT with rfl | ⟨r2,d2,rfl⟩
  ·rw [(hat i).2.2.1 ho] at Ny;cases Ny
  ·obtain ⟨B,A,e1,e2,e3,e4⟩:=(hat i).1 r2 d2 ho;rw [e1] at Ny;simp only [Option.some.injEq] at Ny;rw [Nat.zero_add] at e2;obtain ⟨f1,f2,f3⟩:=Zp.2 A e2;exact ⟨B,Ny.symm,fun _=>⟨e3.trans f1,e4.trans f2,f3⟩⟩
 ·obtain ⟨o,ho,YT⟩:=yB ps hp rD i _ hpi;refine ⟨rfl,hlen i o ho,fun os xL => ?_⟩;rcases YT with rfl | ⟨a1,b1,rfl⟩ | ⟨b1,rfl⟩
  ·rw [(hat i).2.2.1 ho] at xL;cases xL
  ·obtain ⟨EF,e⟩:=(hat i).2.2.2 a1 b1 ho;rw [e] at xL;cases xL
  ·obtain ⟨⟨cs,Ao⟩,hv⟩:=(hat i).2.1 b1 ho;rw [Nat.zero_add] at Ao hv;have xP:=h.je i;rw [hv] at xP;rw [xP.2.2 cs Ao,Zp.2 cs Ao]
 ·obtain ⟨o,ho,YT⟩:=yB ps hp rD i _ hpi;exact YT.elim
def EU (id:Nat) (hp e0 e1:List (Option AP)):Ex→St→Option (Sum (aO (aH hp)) (Sum (aO (aH e0)) (aO (aH e1))))
 |.normal,st=>(DD st hp).map .inl
 |.exit m,st=>bif Nat.beq m id then (DD st e0).map fun y=>.inr (.inl y) else none
 |.ret,st=>(DD st e1).map fun y=>.inr (.inr y)
noncomputable def EV {R:Type} (hp e0 e1:List (Option AP)) (round:aO (aH hp)→Option (Sum (aO (aH hp)) (Sum (aO (aH e0)) (aO (aH e1))))) (st:St) (k:Ex→St→Option R):Option R:=
 (DD st hp).bind fun x=>(aJ round x).bind fun z=>match z with
  |.inl y=>k .normal (pK e0 y)
  |.inr y=>k .ret (pK e1 y)
theorem Zq {R:Type} {P:Program} {T:oB} {S:mS} {D:m9} {n id:Nat} {w0:World} {mu:Mu} {ps:List AP} {hp e0 e1:List (Option AP)} {b:Code} {r:R} {L:pT R} {okD:Nat→Array Oper→Prop}
  {L':pT (Sum (aO (aH hp)) (Sum (aO (aH e0)) (aO (aH e1))))} {round:aO (aH hp)→Option (Sum (aO (aH hp)) (Sum (aO (aH e0)) (aO (aH e1))))}
  (Jm:wQ P T S w0 mu n) (hD:uV (Sum (aO (aH hp)) (Sum (aO (aH e0)) (aO (aH e1)))) P T S D w0 mu n okD) (hs:pv ps mu) (hf:(ik ps hp&&(ik ps e0&&ik ps e1))=true) (wF:ij n b=true) (hD2:fY okD b)
  (Gx:∀z,fG (pF P w0 mu n L' z) b) (PL:∀x,gL T S D L' b (pK hp x) (EU id hp e0 e1)=round x) (hL:∀st k,L id b st k=EV hp e0 e1 round st k):pF P w0 mu n L r id b:=by
 intro k Q hk c st a w h hn hv;rw [Bool.and_eq_true,Bool.and_eq_true] at hf;rw [hL] at hv;unfold EV at hv;obtain ⟨x,hx,hv⟩:=Option.bind_eq_some_iff.1 hv;obtain ⟨z,hz,hv⟩:=Option.bind_eq_some_iff.1 hv;obtain ⟨c1,h1⟩:=ET h hs hf.1 hx;obtain ⟨m,hm⟩:=yA hz;refine wp_block ?_;refine wp_loop_ghost (fun m a w=>∃x c,Rel w0 mu c (pK hp x) a w∧a.tmps.size=n∧iter round m x=some z) m ⟨x,c1,h1,hn,hm⟩ ?_
 rintro m a w ⟨x,c,hR,hn,hi⟩
 cases m with
 |zero=>cases hi
 |succ m=>
  unfold iter at hi
  cases hr:round x with
  |none=>rw [hr] at hi;cases hi
  |some y=>
   rw [hr] at hi;refine Dq Jm hD b wF (Gx y) hD2 (fun {e} {c2} {lO} {a2} {w2} g1 g2 g3 => ?_) hR hn ((PL x).trans hr)
   cases e with
   |normal=>
    obtain ⟨x2,q1,rfl⟩:=Option.map_eq_some_iff.1 g3;obtain ⟨c3,g4⟩:=ET g1 hs hf.1 q1;exact ⟨m,Nat.lt_succ_self m,x2,c3,g4,g2,hi⟩
   |exit m'=>
    obtain ⟨wC,g5⟩:=bI g3;have wC:=Nat.eq_of_beq_eq_true wC;subst wC;obtain ⟨x2,q1,rfl⟩:=Option.map_eq_some_iff.1 g5;injection hi with hi;subst hi;obtain ⟨c3,g4⟩:=ET g1 hs hf.2.1 q1;show (if m'=m' then Q .normal a2 w2 else Q (.exit m') a2 w2);rw [if_pos rfl];exact hk g4 g2 hv
   |ret=>
    obtain ⟨x2,q1,rfl⟩:=Option.map_eq_some_iff.1 g3;injection hi with hi;subst hi;obtain ⟨c3,g4⟩:=ET g1 hs hf.2.2 q1;exact hk g4 g2 hv
end Go.TM
namespace Go.TM
open Go Go.RowKit
section
variable {P:Program} {ops:Array Oper} {Q:Exit→Act→World→Prop} {md:Region.Mode} {ds:List Nat}
def xl (md:Region.Mode) (ops:Array Oper) (i:Nat):Nat→Nat→Bool
 |0,_=>false
 |fuel+1,d=>match ops[d]? with
  |some o=>o.after.any fun e=>Region.binds md e&&(e.on==i||xl md ops i fuel e.on)
  |none=>false
def xm (md:Region.Mode) (ops:Array Oper) (bB:Array Bool):Prop:=
 ∀j oj,ops[j]?=some oj→bB.getD j false=true→∀e∈oj.after,Region.binds md e=true→bB.getD e.on false=true
theorem xm.set {bB:Array Bool} {i:Nat} (h:xm md ops bB) (hi:i∈Region.ready md ops bB):xm md ops (bB.setIfInBounds i true):=by
 obtain ⟨_,oi,RB,q8⟩:=mem_ready.1 hi;intro j oj hj hl e he hb
 by_cases VS:i=j
 ·subst VS;have:oj=oi:=Option.some.inj (hj.symm.trans RB);subst this;exact getD_set_true (q8 e he hb)
 ·rw [getD_set_ne false VS] at hl;exact getD_set_true (h j oj hj hl e he hb)
theorem xm.none (md:Region.Mode) (ops:Array Oper) (n:Nat):xm md ops (Array.replicate n false):=by
 intro j oj _ hl;simp [Array.getD_eq_getD_getElem?,Array.getElem?_replicate] at hl
 split at hl<;>simp at hl
theorem DE {bB:Array Bool} {i:Nat} (hc:xm md ops bB):∀(fuel d:Nat),xl md ops i fuel d=true→bB.getD d false=true→bB.getD i false=true
 |0,_,h,_=>by simp [xl] at h
 |fuel+1,d,h,hl=>by
  unfold xl at h
  cases ho:ops[d]? with
  |none=>rw [ho] at h;simp at h
  |some o=>
   rw [ho] at h;obtain ⟨e,he,h1⟩:=Array.any_eq_true'.1 h;simp only [Bool.and_eq_true,Bool.or_eq_true,beq_iff_eq] at h1;have hle:=hc d o ho hl e he h1.1;rcases h1.2 with h2 | h2
   ·rw [←h2];exact hle
   ·exact DE hc fuel e.on h2 hle
theorem Gy {bB:Array Bool} {i d fuel:Nat} (hc:xm md ops bB) (hr:xl md ops i fuel d=true) (M5:bB.getD i true=false):d∉Region.ready md ops bB:=by
 intro hd;obtain ⟨_,o,ho,q8⟩:=mem_ready.1 hd;have hi:bB.getD i false=true:=by
  cases fuel with
  |zero=>simp [xl] at hr
  |succ n=>
   unfold xl at hr;rw [ho] at hr;obtain ⟨e,he,h1⟩:=Array.any_eq_true'.1 hr;simp only [Bool.and_eq_true,Bool.or_eq_true,beq_iff_eq] at h1;have hle:=q8 e he h1.1;rcases h1.2 with h2 | h2
   ·rw [←h2];exact hle
   ·exact DE hc n e.on h2 hle
 rcases Nat.lt_or_ge i bB.size with h' | h'
 ·simp [h'] at M5 hi;rw [M5] at hi
  cases hi
 ·simp [Array.getElem?_eq_none h'] at M5
def rG (P:Program) (md:Region.Mode) (ops:Array Oper) (Q:Exit→Act→World→Prop) (ds:List Nat):Nat→Array Bool→Act→World→Prop
 |0,bB,a,w=>Region.ready md ops bB=[]∧Q .normal a w
 |fuel+1,bB,a,w=>
  (Region.ready md ops bB=[]→Q .normal a w)∧
  ∀i∈Region.ready md ops bB,wpOp P ops Q i (fun a' w'=>(i∉ds→lh w w')∧rG P md ops Q ds fuel (bB.setIfInBounds i true) a' w') a w
theorem Cj:∀(fuel:Nat) (bB:Array Bool) (a:Act) (w:World),rG P md ops Q ds fuel bB a w→wpAny P md ops Q fuel bB a w
 |0,_,_,_,h=>h
 |fuel+1,_,_,_,h=>⟨h.1,fun i hi=>wpOp_mono (fun a' w' h'=>Cj fuel _ a' w' h'.2) (h.2 i hi)⟩
theorem L2 {i:Nat} {oi:Oper} {v:Value} {w0:World} (hi:ops[i]?=some oi) (NK:∀(j:Nat) (o:Oper) cs b,ops[j]?=some o→o.op≠.select cs b)
  (hQ:∀c a w,Q (.panic c) (a.put oi.dst v) w→Q (.panic c) a w) (n:Nat) :
  ∀(fuel:Nat) (bB:Array Bool) (a:Act) (w:World),
   (∀j oj,ops[j]?=some oj→j≠i→bB.getD j true=false→(∀e∈oj.after,Region.binds md e=true→e.on≠i)→oi.apart ops oj=true)→
   xm md ops bB→(∀d∈ds,bB.getD d true=false→xl md ops i n d=true)→
   i∈Region.ready md ops bB→YieldsIf P ops (lh w0) oi v a→lh w0 w→
   rG P md ops Q ds fuel (bB.setIfInBounds i true) (a.put oi.dst v) w→rG P md ops Q ds (fuel+1) bB a w:=by
 intro fuel
 induction fuel with
 |zero=>
  intro bB a w _ _ _ hr hy hS H;refine ⟨fun h=>(by rw [h] at hr;cases hr),fun j hj => ?_⟩
  by_cases L3:j=i
  ·subst L3;exact hy.wpOp hi hS ⟨fun _=>lh.refl w,H⟩
  ·have:=ready_mono hj L3;rw [H.1] at this
   cases this
 |succ fuel ih=>
  intro bB a w Hk hc hd hr hy hS H;refine ⟨fun h=>(by rw [h] at hr;cases hr),fun j hj => ?_⟩
  by_cases L3:j=i
  ·subst L3;exact hy.wpOp hi hS ⟨fun _=>lh.refl w,H⟩
  ·have h1:=H.2 j (ready_mono hj L3);obtain ⟨PM,oj,hoj,q8⟩:=mem_ready.1 hj;have SS:=(mem_ready.1 hr).1;have acq:∀e∈oj.after,Region.binds md e=true→e.on≠i:=fun e he hb heq=>by
    have h1:=q8 e he hb;rw [heq] at h1;rcases Nat.lt_or_ge i bB.size with h' | h'
    ·simp [h'] at SS h1;rw [SS] at h1;cases h1
    ·simp [Array.getElem?_eq_none h'] at h1
   have hjd:j∉ds:=fun hm=>Gy hc (hd j hm PM) SS hj
   have h2:=wpOp_putIf hoj (Hk j oj hoj L3 PM acq) (fun cs b=>NK i oi cs b hi) (fun cs b=>NK j oj cs b hoj) hQ hy h1;have PN:∀k ok,ops[k]?=some ok→k≠i→(bB.setIfInBounds j true).getD k true=false→
     (∀e∈ok.after,Region.binds md e=true→e.on≠i)→oi.apart ops ok=true:=fun k ok hk hki M5 YU=>by
    refine Hk k ok hk hki ?_ YU
    by_cases NL:j=k
    ·subst NL;exact PM
    ·rw [getD_set_ne true NL] at M5;exact M5
   have UP:∀d∈ds,(bB.setIfInBounds j true).getD d true=false→xl md ops i n d=true:=fun d hm M5=>by
    refine hd d hm ?_
    by_cases NL:j=d
    ·subst NL;exact PM
    ·rw [getD_set_ne true NL] at M5;exact M5
   refine wpOp_mono (fun a' w' h3=>⟨h3.2.1,ih (bB.setIfInBounds j true) a' w' PN (hc.set hj) UP (ready_mono hr (Ne.symm L3)) h3.1 (hS.trans (h3.2.1 hjd)) ?_⟩) h2;rw [Array.setIfInBounds_comm _ _ L3];exact h3.2.2
theorem PO {i:Nat} {oi:Oper} {v:Value} (hi:ops[i]?=some oi) (NK:∀(j:Nat) (o:Oper) cs b,ops[j]?=some o→o.op≠.select cs b)
  (hQ:∀c a w,Q (.panic c) (a.put oi.dst v) w→Q (.panic c) a w) :
  ∀(fuel:Nat) (bB:Array Bool) (a:Act) (w:World),
   (∀j oj,ops[j]?=some oj→j≠i→bB.getD j true=false→(∀e∈oj.after,Region.binds md e=true→e.on≠i)→oi.apart ops oj=true)→
   i∈Region.ready md ops bB→Yields P ops oi v a→
   rG P md ops Q ds fuel (bB.setIfInBounds i true) (a.put oi.dst v) w→rG P md ops Q ds (fuel+1) bB a w:=by
 intro fuel
 induction fuel with
 |zero=>
  intro bB a w _ hr hy H;refine ⟨fun h=>(by rw [h] at hr;cases hr),fun j hj => ?_⟩
  by_cases L3:j=i
  ·subst L3;exact (hy.yieldsIf (S:=fun _=>True)).wpOp hi trivial ⟨fun _=>lh.refl w,H⟩
  ·have:=ready_mono hj L3;rw [H.1] at this
   cases this
 |succ fuel ih=>
  intro bB a w Hk hr hy H;refine ⟨fun h=>(by rw [h] at hr;cases hr),fun j hj => ?_⟩
  by_cases L3:j=i
  ·subst L3;exact (hy.yieldsIf (S:=fun _=>True)).wpOp hi trivial ⟨fun _=>lh.refl w,H⟩
  ·have h1:=H.2 j (ready_mono hj L3);obtain ⟨PM,oj,hoj,q8⟩:=mem_ready.1 hj;have SS:=(mem_ready.1 hr).1;have acq:∀e∈oj.after,Region.binds md e=true→e.on≠i:=fun e he hb heq=>by
    have h1:=q8 e he hb;rw [heq] at h1;rcases Nat.lt_or_ge i bB.size with h' | h'
    ·simp [h'] at SS h1;rw [SS] at h1;cases h1
    ·simp [Array.getElem?_eq_none h'] at h1
   have h2:=wpOp_put hoj (Hk j oj hoj L3 PM acq) (fun cs b=>NK i oi cs b hi) (fun cs b=>NK j oj cs b hoj) hQ hy h1;have PN:∀k ok,ops[k]?=some ok→k≠i→(bB.setIfInBounds j true).getD k true=false→
     (∀e∈ok.after,Region.binds md e=true→e.on≠i)→oi.apart ops ok=true:=fun k ok hk hki M5 YU=>by
    refine Hk k ok hk hki ?_ YU
    by_cases NL:j=k
    ·subst NL;exact PM
    ·rw [getD_set_ne true NL] at M5;exact M5
   refine wpOp_mono (fun a' w' h3=>⟨h3.2.1,ih (bB.setIfInBounds j true) a' w' PN (ready_mono hr (Ne.symm L3)) h3.1 ?_⟩) h2;rw [Array.setIfInBounds_comm _ _ L3];exact h3.2.2
end
end Go.TM
namespace Go.TM
open Go Go.RowKit
def Cs (i:Nat):List Nat→Bool
 | []=>false
 |x::l=>Nat.beq x i||Cs i l
def upB (ops:List Oper) (ls:List Nat) (j:Nat):Bool:=
 match nth ops j with
 |some o => !Cs j ls&&o.after.toList.all fun e => !Region.binds .any e||Cs e.on ls
 |none=>false
def RC (ops:Array Oper) (NM:List Oper) (n:Nat) (ls:List Nat) (i:Nat):Bool:=
 match nth NM i with
 |some oi=>(List.range n).all fun j=>Nat.beq j i||(Cs j ls||match nth NM j with
  |some oj=>(oj.after.toList.any fun e=>Region.binds .any e&&Nat.beq e.on i)||oi.apart ops oj
  |none=>true)
 |none=>false
def L4 (NM:List Oper) (n:Nat) (ls:List Nat) (i:Nat):Bool:=(List.range n).all fun j=>Nat.beq j i || !upB NM ls j
def Pl.eb:Pl→List Nat
 |.nil=>[]
 |.op i _ _=>[i]
 |.alt p q=>p.eb++q.eb
def VT (NM:List Oper) (n:Nat) (ls hs:List Nat):Bool:=(List.range n).all fun j => !upB NM ls j||Cs j hs
def nz (ops:Array Oper) (NM:List Oper) (n:Nat) (ds:List Nat):Bool→List Nat→Pl→Bool
 |al,ls,.nil => !al&&(List.range n).all fun j => !upB NM ls j
 |al,ls,.op i kd r=>upB NM ls i&&((match kd with
   |.any => !al&&RC ops NM n ls i
   |.take => !al&&(RC ops NM n ls i&&ds.all fun d=>Cs d ls||xl .any ops i n d)
   |.one=>al||L4 NM n ls i
   |.last=>(al||L4 NM n ls i)&&Cs i ds)&&nz ops NM n ds false (i::ls) r)
 |al,ls,.alt p q=>(al||VT NM n ls (p.eb++q.eb))&&(nz ops NM n ds true ls p&&nz ops NM n ds true ls q)
def Ks:Pl→List Nat
 |.nil=>[]
 |.op i .last l=>i::Ks l
 |.op _ _ l=>Ks l
 |.alt p q=>Ks p++Ks q
def Pl.depth:Pl→Nat
 |.nil=>0
 |.op _ _ l=>l.depth+1
 |.alt p q=>Nat.max p.depth q.depth
def HF (ops:Array Oper) (l:Pl):Bool:=
 Region.noSelect ops&&(Nat.ble l.depth ops.size&&nz ops ops.toList ops.size (Ks l) false [] l)
structure YV (n:Nat) (ls:List Nat) (bB:Array Bool):Prop where
 size:bB.size=n
 gf:∀j,bB.getD j false=Cs j ls
 gt:∀j,bB.getD j true=(Cs j ls||decide (n≤j))
theorem YV.push {n:Nat} {ls:List Nat} {bB:Array Bool} (h:YV n ls bB) {i:Nat} (hi:i<n):YV n (i::ls) (bB.setIfInBounds i true) where
 size:=by simp [h.size]
 gf:=fun j=>by
  unfold Cs
  by_cases e:i=j
  ·subst e;have:Nat.beq i i=true:=Nat.beq_refl i;rw [this];simp [h.size,hi]
  ·rw [getD_set_ne false e,h.gf j];have:Nat.beq i j=false:=by
    cases hq:Nat.beq i j
    ·rfl
    ·exact absurd (Nat.eq_of_beq_eq_true hq) e
   simp [this]
 gt:=fun j=>by
  unfold Cs
  by_cases e:i=j
  ·subst e;simp [h.size,hi]
  ·rw [getD_set_ne true e,h.gt j];have:Nat.beq i j=false:=by
    cases hq:Nat.beq i j
    ·rfl
    ·exact absurd (Nat.eq_of_beq_eq_true hq) e
   simp [this]
theorem YV.none (n:Nat):YV n [] (Array.replicate n false) where
 size:=by simp
 gf:=fun j=>by
  simp only [Array.getD_eq_getD_getElem?,Array.getElem?_replicate,Cs]
  split<;>rfl
 gt:=fun j=>by
  simp only [Array.getD_eq_getD_getElem?,Array.getElem?_replicate,Cs]
  split
  ·rename_i h;simp;omega
  ·rename_i h;simp;omega
theorem BH {ops:Array Oper} {ls:List Nat} {bB:Array Bool} (h:YV ops.size ls bB) (j:Nat):upB ops.toList ls j=true↔j∈Region.ready .any ops bB:=by
 rw [mem_ready];unfold upB;rw [nt,Array.getElem?_toList,h.gt j]
 cases ho:ops[j]? with
 |none=>simp
 |some o=>
  have dO:j<ops.size:=(Array.getElem?_eq_some_iff.1 ho).1;have hn:decide (ops.size≤j)=false:=by simp;omega
  simp only [hn,Bool.or_false,Bool.and_eq_true,Bool.not_eq_true',List.all_eq_true,Array.mem_toList_iff,Bool.or_eq_true,Option.some.injEq,exists_eq_left',h.gf]
  constructor
  ·rintro ⟨h0,h1⟩
   exact ⟨h0,fun e he hb=>(h1 e he).resolve_left (by simp [hb])⟩
  ·rintro ⟨h0,h1⟩
   refine ⟨h0,fun e he => ?_⟩
   cases hb:Region.binds .any e
   ·exact .inl rfl
   ·exact .inr (h1 e he hb)
theorem SU {i j:Nat} (h:i≠j):Nat.beq i j=false:=by
 cases hq:Nat.beq i j
 ·rfl
 ·exact absurd (Nat.eq_of_beq_eq_true hq) h
theorem HG {ops:Array Oper} {ls:List Nat} {bB:Array Bool} (h:YV ops.size ls bB) {i:Nat} {oi:Oper} (hi:ops[i]?=some oi) (hf:RC ops ops.toList ops.size ls i=true) :
  ∀j oj,ops[j]?=some oj→j≠i→bB.getD j true=false→(∀e∈oj.after,Region.binds .any e=true→e.on≠i)→oi.apart ops oj=true:=by
 intro j oj hj L3 M5 YU;unfold RC at hf;rw [nt,Array.getElem?_toList,hi] at hf;have dO:j<ops.size:=(Array.getElem?_eq_some_iff.1 hj).1;have h1:=List.all_eq_true.1 hf j (List.mem_range.2 dO);rw [nt,Array.getElem?_toList,hj,SU L3,Bool.false_or] at h1;rw [h.gt j,Bool.or_eq_false_iff] at M5;rw [M5.1,Bool.false_or,Bool.or_eq_true] at h1;rcases h1 with h1 | h1
 ·obtain ⟨e,he,h2⟩:=List.any_eq_true.1 h1;rw [Bool.and_eq_true] at h2;exact absurd (Nat.eq_of_beq_eq_true h2.2) (YU e (Array.mem_toList_iff.1 he) h2.1)
 ·exact h1
theorem NN {ops:Array Oper} {ls:List Nat} {bB:Array Bool} (h:YV ops.size ls bB) {i:Nat} (hf:L4 ops.toList ops.size ls i=true):∀j∈Region.ready .any ops bB,j=i:=by
 intro j hj;have dO:j<ops.size:=by
  obtain ⟨_,o,ho,_⟩:=mem_ready.1 hj;exact (Array.getElem?_eq_some_iff.1 ho).1
 have h1:=List.all_eq_true.1 hf j (List.mem_range.2 dO);rw [(BH h j).2 hj,Bool.not_true,Bool.or_false] at h1;exact Nat.eq_of_beq_eq_true h1
theorem DF {P:Program} {T:oB} {S:mS} {w0:World} {mu:Mu} {c:Cz} {st bP:St} {a:Act} {w:World} {ops:Array Oper} {o:Oper} {C:World→Prop} (h:Rel w0 mu c st a w)
  (hd:∀k,o.dst=some k→k<a.tmps.size) (hv:(EH T S ops.toList st o).val=some bP)
  (base:(Ri T S st o).val=some bP→∃v,(∀w':World,C w'→(execOp a.eval o).run P w'=.ok (.value v) w')∧Rel w0 mu c bP (a.put o.dst v) w) :
  ∃v,YieldsIf P ops C o v a∧Rel w0 mu c bP (a.put o.dst v) w:=by
 unfold EH at hv;unfold YieldsIf Region.wanted
 cases hg:o.guard with
 |none=>
  simp only [hg] at hv ⊢;obtain ⟨v,h1,h2⟩:=base hv;exact ⟨v,.inl ⟨trivial,h1⟩,h2⟩
 |some p=>
  obtain ⟨j,want⟩:=p;simp only [hg] at hv ⊢
  cases hj:(nth ops.toList j).bind (·.dst) with
  |none=>simp [hj,N.val] at hv
  |some d=>
   simp only [hj] at hv
   split at hv
   ·rename_i b Vt;obtain ⟨h1,h2⟩:=Bz h Vt;rw [Hm (ops:=ops) hj h1 h2];have yes:(Ri T S (TM.bQ st (some d) (.one (.bool b))) o).val=some bP→∃v,(∀w':World,C w'→(execOp a.eval o).run P w'=.ok (.value v) w')∧Rel w0 mu c bP (a.put o.dst v) w:=fun e=>base (by rwa [BA st d Vt] at e)
    have no:(N.done (TM.bQ (TM.bQ st (some d) (.one (.bool b))) o.dst (.qd []))).val=some bP→Rel w0 mu c bP (a.put o.dst undef) w:=by
     intro e;simp only [N.val,Option.some.injEq] at e;subst e;rw [BA st d Vt];exact h.bQ (BB _ _ _) hd
    rcases xN hv with ⟨hb,Hc⟩ | ⟨hb,Hc⟩
    ·subst hb
     cases want
     ·exact ⟨undef,.inr ⟨rfl,rfl⟩,no Hc⟩
     ·obtain ⟨v,h3,h4⟩:=yes Hc;exact ⟨v,.inl ⟨rfl,h3⟩,h4⟩
    ·subst hb
     cases want
     ·obtain ⟨v,h3,h4⟩:=yes Hc;exact ⟨v,.inl ⟨rfl,h3⟩,h4⟩
     ·exact ⟨undef,.inr ⟨rfl,rfl⟩,no Hc⟩
   ·rename_i Vt;simp only [N.val,Option.some.injEq] at hv;subst hv;rw [Cg (ops:=ops) hj (Hn h Vt)];exact ⟨undef,.inr ⟨by cases want<;>rfl,rfl⟩,h.bQ (BB _ _ _) hd⟩
   ·simp [N.val] at hv
theorem Zr {P:Program} {T:oB} (hT:jF P T) {S:mS} {w0:World} {mu:Mu} {c:Cz} {st:St} {a:Act} {w:World} (h:Rel w0 mu c st a w) {o:Oper} (hk:kindOk S st o .take=true)
  {bP:St} (hv:(Ri T S st o).val=some bP) (hd:∀k,o.dst=some k→k<a.tmps.size):∃v,(∀w':World,lh w w'→(execOp a.eval o).run P w'=.ok (.value v) w')∧Rel w0 mu c bP (a.put o.dst v) w:=by
 unfold kindOk at hk;unfold Ri at hv
 cases ho:o.op with
 |load t x=>
  simp only [ho] at hv;obtain ⟨v,h1,h2⟩:=M7 hT h (cR h x) hv hd;exact ⟨v,fun w' hw=>by simp only [execOp,ho];exact vp (h1 w' hw),h2⟩
 |_=>simp [ho] at hk
theorem DG {i:Nat}:(l:List Nat)→Cs i l=true→i∈l
 | [],h=>by cases h
 |x::l,h=>by
  unfold Cs at h;rw [Bool.or_eq_true] at h;rcases h with h | h
  ·rw [Nat.eq_of_beq_eq_true h];exact List.mem_cons_self
  ·exact List.mem_cons_of_mem _ (DG l h)
theorem AH {R:Type} {P:Program} {T:oB} (hT:jF P T) (hE:AB P T) {S:mS} {w0:World} {mu:Mu} {n:Nat} (Jm:wQ P T S w0 mu n) {ops:Array Oper} {ds:List Nat} {Q:Exit→Act→World→Prop} (hQ:∀c a w,¬Q (.panic c) a w)
  {k:St→Option R} {r:R} (hk:Next w0 mu n r k (Q .normal)) (hns:Region.noSelect ops=true) (wF:Cn n ops.toList=true) :
  (l:Pl)→(ls:List Nat)→(bB:Array Bool)→(fuel:Nat)→{c:Cz}→{st:St}→{a:Act}→{w:World}→YV ops.size ls bB→xm .any ops bB→l.depth≤fuel→
   Rel w0 mu c st a w→a.tmps.size=n→xg T S ops.toList l st k=some r→
   (nz ops ops.toList ops.size ds false ls l=true→rG P .any ops Q ds fuel bB a w)∧
   (nz ops ops.toList ops.size ds true ls l=true→∃NO,fuel=NO+1∧∀i∈l.eb,i∈Region.ready .any ops bB∧wpOp P ops Q i (fun a' w'=>(i∉ds→lh w w')∧rG P .any ops Q ds NO (bB.setIfInBounds i true) a' w') a w)
 |.nil,ls,bB,fuel,c,st,a,w,hl,_,_,h,hn,hv=>by
  refine ⟨fun hb => ?_,fun hb=>by simp [nz] at hb⟩;unfold nz at hb;rw [Bool.and_eq_true] at hb;have hr:Region.ready .any ops bB=[]:=by
   refine List.eq_nil_iff_forall_not_mem.2 fun j hj => ?_
   obtain ⟨_,o,ho,_⟩:=mem_ready.1 hj;have dO:j<ops.size:=(Array.getElem?_eq_some_iff.1 ho).1;have h1:=List.all_eq_true.1 hb.2 j (List.mem_range.2 dO);rw [(BH hl j).2 hj] at h1
   cases h1
  have hq:=hk h hn hv
  cases fuel with
  |zero=>exact ⟨hr,hq⟩
  |succ fuel=>exact ⟨fun _=>hq,fun i hi=>by rw [hr] at hi;cases hi⟩
 |.op i kd l,ls,bB,0,c,st,a,w,hl,_,hf,h,hn,hv=>absurd hf (by simp [Pl.depth])
 |.op i kd l,ls,bB,fuel+1,c,st,a,w,hl,hs,hf,h,hn,hv=>by
  have hf:l.depth≤fuel:=Nat.le_of_succ_le_succ hf;have first:∀al,nz ops ops.toList ops.size ds al ls (.op i kd l)=true→upB ops.toList ls i=true∧nz ops ops.toList ops.size ds false (i::ls) l=true:=by
   intro al hb;unfold nz at hb;rw [Bool.and_eq_true,Bool.and_eq_true] at hb;exact ⟨hb.1,hb.2.2⟩
  have step:upB ops.toList ls i=true→nz ops ops.toList ops.size ds false (i::ls) l=true→(kd=.one∨i∈ds)→wpOp P ops Q i (fun a' w'=>(i∉ds→lh w w')∧rG P .any ops Q ds fuel (bB.setIfInBounds i true) a' w') a w:=by
   intro hup gM hds;have hir:=(BH hl i).1 hup;obtain ⟨_,o,RB,_⟩:=mem_ready.1 hir;have dO:i<ops.size:=(Array.getElem?_eq_some_iff.1 RB).1;unfold xg at hv;rw [nt,Array.getElem?_toList,RB] at hv;obtain ⟨UR,hv⟩:=bI hv;rw [N.fold_eq] at hv;obtain ⟨bP,h1,h2⟩:=Option.bind_eq_some_iff.1 hv;have UP:∀k,o.dst=some k→k<a.tmps.size:=fun k hk=>by rw [hn];exact EK wF (by rw [Array.mem_toList_iff];exact Array.mem_of_getElem? RB) k hk
   have next:∀ {c':Cz} {a':Act} {w':World},Rel w0 mu c' bP a' w'→a'.tmps.size=n→rG P .any ops Q ds fuel (bB.setIfInBounds i true) a' w':=fun hr Zk=>
    (AH hT hE Jm hQ hk hns wF l (i::ls) _ fuel (hl.push dO) (hs.set hir) hf hr Zk h2).1 gM
   have hko:kd=.one→kindOk S st o .one=true:=fun e=>by rw [e] at UR;exact UR
   unfold wpOp;rw [RB];rcases No Jm h hn (fun k hk=>by rw [←hn];exact UP k hk) h1 with ⟨hw,wE⟩ | ⟨hw,Dy⟩
   ·simp only [hw,if_true];refine .inl (Oper.wp_mono (fun a' w' ⟨⟨c',hr,oN⟩,Zi⟩=>⟨fun hnd => ?_,next hr (oN.trans hn)⟩) (wE Q));rcases hds with e | e
    ·exact Zi (hko e)
    ·exact absurd e hnd
   ·simp only [hw,Bool.false_eq_true,if_false];exact ⟨fun _=>lh.refl w,next Dy ((vo _ _ _).trans hn)⟩
  refine ⟨fun hb => ?_,fun hb=>⟨fuel,rfl,fun j hj => ?_⟩⟩
  ·obtain ⟨hup,gM⟩:=first _ hb;have hir:=(BH hl i).1 hup;unfold nz at hb;rw [Bool.and_eq_true,Bool.and_eq_true] at hb;obtain ⟨_,RD,_⟩:=hb;have alone:L4 ops.toList ops.size ls i=true→(kd=.one∨i∈ds)→rG P .any ops Q ds (fuel+1) bB a w:=by
    intro hal hds;refine ⟨fun e=>absurd hir (by rw [e];exact List.not_mem_nil),fun j hj => ?_⟩;have:=NN hl hal j hj;subst this;exact step hup gM hds
   obtain ⟨_,o,RB,_⟩:=mem_ready.1 hir;have dO:i<ops.size:=(Array.getElem?_eq_some_iff.1 RB).1;unfold xg at hv;rw [nt,Array.getElem?_toList,RB] at hv;obtain ⟨UR,hv⟩:=bI hv;rw [N.fold_eq] at hv;obtain ⟨bP,h1,h2⟩:=Option.bind_eq_some_iff.1 hv;have UP:∀k,o.dst=some k→k<a.tmps.size:=fun k hk=>by rw [hn];exact EK wF (by rw [Array.mem_toList_iff];exact Array.mem_of_getElem? RB) k hk
   have next:∀ {c':Cz} {a':Act} {w':World},Rel w0 mu c' bP a' w'→a'.tmps.size=n→rG P .any ops Q ds fuel (bB.setIfInBounds i true) a' w':=fun hr Zk=>
    (AH hT hE Jm hQ hk hns wF l (i::ls) _ fuel (hl.push dO) (hs.set hir) hf hr Zk h2).1 gM
   have NK:=Region.noSelect_spec hns
   cases kd with
   |one=>exact alone (by simpa using RD) (.inl rfl)
   |last=>
    simp only [Bool.false_or,Bool.and_eq_true] at RD;exact alone RD.1 (.inr (DG ds RD.2))
   |any=>
    simp only [Bool.not_false,Bool.true_and] at RD;obtain ⟨v,hy,Dy⟩:=DF (P:=P) (ops:=ops) (C:=fun _=>True) h UP h1 (fun e=>by
     obtain ⟨v,g1,g2⟩:=Ro hT hE h UR e UP;exact ⟨v,fun w' _=>g1 w',g2⟩)
    refine PO RB NK (fun c a w hq=>absurd hq (hQ _ _ _)) fuel bB a w (HG hl RB RD) hir ?_ (next Dy ((vo _ _ _).trans hn));rcases hy with ⟨g1,g2⟩ | g
    ·exact .inl ⟨g1,fun w'=>g2 w' trivial⟩
    ·exact .inr g
   |take=>
    simp only [Bool.not_false,Bool.true_and,Bool.and_eq_true] at RD;obtain ⟨v,hy,Dy⟩:=DF (P:=P) (ops:=ops) (C:=lh w) h UP h1 (fun e=>Zr hT h UR e UP);refine L2 RB NK (fun c a w hq=>absurd hq (hQ _ _ _)) ops.size fuel bB a w (HG hl RB RD.1) hs (fun d hm M5 => ?_) hir hy (lh.refl w) (next Dy ((vo _ _ _).trans hn));have h3:=List.all_eq_true.1 RD.2 d hm;rw [hl.gt d,Bool.or_eq_false_iff] at M5;rw [M5.1,Bool.false_or] at h3;exact h3
  ·have hj:j=i:=by simpa [Pl.eb] using hj
   subst hj;obtain ⟨hup,gM⟩:=first _ hb;refine ⟨(BH hl j).1 hup,step hup gM ?_⟩;unfold nz at hb;rw [Bool.and_eq_true,Bool.and_eq_true] at hb;obtain ⟨_,RD,_⟩:=hb
   cases kd with
   |one=>exact .inl rfl
   |last=>
    simp only [Bool.true_or,Bool.true_and] at RD;exact .inr (DG ds RD)
   |any=>simp at RD
   |take=>simp at RD
 |.alt p q,ls,bB,fuel,c,st,a,w,hl,hs,hf,h,hn,hv=>by
  have hv:both (xg T S ops.toList p st k) (xg T S ops.toList q st k)=some r:=hv;obtain ⟨Hc,Ph⟩:=Sj hv;have hf:Nat.max p.depth q.depth≤fuel:=hf;have hp:=(AH (ds:=ds) hT hE Jm hQ hk hns wF p ls bB fuel hl hs (Nat.le_trans (Nat.le_max_left _ _) hf) h hn Hc).2;have hq:=(AH (ds:=ds) hT hE Jm hQ hk hns wF q ls bB fuel hl hs (Nat.le_trans (Nat.le_max_right _ _) hf) h hn Ph).2;have eb:nz ops ops.toList ops.size ds true ls p=true→nz ops ops.toList ops.size ds true ls q=true→∃NO,fuel=NO+1∧∀i∈p.eb++q.eb,i∈Region.ready .any ops bB∧wpOp P ops Q i (fun a' w'=>(i∉ds→lh w w')∧rG P .any ops Q ds NO (bB.setIfInBounds i true) a' w') a w:=by
   intro h1 h2;obtain ⟨f1,e1,g1⟩:=hp h1;obtain ⟨f2,e2,g2⟩:=hq h2;have:f1=f2:=by omega
   subst this;exact ⟨f1,e1,fun i hi=>(List.mem_append.1 hi).elim (g1 i) (g2 i)⟩
  have parts:∀al,nz ops ops.toList ops.size ds al ls (.alt p q)=true→(al||VT ops.toList ops.size ls (p.eb++q.eb))=true∧nz ops ops.toList ops.size ds true ls p=true∧nz ops ops.toList ops.size ds true ls q=true:=by
   intro al hb;unfold nz at hb;rw [Bool.and_eq_true,Bool.and_eq_true] at hb;exact hb
  refine ⟨fun hb => ?_,fun hb => ?_⟩
  ·obtain ⟨hc,h1,h2⟩:=parts _ hb;obtain ⟨f,rfl,g⟩:=eb h1 h2;have anW:∀j∈Region.ready .any ops bB,j∈p.eb++q.eb:=by
    intro j hj;have dO:j<ops.size:=by
     obtain ⟨_,o,ho,_⟩:=mem_ready.1 hj;exact (Array.getElem?_eq_some_iff.1 ho).1
    rw [Bool.false_or] at hc;have h1:=List.all_eq_true.1 hc j (List.mem_range.2 dO);rw [(BH hl j).2 hj,Bool.not_true,Bool.false_or] at h1;exact DG _ h1
   refine ⟨fun e => ?_,fun j hj=>(g j (anW j hj)).2⟩;have mU:∃i,i∈p.eb++q.eb:=by
    have key:∀(l:Pl),nz ops ops.toList ops.size ds true ls l=true→∃i,i∈l.eb:=by
     intro l
     induction l with
     |nil=>intro h;simp [nz] at h
     |op i _ _ _=>intro _;exact ⟨i,by simp [Pl.eb]⟩
     |alt p q ih _=>
      intro h;unfold nz at h;rw [Bool.and_eq_true,Bool.and_eq_true] at h;obtain ⟨i,hi⟩:=ih h.2.1;exact ⟨i,List.mem_append_left _ hi⟩
    obtain ⟨i,hi⟩:=key p h1;exact ⟨i,List.mem_append_left _ hi⟩
   obtain ⟨i,hi⟩:=mU;have:=(g i hi).1;rw [e] at this
   cases this
  ·obtain ⟨_,h1,h2⟩:=parts _ hb;exact eb h1 h2
theorem uY {R:Type} {P:Program} {T:oB} (hT:jF P T) (hE:AB P T) (hm:P.follows .mixedOrders=true) {S:mS} {D:m9} {w0:World} {mu:Mu} {n:Nat} (Jm:wQ P T S w0 mu n) :
  uV R P T S D w0 mu n (fun id ops=>HF ops (D id)=true):=by
 intro id ops Q k r iN wF hk c st a w h hn hv;unfold HF at iN;rw [Bool.and_eq_true,Bool.and_eq_true] at iN;obtain ⟨hns,hlen,hb⟩:=iN
 let Q':Exit→Act→World→Prop:=fun e a w=>e=.normal∧Q .normal a w
 have key:(Code.region id ops true).wp P Q' a w:=by
  refine wp_region_any hm (Cj _ _ _ _ ((AH hT hE Jm (ds:=Ks (D id)) (Q:=Q') (fun c a w hq=>by cases hq.1) (fun {c st a w} g1 g2 g3=>⟨rfl,hk g1 g2 g3⟩) hns wF (D id) [] _ ops.size (YV.none _) (xm.none _ _ _) (Nat.le_of_ble_eq_true hlen) h.drew hn hv).1 hb))
 exact Code.wp_mono (fun e a w hq=>by obtain ⟨rfl,hq⟩:=hq;exact hq) key
end Go.TM
namespace Go.TM
open Go Go.RowKit
abbrev Zs:RT→Type→Type
 |.nil,R=>R
 |.cons t r,R=>den t→Zs r R
abbrev np {R:Type}:(r:RT)→Zs r R→aO r→R
 |.nil,f,_=>f
 |.cons _ r,f,x=>np r (f x.1) x.2
def iz:m9:=fun _=>.nil
def noL {R:Type}:pT R:=fun _ _ _ _=>none
def VU (f:Func):Code:=match f.body with | some c=>c | none=>.skip
def nn:Nat→List (Option AP)
 |0=>[]
 |n+1=>none::nn n
structure Rec where
 size:Nat
 agg:Bool
 dn:List (Nat×Nat)
 row:Option RT
 elem:Option (RT×Nat)
 kind:Option Ty
 mT:List Nat
 eq:Bool
 dp:Bool:=false
 cap:Bool:=false
inductive Tr where
 |leaf
 |node (l:Tr) (k:Nat) (v:Rec) (r:Tr)
def Tr.flat:Tr→Tr
 |.leaf=>.leaf
 |.node l k v r=>.node l.flat k { v with dp:=false } r.flat
def Tr.BT (l:List Nat):Tr→Tr
 |.leaf=>.leaf
 |.node a k v b=>.node (a.BT l) k { v with cap:=l.any (Nat.beq k) } (b.BT l)
def Tr.find:Tr→Nat→Option Rec
 |.leaf,_=>none
 |.node l k v r,t=>bif Nat.beq t k then some v else bif Nat.blt t k then l.find t else r.find t
def Tr.all (p:Nat→Rec→Bool):Tr→Bool
 |.leaf=>true
 |.node l k v r=>l.all p&&(p k v&&r.all p)
theorem Tr.DH {p:Nat→Rec→Bool}:(tr:Tr)→tr.all p=true→∀ {t v},tr.find t=some v→p t v=true
 |.leaf,_,_,_,h=>by cases h
 |.node l k v r,h,t,u,hf=>by
  unfold Tr.all at h;rw [Bool.and_eq_true,Bool.and_eq_true] at h;unfold Tr.find at hf
  cases hb:Nat.beq t k with
  |true=>
   rw [hb] at hf;injection hf with hf;subst hf;rw [Nat.eq_of_beq_eq_true hb];exact h.2.1
  |false=>
   rw [hb] at hf
   cases hl:Nat.blt t k with
   |true=>rw [hl] at hf;exact Tr.DH l h.1 hf
   |false=>rw [hl] at hf;exact Tr.DH r h.2.2 hf
def na (tr:Tr):oB where
 cells t:=(tr.find t).map (·.size)
 agg t:=match tr.find t with | some r=>r.agg | none=>false
 off t f:=match tr.find t with | some r=>(nth r.dn f).map (·.1) | none=>none
 fsz t f:=match tr.find t with | some r=>(nth r.dn f).map (·.2) | none=>none
 row t:=match tr.find t with | some r=>r.row | none=>none
 elem t:=match tr.find t with | some r=>r.elem | none=>none
 qd _:=none
 kind t:=match tr.find t with | some r=>r.kind | none=>none
 one t f:=match tr.find t with | some r=>r.mT.any (Nat.beq f) | none=>false
 eq t:=match tr.find t with | some r=>r.eq | none=>false
 dp t:=match tr.find t with | some r=>r.dp | none=>false
 cap t:=match tr.find t with | some r=>r.cap | none=>false
def pX:RT→List Value→Bool
 |.nil,[]=>true
 |.cons (.int k) r,.int l n::vs=>decide (k=l)&&decide (n=0)&&pX r vs
 |.cons .bool r,.bool b::vs => !b&&pX r vs
 |.cons .str r,.string s::vs=>(match s.data.toList with | []=>true | _=>false)&&pX r vs
 |.cons (.sl _) r,.slice none 0 0::vs=>pX r vs
 |_,_=>false
theorem xT:(r:RT)→(vs:List Value)→pX r vs=true→kX r vs
 |.nil,[],_=>rfl
 |.nil,_::_,h=>by simp [pX] at h
 |.cons t r,[],h=>by cases t<;>simp [pX] at h
 |.cons t r,v::vs,h=>by
  cases t with
  |int k=>
   cases v<;>try (simp [pX] at h;done)
   rename_i l n;simp only [pX,Bool.and_eq_true,decide_eq_true_eq] at h;obtain ⟨⟨rfl,rfl⟩,h⟩:=h;exact ⟨vs,rfl,xT r vs h⟩
  |bool=>
   cases v<;>try (simp [pX] at h;done)
   rename_i b;simp only [pX,Bool.and_eq_true,Bool.not_eq_true'] at h;obtain ⟨rfl,h⟩:=h;exact ⟨vs,rfl,xT r vs h⟩
  |str=>
   cases v<;>try (simp [pX] at h;done)
   rename_i s;simp only [pX,Bool.and_eq_true] at h;obtain ⟨h1,h⟩:=h;refine ⟨vs,?_,xT r vs h⟩;obtain ⟨d⟩:=s;obtain ⟨d⟩:=d
   cases d with
   |nil=>rfl
   |cons _ _=>simp at h1
  |sl q=>
   cases v<;>try (simp [pX] at h;done)
   rename_i a n m
   cases a with
   |some _=>simp [pX] at h
   |none=>cases n with
    |succ _=>simp [pX] at h
    |zero=>cases m with
     |succ _=>simp [pX] at h
     |zero=>
      have h:pX r vs=true:=h;exact ⟨vs,rfl,xT r vs h⟩
def wS {α:Type} (o:Option α) (p:α→Bool):Bool:=match o with | some x=>p x | none=>false
theorem iA {α:Type} {o:Option α} {p:α→Bool} (h:wS o p=true):∃x,o=some x∧p x=true:=by
 cases o with
 |none=>cases h
 |some x=>exact ⟨x,rfl,h⟩
def yC (P:Program):List Field→List (Nat×Nat)→Bool
 | [],[]=>true
 |f::fs,(o,s)::ps=>Nat.beq f.offset o&&(wS (P.info? f.type) (fun i=>Nat.beq i.size s)&&(Nat.blt 0 s&&yC P fs ps))
 |_,_=>false
theorem Ct {P:Program}:(fs:List Field)→(ps:List (Nat×Nat))→yC P fs ps=true→
  fs.mapM (fun f=>(P.info? f.type).map fun i=>(f.offset,i.size))=some ps∧∀(k:Nat) p,ps[k]?=some p→∃J0 n,fs[k]?=some J0∧J0.offset=p.1∧(P.info? J0.type).map (·.size)=some (n+1)
 | [],[],_=>⟨rfl,fun k p h=>by simp at h⟩
 | [],_::_,h=>by simp [yC] at h
 |_::_,[],h=>by simp [yC] at h
 |f::fs,(o,s)::ps,h=>by
  unfold yC at h;rw [Bool.and_eq_true,Bool.and_eq_true,Bool.and_eq_true] at h;obtain ⟨h1,h2,h3,h4⟩:=h;obtain ⟨i,hi,his⟩:=iA h2;have h1:=Nat.eq_of_beq_eq_true h1;have his:=Nat.eq_of_beq_eq_true his;obtain ⟨g1,g2⟩:=Ct fs ps h4;refine ⟨by simp [List.mapM_cons,hi,g1,h1,his],fun k p hp => ?_⟩
  cases k with
  |zero=>
   simp at hp;subst hp;have h3:0<s:=Nat.le_of_ble_eq_true h3;exact ⟨f,s-1,rfl,h1,by rw [hi];simp [his];omega⟩
  |succ k=>exact g2 k p (by simpa using hp)
def NP (P:Program) (t:Nat):Ty→Bool
 |.int k=>wS (P.underlying t) fun | .int l=>decide (k=l) | _=>false
 |.bool=>wS (P.underlying t) fun | .bool=>true | _=>false
 |.str=>wS (P.underlying t) fun | .string=>true | _=>false
 |.sl _=>false
def L5 (P:Program) (t:Nat) (r:Rec):Bool:=
 wS (P.info? t) (fun i=>Nat.beq i.size r.size&&(match r.row with | some q=>wS i.zero (fun z=>pX q z.cells.toList) | none=>true)) &&
 (wS (P.underlying t) (fun d=>(d.isRow==r.agg)&&(bif r.agg then true else Nat.beq r.size 1)&&(match d with | .struct fs=>bif r.agg then yC P fs.toList r.dn else Nat.beq r.dn.length 0 | _ => !r.agg&&Nat.beq r.dn.length 0)
   && (match r.elem with | some (q,b)=>(match d with | .slice e=>wS (P.info? e) (fun i=>Nat.beq i.size q.width&&(Nat.blt 0 q.width&&(Nat.beq i.bytes b&&(Nat.blt 0 b&&wS i.zero (fun z=>pX q z.cells.toList))))) | _=>false) | none=>true)) &&
 ((match r.kind with | some k=>NP P t k | none=>true)&&(match r.elem with | some (.cons (.int .u8) .nil,_)=>wS (P.underlying t) (fun d=>match d with | .slice e=>NP P e (.int .u8) | _=>false) | _=>true)))
def aaS (P:Program) (t:Nat) (l:List Nat):Bool:=l.all fun f=>wS (P.underlying t) fun d=>match d with | .struct fs=>wS fs[f]? (fun J0=>wS (P.underlying J0.type) fun e => !e.isRow) | _=>false
def AI (P:Program) (t:Nat) (r:Rec):Bool:=L5 P t r&&aaS P t r.mT
theorem kM {P:Program} {tr:Tr} (h:tr.all (AI P)=true):jF P (na tr):=by
 have aiN:∀ {t r},tr.find t=some r→AI P t r=true:=fun hf=>Tr.DH tr h hf
 have get:∀ {t r},tr.find t=some r→L5 P t r=true:=fun hf=>(Bool.and_eq_true _ _▸aiN hf).1
 have base:∀ {t r},tr.find t=some r→(∃i,P.info? t=some i∧i.size=r.size∧∀q,r.row=some q→∃z,i.zero=some z∧kX q z.cells.toList)∧
   (∃d,P.underlying t=some d∧d.isRow=r.agg∧(r.agg=false→r.size=1)∧(r.dn≠[]∨r.agg=true→∃fs,d=.struct fs∧yC P fs.toList r.dn=true)∧
    ∀q b,r.elem=some (q,b)→∃e i z,d=.slice e∧P.info? e=some i∧i.size=q.width∧0<q.width∧i.bytes=b∧0<b∧i.zero=some z∧kX q z.cells.toList)∧
   ∀k,r.kind=some k→NP P t k=true:=by
  intro t r hf;have h1:=get hf;unfold L5 at h1;rw [Bool.and_eq_true,Bool.and_eq_true,Bool.and_eq_true] at h1;obtain ⟨h1,h2,h3,_⟩:=h1;obtain ⟨i,hi,h4⟩:=iA h1;rw [Bool.and_eq_true] at h4;obtain ⟨d,hd,h5⟩:=iA h2;rw [Bool.and_eq_true,Bool.and_eq_true,Bool.and_eq_true] at h5;obtain ⟨⟨⟨g1,g2⟩,g3⟩,g4⟩:=h5;refine ⟨⟨i,hi,Nat.eq_of_beq_eq_true h4.1,fun q hq => ?_⟩,⟨d,hd,by simpa using g1,fun Ry => ?_,fun mU => ?_,fun q b he => ?_⟩,fun k hk => ?_⟩
  ·have h6:=h4.2;rw [hq] at h6;obtain ⟨z,hz,h7⟩:=iA h6;exact ⟨z,hz,xT q _ h7⟩
  ·rw [Ry] at g2;exact Nat.eq_of_beq_eq_true g2
  ·cases Ry:r.agg with
   |true=>
    rw [Ry] at g3
    cases d with
    |struct fs=>exact ⟨fs,rfl,g3⟩
    |_=>simp at g3
   |false=>
    rw [Ry] at g3;rcases mU with mU | mU
    ·have:Nat.beq r.dn.length 0=true:=by
      cases d with
      |struct fs=>exact g3
      |_=>simpa using g3
     exact absurd (List.length_eq_zero_iff.1 (Nat.eq_of_beq_eq_true this)) mU
    ·rw [Ry] at mU;cases mU
  ·rw [he] at g4
   cases d with
   |slice e=>
    obtain ⟨i,h6,h7⟩:=iA g4;rw [Bool.and_eq_true,Bool.and_eq_true,Bool.and_eq_true,Bool.and_eq_true] at h7;obtain ⟨k1,k2,k3,k4,k5⟩:=h7;obtain ⟨z,hz,h8⟩:=iA k5;exact ⟨e,i,z,rfl,h6,Nat.eq_of_beq_eq_true k1,Nat.le_of_ble_eq_true k2,Nat.eq_of_beq_eq_true k3,Nat.le_of_ble_eq_true k4,hz,xT q _ h8⟩
   |_=>cases g4
  ·rw [hk] at h3;exact h3
 have look:∀ {α:Type} {t:Nat} {g:Rec→Option α} {x:α},(match tr.find t with | some r=>g r | none=>none)=some x→∃r,tr.find t=some r∧g r=some x:=by
  intro α t g x hx
  cases hf:tr.find t with
  |none=>rw [hf] at hx;cases hx
  |some r=>rw [hf] at hx;exact ⟨r,rfl,hx⟩
 have aiO:∀ {t:Nat} {g:Rec→Bool},(match tr.find t with | some r=>g r | none=>false)=true→∃r,tr.find t=some r∧g r=true:=by
  intro t g hx
  cases hf:tr.find t with
  |none=>rw [hf] at hx;cases hx
  |some r=>rw [hf] at hx;exact ⟨r,rfl,hx⟩
 exact {
  cells:=fun t n ht=>by
   obtain ⟨r,hf,rfl⟩:=Option.map_eq_some_iff.1 ht;obtain ⟨⟨i,hi,hs,_⟩,_⟩:=base hf;rw [hi];simp [hs]
  agg:=fun t n ht=>by
   obtain ⟨r,hf,rfl⟩:=Option.map_eq_some_iff.1 ht;obtain ⟨_,⟨d,hd,h1,h2,_⟩,_⟩:=base hf;have e:(na tr).agg t=r.agg:=by show (match tr.find t with | some r=>r.agg | none=>false)=_;rw [hf]
   exact ⟨d,hd,h1.trans e.symm,fun h=>h2 (e▸h)⟩
  off:=fun t f k ht=>by
   obtain ⟨r,hf,hk⟩:=look ht;obtain ⟨p,hp,rfl⟩:=Option.map_eq_some_iff.1 hk;obtain ⟨_,⟨d,hd,_,_,h3,_⟩,_⟩:=base hf;rw [nt] at hp;obtain ⟨fs,rfl,hfs⟩:=h3 (.inl (by intro e;rw [e] at hp;simp at hp));obtain ⟨J0,n,g1,g2,g3⟩:=(Ct fs.toList r.dn hfs).2 f p hp;exact ⟨fs,J0,n,hd,by simpa using g1,g2,g3⟩
  bld:=fun t ht=>by
   obtain ⟨r,hf,Ry⟩:=aiO (g:=fun r=>r.agg) ht;obtain ⟨_,⟨d,hd,_,_,h3,_⟩,_⟩:=base hf;obtain ⟨fs,rfl,hfs⟩:=h3 (.inr Ry);refine ⟨fs,r.dn,hd,(Ct fs.toList r.dn hfs).1,fun f o s ho hs => ?_⟩;have ho:(match tr.find t with | some r=>(nth r.dn f).map (·.1) | none=>none)=some o:=ho;have hs:(match tr.find t with | some r=>(nth r.dn f).map (·.2) | none=>none)=some s:=hs;rw [hf] at ho hs;obtain ⟨p,hp,rfl⟩:=Option.map_eq_some_iff.1 ho;obtain ⟨p',lJ,rfl⟩:=Option.map_eq_some_iff.1 hs;rw [hp] at lJ;injection lJ with e;subst e;rw [nt] at hp;exact hp
  row:=fun t q ht=>by
   obtain ⟨r,hf,hk⟩:=look (g:=fun r=>r.row) ht;obtain ⟨⟨i,hi,_,h1⟩,_⟩:=base hf;obtain ⟨z,hz,Pf⟩:=h1 q hk;exact ⟨i,z,hi,hz,Pf⟩
  elem:=fun t q b ht=>by
   obtain ⟨r,hf,hk⟩:=look (g:=fun r=>r.elem) ht;obtain ⟨_,⟨d,hd,_,_,_,h4⟩,_⟩:=base hf;obtain ⟨e,i,z,rfl,h5⟩:=h4 q b hk;exact ⟨e,i,z,hd,h5⟩
  u8:=fun t e b ht hu=>by
   obtain ⟨r,hf,hk⟩:=look (g:=fun r=>r.elem) ht;have h1:=get hf;unfold L5 at h1;rw [Bool.and_eq_true,Bool.and_eq_true,Bool.and_eq_true] at h1;have h2:=h1.2.2.2;rw [hk] at h2;obtain ⟨d,hd,h3⟩:=iA h2;rw [hu] at hd;injection hd with hd;subst hd;obtain ⟨d2,hd2,h4⟩:=iA h3;rw [hd2]
   cases d2<;>simp at h4
   rw [←h4]
  one:=fun t f ht=>by
   have ht:(match tr.find t with | some r=>r.mT.any (Nat.beq f) | none=>false)=true:=ht
   cases hf:tr.find t with
   |none=>rw [hf] at ht;cases ht
   |some r=>
    rw [hf] at ht;have h2:aaS P t r.mT=true:=(Bool.and_eq_true _ _▸aiN hf).2;obtain ⟨g,hg,hb⟩:=List.any_eq_true.1 ht;have hb:=Nat.eq_of_beq_eq_true hb;subst hb;have h3:=List.all_eq_true.1 h2 f hg;obtain ⟨d,hd,h4⟩:=iA h3
    cases d with
    |struct fs=>
     obtain ⟨J0,anY,h5⟩:=iA h4;obtain ⟨e,he,h6⟩:=iA h5;exact ⟨fs,J0,e,hd,anY,he,by simpa using h6⟩
    |_=>cases h4
  kind:=fun t y ht=>by
   obtain ⟨r,hf,hk⟩:=look (g:=fun r=>r.kind) ht;have h1:=(base hf).2.2 y hk
   cases y with
   |int k=>
    obtain ⟨d,hd,h2⟩:=iA h1;refine ⟨d,hd,?_⟩
    cases d<;>simp at h2
    rw [h2];rfl
   |bool=>
    obtain ⟨d,hd,h2⟩:=iA h1;refine ⟨d,hd,?_⟩
    cases d<;>simp at h2
    rfl
   |str=>
    obtain ⟨d,hd,h2⟩:=iA h1;refine ⟨d,hd,?_⟩
    cases d<;>simp at h2
    rfl
   |sl _=>cases h1 }
end Go.TM
namespace Go.TM
open Go Go.RowKit
def fq:Code→List (Nat×Code)
 |.seq a b=>fq a++fq b
 |.cond _ a b=>fq a++fq b
 |.block id (.loop b)=>[(id,b)]
 |.block _ a=>fq a
 |_=>[]
theorem uj {ok:Nat→Code→Prop}:(c:Code)→(∀p∈fq c,ok p.1 p.2)→fG ok c:=by
 intro c
 induction c with
 |seq a b iha ihb=>
  intro h;unfold fq at h;exact ⟨iha fun p hp=>h p (List.mem_append_left _ hp),ihb fun p hp=>h p (List.mem_append_right _ hp)⟩
 |cond x a b iha ihb=>
  intro h;unfold fq at h;exact ⟨iha fun p hp=>h p (List.mem_append_left _ hp),ihb fun p hp=>h p (List.mem_append_right _ hp)⟩
 |block id a ih=>
  intro h
  by_cases hb:∃b',a=.loop b'
  ·obtain ⟨b',rfl⟩:=hb;exact h (id,b') (by unfold fq;exact List.mem_cons_self)
  ·cases a with
   |loop b'=>exact absurd ⟨b',rfl⟩ hb
   |_=>unfold fq at h;unfold fG;exact ih h
 |_=>intro _;unfold fG;trivial
def BI (c:Code) (i:Nat):Code:=match nth (fq c) i with | some p=>p.2 | none=>.skip
def ll (D:m9):Code→Bool
 |.region id ops true=>HF ops (D id)
 |.seq a b=>ll D a&&ll D b
 |.cond _ a b=>ll D a&&ll D b
 |.block _ (.loop _)=>true
 |.block _ a=>ll D a
 |_=>true
theorem wT {D:m9}:(c:Code)→ll D c=true→fY (fun id ops=>HF ops (D id)=true) c:=by
 intro c
 induction c with
 |region id ops dr=>
  intro h
  cases dr with
  |true=>exact h
  |false=>unfold fY;trivial
 |seq a b iha ihb=>
  intro h;unfold ll at h;rw [Bool.and_eq_true] at h;exact ⟨iha h.1,ihb h.2⟩
 |cond x a b iha ihb=>
  intro h;unfold ll at h;rw [Bool.and_eq_true] at h;exact ⟨iha h.1,ihb h.2⟩
 |block id a ih=>
  intro h
  by_cases hb:∃b',a=.loop b'
  ·obtain ⟨b',rfl⟩:=hb;unfold fY;trivial
  ·cases a with
   |loop b'=>exact absurd ⟨b',rfl⟩ hb
   |_=>unfold ll at h;unfold fY;exact ih h
 |_=>intro _;unfold fY;trivial
def Src.same:Src→Src→Bool
 |.tmp a,.tmp b=>Nat.beq a b
 |.cell a,.cell b=>Nat.beq a b
 |.ptr a,.ptr b=>Nat.beq a b
 |_,_=>false
theorem Src.DI:{a b:Src}→a.same b=true→a=b
 |.tmp _,.tmp _,h=>congrArg Src.tmp (Nat.eq_of_beq_eq_true h)
 |.cell _,.cell _,h=>congrArg Src.cell (Nat.eq_of_beq_eq_true h)
 |.ptr _,.ptr _,h=>congrArg Src.ptr (Nat.eq_of_beq_eq_true h)
 |.tmp _,.cell _,h=>by cases h
 |.tmp _,.ptr _,h=>by cases h
 |.cell _,.tmp _,h=>by cases h
 |.cell _,.ptr _,h=>by cases h
 |.ptr _,.tmp _,h=>by cases h
 |.ptr _,.cell _,h=>by cases h
def NQ (T:oB):List ResultVar→List RP→Bool
 | [],[]=>true
 |.tmp t::vs,r::rs=>(r.src.same (.tmp t)||r.src.same (.ptr t))&&NQ T vs rs
 |.cell t ty::vs,r::rs=>r.src.same (.cell t)&&((match T.cells ty with | some n=>Nat.beq n r.ps.length | none=>false)&&((T.agg ty==r.agg)&&NQ T vs rs))
 |_,_=>false
theorem BJ {T:oB} (tm:Array Value):(vs:List ResultVar)→(rs:List RP)→NQ T vs rs=true→Cr T tm vs rs
 | [],[],_=>trivial
 | [],_::_,h=>by simp [NQ] at h
 |v::_,[],h=>by cases v<;>simp [NQ] at h
 |.tmp t::vs,r::rs,h=>by
  unfold NQ at h;rw [Bool.and_eq_true,Bool.or_eq_true] at h;exact ⟨h.1.imp Src.DI Src.DI,BJ tm vs rs h.2⟩
 |.cell t ty::vs,r::rs,h=>by
  unfold NQ at h;rw [Bool.and_eq_true,Bool.and_eq_true,Bool.and_eq_true] at h;obtain ⟨h1,h2,h3,h4⟩:=h;refine ⟨⟨Src.DI h1,?_,by simpa using h3⟩,BJ tm vs rs h4⟩
  cases hc:T.cells ty with
  |none=>rw [hc] at h2;cases h2
  |some n=>rw [hc] at h2;rw [Nat.eq_of_beq_eq_true h2]
abbrev acv:=List (Nat×(Pm×Pm×Pm×Ap))
def Cu:acv→mS
 | [],_=>none
 |(g,s)::l,f=>bif Nat.beq f g then some s else Cu l f
structure tZ (P:Program) (f:FuncId) (Gu:Ap):Prop where
 ok:FnOk P f Gu
 fn:∃fn,P.funcs[f]?=some fn∧(fn.name == "runtime.NumGoroutine")=false∧fn.body.isNone=false
theorem VV {P:Program}:oO P (Cu []):=fun f a b c Gu h=>by cases h
theorem SV {P:Program} {g:Nat} {a b c:Pm} {Gu:Ap} {l:acv} (hk:tZ P g Gu) (hl:oO P (Cu l)):oO P (Cu ((g,(a,b,c,Gu))::l)):=by
 intro f a' b' c' anZ h;unfold Cu at h
 cases hb:Nat.beq f g with
 |true=>
  rw [hb] at h;injection h with h;injection h with _ h;injection h with _ h;injection h with _ h;subst h;rw [Nat.eq_of_beq_eq_true hb];exact ⟨hk.ok,hk.fn⟩
 |false=>rw [hb] at h;exact hl f a' b' c' anZ h
def fnB (T:oB) (D:m9) (fn:Func) (code:Code) (n:Nat) (ps:List AP) (rs:List RP):Bool:=
 Nat.beq fn.ntmps n&&(Nat.ble ps.length n&&(ij n code&&(NQ T fn.results.toList rs&&ll D code)))
theorem Zt {P:Program} {tr:Tr} (hT:tr.all (AI P)=true) (hE:AB P (na tr)) (hm:P.follows .mixedOrders=true) {S:mS} (hS:oO P S) {D:m9} {f:FuncId} {fn:Func} {code:Code} {n:Nat} {ps:List AP} {rs:List RP}
  {L:pT (aO (ew rs (cF ps)))} {t:aO (aH (ps.map some))→Option (aO (ew rs (cF ps)))}
  (hf:P.funcs[f]?=some fn) (hb:fn.body=some code) (s8:fnB (na tr) D fn code n ps rs=true) (NR:(fn.name == "runtime.NumGoroutine")=false)
  (hL:∀(w0:World) (mu:Mu) (y:aO (ew rs (cF ps))),pv ps mu→∀p∈fq code,pF P w0 mu n L y p.1 p.2)
  (PK:∀x,gL (na tr) S D L code (start n ps x) (ER rs ps)=t x):tZ P f (pe ps rs t):=by
 unfold fnB at s8;rw [Bool.and_eq_true,Bool.and_eq_true,Bool.and_eq_true,Bool.and_eq_true] at s8;obtain ⟨h1,h2,h3,h4,h5⟩:=s8;refine ⟨aiL (kM hT) hE hS hf hb (Nat.eq_of_beq_eq_true h1) (Nat.le_of_ble_eq_true h2) h3 (fun tm=>BJ tm _ _ h4) (fun w0 mu y hs=>uj code (hL w0 mu y hs))
  (fun w0 mu=>uY (kM hT) hE hm (qk (kM hT) hE hS w0 mu n)) (wT code h5) PK,fn,hf,NR,by rw [hb];rfl⟩
def Kt (D:m9) (ps:List AP) (hp e0 e1:List (Option AP)) (n:Nat) (b:Code):Bool:=
 (ik ps hp&&(ik ps e0&&ik ps e1))&&(ij n b&&ll D b)
theorem SW {R:Type} {P:Program} {tr:Tr} (hT:tr.all (AI P)=true) (hE:AB P (na tr)) (hm:P.follows .mixedOrders=true) {S:mS} (hS:oO P S) {D:m9} {n id:Nat} {w0:World} {mu:Mu} {ps:List AP} {hp e0 e1:List (Option AP)} {b:Code} {r:R} {L:pT R}
  {L':pT (Sum (aO (aH hp)) (Sum (aO (aH e0)) (aO (aH e1))))} {round:aO (aH hp)→Option (Sum (aO (aH hp)) (Sum (aO (aH e0)) (aO (aH e1))))}
  (hs:pv ps mu) (s8:Kt D ps hp e0 e1 n b=true)
  (Gx:∀z,∀p∈fq b,pF P w0 mu n L' z p.1 p.2) (PL:∀x,gL (na tr) S D L' b (pK hp x) (EU id hp e0 e1)=round x) (hL:∀st k,L id b st k=EV hp e0 e1 round st k):pF P w0 mu n L r id b:=by
 unfold Kt at s8;rw [Bool.and_eq_true,Bool.and_eq_true (ij n b)] at s8;exact Zq (qk (kM hT) hE hS w0 mu n) (uY (kM hT) hE hm (qk (kM hT) hE hS w0 mu n)) hs s8.1 s8.2.1 (wT b s8.2.2) (fun z=>uj b (Gx z)) PL hL
def bZ {A B C:Type} (o:Option (Sum A B)) (f:A→Option C) (g:B→Option C):Option C:=
 o.bind fun z=>match z with
  |.inl y=>f y
  |.inr y=>g y
end Go.TM
namespace Go.TM
open Go Go.RowKit Go.ChangeShapes
def RT.app:RT→RT→RT
 |.nil,s=>s
 |.cons t r,s=>.cons t (r.app s)
def Zu:(r s:RT)→aO r→aO s→aO (r.app s)
 |.nil,_,_,y=>y
 |.cons _ r,s,x,y=>(x.1,Zu r s x.2 y)
mutual
def Jo:(t:Ty)→den t→Prop
 |.int k,n=>(Lit.int k n).wf=true
 |.bool,_=>True
 |.str,s=>ByteArray.size s≤maxLen
 |.sl r,xs=>(Y4 xs).length≤maxLen∧∀x∈Y4 xs,HH r x
def HH:(r:RT)→aO r→Prop
 |.nil,_=>True
 |.cons t r,x=>Jo t x.1∧HH r x.2
end
theorem HI (x:aO .nil):HH .nil x:=HH.eq_1 x▸trivial
theorem rH {t:Ty} {r:RT} {x:aO (.cons t r)}:HH (.cons t r) x↔Jo t x.1∧HH r x.2:=HH.eq_2 t r x▸Iff.rfl
theorem aiP {k:IntKind} {n:Int}:Jo (.int k) n↔(Lit.int k n).wf=true:=Jo.eq_1 k n▸Iff.rfl
theorem acw {b:Bool}:Jo .bool b:=Jo.eq_2 b▸trivial
theorem aiQ {s:ByteArray}:Jo .str s↔ByteArray.size s≤maxLen:=Jo.eq_3 s▸Iff.rfl
theorem aiR {r:RT} {xs:List (aO r)}:Jo (.sl r) xs↔(xs.length≤maxLen∧∀x∈xs,HH r x):=Jo.eq_4 r xs▸Iff.rfl
theorem RT.EW:(r s:RT)→(r.app s).width=r.width+s.width
 |.nil,s=>by simp [RT.app,RT.width]
 |.cons t r,s=>by simp [RT.app,RT.width,RT.EW r s];omega
theorem eA.cat {w:World} {ok:Nat→Prop}:(r s:RT)→(l m:List Value)→(x:aO r)→(y:aO s)→eA w ok r l x→eA w ok s m y→eA w ok (r.app s) (l++m) (Zu r s x y)
 |.nil,s,l,m,x,y,h,h'=>by
  have:l=[]:=h;subst this;exact h'
 |.cons t r,s,l,m,x,y,h,h'=>by
  obtain ⟨v,l',rfl,h1,h2⟩:=h;exact ⟨v,l'++m,rfl,h1,eA.cat r s l' m x.2 y h2 h'⟩
theorem HH.cat:(r s:RT)→(x:aO r)→(y:aO s)→HH r x→HH s y→HH (r.app s) (Zu r s x y)
 |.nil,_,_,_,_,h'=>h'
 |.cons t r,s,x,y,h,h'=>by
  exact rH.2 ⟨(rH.1 h).1,HH.cat r s x.2 y (rH.1 h).2 h'⟩
def HJ (P:Program) (row:TypeId→Option RT):Nat→List Field→Option RT
 |_,[]=>some .nil
 |off,f::fs=>match row f.type with
  |some q=>(match HJ P row (off+q.width) fs with
   |some r=>bif Nat.beq f.offset off&&Nat.beq (P.cellsOf f.type) q.width then some (q.app r) else none
   |none=>none)
  |none=>none
def HK (P:Program):Nat→TypeId→Option RT
 |0,_=>none
 |n+1,t=>match P.underlying t with
  |some .bool=>some (.cons .bool .nil)
  |some (.int k)=>some (.cons (.int k) .nil)
  |some .string=>some (.cons .str .nil)
  |some (.slice e)=>(match HK P n e with
   |some q=>bif Nat.beq (P.cellsOf e) q.width&&Nat.blt 0 q.width then some (.cons (.sl q) .nil) else none
   |none=>none)
  |some (.struct fs)=>(match HJ P (HK P n) 0 fs.toList with
   |some r=>bif Nat.beq (P.cellsOf t) r.width then some r else none
   |none=>none)
  |_=>none
theorem RE {α:Type} {Pr:Nat→α→Prop}:(n:Nat)→(∀i,i<n→∃x,Pr i x)→∃xs:List α,xs.length=n∧∀(i:Nat) x,xs[i]?=some x→Pr i x
 |0,_=>⟨[],rfl,fun i x h=>by simp at h⟩
 |n+1,h=>by
  obtain ⟨xs,h1,h2⟩:=RE n (fun i hi=>h i (by omega));obtain ⟨x,hx⟩:=h n (by omega);refine ⟨xs++[x],by simp [h1],fun i y hy => ?_⟩
  by_cases hi:i<n
  ·rw [List.getElem?_append_left (by omega)] at hy;exact h2 i y hy
  ·rw [List.getElem?_append_right (by omega)] at hy;have Gx:i=n:=by
    have:=(List.getElem?_eq_some_iff.1 hy).1;simp at this;omega
   subst Gx;rw [h1,Nat.sub_self] at hy;simp at hy;rw [←hy];exact hx
theorem Ku {w:World} {a:Addr} {v:Value} (h:w.cell? a=some v):a.spot=none:=by
 unfold World.cell? at h
 split at h
 ·split at h
  ·cases h
  ·rename_i hs;simpa using hs
 ·cases h
theorem NS {α β:Type} {f:α→Option β}:(l:List α)→{m:List β}→l.mapM f=some m→m.length=l.length∧∀(i:Nat) a,l[i]?=some a→f a=m[i]?
 | [],m,h=>by
  simp at h;subst h;exact ⟨rfl,fun i a ha=>by simp at ha⟩
 |a::l,m,h=>by
  rw [List.mapM_cons] at h
  cases ha:f a with
  |none=>simp [ha] at h
  |some b=>
   cases hl:l.mapM f with
   |none=>simp [ha,hl] at h
   |some m'=>
    simp [ha,hl] at h;subst h;obtain ⟨h1,h2⟩:=NS l hl;refine ⟨by simp [h1],fun i x hx => ?_⟩
    cases i with
    |zero=>simp at hx;subst hx;simpa using ha
    |succ i=>simpa using h2 i x (by simpa using hx)
theorem FX {w:World} {base n:Nat} {a:Addr} {vs:List Value} (h:w.cells? base a n=some vs):vs.length=n∧w.rangeAt a.block a.off vs∧(0<n→a.spot=none):=by
 unfold World.cells? at h
 split at h
 ·obtain ⟨h1,h2⟩:=NS _ h;simp at h1;have each:∀j v,vs[j]?=some v→w.cell? (a.add j)=some v:=by
   intro j v hv;have hj:j<n:=by
    have:=(List.getElem?_eq_some_iff.1 hv).1;omega
   rw [h2 j j (by simp [hj]),hv]
  refine ⟨h1,fun j v hv => ?_,fun hn => ?_⟩
  ·have:=each j v hv;have hs:=Ku this;have e:a.add j=⟨a.block,a.off+j,none⟩:=by
    unfold Addr.add at hs ⊢
    split
    ·rename_i h0;subst h0;rw [if_pos rfl] at hs;obtain ⟨b,o,s⟩:=a;simp at hs;subst hs;rfl
    ·rfl
   rw [←e];exact this
  ·have dO:0<vs.length:=by omega
   have:=each 0 vs[0] (by simp [dO]);have hs:=Ku this;simpa [Addr.add] using hs
 ·cases h
theorem Kv {P:Program} {w:World} {cs:List Value} {row:TypeId→Option RT}:(fs:List Field)→(off:Nat)→(r:RT)→HJ P row off fs=some r→
  (∀f∈fs,∀q,row f.type=some q→∃x:aO q,eA w (fun _=>True) q ((cs.drop f.offset).take (P.cellsOf f.type)) x∧HH q x)→off+r.width≤cs.length→
  ∃x:aO r,eA w (fun _=>True) r ((cs.drop off).take r.width) x∧HH r x
 | [],off,r,h,_,_=>by
  simp only [HJ,Option.some.injEq] at h;subst h;exact ⟨(),by simp [RT.width,eA],HI _⟩
 |f::fs,off,r,h,hf,hl=>by
  unfold HJ at h
  cases hq:row f.type with
  |none=>simp [hq] at h
  |some q=>
   simp only [hq] at h
   cases hr:HJ P row (off+q.width) fs with
   |none=>simp [hr] at h
   |some r'=>
    simp only [hr] at h;obtain ⟨h1,h2⟩:=bI h;injection h2 with h2;subst h2;rw [Bool.and_eq_true] at h1;have ho:=Nat.eq_of_beq_eq_true h1.1;have hc:=Nat.eq_of_beq_eq_true h1.2;rw [RT.EW] at hl;obtain ⟨x,PA,LZ⟩:=hf f List.mem_cons_self q hq;obtain ⟨y,hy1,hy2⟩:=Kv fs (off+q.width) r' hr (fun g hg=>hf g (List.mem_cons_of_mem _ hg)) (by omega);refine ⟨Zu q r' x y,?_,HH.cat q r' x y LZ hy2⟩;rw [RT.EW,List.take_add,List.drop_drop];rw [ho,hc] at PA;exact eA.cat q r' _ _ x y PA hy1
theorem L6 {H:Type} {enc:TypeId×Value→H} {P:Program} {w:World} {base:Nat} {spare:Nat→Bool} {held:Bool}:(n:Nat)→∀ {t:TypeId} {r:RT} {fuel:Nat} {cs:List Value} {y:DataW H×List MemPlace},HK P n t=some r→
  DataW.trod enc P w base spare held fuel t cs=some y→∃x:aO r,eA w (fun _=>True) r cs x∧HH r x
 |0,_,_,_,_,_,h,_=>by cases h
 |n+1,t,r,fuel,cs,y,h,hd=>by
  unfold HK at h
  cases hu:P.underlying t with
  |none=>simp [hu] at h
  |some d=>
   cases d with
   |bool=>
    simp only [hu,Option.some.injEq] at h;subst h;obtain ⟨b,rfl,_⟩:=DataW.trod_bool hu hd;exact ⟨((b:Bool),()),⟨_,_,rfl,Bw.2 rfl,rfl⟩,rH.2 ⟨acw,HI _⟩⟩
   |int k=>
    simp only [hu,Option.some.injEq] at h;subst h;obtain ⟨m,rfl,_,hw⟩:=DataW.trod_int hu hd;exact ⟨((m:Int),()),⟨_,_,rfl,yr.2 rfl,rfl⟩,rH.2 ⟨aiP.2 hw,HI _⟩⟩
   |string=>
    simp only [hu,Option.some.injEq] at h;subst h;obtain ⟨s,rfl,_,hw⟩:=DataW.trod_string hu hd;exact ⟨((s:ByteArray),()),⟨_,_,rfl,EI.2 rfl,rfl⟩,rH.2 ⟨aiQ.2 hw,HI _⟩⟩
   |slice e=>
    simp only [hu] at h
    cases hq:HK P n e with
    |none=>simp [hq] at h
    |some q=>
     simp only [hq] at h;obtain ⟨h1,h2⟩:=bI h;injection h2 with h2;subst h2;rw [Bool.and_eq_true] at h1;have hw:=Nat.eq_of_beq_eq_true h1.1;have acx:0<q.width:=Nat.le_of_ble_eq_true h1.2;rcases DataW.trod_slice hu hd with ⟨rfl,_⟩ | ⟨a,len,cap,elems,rest,m,_,rfl,_,hb,hl,hm,hlen,hel,_,_⟩
     ·exact ⟨(([]:List (aO q)),()),⟨_,_,rfl,(rk _ _ _ _ _).2 (.inl ⟨rfl,rfl⟩),rfl⟩,rH.2 ⟨aiR.2 ⟨Nat.zero_le _,fun x hx=>by cases hx⟩,HI _⟩⟩
     ·have each:∀i,i<len→∃x:aO q,(fx w (fun _=>True) q a.block (a.off+i*q.width) x∧HH q x)∧a.spot=none∧a.block<w.heap.size:=by
       intro i hi;have h3:=hel i hi;rw [List.getElem?_eq_getElem (by omega),Option.bind_eq_some_iff] at h3;obtain ⟨vs,Gv,hy⟩:=h3;obtain ⟨x,hx,hs⟩:=L6 n hq hy;obtain ⟨g1,g2,g3⟩:=FX Gv;have hbk:(a.add (i*P.cellsOf e)).block=a.block:=by unfold Addr.add;split<;>rfl
       have hof:(a.add (i*P.cellsOf e)).off=a.off+i*q.width:=by
        unfold Addr.add;rw [hw]
        split
        ·rename_i h0;rw [h0];rfl
        ·rfl
       rw [hbk,hof] at g2;refine ⟨x,⟨(mm q _ _ x).2 ⟨vs,g2,hx⟩,hs⟩,?_,?_⟩
       ·have h4:=hel 0 (by omega);rw [List.getElem?_eq_getElem (by omega),Option.bind_eq_some_iff] at h4;obtain ⟨vs0,an1,_⟩:=h4;have:=(FX an1).2.2 (by omega);simpa [Addr.add] using this
       ·have dO:0<vs.length:=by omega
        have h5:=Rj (g2 0 vs[0] (by simp [dO]));exact h5
      obtain ⟨xs,PA,LZ⟩:=RE len each;refine ⟨((xs:List (aO q)),()),⟨_,_,rfl,(rk _ _ _ _ _).2 (.inr ⟨a,cap,by rw [PA],by rw [PA];exact hl,fun mU => ?_,fun i x hi=>(LZ i x hi).1.1⟩),rfl⟩,?_⟩
      ·have dO:0<xs.length:=List.length_pos_iff.2 mU;have:=(LZ 0 xs[0] (by simp [dO])).2;exact ⟨this.1,this.2,trivial⟩
      ·refine rH.2 ⟨aiR.2 ⟨by show xs.length≤maxLen;omega,fun x hx => ?_⟩,HI _⟩;obtain ⟨i,hi⟩:=List.getElem?_of_mem hx;exact (LZ i x hi).1.2
   |struct fs=>
    simp only [hu] at h
    cases hq:HJ P (HK P n) 0 fs.toList with
    |none=>simp [hq] at h
    |some q=>
     simp only [hq] at h;obtain ⟨h1,h2⟩:=bI h;injection h2 with h2;subst h2;have hw:=Nat.eq_of_beq_eq_true h1;obtain ⟨xs,m,_,_,hlen,hxs,hel⟩:=DataW.trod_struct hu hd;obtain ⟨x,g1,g2⟩:=Kv (w:=w) (cs:=cs) fs.toList 0 q hq (fun f hf p hp=>by
      obtain ⟨i,hi⟩:=List.getElem?_of_mem hf;rw [Array.getElem?_toList] at hi;have h3:=hel i f hi;have dO:i<fs.size:=(Array.getElem?_eq_some_iff.1 hi).1;rw [List.getElem?_eq_getElem (by omega)] at h3;exact L6 n hp h3) (by omega)
     refine ⟨x,?_,g2⟩;have:(cs.drop 0).take q.width=cs:=by rw [List.drop_zero,List.take_of_length_le (by omega)]
     rwa [this] at g1
   |_=>simp [hu] at h
end Go.TM
namespace Go.TM
open Go Go.RowKit Go.ChangeShapes
mutual
theorem Ty.AJ:(t:Ty)→Ty.eq? t t=some ⟨rfl⟩
 |.int k=>by simp [Ty.eq?]
 |.bool=>rfl
 |.str=>rfl
 |.sl r=>by simp [Ty.eq?,RT.AJ r]
theorem RT.AJ:(r:RT)→RT.eq? r r=some ⟨rfl⟩
 |.nil=>rfl
 |.cons t r=>by simp [RT.eq?,Ty.AJ t,RT.AJ r]
end
theorem PQ (r:RT) (xs:List (aO r)):ef r xs=some xs:=by
 unfold ef;rw [RT.AJ]
theorem wU {p:OP} {ps:List OP} {t:RT} {o:OV} {os:List OV} {y:aO t} {x:den p.ty} {z:aO (pb ps t)} (h1:vt p o=some x) (h2:fp ps t os y=some z):fp (p::ps) t (o::os) y=some ((x,z):aO (pb (p::ps) t)):=by
 unfold fp;rw [h1,h2];rfl
theorem SX {k:IntKind} {n:Int}:vt (.int k) (.int k n)=some n:=if_pos rfl
def qm:RT→List OP
 |.nil=>[]
 |.cons (.int k) r=>.int k::qm r
 |.cons .bool r=>.bool::qm r
 |.cons .str r=>.str::qm r
 |.cons (.sl q) r=>.shr q::qm r
def Cz.free:Cz:={ bx:=fun _=>0,lc:=fun _ _=>.nil,own:=fun _=>none }
theorem NT {w:World} {f:Nat→Lb}:(r:RT)→(t:RT)→(j:Nat)→(vs:List Value)→(x:aO r)→(y:aO t)→eA w (fun _=>True) r vs x→HH r x→
  ∃z:aO (pb (qm r) t),cD Cz.free w f j (fC (qm r) t z).1 vs∧fp (qm r) t (fC (qm r) t z).1 y=some z∧(HH t y→HH (pb (qm r) t) z)
 |.nil,t,j,vs,x,y,h,_=>by
  have:vs=[]:=h;subst this;exact ⟨y,rfl,rfl,id⟩
 |.cons ty r,t,j,vs,x,y,h,hs=>by
  obtain ⟨v,l,rfl,h1,h2⟩:=h;obtain ⟨s1,s2⟩:=rH.1 hs;obtain ⟨z,g1,g2,g3⟩:=NT (f:=f) r t (j+1) l x.2 y h2 s2
  cases ty with
  |int k=>
   refine ⟨(x.1,z),⟨l,by rw [yr.1 h1],g1⟩,?_,fun hy=>rH.2 ⟨s1,g3 hy⟩⟩;exact wU (p:=.int k) (o:=.int k x.1) (SX) g2
  |bool=>
   refine ⟨(x.1,z),⟨l,by rw [Bw.1 h1],g1⟩,?_,fun hy=>rH.2 ⟨s1,g3 hy⟩⟩;exact wU (p:=.bool) (o:=.bool x.1) (rfl) g2
  |str=>
   refine ⟨(x.1,z),⟨l,by rw [EI.1 h1],g1⟩,?_,fun hy=>rH.2 ⟨s1,g3 hy⟩⟩;exact wU (p:=.str) (o:=.str x.1) (rfl) g2
  |sl q=>
   refine ⟨(x.1,z),⟨v,l,rfl,ev.stays ⟨Nat.le_refl _,fun _ _ _=>rfl,fun _ _ _=>rfl⟩ _ _ _ h1,g1⟩,?_,fun hy=>rH.2 ⟨s1,g3 hy⟩⟩;exact wU (p:=.shr q) (o:=.shr q x.1) (PQ q x.1) g2
def OP.same:OP→OP→Bool
 |.int k,.int l=>decide (k=l)
 |.bool,.bool=>true
 |.str,.str=>true
 |.shr r,.shr s=>(RT.eq? r s).isSome
 |_,_=>false
theorem OP.DI {p q:OP} (h:p.same q=true):p=q:=by
 cases p<;>cases q<;>simp [OP.same] at h
 ·rw [h]
 ·rfl
 ·rfl
 ·rename_i r s;obtain ⟨⟨e⟩,_⟩:=Option.isSome_iff_exists.1 h;rw [e]
def BK:List OP→List OP→Bool
 | [],[]=>true
 |p::l,q::m=>p.same q&&BK l m
 |_,_=>false
theorem HL:(l m:List OP)→BK l m=true→l=m
 | [],[],_=>rfl
 |p::l,q::m,h=>by
  unfold BK at h;rw [Bool.and_eq_true] at h;rw [OP.DI h.1,HL l m h.2]
 | [],_::_,h=>by simp [BK] at h
 |_::_,[],h=>by simp [BK] at h
def Pj (P:Program):List TypeId→List AP→Bool
 | [],[]=>true
 |t::ts,.val agg os::ps=>(match HK P 30 t with
   |some r=>BK (qm r) os
   |none=>false)&&((match P.underlying t with | some (.struct _)=>agg | _ => !agg)&&(P.readableRec t&&(Nat.blt t P.types.size&&Pj P ts ps)))
 |_,_=>false
theorem one_cell {P:Program} {w:World} {r:Reach} {b:Nat} {t:TypeId} {v:Value} {rt:RT} (hn:HK P 30 t=some rt) (hs:∀fs,P.underlying t≠some (.struct fs)) (h:Value.okWide P w r b t v):v.cells.toList=[v]:=by
 cases hu:P.underlying t with
 |none=>simp [HK,hu] at hn
 |some d=>
  cases v<;>try rfl
  rename_i cs
  exfalso
  cases d<;>first | exact hs _ hu | (simp [HK,hu] at hn;done) | (simp [Value.okWide,hu,Cell.okWide,Cell.ok] at h)
theorem Kw {H:Type} {enc:TypeId×Value→H} {P:Program} {w:World} {lc:Nat→Nat→Loc}:(ts:List TypeId)→(ps:List AP)→Pj P ts ps=true→(i:Nat)→(vs:List Value)→(ds:List (DataW H))→(p:List MemPlace)→
  (∀(j:Nat) t v,ts[j]?=some t→vs[j]?=some v→∃b,Value.okWide P w .any b t v)→DataW.TrodAll enc P w 0 (fun _=>true) true ts vs ds p→
  ∃(x:aO (aH (ps.map some))) (fS:List AV),ib ps fS=some x∧Co Cz.free w lc i fS vs∧HH (aH (ps.map some)) x
 | [],[],_,i,vs,ds,p,_,hA=>by
  obtain ⟨rfl,_,_⟩:=trodAll_nil hA;exact ⟨(),[],rfl,rfl,HI _⟩
 | [],_::_,hb,_,_,_,_,_,_=>by simp [Pj] at hb
 |t::ts,[],hb,_,_,_,_,_,_=>by simp [Pj] at hb
 |t::ts,.io _ _::_,hb,_,_,_,_,_,_=>by simp [Pj] at hb
 |t::ts,.box _ _::_,hb,_,_,_,_,_,_=>by simp [Pj] at hb
 |t::ts,.dR _::_,hb,_,_,_,_,_,_=>by simp [Pj] at hb
 |t::ts,.val agg os::ps,hb,i,vs,ds,p,yy,hA=>by
  obtain ⟨v,vs',d,ds',p',q',rfl,rfl,rfl,h1,h2⟩:=trodAll_cons hA;unfold Pj at hb;rw [Bool.and_eq_true,Bool.and_eq_true,Bool.and_eq_true,Bool.and_eq_true] at hb;obtain ⟨b1,b2,_,_,b5⟩:=hb;obtain ⟨y,fS,g1,g2,g3⟩:=Kw (lc:=lc) ts ps b5 (i+1) vs' ds' q' (fun j t v ht hv=>yy (j+1) t v (by simpa using ht) (by simpa using hv)) h2;obtain ⟨b0,iN⟩:=yy 0 t v rfl rfl
  cases hr:HK P 30 t with
  |none=>rw [hr] at b1;cases b1
  |some r=>
   rw [hr] at b1;have xL:=HL _ _ b1;subst xL;obtain ⟨fuel,hd⟩:=h1;obtain ⟨x,PA,LZ⟩:=L6 30 hr hd;obtain ⟨z,k1,k2,k3⟩:=NT (f:=.dC i) r (aH (ps.map some)) 0 v.cells.toList x y PA LZ
   cases agg with
   |false=>
    have hs:∀fs,P.underlying t≠some (.struct fs):=by
     intro fs e;rw [e] at b2
     cases b2
    rw [one_cell hr hs iN] at k1;refine ⟨z,.val false (fC (qm r) (aH (ps.map some)) z).1::fS,?_,⟨v,vs',rfl,k1,g2⟩,k3 g3⟩;show (match ib ps fS with | some y=>Kk (.val false (qm r)) (aH (ps.map some)) (.val false _) y | none=>none)=_;rw [g1];exact k2
   |true=>
    obtain ⟨fs,hu⟩:∃fs,P.underlying t=some (.struct fs):=by
     cases hu:P.underlying t with
     |none=>rw [hu] at b2;cases b2
     |some d=>
      rw [hu] at b2
      cases d<;>first | exact ⟨_,rfl⟩ | cases b2
    obtain ⟨cs,rfl,_⟩:∃cs,v=.agg cs∧True:=by
     unfold Value.okWide at iN;rw [hu] at iN;obtain ⟨cs,e,_⟩:=iN;exact ⟨cs,e,trivial⟩
    refine ⟨z,.val true (fC (qm r) (aH (ps.map some)) z).1::fS,?_,⟨.agg cs,vs',rfl,⟨cs,rfl,k1⟩,g2⟩,k3 g3⟩;show (match ib ps fS with | some y=>Kk (.val true (qm r)) (aH (ps.map some)) (.val true _) y | none=>none)=_;rw [g1];exact k2
theorem Kx {H:Type} {enc:TypeId×Value→H} {P:Program} (hl:laidOutB P=true) {W W':World} (hb:Below W.heap.size W W'):(ts:List TypeId)→(ps:List AP)→Pj P ts ps=true→(vs:List Value)→(ds:List (DataW H))→(p:List MemPlace)→(∀x∈p,x.block<W.heap.size)→
  DataW.TrodAll enc P W 0 (fun _=>true) true ts vs ds p→DataW.TrodAll enc P W' 0 (fun b=>decide (b<W.heap.size)) true ts vs ds p
 | [],[],_,vs,ds,p,_,hA=>by
  obtain ⟨rfl,rfl,rfl⟩:=trodAll_nil hA;exact trodAll_mk0
 | [],_::_,hb,_,_,_,_,_=>by simp [Pj] at hb
 |t::ts,[],hb,_,_,_,_,_=>by simp [Pj] at hb
 |t::ts,.io _ _::_,hb,_,_,_,_,_=>by simp [Pj] at hb
 |t::ts,.box _ _::_,hb,_,_,_,_,_=>by simp [Pj] at hb
 |t::ts,.dR _::_,hb,_,_,_,_,_=>by simp [Pj] at hb
 |t::ts,.val agg os::ps,hp,vs,ds,p,dO,hA=>by
  obtain ⟨v,vs',d,ds',p',q',rfl,rfl,rfl,h1,h2⟩:=trodAll_cons hA;unfold Pj at hp;rw [Bool.and_eq_true,Bool.and_eq_true,Bool.and_eq_true,Bool.and_eq_true] at hp;obtain ⟨_,_,b3,b4,b5⟩:=hp;exact trodAll_cons_mk (Below.trod hl b3 (Nat.le_of_ble_eq_true b4) h1 hb (fun x hx=>dO x (List.mem_append_left _ hx))) (Kx hl hb ts ps b5 vs' ds' q' (fun x hx=>dO x (List.mem_append_right _ hx)) h2)
theorem SY {H:Type} {enc:TypeId×Value→H} {P:Program} (hl:laidOutB P=true) {f:FuncId} {ps:List AP} {s:Nat} {t:aO (aH (ps.map some))→Option (aO (ew [{ src:=.tmp s,agg:=false,ps:=[.bool] }] (cF ps)))}
  (hk:tZ P f (pe ps [{ src:=.tmp s,agg:=false,ps:=[.bool] }] t)) {ts:List TypeId} (Zc:Pj P ts ps=true) (an3:∀x,HH (aH (ps.map some)) x→∃y,t x=some y∧y.1=true)
  {W:World} {base:Nat} {args:Array Value} {ds:List (DataW H)} {p:List MemPlace} (yy:∀(j:Nat) t v,ts[j]?=some t→args[j]?=some v→Value.okWide P W .any base t v)
  (hA:DataW.TrodAll enc P W 0 (fun _=>true) true ts args.toList ds p) (dO:∀x∈p,x.block<W.heap.size) :
  Calls P f args W fun e W'=>e=.returned (.bool true)∧Below W.heap.size W W'∧DataW.TrodAll enc P W' 0 (fun b=>decide (b<W.heap.size)) true ts args.toList ds p:=by
 obtain ⟨x,fS,h1,h2,h3⟩:=Kw (lc:=fun _ _=>.nil) ts ps Zc 0 args.toList ds p (fun j t v ht hv=>⟨base,yy j t v ht (by rwa [Array.getElem?_toList] at hv)⟩) hA;obtain ⟨y,hy,hy1⟩:=an3 x h3
 let μ:Mu:={ m:=fun _=>False,ok:=fun _=>True,an:=[] }
 have hH:Handed Cz.free W μ:={
  m:=fun b=>⟨fun h=>h.elim,fun ⟨l,h,_⟩=>by cases h⟩
  ok:=fun b=>⟨fun _=>rfl,fun _=>trivial⟩
  lt:=fun b l h=>by cases h
  lb:=fun b l h=>by cases h }
 have hs:pe ps [{ src:=.tmp s,agg:=false,ps:=[.bool] }] t fS=some { r:=ew [{ src:=.tmp s,agg:=false,ps:=[.bool] }] (cF ps),o:=t x,res:=fun y=>{ outs:=(iP [{ src:=.tmp s,agg:=false,ps:=[.bool] }] (cF ps) y).1,exts:=pJ ps (iP [{ src:=.tmp s,agg:=false,ps:=[.bool] }] (cF ps) y).2 } }:=by
  unfold pe;rw [h1]
 refine (hk.ok Cz.free W μ (fun _ _=>.nil) fS args _ y hH h2 hs hy).mono fun e W' ⟨v,he,c',hb,hV,_⟩ => ?_
 have aiT:Below W.heap.size W W':=⟨hb.kept.1,hb.kept.2.1,hb.kept.2.2.1,hb.kept.2.2.2,fun k hk=>hb.old k hk (fun h=>h.elim)⟩;have hv:v=.bool true:=by
  have hV:vq c' W' [.one (.bool y.1)] v:=hV;rcases hV with ⟨r,e1,g⟩ | ⟨g,_⟩
  ·simp only [List.cons.injEq,and_true] at e1;subst e1;obtain ⟨v',l,e2,g2,_⟩:=g;simp only [List.cons.injEq] at e2;obtain ⟨e2,_⟩:=e2;obtain ⟨l',g3,_⟩:=g2;simp only [List.cons.injEq] at g3;rw [e2,g3.1,hy1]
  ·simp at g
 exact ⟨by rw [he,hv],aiT,Kx hl aiT ts ps Zc args.toList ds p dO hA⟩
theorem dq {a:Int} (h1 : -9223372036854775808≤a) (h2:a<9223372036854775808):IntKind.i64.wrap a=a:=by
 rw [IntKind.wrap_i64];omega
theorem sK {X E:Type} {round:X→Option (Sum X E)} {n:Nat} (st:Nat→X) (g:Nat→Option E) (VW:∃e,round (st n)=some (.inr e)∧g n=some e)
  (FY:∀k,k<n→(∃e,round (st k)=some (.inr e)∧g k=some e)∨(round (st k)=some (.inl (st (k+1)))∧g k=g (k+1))):∀k,k≤n→aJ round (st k)=g k:=by
 have key:∀d k,k+d=n→aJ round (st k)=g k:=by
  intro d
  induction d with
  |zero=>
   intro k hk;have:k=n:=by omega
   subst this;obtain ⟨e,h1,h2⟩:=VW;rw [jH,h1,h2]
  |succ d ih=>
   intro k hk;rcases FY k (by omega) with ⟨e,h1,h2⟩ | ⟨h1,h2⟩
   ·rw [jH,h1,h2]
   ·rw [jH,h1,h2];exact ih (k+1) (by omega)
 intro k hk;exact key (n-k) k (by omega)
theorem ck {X E:Type} {round:X→Option (Sum X E)} (n:Nat) (st:Nat→X) {e:E} (VW:round (st n)=some (.inr e))
  (FY:∀k,k<n→round (st k)=some (.inl (st (k+1)))):aJ round (st 0)=some e:=
 sK st (fun _=>some e) ⟨e,VW,rfl⟩ (fun k hk=>.inr ⟨FY k hk,rfl⟩) 0 (Nat.zero_le _)
theorem dt {X E:Type} {round:X→Option (Sum X E)} (n:Nat) (I:Nat→X→Prop) (Q:E→Prop) (VW:∀x,I n x→∃e,round x=some (.inr e)∧Q e)
  (FY:∀k x,k<n→I k x→(∃e,round x=some (.inr e)∧Q e)∨(∃y,round x=some (.inl y)∧I (k+1) y)) {x:X} (h:I 0 x):∃e,aJ round x=some e∧Q e:=by
 have key:∀d k x,k+d=n→I k x→∃e,aJ round x=some e∧Q e:=by
  intro d
  induction d with
  |zero=>
   intro k x hk hI;have:k=n:=by omega
   subst this;obtain ⟨e,h1,h2⟩:=VW x hI;exact ⟨e,by rw [jH,h1],h2⟩
  |succ d ih=>
   intro k x hk hI;rcases FY k x (by omega) hI with ⟨e,h1,h2⟩ | ⟨y,h1,h2⟩
   ·exact ⟨e,by rw [jH,h1],h2⟩
   ·obtain ⟨e,h3,h4⟩:=ih (k+1) y (by omega) h2;exact ⟨e,by rw [jH,h1];exact h3,h4⟩
 exact key n 0 x (by omega) h
theorem jI {A B C:Type} {a:A} {f:A→Option C} {g:B→Option C}:bZ (some (.inl a)) f g=f a:=rfl
theorem VX {A B C:Type} {b:B} {f:A→Option C} {g:B→Option C}:bZ (some (.inr b)) f g=g b:=rfl
theorem ak {p:Prop} [Decidable p] (h:p):decide p=true:=decide_eq_true h
theorem aq {p:Prop} [Decidable p] (h:¬p):decide p=false:=decide_eq_false h
theorem aG (k:Nat):Int.toNat ((k:Nat):Int)=k:=rfl
theorem fZ {a b:Nat} (h:a<b):Nat.blt a b=true:=Nat.ble_eq_true_of_le h
theorem aS {a b:Nat} (h:a≤b):Nat.ble a b=true:=Nat.ble_eq_true_of_le h
theorem ax (k:Nat):decide ((0:Int)≤((k:Nat):Int))=true:=ak (by omega)
theorem aF {k n:Nat} (h:k<n):decide (((k:Nat):Int)<((n:Nat):Int))=true:=ak (by omega)
theorem aN (n:Nat):decide (((n:Nat):Int)<((n:Nat):Int))=false:=aq (by omega)
theorem aM {k:Nat} (h:k<4611686018427387904):IntKind.i64.wrap (((k:Nat):Int)+(1:Int))=(((k+1:Nat)):Int):=by
 rw [dq]<;>omega
theorem HM (bs:ByteArray):∀(d i:Nat) (r:List UInt8),bs.size-i=d→ByteArray.toList.loop bs i r=r.reverse++bs.data.toList.drop i
 |0,i,r,h=>by
  unfold ByteArray.toList.loop;rw [if_neg (by omega)];have:bs.data.toList.drop i=[]:=List.drop_of_length_le (by
   have:bs.data.toList.length=bs.size:=Array.length_toList;omega)
  rw [this,List.append_nil]
 |d+1,i,r,h=>by
  unfold ByteArray.toList.loop;have dO:i<bs.size:=by omega
  rw [if_pos dO,HM bs d (i+1) _ (by omega)];have an4:i<bs.data.toList.length:=by
   have:bs.data.toList.length=bs.size:=Array.length_toList;omega
  rw [List.reverse_cons,List.append_assoc,List.drop_eq_getElem_cons an4]
  congr 2
  simp [ByteArray.get!,dO]
theorem HN (bs:ByteArray):bs.toList=bs.data.toList:=by
 unfold ByteArray.toList;rw [HM bs _ 0 [] rfl];simp
theorem SZ {a b:ByteArray}:tW a b=true↔a=b:=by
 unfold tW;rw [beq_iff_eq]
 constructor
 ·intro h;rw [HN,HN] at h;obtain ⟨⟨x⟩⟩:=a;obtain ⟨⟨y⟩⟩:=b;exact congrArg (fun l=>ByteArray.mk ⟨l⟩) h
 ·intro h;rw [h]
theorem HO (a:ByteArray):tW a a=true:=SZ.2 rfl
def wl {α:Type} (f:α→Nat) (xs:List α):Nat:=xs.foldr (fun x n=>f x+n) 0
theorem L7 {α:Type} (f:α→Nat):wl f []=0:=rfl
theorem sq {α:Type} (f:α→Nat) (x:α) (xs:List α):wl f (x::xs)=f x+wl f xs:=rfl
theorem HP {α:Type} (f:α→Nat) (xs ys:List α):wl f (xs++ys)=wl f xs+wl f ys:=by
 induction xs with
 |nil=>simp [wl]
 |cons x xs ih=>
  show f x+wl f (xs++ys)=f x+wl f xs+wl f ys;rw [ih];omega
theorem HQ {α:Type} (f:α→Nat) (xs:List α):∀x∈xs,f x≤wl f xs:=by
 induction xs with
 |nil=>intro x h;cases h
 |cons y xs ih=>
  intro x h;show f x≤f y+wl f xs;rcases List.mem_cons.1 h with rfl | h
  ·omega
  ·have:=ih x h;omega
theorem nb {α:Type} (f:α→Nat) (h:∀x,f x=0) (xs:List α):wl f xs=0:=by
 induction xs with
 |nil=>rfl
 |cons y xs ih=>show f y+wl f xs=0;rw [h,ih]
theorem qn {X Y E F:Type} {r1:X→Option (Sum X E)} {r2:Y→Option (Sum Y F)} (n:Nat) (R:Nat→X→Y→Prop) (Q:E→F→Prop)
  (FY:∀k x y,k≤n→R k x y→(∃e f,r1 x=some (.inr e)∧r2 y=some (.inr f)∧Q e f)∨(k<n∧∃x' y',r1 x=some (.inl x')∧r2 y=some (.inl y')∧R (k+1) x' y')) {x:X} {y:Y} (h:R 0 x y) :
  ∃e f,aJ r1 x=some e∧aJ r2 y=some f∧Q e f:=by
 have key:∀d k x y,k+d=n→R k x y→∃e f,aJ r1 x=some e∧aJ r2 y=some f∧Q e f:=by
  intro d
  induction d with
  |zero=>
   intro k x y hk hR;rcases FY k x y (by omega) hR with ⟨e,f,h1,h2,h3⟩ | ⟨dO,_⟩
   ·exact ⟨e,f,by rw [jH,h1],by rw [jH,h2],h3⟩
   ·omega
  |succ d ih=>
   intro k x y hk hR;rcases FY k x y (by omega) hR with ⟨e,f,h1,h2,h3⟩ | ⟨_,x',y',h1,h2,h3⟩
   ·exact ⟨e,f,by rw [jH,h1],by rw [jH,h2],h3⟩
   ·obtain ⟨e,f,g1,g2,g3⟩:=ih (k+1) x' y' (by omega) h3;exact ⟨e,f,by rw [jH,h1];exact g1,by rw [jH,h2];exact g2,g3⟩
 exact key n 0 x y (by omega) h
end Go.TM
namespace Go.TM
open Go Go.RowKit
def uZ (P:Program):Nat→RT→List Field→Bool
 |_,.nil,[]=>true
 |off,.cons t r,f::fs=>Nat.beq f.offset off&&((f.name != "_")&&(P.plainKey f.type&&(NP P f.type t&&uZ P (off+1) r fs)))
 |_,_,_=>false
def EX (P:Program) (t:TypeId) (r:RT):Bool:=
 match P.underlying t with
 |some (.struct fs) => !P.stoodInHeld t&&(!P.eqGuardType P.depth t&&uZ P 0 r fs.toList)
 |_=>false
def aaU (P:Program) (t:Nat) (r:Rec):Bool := !r.eq||(match r.row with | some q=>EX P t q | none=>false)
theorem PR {P:Program} {c:Cz} {st:St} {w w':World} {t:TypeId} {ty:Ty} {d:Nat} {a b:CV} {x y:Value} {r:Bool} {q:RT} {l:List CV} (hk:NP P t ty=true) (hf:vf (.cons ty q) (a::l)=true) (h:ym a b=some r) (hx:qi c st w a x) (hy:qi c st w b y) :
  (Op.equalIn (d+1) t x y).run P w'=.ok r w'∧vf q l=true:=by
 cases ty with
 |sl _=>cases a<;>simp [vf] at hf
 |int k=>
  obtain ⟨e,he,h2⟩:=iA hk
  cases a<;>try (simp [vf] at hf;done)
  rename_i k1 n;simp only [vf,Bool.and_eq_true,decide_eq_true_eq] at hf
  cases b<;>try (simp [ym] at h;done)
  rename_i k2 m;simp only [ym] at h
  split at h
  ·rename_i UR;subst UR
   cases h
   cases e<;>simp at h2
   have hx:x=.int k1 n:=hx;have hy:y=.int k1 m:=hy;subst hx hy;refine ⟨?_,hf.2⟩;rw [run_equalIn_int w' d t k1 _ n m he]
   congr 1
  ·cases h
 |bool=>
  obtain ⟨e,he,h2⟩:=iA hk
  cases a<;>try (simp [vf] at hf;done)
  cases b<;>try (simp [ym] at h;done)
  rename_i p q';simp only [ym,Option.some.injEq] at h;subst h
  cases e<;>simp at h2
  have hx:x=.bool p:=hx;have hy:y=.bool q':=hy;subst hx hy;exact ⟨run_equalIn_bool' w' d t p q' he,hf⟩
 |str=>
  obtain ⟨e,he,h2⟩:=iA hk
  cases a<;>try (simp [vf] at hf;done)
  cases b<;>try (simp [ym] at h;done)
  rename_i p q';simp only [ym,Option.some.injEq] at h;subst h
  cases e<;>simp at h2
  have hx:x=.string p:=hx;have hy:y=.string q':=hy;subst hx hy;exact ⟨run_equalIn_string w' d t p q' he,hf⟩
theorem DJ {P:Program} {c:Cz} {st:St} {w w':World} {d:Nat} {us vs:Array Value}:(fs:List Field)→(off:Nat)→(q:RT)→(l m:List CV)→{b:Bool}→uZ P off q fs=true→vf q l=true→qe l m=some b→
  iO c st w l (us.toList.drop off)→iO c st w m (vs.toList.drop off)→(Op.eqFields (d+1) us vs fs).run P w'=.ok b w'
 | [],off,q,l,m,b,hf,rD,hc,hl,hm=>by
  cases q with
  |cons t r=>cases t<;>simp [uZ] at hf
  |nil=>
   cases l with
   |cons _ _=>simp [vf] at rD
   |nil=>cases m with
    |cons _ _=>simp [qe] at hc
    |nil=>
     simp only [qe,Option.some.injEq] at hc;subst hc;simp [Op.eqFields]
 |f::fs,off,q,l,m,b,hf,rD,hc,hl,hm=>by
  cases q with
  |nil=>simp [uZ] at hf
  |cons t r=>
   unfold uZ at hf;rw [Bool.and_eq_true,Bool.and_eq_true,Bool.and_eq_true,Bool.and_eq_true] at hf;obtain ⟨h1,h2,h3,h4,h5⟩:=hf;have h1:=Nat.eq_of_beq_eq_true h1
   cases l with
   |nil=>cases t<;>simp [vf] at rD
   |cons x l=>cases m with
    |nil=>simp [qe] at hc
    |cons y m=>
     simp only [qe] at hc
     cases he:ym x y with
     |none=>simp [he] at hc
     |some b1=>
      cases hes:qe l m with
      |none=>simp [he,hes] at hc
      |some b2=>
       simp only [he,hes,Option.some.injEq] at hc;subst hc;have Zb:off<us.size:=by
        have:=hl.1;simp at this;omega
       have J2:off<vs.size:=by
        have:=hm.1;simp at this;omega
       have hdu:us.toList.drop off=us[off]::us.toList.drop (off+1):=by
        have:off<us.toList.length:=by simpa using Zb
        rw [List.drop_eq_getElem_cons this];simp
       have hdv:vs.toList.drop off=vs[off]::vs.toList.drop (off+1):=by
        have:off<vs.toList.length:=by simpa using J2
        rw [List.drop_eq_getElem_cons this];simp
       rw [hdu] at hl;rw [hdv] at hm;have rx:=hl.2 0 x us[off] rfl rfl;have ry:=hm.2 0 y vs[off] rfl rfl;obtain ⟨k1,k2⟩:=PR (w':=w') (d:=d) h4 rD he rx ry;have rl:iO c st w l (us.toList.drop (off+1)):=⟨by have:=hl.1;simpa using this,fun i a v ha hv=>hl.2 (i+1) a v (by simpa using ha) (by simpa using hv)⟩;have rm:iO c st w m (vs.toList.drop (off+1)):=⟨by have:=hm.1;simpa using this,fun i a v ha hv=>hm.2 (i+1) a v (by simpa using ha) (by simpa using hv)⟩;have ih:=DJ (w':=w') (d:=d) fs (off+1) r l m h5 k2 hes rl rm;unfold Op.eqFields;rw [if_pos (by simpa using h2)];have p1:(part f.type us f.offset).run P w'=.ok us[off] w':=run_part_plain w' h3 (by rw [h1];exact Array.getElem?_eq_getElem Zb);have p2:(part f.type vs f.offset).run P w'=.ok vs[off] w':=run_part_plain w' h3 (by rw [h1];exact Array.getElem?_eq_getElem J2);simp only [Sem.run_bind,p1,p2,k1,Result.andThen_ok]
       cases b1
       ·simp
       ·simp [ih]
theorem VY {P:Program} {tr:Tr} (h:tr.all (aaU P)=true):AB P (na tr):=by
 intro t ht c st w l m us vs b op ox oy rD hc hl hm w';have ht:(match tr.find t with | some r=>r.eq | none=>false)=true:=ht
 cases hf:tr.find t with
 |none=>rw [hf] at ht;cases ht
 |some r=>
  rw [hf] at ht;have ht:r.eq=true:=ht;have h1:=Tr.DH tr h hf;unfold aaU at h1;rw [ht,Bool.not_true,Bool.false_or] at h1;unfold oB.fits at rD;have s7:(na tr).row t=r.row:=by show (match tr.find t with | some r=>r.row | none=>none)=_;rw [hf]
  rw [s7] at rD
  cases hq:r.row with
  |none=>rw [hq] at h1;cases h1
  |some q=>
   rw [hq] at h1 rD;have h1:EX P t q=true:=h1;have rD:vf q l=true:=rD;unfold EX at h1
   split at h1
   ·rename_i fs hu;rw [Bool.and_eq_true,Bool.and_eq_true,Bool.not_eq_true',Bool.not_eq_true'] at h1;have hfo:P.fieldsOf t=fs:=by unfold Program.fieldsOf;rw [hu]
    refine ⟨run_eqGuard_agg w' op t ox oy us vs h1.2.1,?_⟩;show (Op.equalIn (9999+1) t (.agg us) (.agg vs)).run P w'=.ok b w';rw [run_equalIn_struct w' 9999 t us vs (by rw [hfo];exact hu) h1.1,hfo];exact DJ (d:=9998) fs.toList 0 q l m h1.2.2 rD hc (by simpa using hl) (by simpa using hm)
   ·cases h1
end Go.TM
namespace Go.TM
open Go Go.RowKit
def NU (n:Nat) (ps:List AP) (x:aO (aH (ps.map some))):St:=bQ (start n ps x) (some 0) (.one .gj)
def RF (n:Nat) (r:RT) (xs:List (aO r)) (ps:List AP) (x:aO (aH (ps.map some))):St:=bQ (start n ps x) (some 0) (.one (.nn r xs))
theorem NV {P:Program} {tr:Tr} (hT:tr.all (AI P)=true) (hE:AB P (na tr)) (hm:P.follows .mixedOrders=true) {S:mS} (hS:oO P S) {D:m9} {f:FuncId} {fn:Func} {code:Code} {n:Nat} {r:RT} {qs:List AP} {rs:List RP}
  {L:pT (aO (ew rs (cF (.val false [.shr r]::qs))))} {t:aO (aH ((AP.val false [.shr r]::qs).map some))→Option (aO (ew rs (cF (.val false [.shr r]::qs))))}
  (hf:P.funcs[f]?=some fn) (hb:fn.body=some code) (s8:fnB (na tr) D fn code n (.val false [.shr r]::qs) rs=true) (NR:(fn.name == "runtime.NumGoroutine")=false)
  (hL:∀(w0:World) (mu:Mu) (y:aO (ew rs (cF (.val false [.shr r]::qs)))),pv (.val false [.shr r]::qs) mu→∀p∈fq code,pF P w0 mu n L y p.1 p.2)
  (VZ:∀z,gL (na tr) S D L code (NU n (.val false [.shr r]::qs) (([]:List (aO r)),z)) (ER rs (.val false [.shr r]::qs))=t (([]:List (aO r)),z))
  (hnn:∀x,gL (na tr) S D L code (RF n r x.1 (.val false [.shr r]::qs) x) (ER rs (.val false [.shr r]::qs))=t x):tZ P f (pe (.val false [.shr r]::qs) rs t):=by
 unfold fnB at s8;rw [Bool.and_eq_true,Bool.and_eq_true,Bool.and_eq_true,Bool.and_eq_true] at s8;obtain ⟨h1,h2,h3,h4,h5⟩:=s8;refine ⟨NJ (kM hT) hE hS hf hb (Nat.eq_of_beq_eq_true h1) (Nat.le_of_ble_eq_true h2) h3 (fun tm=>BJ tm _ _ h4) (fun w0 mu y hs=>uj code (hL w0 mu y hs))
  (fun w0 mu=>uY (kM hT) hE hm (qk (kM hT) hE hS w0 mu n)) (wT code h5) (fun w0 mu c a w x hR hn => ?_),fn,hf,NR,by rw [hb];rfl⟩
 have acx:0<n:=by
  have:=Nat.le_of_ble_eq_true h2;simp at this;omega
 have xP:=hR.je 0;have hg:dI (start n (.val false [.shr r]::qs) x) 0=.one (.shr r x.1):=rfl;rw [hg] at xP;have G3:ev w c.ok (.sl r) (a.eval (.tmp 0)) x.1:=xP;have h0:0<a.tmps.size:=by omega
 by_cases hv:a.eval (.tmp 0)=.slice none 0 0
 ·refine ⟨c,NU n (.val false [.shr r]::qs) x,?_,?_⟩
  ·have:=hR.bQ (d:=some 0) (v:=.one .gj) (u:=a.eval (.tmp 0)) hv (fun k e=>by cases e;exact h0)
   rwa [Hl a 0 _ h0 rfl] at this
  ·have hx:x.1=([]:List (aO r)):=by
    rcases (rk _ _ _ _ _).1 G3 with ⟨_,h⟩ | ⟨_,_,h,_⟩
    ·exact h
    ·rw [hv] at h;cases h
   obtain ⟨x1,z⟩:=x;simp only at hx;subst hx;exact VZ z
 ·refine ⟨c,RF n r x.1 (.val false [.shr r]::qs) x,?_,hnn x⟩;have:=hR.bQ (d:=some 0) (v:=.one (.nn r x.1)) (u:=a.eval (.tmp 0)) ⟨G3,hv⟩ (fun k e=>by cases e;exact h0)
  rwa [Hl a 0 _ h0 rfl] at this
end Go.TM
namespace Go.TM
open Go Go.RowKit
section
variable {R:Type} (T:oB) (S:mS) (D:m9) (L:pT R)
noncomputable def HR:Nat→Code→St→(St→Option R)→(Ex→St→Option R)→Option R
 |0,_,st,g,_=>g st
 |n+1,.seq a b,st,g,k=>gL T S D L a st fun e bP=>match e with
  |.normal=>HR n b bP g k
  |e=>k e bP
 |_,_,_,_,_=>none
end
def zZ:Nat→Code→Code
 |0,c=>c
 |n+1,.seq _ b=>zZ n b
 |_,_=>.skip
theorem EY {n:Nat}:(m:Nat)→(c:Code)→ij n c=true→ij n (zZ m c)=true
 |0,_,h=>h
 |m+1,c,h=>by
  cases c with
  |seq a b=>
   unfold ij at h;rw [Bool.and_eq_true] at h;exact EY m b h.2
  |_=>rfl
theorem AK {ok:Nat→Code→Prop}:(m:Nat)→(c:Code)→fG ok c→fG ok (zZ m c)
 |0,_,h=>h
 |m+1,c,h=>by
  cases c with
  |seq a b=>exact AK m b h.2
  |_=>exact trivial
theorem Cv {ok:Nat→Array Oper→Prop}:(m:Nat)→(c:Code)→fY ok c→fY ok (zZ m c)
 |0,_,h=>h
 |m+1,c,h=>by
  cases c with
  |seq a b=>exact Cv m b h.2
  |_=>exact trivial
theorem HS {R:Type} {P:Program} {T:oB} {S:mS} {D:m9} {L:pT R} {w0:World} {mu:Mu} {n:Nat} {r:R} {ok:Nat→Array Oper→Prop} (Jm:wQ P T S w0 mu n) (hD:uV R P T S D w0 mu n ok)
  {k:Ex→St→Option R} {Q:Exit→Act→World→Prop} (hk:Rq w0 mu n r k Q) {g:St→Option R}:(m:Nat)→(cd:Code)→ij n cd=true→fG (pF P w0 mu n L r) cd→fY ok cd→
  (∀ {c:Cz} {st:St} {a:Act} {w:World},Rel w0 mu c st a w→a.tmps.size=n→g st=some r→(zZ m cd).wp P Q a w)→
  {c:Cz}→{st:St}→{a:Act}→{w:World}→Rel w0 mu c st a w→a.tmps.size=n→HR T S D L m cd st g k=some r→cd.wp P Q a w
 |0,cd,_,_,_,hg,c,st,a,w,h,hn,hv=>hg h hn hv
 |m+1,cd,hd,hL,hw,hg,c,st,a,w,h,hn,hv=>by
  cases cd with
  |seq x y=>
   have hv:(gL T S D L x st fun e bP=>match e with
    |.normal=>HR T S D L m y bP g k
    |e=>k e bP)=some r:=hv
   unfold ij at hd;rw [Bool.and_eq_true] at hd;refine wp_seq (Dq Jm hD x hd.1 hL.1 hw.1 (fun {e} {c} {st} {a} {w} h1 h2 h3 => ?_) h hn hv)
   cases e with
   |normal=>exact HS Jm hD hk m y hd.2 hL.2 hw.2 hg h1 h2 h3
   |exit m=>exact hk h1 h2 h3
   |ret=>exact hk h1 h2 h3
  |_=>have hv:(none:Option R)=some r:=hv;cases hv
def aiU {R:Type} (P:Program) (w0:World) (mu:Mu) (n:Nat) (k:Ex→St→Option R) (r:R) (b:Code) (hp:List (Option AP)) (g:aO (aH hp)→Option R):Prop:=
 ∀x,g x=some r→∀ {Q:Exit→Act→World→Prop},Rq w0 mu n r k Q→∀ {c:Cz} {a:Act} {w:World},Rel w0 mu c (pK hp x) a w→a.tmps.size=n→b.wp P Q a w
structure V1 (tr:Tr) (S:mS) (D:m9) (n:Nat) (ps:List AP) {R:Type} (L:pT R) (k:Ex→St→Option R) (P:Program) (b:Code) (hp:List (Option AP)) (g:aO (aH hp)→Option R):Prop where
 ok:∀(w0:World) (mu:Mu) (r:R),pv ps mu→ij n b=true→fY (fun id ops=>HF ops (D id)=true) b→fG (pF P w0 mu n L r) b→aiU P w0 mu n k r b hp g
theorem V2 {P:Program} {tr:Tr} (hT:tr.all (AI P)=true) (hE:AB P (na tr)) (hm:P.follows .mixedOrders=true) {S:mS} (hS:oO P S) {D:m9} {n:Nat} {ps:List AP} {R:Type} {L:pT R} {k:Ex→St→Option R} {b:Code} {hp:List (Option AP)} {g:aO (aH hp)→Option R}
  (h:∀x,gL (na tr) S D L b (pK hp x) k=g x):V1 tr S D n ps L k P b hp g:=
 ⟨fun w0 mu _ _ hd hw hL x hx _ hk _ _ _ hr hn=>Dq (qk (kM hT) hE hS w0 mu n) (uY (kM hT) hE hm (qk (kM hT) hE hS w0 mu n)) b hd hL hw hk hr hn ((h x).trans hx)⟩
theorem Zv {P:Program} {tr:Tr} (hT:tr.all (AI P)=true) (hE:AB P (na tr)) (hm:P.follows .mixedOrders=true) {S:mS} (hS:oO P S) {D:m9} {n:Nat} {ps:List AP} {R:Type} {L:pT R} {k:Ex→St→Option R} {b b':Code} {hp lJ:List (Option AP)} {g:aO (aH hp)→Option R} {g':aO (aH lJ)→Option R} {m:Nat}
  (hb:zZ m b=b') (rD:ik ps lJ=true) (h:∀x,HR (na tr) S D L m b (pK hp x) (fun st=>(DD st lJ).bind g') k=g x) (hs:V1 tr S D n ps L k P b' lJ g'):V1 tr S D n ps L k P b hp g:=
 ⟨fun w0 mu r hsh hd hw hL x hx Q hk c a w hr hn=>HS (qk (kM hT) hE hS w0 mu n) (uY (kM hT) hE hm (qk (kM hT) hE hS w0 mu n)) hk m b hd hL hw (fun {c} {st} {a} {w} h1 h2 h3=>by
  obtain ⟨y,hy,h4⟩:=Option.bind_eq_some_iff.1 h3;obtain ⟨c',h5⟩:=ET h1 hsh rD hy;rw [hb];exact hs.ok w0 mu r hsh (hb▸EY m b hd) (hb▸Cv m b hw) (hb▸AK m b hL) y h4 hk h5 h2) hr hn ((h x).trans hx)⟩
theorem NW {P:Program} {tr:Tr} (hT:tr.all (AI P)=true) (hE:AB P (na tr)) (hm:P.follows .mixedOrders=true) {S:mS} (hS:oO P S) {D:m9} {f:FuncId} {fn:Func} {code b':Code} {n m:Nat} {ps:List AP} {rs:List RP}
  {L:pT (aO (ew rs (cF ps)))} {t:aO (aH (ps.map some))→Option (aO (ew rs (cF ps)))} {lJ:List (Option AP)} {g':aO (aH lJ)→Option (aO (ew rs (cF ps)))}
  (hf:P.funcs[f]?=some fn) (hb:fn.body=some code) (s8:fnB (na tr) D fn code n ps rs=true) (NR:(fn.name == "runtime.NumGoroutine")=false)
  (hL:∀(w0:World) (mu:Mu) (y:aO (ew rs (cF ps))),pv ps mu→∀p∈fq code,pF P w0 mu n L y p.1 p.2)
  (hr:zZ m code=b') (rD:ik ps lJ=true) (PK:∀x,HR (na tr) S D L m code (start n ps x) (fun st=>(DD st lJ).bind g') (ER rs ps)=t x)
  (hs:V1 tr S D n ps L (ER rs ps) P b' lJ g'):tZ P f (pe ps rs t):=by
 unfold fnB at s8;rw [Bool.and_eq_true,Bool.and_eq_true,Bool.and_eq_true,Bool.and_eq_true] at s8;obtain ⟨h1,h2,h3,h4,h5⟩:=s8;refine ⟨fun c w mu lc fS args A y hH hA mV ho => ?_,fn,hf,NR,by rw [hb];rfl⟩;unfold pe at mV
 cases hx:ib ps fS with
 |none=>rw [hx] at mV;cases mV
 |some x=>
  rw [hx] at mV;simp only [Option.some.injEq] at mV;subst mV;have GQ:t x=some y:=ho;obtain ⟨GP,c',hmm,iN,HD,RA,HC,SO,hR⟩:=NI hH hA hx (Nat.le_of_ble_eq_true h2);refine calls_of_wp hf hb ?_;have hn:=Nat.eq_of_beq_eq_true h1;rw [hn];have oN:(args++Array.replicate (n-args.size) undef).size=n:=by
   have:args.size≤n:=by
    have h6:=Nat.le_of_ble_eq_true h2;have h7:=(BG ps 0 fS args.toList hx hA).2.1;simp at h7;omega
   simp;omega
  have hlp:=uj code (hL w GP y HD);have hdr:=wT code h5;refine HS (qk (kM hT) hE hS w GP n) (uY (kM hT) hE hm (qk (kM hT) hE hS w GP n)) (k:=ER rs ps) (r:=y) (fun {e} {c1} {G7} {a1} {w1} q1 q2 q3 => ?_) m code h3 hlp hdr (fun {c1} {G7} {a1} {w1} q1 q2 q3 => ?_) hR oN ((PK x).trans GQ)
  ·obtain ⟨he,v,vm,c2,M4,hV,hX⟩:=PJ (P:=P) (kM hT) hmm iN q1 (BJ a1.tmps _ _ h4) SO.symm (by rw [←HC];simp) RA q3;have Hv:a1.defers=[]∧∃v,(results fn a1.tmps).run P w1=.ok v w1∧(∃v',Ending.returned v=.returned v'∧∃c',FN w mu c' w1∧vq c' w1 (iP rs (cF ps) y).1 v'∧kx c' w1 lc 0 fS args.toList (pJ ps (iP rs (cF ps) y).2)):=
    ⟨q1.plain,v,vm,v,rfl,c2,M4,hV,hX⟩
   rcases he with rfl | rfl<;>exact Hv
  ·obtain ⟨z,hz,q4⟩:=Option.bind_eq_some_iff.1 q3;obtain ⟨c2,q5⟩:=ET q1 HD rD hz;rw [hr];refine hs.ok w GP y HD (hr▸EY m code h3) (hr▸Cv m code hdr) (hr▸AK m code hlp) z q4 (fun {e} {c1} {G7} {a1} {w1} q1 q2 q3 => ?_) q5 q2;obtain ⟨he,v,vm,c2,M4,hV,hX⟩:=PJ (P:=P) (kM hT) hmm iN q1 (BJ a1.tmps _ _ h4) SO.symm (by rw [←HC];simp) RA q3;have Hv:a1.defers=[]∧∃v,(results fn a1.tmps).run P w1=.ok v w1∧(∃v',Ending.returned v=.returned v'∧∃c',FN w mu c' w1∧vq c' w1 (iP rs (cF ps) y).1 v'∧kx c' w1 lc 0 fS args.toList (pJ ps (iP rs (cF ps) y).2)):=
    ⟨q1.plain,v,vm,v,rfl,c2,M4,hV,hX⟩
   rcases he with rfl | rfl<;>exact Hv
end Go.TM
namespace Go.TM
open Go Go.RowKit
noncomputable section
structure TK (P:Program) where
 tr:Tr
 hT:tr.all (AI P)=true
 hE:AB P (na tr)
 hm:P.follows .mixedOrders=true
structure KF (P:Program) where
 f:FuncId
 m:Pm×Pm×Pm
 Gu:Ap
 ok:tZ P f Gu
def KF.sl {P:Program} (k:KF P):Nat×(Pm×Pm×Pm×Ap):=(k.f,(k.m.1,k.m.2.1,k.m.2.2,k.Gu))
def acy {P:Program}:List (KF P)→acv
 | []=>[]
 |k::l=>k.sl::acy l
theorem HT {P:Program}:(l:List (KF P))→oO P (Cu (acy l))
 | []=>VV
 |k::l=>SV k.ok (HT l)
def kw {P:Program} {f:FuncId} {s:Ap} (h:tZ P f s):KF P:=⟨f,(.shr,.shr,.shr),s,h⟩
def kv {P:Program} (m:Pm×Pm×Pm) {f:FuncId} {s:Ap} (h:tZ P f s):KF P:=⟨f,m,s,h⟩
structure LD where
 i:Nat
 b:Code
 hp:List (Option AP)
 e:List (Option AP)
 q:List (Option AP)
 r:aO (aH hp)→Option (Sum (aO (aH hp)) (Sum (aO (aH e)) (aO (aH q))))
def LD.Ok (l:LD) (P:Program) (n:Nat) (ps:List AP):Prop:=
 ∀ {R:Type} (L:pT R) (y:R) (w0:World) (mu:Mu),(∀st k,L l.i l.b st k=EV l.hp l.e l.q l.r st k)→pv ps mu→pF P w0 mu n L y l.i l.b
structure KLs (P:Program) (n:Nat) (ps:List AP) where
 d:LD
 ok:d.Ok P n ps
def oD {P:Program} {n:Nat} {ps:List AP} {R:Type}:List (KLs P n ps)→pT R
 | []=>noL
 |l::ls=>fun id b st k=>bif Nat.beq id l.d.i then EV l.d.hp l.d.e l.d.q l.d.r st k else oD ls id b st k
def HU {P:Program} {n:Nat} {ps:List AP}:List (KLs P n ps)→List (Nat×Code)
 | []=>[]
 |l::ls=>(l.d.i,l.d.b)::HU ls
def NX {P:Program} {n:Nat} {ps:List AP}:List (KLs P n ps)→Bool
 | []=>true
 |l::ls=>ls.all (fun m => !Nat.beq m.d.i l.d.i)&&NX ls
theorem V3 {P:Program} {n:Nat} {ps:List AP} {R:Type}:(ls:List (KLs P n ps))→NX ls=true→∀l∈ls,∀st (k:Ex→St→Option R),oD ls l.d.i l.d.b st k=EV l.d.hp l.d.e l.d.q l.d.r st k
 | [],_,l,h=>by cases h
 |m::ls,hb,l,h=>by
  intro st k;unfold NX at hb;rw [Bool.and_eq_true] at hb;rcases List.mem_cons.1 h with rfl | h
  ·show (bif Nat.beq l.d.i l.d.i then _ else _)=_;rw [Nat.beq_refl];rfl
  ·show (bif Nat.beq l.d.i m.d.i then _ else oD ls l.d.i l.d.b st k)=_;have:=List.all_eq_true.1 hb.1 l h;rw [Bool.not_eq_true'] at this;rw [this];exact V3 ls hb.2 l h st k
theorem RG {P:Program} {n:Nat} {ps:List AP}:(ls:List (KLs P n ps))→∀p∈HU ls,∃l∈ls,p=(l.d.i,l.d.b)
 | [],p,h=>by cases h
 |m::ls,p,h=>by
  rcases List.mem_cons.1 h with rfl | h
  ·exact ⟨m,List.mem_cons_self,rfl⟩
  ·obtain ⟨l,h1,h2⟩:=RG ls p h;exact ⟨l,List.mem_cons_of_mem _ h1,h2⟩
theorem L8 {P:Program} {n:Nat} {ps:List AP} {R:Type} {ls:List (KLs P n ps)} (hb:NX ls=true) {c:Code} (hc:fq c=HU ls) (y:R) (w0:World) (mu:Mu) (hs:pv ps mu):∀p∈fq c,pF P w0 mu n (oD ls) y p.1 p.2:=by
 rw [hc];intro p hp;obtain ⟨l,hl,rfl⟩:=RG ls p hp;exact l.ok (oD ls) y w0 mu (V3 ls hb l hl) hs
structure FC (P:Program) where
 t:TK P
 l:List (KF P)
 D:m9
 fn:Func
 ps:List AP
abbrev FC.code {P:Program} (F:FC P):Code:=VU F.fn
abbrev FC.S {P:Program} (F:FC P):mS:=Cu (acy F.l)
abbrev FC.T {P:Program} (F:FC P):oB:=na F.t.tr
abbrev FC.KL {P:Program} (F:FC P):Type:=KLs P F.fn.ntmps F.ps
abbrev FC.Ok {P:Program} (F:FC P) (l:LD):Prop:=l.Ok P F.fn.ntmps F.ps
abbrev FC.fin {P:Program} (F:FC P) (rs:List RP):Ex→St→Option (aO (ew rs (cF F.ps))):=ER rs F.ps
def FC.lp {P:Program} (F:FC P) (j:Nat):Code:=BI F.code j
theorem FC.kl {P:Program} (F:FC P) {l:LD} (ls:List F.KL) (h1:(Kt F.D F.ps l.hp l.e l.q F.fn.ntmps l.b&&NX ls)=true) (h2:fq l.b=HU ls)
  (ht:∀x,gL F.T F.S F.D (oD ls) l.b (pK l.hp x) (EU l.i l.hp l.e l.q)=l.r x):F.Ok l:=by
 rw [Bool.and_eq_true] at h1;exact fun _ _ w0 mu hL hs=>SW F.t.hT F.t.hE F.t.hm (HT F.l) hs h1.1 (fun z=>L8 h1.2 h2 z w0 mu hs) ht hL
theorem FC.ml {P:Program} (F:FC P) {l:LD} (h:∀x,(Kt F.D F.ps l.hp l.e l.q F.fn.ntmps l.b&&(fq l.b).isEmpty,gL F.T F.S F.D noL l.b (pK l.hp x) (EU l.i l.hp l.e l.q))=(true,l.r x)):F.Ok l:=by
 have h1:=congrArg Prod.fst (h (wL _));have h1:(Kt F.D F.ps l.hp l.e l.q F.fn.ntmps l.b&&(fq l.b).isEmpty)=true:=h1;rw [Bool.and_eq_true] at h1;have ht:∀x,gL F.T F.S F.D noL l.b (pK l.hp x) (EU l.i l.hp l.e l.q)=l.r x:=fun x=>congrArg Prod.snd (h x)
 have g:F.Ok l:=F.kl [] (by rw [h1.1];rfl) (List.isEmpty_iff.1 h1.2) ht;exact @g
abbrev FC.an6 {P:Program} (F:FC P) (rs:List RP) (t:Zs (aH (F.ps.map some)) (Option (aO (ew rs (cF F.ps))))):Ap:=pe F.ps rs (np (aH (F.ps.map some)) t)
abbrev FC.Kn {P:Program} (F:FC P) (rs:List RP) (f:FuncId) (t:Zs (aH (F.ps.map some)) (Option (aO (ew rs (cF F.ps))))):Prop:=tZ P f (F.an6 rs t)
def FC.chk {P:Program} (F:FC P) (rs:List RP):Bool:=F.fn.body.isSome&&(fnB F.T F.D F.fn F.code F.fn.ntmps F.ps rs && !(F.fn.name == "runtime.NumGoroutine"))
theorem FC.PS {P:Program} {F:FC P} {rs:List RP} (h:F.chk rs=true):F.fn.body=some F.code∧fnB F.T F.D F.fn F.code F.fn.ntmps F.ps rs=true∧(F.fn.name == "runtime.NumGoroutine")=false:=by
 unfold FC.chk at h;rw [Bool.and_eq_true,Bool.and_eq_true,Bool.not_eq_true'] at h;obtain ⟨h1,h2,h3⟩:=h;refine ⟨?_,h2,h3⟩;obtain ⟨c,hc⟩:=Option.isSome_iff_exists.1 h1;unfold FC.code VU;rw [hc]
theorem FC.kf {P:Program} (F:FC P) {rs:List RP} {f:FuncId} {t:Zs (aH (F.ps.map some)) (Option (aO (ew rs (cF F.ps))))} (ls:List F.KL) (hf:P.funcs[f]?=some F.fn) (h1:(F.chk rs&&NX ls)=true) (h2:fq F.code=HU ls)
  (ht:∀x,gL F.T F.S F.D (oD ls) F.code (start F.fn.ntmps F.ps x) (F.fin rs)=np (aH (F.ps.map some)) t x):F.Kn rs f t:=by
 rw [Bool.and_eq_true] at h1;obtain ⟨hb,hc,hn⟩:=F.PS h1.1;exact Zt F.t.hT F.t.hE F.t.hm (HT F.l) (D:=F.D) (L:=oD ls) hf hb hc hn (fun w0 mu y hs=>L8 h1.2 h2 y w0 mu hs) ht
theorem FC.oP {P:Program} (F:FC P) {rs:List RP} {f:FuncId} {t:Zs (aH (F.ps.map some)) (Option (aO (ew rs (cF F.ps))))} (hf:P.funcs[f]?=some F.fn)
  (h:∀x,(F.chk rs&&(fq F.code).isEmpty,gL F.T F.S F.D noL F.code (start F.fn.ntmps F.ps x) (F.fin rs))=(true,np (aH (F.ps.map some)) t x)):F.Kn rs f t:=by
 have h1:=congrArg Prod.fst (h (wL _));have h1:(F.chk rs&&(fq F.code).isEmpty)=true:=h1;rw [Bool.and_eq_true] at h1;exact F.kf [] hf (by rw [h1.1];rfl) (List.isEmpty_iff.1 h1.2) fun x=>congrArg Prod.snd (h x)
theorem FC.YW {P:Program} (F:FC P) {rs:List RP} {f:FuncId} {t:Zs (aH (F.ps.map some)) (Option (aO (ew rs (cF F.ps))))} (hf:P.funcs[f]?=some F.fn) (h1:(F.chk rs&&(fq F.code).isEmpty)=true)
  (ht:∀x,gL F.T F.S F.D noL F.code (start F.fn.ntmps F.ps x) (F.fin rs)=np (aH (F.ps.map some)) t x):F.Kn rs f t:=by
 rw [Bool.and_eq_true] at h1;exact F.kf [] hf (by rw [h1.1];rfl) (List.isEmpty_iff.1 h1.2) ht
theorem FC.kl1 {P:Program} (F:FC P) {l:LD} (h1:(Kt F.D F.ps l.hp l.e l.q F.fn.ntmps l.b&&(fq l.b).isEmpty)=true)
  (ht:∀x,gL F.T F.S F.D noL l.b (pK l.hp x) (EU l.i l.hp l.e l.q)=l.r x):F.Ok l:=by
 rw [Bool.and_eq_true] at h1;have g:F.Ok l:=F.kl [] (by rw [h1.1];rfl) (List.isEmpty_iff.1 h1.2) ht;exact @g
theorem FC.kfn {P:Program} (F:FC P) {rs:List RP} {f:FuncId} {t:Zs (aH (F.ps.map some)) (Option (aO (ew rs (cF F.ps))))} (ls:List F.KL) (hf:P.funcs[f]?=some F.fn) (r:RT) (qs:List AP) (hq:F.ps=.val false [.shr r]::qs) (h1:(F.chk rs&&NX ls)=true) (h2:fq F.code=HU ls)
  (h4:∀x,gL F.T F.S F.D (oD ls) F.code (bQ (start F.fn.ntmps F.ps (hq▸(([]:List (aO r)),x))) (some 0) (.one .gj)) (F.fin rs)=np (aH (F.ps.map some)) t (hq▸(([]:List (aO r)),x)))
  (h5:∀x,gL F.T F.S F.D (oD ls) F.code (bQ (start F.fn.ntmps F.ps (hq▸x)) (some 0) (.one (.nn r x.1))) (F.fin rs)=np (aH (F.ps.map some)) t (hq▸x)):F.Kn rs f t:=by
 rw [Bool.and_eq_true] at h1;obtain ⟨hb,hc,hn⟩:=F.PS h1.1;obtain ⟨tt,l,D,fn,ps⟩:=F;simp only at hq;subst hq;exact NV tt.hT tt.hE tt.hm (HT l) (D:=D) (L:=oD ls) hf hb hc hn (fun w0 mu y hs=>L8 h1.2 h2 y w0 mu hs) h4 h5
theorem FC.aiV {P:Program} (F:FC P) (ls:List F.KL) {R:Type} {k:Ex→St→Option R} {b:Code} {hp:List (Option AP)} {g:aO (aH hp)→Option R} (h:∀x,gL F.T F.S F.D (oD ls) b (pK hp x) k=g x):V1 F.t.tr F.S F.D F.fn.ntmps F.ps (oD ls) k P b hp g:=
 V2 F.t.hT F.t.hE F.t.hm (HT F.l) h
theorem FC.aaW {P:Program} (F:FC P) (ls:List F.KL) {R:Type} {k:Ex→St→Option R} {b b':Code} {hp lJ:List (Option AP)} {g:aO (aH hp)→Option R} {g':aO (aH lJ)→Option R} (m:Nat) (hs:V1 F.t.tr F.S F.D F.fn.ntmps F.ps (oD ls) k P b' lJ g')
  (hb:zZ m b=b') (rD:ik F.ps lJ=true) (h:∀x,HR F.T F.S F.D (oD ls) m b (pK hp x) (fun st=>(DD st lJ).bind g') k=g x):V1 F.t.tr F.S F.D F.fn.ntmps F.ps (oD ls) k P b hp g:=
 Zv F.t.hT F.t.hE F.t.hm (HT F.l) hb rD h hs
theorem FC.an8 {P:Program} (F:FC P) (ls:List F.KL) {rs:List RP} {f:FuncId} {t:Zs (aH (F.ps.map some)) (Option (aO (ew rs (cF F.ps))))} (hf:P.funcs[f]?=some F.fn) (m:Nat) {b':Code} {lJ:List (Option AP)} {g':aO (aH lJ)→Option (aO (ew rs (cF F.ps)))} (hs:V1 F.t.tr F.S F.D F.fn.ntmps F.ps (oD ls) (F.fin rs) P b' lJ g')
  (h1:(F.chk rs&&(NX ls&&ik F.ps lJ))=true) (h2:fq F.code=HU ls) (hr:zZ m F.code=b') (ht:∀x,HR F.T F.S F.D (oD ls) m F.code (start F.fn.ntmps F.ps x) (fun st=>(DD st lJ).bind g') (F.fin rs)=np (aH (F.ps.map some)) t x):F.Kn rs f t:=by
 rw [Bool.and_eq_true,Bool.and_eq_true] at h1;obtain ⟨hb,hc,hn⟩:=F.PS h1.1;exact NW F.t.hT F.t.hE F.t.hm (HT F.l) (D:=F.D) (L:=oD ls) hf hb hc hn (fun w0 mu y hs=>L8 h1.2.1 h2 y w0 mu hs) hr h1.2.2 ht hs
def sp:List (Nat×AP)→Nat→List (Option AP)
 | [],k=>nn k
 |(g,p)::l,k=>nn g++some p::sp l k
abbrev vl (l:List OP):AP:=.val false l
abbrev va (l:List OP):AP:=.val true l
abbrev Pl.a (i:Nat) (p:Pl):Pl:=.op i .any p
abbrev Pl.t (i:Nat) (p:Pl):Pl:=.op i .take p
abbrev Pl.o (i:Nat) (p:Pl):Pl:=.op i .one p
abbrev Pl.l (i:Nat) (p:Pl):Pl:=.op i .last p
def dr (i:Nat) (p:Pl) (D:m9:=iz):m9:=fun id=>bif Nat.beq id i then p else D id
end
end Go.TM
namespace Go.TM
open Go Go.RowKit
noncomputable section
end
end Go.TM
