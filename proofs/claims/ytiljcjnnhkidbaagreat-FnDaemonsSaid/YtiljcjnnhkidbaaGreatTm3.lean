/- A machine over trees: an evaluator of the code, and that what it finds is so; part 3. -/
import Derived.Test.YtiljcjnnhkidbaaGreatTm2
import Derived.Laws.Sem
import Derived.Deep.LoopGhost
import Derived.OrdersHeld
import Derived.KernelRfl
import Derived.Carry
import Derived.ChangeArms
import Derived.ChangeOld
import Derived.OpenShut
import Derived.Laws.StructEq
import Derived.ChangeKeysEq
set_option linter.unusedSimpArgs false
set_option linter.unusedVariables false
namespace Go.TM
open Go Go.RowKit
inductive Src where
 |tmp (t:Nat)
 |cell (t:Nat)
 |ptr (t:Nat)  -- Rn struct behind a pointer,ar6 is nh back
structure RP where
 src:Src
 agg:Bool
 ps:List OP
def eg:List RP→RT→RT
 | [],t=>t
 |r::rs,t=>oE r.ps (eg rs t)
def vf:List OP→RT→RT
 | [],t=>t
 |.own r _::ps,t=>.cons (.sl r) (vf ps t)
 |.int _::ps,t=>vf ps t
 |.bool::ps,t=>vf ps t
 |.str::ps,t=>vf ps t
 |.shr _::ps,t=>vf ps t
 |.nK _::ps,t=>vf ps t
 |.fn _ _::ps,t=>vf ps t
def cF:List AP→RT
 | []=>.nil
 |.val _ _::l=>cF l
 |.io r _::l=>.cons (.sl r) (cF l)
 |.box _ ps::l=>oE ps (cF l)
 |.dO ps::l=>vf ps (cF l)
def RP.cells (st:St) (r:RP):Option (List CV):=
 match r.src with
 |.tmp t=>match dF st t with
  |.agg cs=>bif r.agg then some cs else none
  |.one c=>bif r.agg then none else some [c]
  |.pM _=>none
 |.cell t=>match dF st t with
  |.one (.ptr b g off)=>bif Nat.beq off 0 then fL st b g else none
  |_=>none
 |.ptr t=>match dF st t with
  |.one (.ptr b g off)=>bif Nat.beq off 0 then fL st b g else none
  |_=>none
def RP.lab (st:St) (r:RP):List (Option Lb):=
 match r.src with
 |.ptr t=>(match dF st t with | .one (.ptr b _ _)=>[some (.box b)] | _=>[])
 |_=>[]
def He (st:St):(rs:List RP)→(t:RT)→aO t→Option (aO (eg rs t)×List (Option Lb)×List (Nat×Nat))
 | [],_,y=>some (y,[],[])
 |r::rs,t,y=>(r.cells st).bind fun cs=>(He st rs t y).bind fun q=>(nj st r.ps (eg rs t) cs q.1).map fun p=>(p.1,r.lab st++(p.2.1++q.2.1),p.2.2++q.2.2)
def oF (st:St) (i:Nat):(j:Nat)→(ps:List OP)→(t:RT)→aO t→Option (aO (vf ps t)×List Lb)
 |_,[],_,y=>some (y,[])
 |j,.own r d::ps,t,y=>(oF st i (j+1) ps t y).bind fun q=>(cE st i j 1).bind fun A=>bif A.own&&A.md.is d then (eb r A.xs).map fun xs=>((xs,q.1),.sp i j::q.2) else none
 |j,.int _::ps,t,y=>oF st i (j+1) ps t y
 |j,.bool::ps,t,y=>oF st i (j+1) ps t y
 |j,.str::ps,t,y=>oF st i (j+1) ps t y
 |j,.shr _::ps,t,y=>oF st i (j+1) ps t y
 |j,.nK _::ps,t,y=>oF st i (j+1) ps t y
 |j,.fn _ _::ps,t,y=>oF st i (j+1) ps t y
def wX (st:St):(i:Nat)→(ps:List AP)→Option (aO (cF ps)×List Lb×List (Nat×Nat))
 |_,[]=>some ((),[],[])
 |i,.val _ _::l=>wX st (i+1) l
 |i,.io r d::l=>(wX st (i+1) l).bind fun q=>(FE st i (.io r d) (cF l) (.one (.ref i 0 1 .full)) q.1).map fun p=>(p.1,p.2.1++q.2.1,p.2.2++q.2.2)
 |i,.box _ ps::l=>(wX st (i+1) l).bind fun q=>(FE st i (.box true ps) (cF l) (.one (.ptr i 1 0)) q.1).map fun p=>(p.1,p.2.1++q.2.1,p.2.2++q.2.2)
 |i,.dO ps::l=>(wX st (i+1) l).bind fun q=>(oF st i 0 ps (cF l) q.1).map fun p=>(p.1,p.2++q.2.1,q.2.2)
def Ez (rs:List RP) (ps:List AP):Ex→St→Option (aO (eg rs (cF ps)))
 |.exit _,_=>none
 |_,st=>(wX st 0 ps).bind fun x=>(He st rs (cF ps) x.1).bind fun q=>bif x4 (dG q.2.1++x.2.1)&&apart (dG q.2.1++x.2.1) (q.2.2++x.2.2) then some q.1 else none
def RP.rv (r:RP) (os:List OV):RV:=
 match r.src with
 |.ptr _=>.ptr os
 |_=>match r.agg,os with
  |false,[o]=>.one o
  |_,os=>.agg os
def iH:(rs:List RP)→(t:RT)→aO (eg rs t)→List RV×aO t
 | [],_,x=>([],x)
 |r::rs,t,x=>(r.rv (fC r.ps (eg rs t) x).1::(iH rs t (fC r.ps (eg rs t) x).2).1,(iH rs t (fC r.ps (eg rs t) x).2).2)
def pD:(ps:List OP)→(t:RT)→aO (vf ps t)→List (Option nd)×aO t
 | [],_,x=>([],x)
 |.own r d::ps,t,x=>(some { r:=r,own:=true,xs:=x.1,md:=d }::(pD ps t x.2).1,(pD ps t x.2).2)
 |.int _::ps,t,x=>(none::(pD ps t x).1,(pD ps t x).2)
 |.bool::ps,t,x=>(none::(pD ps t x).1,(pD ps t x).2)
 |.str::ps,t,x=>(none::(pD ps t x).1,(pD ps t x).2)
 |.shr _::ps,t,x=>(none::(pD ps t x).1,(pD ps t x).2)
 |.nK _::ps,t,x=>(none::(pD ps t x).1,(pD ps t x).2)
 |.fn _ _::ps,t,x=>(none::(pD ps t x).1,(pD ps t x).2)
def pk:(ps:List AP)→aO (cF ps)→List XV
 | [],_=>[]
 |.val _ _::l,x=>pk l x
 |.io r d::l,x=>.io { r:=r,own:=true,xs:=x.1,md:=d }::pk l x.2
 |.box _ ps::l,x=>.box (fC ps (cF l) x).1::pk l (fC ps (cF l) x).2
 |.dO ps::l,x=>.dO (pD ps (cF l) x).1::pk l (pD ps (cF l) x).2
def oG (ps:List AP) (rs:List RP) (t:aO (aH (ps.map some))→Option (aO (eg rs (cF ps)))):Ag:=fun fP=>
 match gU ps fP with
 |some x=>some { r:=eg rs (cF ps),o:=t x,res:=fun y=>{ outs:=(iH rs (cF ps) y).1,exts:=pk ps (iH rs (cF ps) y).2 } }
 |none=>none
theorem lL {st:St} {i:Nat}:(ps:List OP)→(j:Nat)→(t:RT)→(y:aO t)→{x:aO (vf ps t)}→{u:List Lb}→oF st i j ps t y=some (x,u)→(pD ps t x).2=y∧(∀l∈u,∃k,l=.sp i k)∧
  ∀(k:Nat) (r:RT) (d:Md),ps[k]?=some (.own r d)→∃A xs,cE st i (j+k) 1=some A∧A.own=true∧A.md=d∧eb r A.xs=some xs∧nth (pD ps t x).1 k=some (some { r:=r,own:=true,xs:=xs,md:=d })∧.sp i (j+k)∈u
 | [],j,t,y,x,u,h=>by
  injection h with h;injection h with e1 e2;subst e1 e2;exact ⟨rfl,by simp,fun k r d hk=>by simp at hk⟩
 |.own r d::ps,j,t,y,x,u,h=>by
  unfold oF at h;obtain ⟨q,hq,h⟩:=Option.bind_eq_some_iff.1 h;obtain ⟨A,hA,h⟩:=Option.bind_eq_some_iff.1 h;obtain ⟨ho,h⟩:=bH h;rw [Bool.and_eq_true] at ho;obtain ⟨xs,Zi,h⟩:=Option.map_eq_some_iff.1 h;injection h with e1 e2;subst e1 e2;obtain ⟨z,us⟩:=q;obtain ⟨g1,g2,g3⟩:=lL ps (j+1) t y hq;refine ⟨g1,fun l hl => ?_,fun k r' d' hk => ?_⟩
  ·rcases List.mem_cons.1 hl with rfl | hl
   ·exact ⟨j,rfl⟩
   ·exact g2 l hl
  ·cases k with
   |zero=>
    simp only [List.getElem?_cons_zero,Option.some.injEq,OP.own.injEq] at hk;obtain ⟨rfl,_⟩:=hk;exact ⟨A,xs,hA,ho.1,Md.wQ.1 ho.2,Zi,rfl,List.mem_cons_self⟩
   |succ k=>
    obtain ⟨A',xs',k1,k2,kd,k3,k4,k5⟩:=g3 k r' d' (by simpa using hk);rw [show j+1+k=j+(k+1) by omega] at k1 k5;exact ⟨A',xs',k1,k2,kd,k3,k4,List.mem_cons_of_mem _ k5⟩
 |.int _::ps,j,t,y,x,u,h=>mz (lL ps (j+1) t y h) (by simp) (fun k=>rfl)
 |.bool::ps,j,t,y,x,u,h=>mz (lL ps (j+1) t y h) (by simp) (fun k=>rfl)
 |.str::ps,j,t,y,x,u,h=>mz (lL ps (j+1) t y h) (by simp) (fun k=>rfl)
 |.shr _::ps,j,t,y,x,u,h=>mz (lL ps (j+1) t y h) (by simp) (fun k=>rfl)
 |.nK _::ps,j,t,y,x,u,h=>mz (lL ps (j+1) t y h) (by simp) (fun k=>rfl)
 |.fn _ _::ps,j,t,y,x,u,h=>mz (lL ps (j+1) t y h) (by simp) (fun k=>rfl)
where
 mz {st:St} {i j:Nat} {p:OP} {ps:List OP} {D:Type} {y z:D} {L L':List (Option nd)} {u:List Lb} (h:z=y∧(∀l∈u,∃k,l=.sp i k)∧∀(k:Nat) (r:RT) (d:Md),ps[k]?=some (.own r d)→∃A xs,cE st i (j+1+k) 1=some A∧A.own=true∧A.md=d∧eb r A.xs=some xs∧nth L k=some (some { r:=r,own:=true,xs:=xs,md:=d })∧.sp i (j+1+k)∈u)
   (hp:∀r d,p≠.own r d) (hL:∀k,nth L' (k+1)=nth L k):z=y∧(∀l∈u,∃k,l=.sp i k)∧∀(k:Nat) (r:RT) (d:Md),(p::ps)[k]?=some (.own r d)→∃A xs,cE st i (j+k) 1=some A∧A.own=true∧A.md=d∧eb r A.xs=some xs∧nth L' k=some (some { r:=r,own:=true,xs:=xs,md:=d })∧.sp i (j+k)∈u:=by
  obtain ⟨h1,h2,h3⟩:=h;refine ⟨h1,h2,fun k r d hk => ?_⟩
  cases k with
  |zero=>
   simp only [List.getElem?_cons_zero,Option.some.injEq] at hk;exact absurd hk (hp r d)
  |succ k=>
   obtain ⟨A',xs',k1,k2,kd,k3,k4,k5⟩:=h3 k r d (by simpa using hk);rw [show j+1+k=j+(k+1) by omega] at k1 k5;exact ⟨A',xs',k1,k2,kd,k3,by rw [hL];exact k4,k5⟩
theorem JZ {st:St}:(ps:List OP)→(t:RT)→(cs:List CV)→(y:aO t)→{x:aO (oE ps t)}→{u:List (Option Lb)}→{r:List (Nat×Nat)}→nj st ps t cs y=some (x,u,r)→u.length=ps.length∧cs.length=ps.length∧(fC ps t x).1.length=ps.length
 | [],t,[],y,x,u,r,h=>by
  injection h with h;injection h with e1 e2;injection e2 with e2 e3;subst e1 e2 e3;exact ⟨rfl,rfl,rfl⟩
 | [],t,_::_,y,x,u,r,h=>by simp [nj] at h
 |_::_,t,[],y,x,u,r,h=>by simp [nj] at h
 |p::ps,t,c::cs,y,x,u,r,h=>by
  unfold nj at h
  cases hc:kU st p.qX c with
  |none=>simp [hc] at h
  |some q1=>
   obtain ⟨o,u1,r1⟩:=q1
   cases hq:nj st ps t cs y with
   |none=>simp [hc,hq] at h
   |some q2=>
    obtain ⟨z,us,rs⟩:=q2;simp only [hc,hq] at h
    cases ho:ve p o with
    |none=>simp [ho] at h
    |some a1=>
     simp only [ho] at h;injection h with h;injection h with e1 e2;injection e2 with e2 e3;subst e1 e2 e3;obtain ⟨g1,g2,g3⟩:=JZ ps t cs y hq;exact ⟨by simp [g1],by simp [g2],by simp [fC,g3]⟩
def UU (T:n9) (fr:Array Value):ResultVar→RP→Prop
 |.tmp t,r=>r.src=.tmp t∨r.src=.ptr t
 |.cell t ty,r=>r.src=.cell t∧T.cells ty=some r.ps.length∧T.agg ty=r.agg
def Hf (tm:Array Value):ResultVar→Sem Value
 |.tmp t=>pure (tm.getD t undef)
 |.cell a t=>do loadVar t (←asAddr (tm.getD a undef))
theorem RP.UW {P:Program} {T:n9} (hT:jx P T) {w0:World} {mu:Mu} {c:Cz} {st:St} {a:Act} {w:World} (h:Rel w0 mu c st a w) {r:RP} {rv:ResultVar} (hr:UU T a.tmps rv r) {cs:List CV} (hc:r.cells st=some cs) (hn:cs.length=r.ps.length) :
  ∃vs v,iG c st w cs vs∧(Hf a.tmps rv).run P w=.ok v w∧(((∀t,r.src≠.ptr t)∧((r.agg=true∧v=.agg vs.toArray)∨(r.agg=false∧(vs=[v]))))∨
   (∃t b ty us,r.src=.ptr t∧r.lab st=[some (.box b)]∧v=.pointer (some ⟨c.bx b,0,none⟩)∧c.own (c.bx b)=some (.box b)∧w.heap[c.bx b]?=some (.cells us ty (0,0))∧vs=us.toList)):=by
 unfold RP.cells at hc
 cases rv with
 |tmp t=>
  rcases (hr:r.src=.tmp t∨r.src=.ptr t) with hs | hs
  case inr=>
   rw [hs] at hc;have xu:=h.iX t;simp only at hc
   cases hv:dF st t with
   |pM _=>rw [hv] at hc;cases hc
   |agg l=>rw [hv] at hc;cases hc
   |one x=>
    cases x with
    |ptr b g off=>
     rw [hv] at hc xu;obtain ⟨ho,hb⟩:=bH hc;have ho:=Nat.eq_of_beq_eq_true ho;subst ho;obtain ⟨sl,k1,k2,k3⟩:=jR hb;obtain ⟨q1,vs,ty',q2,q3⟩:=h.boxes b sl cs k1 k3;have e:a.tmps.getD t undef=.pointer (some ⟨c.bx b,0,none⟩):=xu.2.2 cs hb;refine ⟨vs.toList,a.tmps.getD t undef,q3,rfl,.inr ⟨t,b,ty',vs,hs,?_,e,q1,q2,rfl⟩⟩;unfold RP.lab;rw [hs];simp only [hv]
    |_=>rw [hv] at hc;cases hc
  rw [hs] at hc;have xu:=h.iX t;simp only at hc
  cases hv:dF st t with
  |pM _=>rw [hv] at hc;cases hc
  |agg l=>
   rw [hv] at hc xu;obtain ⟨QQ,hc1⟩:=bH hc
   cases hc1
   obtain ⟨vs,e,hl⟩:=xu;exact ⟨vs.toList,a.eval (.tmp t),hl,rfl,.inl ⟨fun t' e'=>(by rw [hs] at e';cases e'),.inl ⟨QQ,by rw [e]⟩⟩⟩
  |one x=>
   rw [hv] at hc xu;simp only at hc
   cases QQ:r.agg with
   |true=>rw [QQ] at hc;cases hc
   |false=>
    rw [QQ] at hc
    cases hc
    refine ⟨[a.eval (.tmp t)],a.eval (.tmp t),⟨rfl,fun i y z hy hz => ?_⟩,rfl,.inl ⟨fun t' e'=>(by rw [hs] at e';cases e'),.inr ⟨rfl,rfl⟩⟩⟩
    cases i with
    |zero=>simp at hy hz;subst hy hz;exact xu
    |succ i=>simp at hy
 |cell t ty=>
  obtain ⟨hs,h1,h2⟩:=hr;rw [hs] at hc;have xu:=h.iX t;simp only at hc
  cases hv:dF st t with
  |pM _=>rw [hv] at hc;cases hc
  |agg l=>rw [hv] at hc;cases hc
  |one x=>
   cases x with
   |ptr b g off=>
    rw [hv] at hc xu;obtain ⟨ho,hb⟩:=bH hc;have ho:=Nat.eq_of_beq_eq_true ho;subst ho;obtain ⟨sl,k1,k2,k3⟩:=jR hb;obtain ⟨q1,vs,ty',q2,q3⟩:=h.boxes b sl cs k1 k3;have e:a.tmps.getD t undef=.pointer (some ⟨c.bx b,0,none⟩):=xu.2.2 cs hb;have aap:w.rangeAt (c.bx b) 0 vs.toList:=by
     have:=Fq (off:=0) q2 vs.toList.length
     rwa [List.drop_zero,List.take_length] at this
    have hlen:vs.toList.length=r.ps.length:=by rw [←q3.1,hn]
    have u4:=wv (P:=P) hT h1 w (c.bx b) 0 vs.toList aap hlen;refine ⟨vs.toList,valOf (T.agg ty) vs.toList,q3,?_,.inl ⟨fun t' e'=>(by rw [hs] at e';cases e'),?_⟩⟩
    ·simp [Hf,e,asAddr,Sem.run_bind,u4]
    ·rw [h2]
     cases QQ:r.agg with
     |true=>exact .inl ⟨rfl,by simp [valOf]⟩
     |false=>
      obtain ⟨_,_,_,MA⟩:=hT.agg ty _ h1;have h3:=MA (by rw [h2,QQ]);refine .inr ⟨rfl,?_⟩;have:vs.toList.length=1:=by rw [hlen,h3]
      cases F9:vs.toList with
      |nil=>rw [F9] at this;cases this
      |cons x l=>cases l with
       |nil=>rfl
       |cons _ _=>rw [F9] at this;simp at this
   |_=>rw [hv] at hc;cases hc
end Go.TM
namespace Go.TM
open Go Go.RowKit
def Ce (T:n9) (tm:Array Value):List ResultVar→List RP→Prop
 | [],[]=>True
 |v::vs,r::rs=>UU T tm v r∧Ce T tm vs rs
 |_,_=>False
theorem J0 {P:Program} {T:n9} (hT:jx P T) {w0:World} {mu:Mu} {c:Cz} {st:St} {a:Act} {w:World} (h:Rel w0 mu c st a w):(rvs:List ResultVar)→(rs:List RP)→Ce T a.tmps rvs rs→(t:RT)→(y:aO t)→{x:aO (eg rs t)}→{u:List (Option Lb)}→{r:List (Nat×Nat)}→He st rs t y=some (x,u,r)→
  (iH rs t x).2=y∧(iH rs t x).1.length=rs.length∧(∀l∈dG u,l.real=true)∧∃vals:List Value,(rvs.mapM (Hf a.tmps)).run P w=.ok vals w∧vals.length=rvs.length∧
   ∀(ρ:Lb→Option Lb) (j:Nat),(∀k l,nth u k=some (some l)→ρ l=some (.ky (j+k)))→(∀p∈r,ρ (.sp p.1 p.2)=none)→oa (c.map ρ) w j (iH rs t x).1 vals
 | [],[],_,t,y,x,u,r,he=>by
  injection he with he;injection he with e1 e2;injection e2 with e2 e3;subst e1 e2 e3;exact ⟨rfl,rfl,by simp [dG],[],rfl,rfl,fun _ _ _ _=>rfl⟩
 | [],_::_,hf,_,_,_,_,_,_=>hf.elim
 |_::_,[],hf,_,_,_,_,_,_=>hf.elim
 |rv::rvs,rr::rs,hf,t,y,x,u,r,he=>by
  unfold He at he;obtain ⟨cs,hc,he⟩:=Option.bind_eq_some_iff.1 he;obtain ⟨q,hq,he⟩:=Option.bind_eq_some_iff.1 he;obtain ⟨p,hp,he⟩:=Option.map_eq_some_iff.1 he;obtain ⟨x2,u2,r2⟩:=q;obtain ⟨x1,u1,r1⟩:=p;injection he with e1 e2;injection e2 with e2 e3;subst e1 e2 e3;obtain ⟨l1,l2,l3⟩:=JZ rr.ps _ cs _ hp;obtain ⟨vs,v,g1,g2,g3⟩:=RP.UW hT h hf.1 hc l2;obtain ⟨k1,k2,k3,vals,k4,k5,k6⟩:=J0 hT h rvs rs hf.2 t y hq;have h0:=fun (ρ:Lb→Option Lb) (j:Nat)=>Au h (ρ:=ρ) (f:=.ky) rr.ps (eg rs t) cs x2 vs j g1 hp
  have e0:=(h0 (fun _=>none) 0).1;refine ⟨?_,?_,fun l hl => ?_,v::vals,?_,by simp [k5],fun ρ j hu hr => ?_⟩
  ·show (iH rs t (fC rr.ps (eg rs t) x1).2).2=y;rw [e0];exact k1
  ·show (iH rs t (fC rr.ps (eg rs t) x1).2).1.length+1=_;rw [e0,k2];rfl
  ·rw [kX] at hl;rcases List.mem_append.1 hl with hl | hl
   ·unfold RP.lab at hl
    split at hl
    ·split at hl
     ·simp only [List.mem_singleton,Option.some.injEq] at hl;subst hl;rfl
     ·cases hl
    ·cases hl
   ·rcases List.mem_append.1 hl with hl | hl
    ·exact (h0 (fun _=>none) 0).2.1 l (kX.2 hl)
    ·exact k3 l (kX.2 hl)
  ·rw [List.mapM_cons];simp [Sem.run_bind,g2,k4]
  ·have e:(iH (rr::rs) t x1).1=rr.rv (fC rr.ps (eg rs t) x1).1::(iH rs t x2).1:=by
    show rr.rv (fC rr.ps (eg rs t) x1).1::(iH rs t (fC rr.ps (eg rs t) x1).2).1=_;rw [e0]
   show oa (c.map ρ) w j (iH (rr::rs) t x1).1 (v::vals);rw [e];rcases g3 with ⟨hnp,g3⟩ | ⟨tt,b,ty,us,aaq,aar,hv,ki,UG,F9⟩
   ·have aar:rr.lab st=[]:=by
     unfold RP.lab
     split
     ·rename_i t' e';exact absurd e' (hnp t')
     ·rfl
    rw [aar,List.nil_append] at hu;have hL:=(h0 ρ j).2.2 (fun k l hk=>hu k l (by
     rw [pg,if_pos (Ui hk)];exact hk)) (fun p hp=>hr p (List.mem_append_left _ hp))
    have gG:=k6 ρ (j+rr.ps.length) (fun k l hk=>by
     have:=hu (rr.ps.length+k) l (by rw [pg,l1,if_neg (by omega),Nat.add_sub_cancel_left];exact hk);rw [Nat.add_assoc];exact this) (fun p hp=>hr p (List.mem_append_right _ hp))
    have hrv:∀os,rr.rv os=(match rr.agg,os with | false,[o]=>RV.one o | _,os=>RV.agg os):=by
     intro os;unfold RP.rv
     split
     ·rename_i t' e';exact absurd e' (hnp t')
     ·rfl
    rcases g3 with ⟨ha,rfl⟩ | ⟨ha,rfl⟩
    ·have er:rr.rv (fC rr.ps (eg rs t) x1).1=.agg (fC rr.ps (eg rs t) x1).1:=by rw [hrv,ha]
     rw [er];exact ⟨vs.toArray,vals,rfl,by simpa using hL,by rw [l3];exact gG⟩
    ·have hlen:cs.length=1:=g1.1;have:(fC rr.ps (eg rs t) x1).1.length=1:=by rw [l3,←l2,hlen]
     cases ho:(fC rr.ps (eg rs t) x1).1 with
     |nil=>rw [ho] at this;cases this
     |cons o l=>cases l with
      |cons _ _=>rw [ho] at this;simp at this
      |nil=>
       have er:rr.rv [o]=.one o:=by rw [hrv,ha]
       rw [er];rw [ho] at hL;refine ⟨v,vals,rfl,hL,?_⟩;rw [←l2,hlen] at gG;exact gG
   ·rw [aar] at hu;have hb:=hu 0 (.box b) rfl;have hL:=(h0 ρ (j+1)).2.2 (fun k l hk=>by
     have:=hu (k+1) l (by
      show nth (u1++u2) k=_;rw [pg,if_pos (Ui hk)];exact hk)
     rwa [show j+(k+1)=j+1+k by omega] at this) (fun p hp=>hr p (List.mem_append_left _ hp))
    have gG:=k6 ρ (j+(rr.ps.length+1)) (fun k l hk=>by
     have:=hu (rr.ps.length+k+1) l (by
      show nth (u1++u2) (rr.ps.length+k)=_;rw [pg,l1,if_neg (by omega),Nat.add_sub_cancel_left];exact hk)
     rwa [show j+(rr.ps.length+k+1)=j+(rr.ps.length+1)+k by omega] at this) (fun p hp=>hr p (List.mem_append_right _ hp))
    have er:rr.rv (fC rr.ps (eg rs t) x1).1=.ptr (fC rr.ps (eg rs t) x1).1:=by unfold RP.rv;rw [aaq]
    rw [er];subst F9;refine ⟨v,vals,rfl,⟨c.bx b,us,ty,hv,?_,UG,hL⟩,by rw [l3];exact gG⟩;rw [Nat.add_zero] at hb;exact (Cz.nM ki).trans hb
def Lr (mu:Mu) (lc:Nat→Nat→Loc) (i:Nat) (ps:List AP) (fP:List AV) (vs:List Value):Prop:=
 ∀(k:Nat) (p:AP) (av:AV) (v:Value),ps[k]?=some p→fP[k]?=some av→vs[k]?=some v→match p,av with
  |.io _ _,.io A=>v.oneCell'=true∧oB (lc (i+k) 0) A.r.width 0 A.xs.length v∧Rq.arr (i+k) 0 1 A.r.width A.xs.length (lc (i+k) 0)∈mu.an
  |.box _ _,.box _=>∃qZ,v=.pointer (some ⟨qZ,0,none⟩)∧Rq.box (i+k) 1 qZ∈mu.an
  |.val _ _,.val _ _=>True
  |.dO qs,.dO os=>∃us,v=.agg us∧∀j A,os[j]?=some (.own A)→(∃r d,qs[j]?=some (.own r d))∧∃u,us.toList[j]?=some u∧u.oneCell'=true∧oB (lc (i+k) j) A.r.width 0 A.xs.length u∧Rq.arr (i+k) j 1 A.r.width A.xs.length (lc (i+k) j)∈mu.an
  |_,_=>False
theorem xw {w0:World} {mu:Mu} {c:Cz} {st:St} {a:Act} {w:World} (h:Rel w0 mu c st a w) {lc:Nat→Nat→Loc}:(ps:List AP)→(i:Nat)→(fP:List AV)→(vs:List Value)→ps.length=fP.length→ps.length=vs.length→Lr mu lc i ps fP vs→{x:aO (cF ps)}→{u:List Lb}→{r:List (Nat×Nat)}→wX st i ps=some (x,u,r)→
  (∀l∈u,l.real=true)∧∃tb:List (Lb×Lb),tb.map (·.1)=u∧(∀p∈tb,p.2.nh=true)∧∀ρ:Lb→Option Lb,(∀p∈tb,ρ p.1=some p.2)→(∀p∈r,ρ (.sp p.1 p.2)=none)→kj (c.map ρ) w lc i fP vs (pk ps x)
 | [],i,fP,vs,h1,h2,_,x,u,r,he=>by
  injection he with he;injection he with e1 e2;injection e2 with e2 e3;subst e2 e3;have:fP=[]:=by simpa using h1.symm
  subst this;exact ⟨by simp,[],rfl,by simp,fun _ _ _=>rfl⟩
 |p::ps,i,[],vs,h1,_,_,_,_,_,_=>by simp at h1
 |p::ps,i,_::_,[],_,h2,_,_,_,_,_=>by simp at h2
 |p::ps,i,av::fP,v::vs,h1,h2,hl,x,u,r,he=>by
  have Bn:Lr mu lc (i+1) ps fP vs:=fun k p' QN v' e1 e2 e3=>by
   have:=hl (k+1) p' QN v' (by simpa using e1) (by simpa using e2) (by simpa using e3)
   rwa [show i+(k+1)=i+1+k by omega] at this
  have h1':ps.length=fP.length:=by simpa using h1
  have h2':ps.length=vs.length:=by simpa using h2
  have h0:=hl 0 p av v rfl rfl rfl
  cases p with
  |val agg qs=>
   cases av with
   |val XX os=>
    obtain ⟨g1,tb,g2,g3,g4⟩:=xw h ps (i+1) fP vs h1' h2' Bn he;exact ⟨g1,tb,g2,g3,fun ρ hp hr=>g4 ρ hp hr⟩
   |io _=>exact h0.elim
   |box _=>exact h0.elim
   |dO _=>exact h0.elim
  |io rr dd=>
   cases av with
   |val _ _=>exact h0.elim
   |box _=>exact h0.elim
   |dO _=>exact h0.elim
   |io A=>
    obtain ⟨q1,q2,q3⟩:=h0;simp only [Nat.add_zero] at q2 q3;unfold wX at he;obtain ⟨q,hq,he⟩:=Option.bind_eq_some_iff.1 he;obtain ⟨p,hp,he⟩:=Option.map_eq_some_iff.1 he;obtain ⟨x2,u2,r2⟩:=q;obtain ⟨x1,u1,r1⟩:=p;injection he with e1 e2;injection e2 with e2 e3;subst e1 e2 e3;obtain ⟨g1,tb,g2,g3,g4⟩:=xw h ps (i+1) fP vs h1' h2' Bn hq;have XZ:=h.gS _ q3;have hV:gR c st w (.one (.ref i 0 1 .full)) v:=⟨q1,XZ.1,fun A' ig=>by
     obtain ⟨e1,e2,e3⟩:=XZ.2 A' ig;rw [e1,e3];show oB (lc i 0) A.r.width 0 A'.xs.length v;rw [e2];exact q2⟩
    obtain ⟨a1,a2,ta,a3,a4,a5⟩:=Dk h i hV hp;obtain ⟨A',ig,ag5⟩:∃A',cE st i 0 1=some A'∧∃xs,eb rr A'.xs=some xs∧x1.1=xs:=by
     have hp:(bif Nat.beq i i&&(Nat.beq 0 0&&Nat.beq 1 1) then ((cE st i 0 1).bind fun A=>bif A.own&&A.md.is dd then (eb rr A.xs).map fun xs=>((xs,x2),[Lb.sp i 0],([]:List (Nat×Nat))) else none) else none)=some (x1,u1,r1):=hp;obtain ⟨_,hp1⟩:=bH hp;obtain ⟨A',ig,hp2⟩:=Option.bind_eq_some_iff.1 hp1;obtain ⟨_,hp3⟩:=bH hp2;obtain ⟨xs,Zi,e⟩:=Option.map_eq_some_iff.1 hp3;injection e with e _;exact ⟨A',ig,xs,Zi,by rw [←e]⟩
    obtain ⟨xs,Zi,ex⟩:=ag5;obtain ⟨e1,e2,e3⟩:=XZ.2 A' ig;refine ⟨fun l hl => ?_,ta++tb,by simp [a3,g2],fun p hp => ?_,fun ρ hp hr => ?_⟩
    ·rcases List.mem_append.1 hl with hl | hl
     ·exact a2 l hl
     ·exact g1 l hl
    ·rcases List.mem_append.1 hp with hp | hp
     ·exact a4 p hp
     ·exact g3 p hp
    ·have hA5:=a5 ρ (fun p lE=>hp p (List.mem_append_left _ lE)) (fun p lE=>hr p (List.mem_append_left _ lE));have gG:=g4 ρ (fun p lE=>hp p (List.mem_append_right _ lE)) (fun p lE=>hr p (List.mem_append_right _ lE));have hA5:OwnAt (c.map ρ) w (.dw i 0) (c.lc i 0) { r:=rr,own:=true,xs:=x1.1,md:=dd } v:=hA5;rw [e3] at hA5;obtain ⟨er,T3⟩:=cS Zi;refine ⟨{ r:=rr,own:=true,xs:=x1.1,md:=dd },pk ps x1.2,rfl,?_,?_,hA5,?_⟩
     ·show rr.width=A.r.width;rw [←er];exact e1
     ·show List.length (x1.1:List (aO rr))=A.xs.length;rw [ex,T3,←e2]
      cases er
      rfl
     ·have:x1.2=x2:=a1;rw [this];exact gG
  |dO qs=>
   cases av with
   |val _ _=>exact h0.elim
   |io _=>exact h0.elim
   |box _=>exact h0.elim
   |dO os=>
    obtain ⟨us,rfl,q1⟩:=h0;simp only [Nat.add_zero] at q1;unfold wX at he;obtain ⟨q,hq,he⟩:=Option.bind_eq_some_iff.1 he;obtain ⟨p,hp,he⟩:=Option.map_eq_some_iff.1 he;obtain ⟨x2,u2,r2⟩:=q;obtain ⟨x1,u1⟩:=p;injection he with e1 e2;injection e2 with e2 e3;subst e1 e2 e3;obtain ⟨g1,tb,g2,g3,g4⟩:=xw h ps (i+1) fP vs h1' h2' Bn hq;obtain ⟨a1,a2,a3⟩:=lL qs 0 (cF ps) x2 hp
    let f:Lb→Lb×Lb:=fun l=>(l,match l with | .sp x y=>.dw x y | l=>l)
    refine ⟨fun l hl => ?_,u1.map f++tb,?_,fun p hp => ?_,fun ρ hp hr => ?_⟩
    ·rcases List.mem_append.1 hl with hl | hl
     ·obtain ⟨k,rfl⟩:=a2 l hl;rfl
     ·exact g1 l hl
    ·rw [List.map_append,List.map_map,g2]
     congr 1
     exact List.map_id u1
    ·rcases List.mem_append.1 hp with hp | hp
     ·obtain ⟨l,hl,rfl⟩:=List.mem_map.1 hp;obtain ⟨k,rfl⟩:=a2 l hl;rfl
     ·exact g3 p hp
    ·have gG:=g4 ρ (fun p lE=>hp p (List.mem_append_right _ lE)) hr;refine ⟨(pD qs (cF ps) x1).1,pk ps (pD qs (cF ps) x1).2,rfl,⟨us,rfl,fun j A hj => ?_⟩,by rw [a1];exact gG⟩;obtain ⟨⟨r,dd,hqr⟩,u,b1,b2,b3,b4⟩:=q1 j A hj;obtain ⟨A',xs,c1,c2,cd,c3,c4,c5⟩:=a3 j r dd hqr;rw [Nat.zero_add] at c1 c5;obtain ⟨e1,e2,e3⟩:=(h.gS _ b4).2 A' c1;obtain ⟨er,T3⟩:=cS c3;have ha:=Db h c1;have hρ:ρ (.sp i j)=some (.dw i j):=hp (.sp i j,.dw i j) (List.mem_append_left _ (List.mem_map.2 ⟨_,c5,rfl⟩));have hw:r.width=A.r.width:=by rw [←er];exact e1
     have hn:xs.length=A.xs.length:=by
      rw [←e2,T3]
      cases er
      rfl
     refine ⟨_,u,c4,b1,hw,hn,b2,?_,rfl,?_⟩
     ·show oB (lc i j) r.width 0 xs.length u;rw [hw,hn];exact b3
     ·show match lc i j with
       |.nil=>xs=[]
       |.at b off cap=>_
      obtain ⟨rA,aug,xsA,mdA⟩:=A';simp only at er c2 cd;subst er c2;have T3:xs=xsA:=T3;subst T3;unfold fy at ha;have e3:c.lc i j=lc i j:=e3;rw [e3] at ha
      cases m9:lc i j with
      |nil=>rw [m9] at ha;exact ha
      |«at» b off cap=>
       rw [m9] at ha;obtain ⟨k0,k2,k3,k4⟩:=ha;exact ⟨(Cz.nM k0).trans hρ,k2,k3,k4.map hρ⟩
  |box K8 qs=>
   cases av with
   |val _ _=>exact h0.elim
   |io _=>exact h0.elim
   |dO _=>exact h0.elim
   |box os=>
    obtain ⟨qZ,q1,q2⟩:=h0;simp only [Nat.add_zero] at q2;unfold wX at he;obtain ⟨q,hq,he⟩:=Option.bind_eq_some_iff.1 he;obtain ⟨p,hp,he⟩:=Option.map_eq_some_iff.1 he;obtain ⟨x2,u2,r2⟩:=q;obtain ⟨x1,u1,r1⟩:=p;injection he with e1 e2;injection e2 with e2 e3;subst e1 e2 e3;obtain ⟨g1,tb,g2,g3,g4⟩:=xw h ps (i+1) fP vs h1' h2' Bn hq;have XZ:=h.gS _ q2;have hV:gR c st w (.one (.ptr i 1 0)) v:=⟨by rw [q1];rfl,XZ.1,fun cs Af=>by rw [XZ.2 cs Af,q1]⟩;obtain ⟨a1,a2,ta,a3,a4,a5⟩:=Dk h i hV hp;refine ⟨fun l hl => ?_,ta++tb,by simp [a3,g2],fun p hp => ?_,fun ρ hp hr => ?_⟩
    ·rcases List.mem_append.1 hl with hl | hl
     ·exact a2 l hl
     ·exact g1 l hl
    ·rcases List.mem_append.1 hp with hp | hp
     ·exact a4 p hp
     ·exact g3 p hp
    ·have hA5:=a5 ρ (fun p lE=>hp p (List.mem_append_left _ lE)) (fun p lE=>hr p (List.mem_append_left _ lE));have gG:=g4 ρ (fun p lE=>hp p (List.mem_append_right _ lE)) (fun p lE=>hr p (List.mem_append_right _ lE));refine ⟨(fC qs (cF ps) x1).1,pk ps (fC qs (cF ps) x1).2,rfl,hA5,?_⟩;have:(fC qs (cF ps) x1).2=x2:=a1;rw [this];exact gG
end Go.TM
namespace Go.TM
open Go Go.RowKit
def start (n:Nat) (ps:List AP) (x:aO (aH (ps.map some))):St:=q7 0 (dV (ps.map some) x++List.replicate (n+1-ps.length) none)
theorem tU:(l:List (Option AP))→(x:aO (aH l))→(dV l x).length=l.length
 | [],_=>rfl
 |none::l,x=>by
  show (dV l x).length+1=l.length+1;rw [tU l x]
 |some p::l,x=>by
  show (dV l (p.av (aH l) x).2).length+1=l.length+1;rw [tU l _]
theorem Bv {c:Cz} {w:World} {lc:Nat→Nat→Loc}:(ps:List AP)→(i:Nat)→(fP:List AV)→(vs:List Value)→{x:aO (aH (ps.map some))}→gU ps fP=some x→Cb c w lc i fP vs→
  ps.length=fP.length∧ps.length=vs.length∧∀k av,(dV (ps.map some) x)[k]?=some (some av)→∃v,vs[k]?=some v∧wA c w (i+k) (lc (i+k)) av v
 | [],i,[],vs,x,hx,h=>by
  have:vs=[]:=h;subst this;exact ⟨rfl,rfl,fun k av hk=>by
   have hk:([]:List (Option AV))[k]?=some (some av):=hk;simp at hk⟩
 | [],_,_::_,_,_,hx,_=>by simp [gU] at hx
 |_::_,_,[],_,_,hx,_=>by simp [gU] at hx
 |p::ps,i,av::fP,vs,x,hx,h=>by
  obtain ⟨v,l,rfl,h1,h2⟩:=h;unfold gU at hx
  cases hy:gU ps fP with
  |none=>simp [hy] at hx
  |some y=>
   simp only [hy] at hx;obtain ⟨g1,g2,g3⟩:=Bv ps (i+1) fP l hy h2;obtain ⟨q1,q2⟩:=M4 (c:=c) (w:=w) (i:=i) (lc:=lc i) hx;refine ⟨by simp [g1],by simp [g2],fun k QN hk => ?_⟩
   cases k with
   |zero=>
    have hk:some (some (p.av (aH (ps.map some)) x).1)=some (some QN):=hk;simp only [Option.some.injEq] at hk;subst hk;exact ⟨v,rfl,q2 v h1⟩
   |succ k=>
    have hk:(dV (ps.map some) (p.av (aH (ps.map some)) x).2)[k]?=some (some QN):=hk;rw [q1] at hk;obtain ⟨v',h3,h4⟩:=g3 k QN hk;exact ⟨v',by simpa using h3,by rw [show i+(k+1)=i+1+k by omega];exact h4⟩
def kY (lc:Nat→Loc) (i:Nat):(j:Nat)→List OV→List Rq
 |_,[]=>[]
 |j,.own A::os=>.arr i j 1 A.r.width A.xs.length (lc j)::kY lc i (j+1) os
 |j,.int _ _::os=>kY lc i (j+1) os
 |j,.bool _::os=>kY lc i (j+1) os
 |j,.str _::os=>kY lc i (j+1) os
 |j,.shr _ _::os=>kY lc i (j+1) os
 |j,.nK _ _::os=>kY lc i (j+1) os
 |j,.fn _ _ _::os=>kY lc i (j+1) os
 |j,.gg::os=>kY lc i (j+1) os
theorem Dm {lc:Nat→Loc} {i:Nat}:(os:List OV)→(j:Nat)→∀p∈kY lc i j os,∃k A,os[k]?=some (.own A)∧p=.arr i (j+k) 1 A.r.width A.xs.length (lc (j+k))
 | [],j,p,h=>by simp [kY] at h
 |o::os,j,p,h=>by
  have rest:p∈kY lc i (j+1) os→∃k A,(o::os)[k]?=some (.own A)∧p=.arr i (j+k) 1 A.r.width A.xs.length (lc (j+k)):=by
   intro h;obtain ⟨k,A,h1,h2⟩:=Dm os (j+1) p h;refine ⟨k+1,A,by simpa using h1,?_⟩;rw [h2,show j+1+k=j+(k+1) by omega]
  cases o with
  |own A=>
   rcases List.mem_cons.1 h with h | h
   ·exact ⟨0,A,rfl,h⟩
   ·exact rest h
  |_=>exact rest h
theorem FF {lc:Nat→Loc} {i:Nat}:(os:List OV)→(j:Nat)→∀(k:Nat) (A:nd),os[k]?=some (.own A)→Rq.arr i (j+k) 1 A.r.width A.xs.length (lc (j+k))∈kY lc i j os
 | [],j,k,A,h=>by simp at h
 |o::os,j,0,A,h=>by
  simp only [List.getElem?_cons_zero,Option.some.injEq] at h;subst h;exact List.mem_cons_self
 |o::os,j,k+1,A,h=>by
  have:=FF (lc:=lc) (i:=i) os (j+1) k A (by simpa using h);rw [show j+1+k=j+(k+1) by omega] at this
  cases o with
  |own A=>exact List.mem_cons_of_mem _ this
  |_=>exact this
def Hg (lc:Nat→Nat→Loc):(i:Nat)→List AV→List Value→List Rq
 |_,[],_=>[]
 |_,_::_,[]=>[]
 |i,.val _ _::as,_::vs=>Hg lc (i+1) as vs
 |i,.io A::as,_::vs=>.arr i 0 1 A.r.width A.xs.length (lc i 0)::Hg lc (i+1) as vs
 |i,.dO os::as,_::vs=>kY (lc i) i 0 os++Hg lc (i+1) as vs
 |i,.box _::as,v::vs=>.box i 1 (match v with | .pointer (some ad)=>ad.block | _=>0)::Hg lc (i+1) as vs
theorem xx {lc:Nat→Nat→Loc}:(i:Nat)→(as:List AV)→(vs:List Value)→∀p∈Hg lc i as vs,∃k av v,as[k]?=some av∧vs[k]?=some v∧((∃A,av=.io A∧p=.arr (i+k) 0 1 A.r.width A.xs.length (lc (i+k) 0))∨(∃os,av=.box os∧p=.box (i+k) 1 (match v with | .pointer (some ad)=>ad.block | _=>0))∨∃os j A,av=.dO os∧os[j]?=some (.own A)∧p=.arr (i+k) j 1 A.r.width A.xs.length (lc (i+k) j))
 |_,[],_,p,h=>by simp [Hg] at h
 |_,_::_,[],p,h=>by simp [Hg] at h
 |i,.val _ _::as,_::vs,p,h=>by
  obtain ⟨k,av,v,h1,h2,h3⟩:=xx (i+1) as vs p h;exact ⟨k+1,av,v,by simpa using h1,by simpa using h2,by rw [show i+(k+1)=i+1+k by omega];exact h3⟩
 |i,.io A::as,v0::vs,p,h=>by
  rcases List.mem_cons.1 h with h | h
  ·exact ⟨0,.io A,v0,rfl,rfl,.inl ⟨A,rfl,h⟩⟩
  ·obtain ⟨k,av,v,h1,h2,h3⟩:=xx (i+1) as vs p h;exact ⟨k+1,av,v,by simpa using h1,by simpa using h2,by rw [show i+(k+1)=i+1+k by omega];exact h3⟩
 |i,.box os::as,v0::vs,p,h=>by
  rcases List.mem_cons.1 h with h | h
  ·exact ⟨0,.box os,v0,rfl,rfl,.inr (.inl ⟨os,rfl,h⟩)⟩
  ·obtain ⟨k,av,v,h1,h2,h3⟩:=xx (i+1) as vs p h;exact ⟨k+1,av,v,by simpa using h1,by simpa using h2,by rw [show i+(k+1)=i+1+k by omega];exact h3⟩
 |i,.dO os::as,v0::vs,p,h=>by
  rcases List.mem_append.1 h with h | h
  ·obtain ⟨j,A,h1,h2⟩:=Dm os 0 p h;rw [Nat.zero_add] at h2;exact ⟨0,.dO os,v0,rfl,rfl,.inr (.inr ⟨os,j,A,rfl,h1,h2⟩)⟩
  ·obtain ⟨k,av,v,h1,h2,h3⟩:=xx (i+1) as vs p h;exact ⟨k+1,av,v,by simpa using h1,by simpa using h2,by rw [show i+(k+1)=i+1+k by omega];exact h3⟩
theorem QR {lc:Nat→Nat→Loc}:(i:Nat)→(as:List AV)→(vs:List Value)→as.length=vs.length→∀k av v,as[k]?=some av→vs[k]?=some v→(∀A,av=.io A→Rq.arr (i+k) 0 1 A.r.width A.xs.length (lc (i+k) 0)∈Hg lc i as vs)∧(∀os,av=.box os→Rq.box (i+k) 1 (match v with | .pointer (some ad)=>ad.block | _=>0)∈Hg lc i as vs)∧(∀os,av=.dO os→∀j A,os[j]?=some (.own A)→Rq.arr (i+k) j 1 A.r.width A.xs.length (lc (i+k) j)∈Hg lc i as vs)
 |_,[],_,_,k,av,v,h,_=>by simp at h
 |_,_::_,[],hn,_,_,_,_,_=>by simp at hn
 |i,a0::as,v0::vs,hn,0,av,v,h1,h2=>by
  simp only [List.getElem?_cons_zero,Option.some.injEq] at h1 h2;subst h1 h2;refine ⟨fun A e => ?_,fun os e => ?_,fun os e j A hj => ?_⟩
  ·subst e;exact List.mem_cons_self
  ·subst e;exact List.mem_cons_self
  ·subst e;have:=FF (lc:=lc i) (i:=i) os 0 j A hj;rw [Nat.zero_add] at this;exact List.mem_append_left _ this
 |i,a0::as,v0::vs,hn,k+1,av,v,h1,h2=>by
  obtain ⟨g1,g2,g3⟩:=QR (i+1) as vs (by simpa using hn) k av v (by simpa using h1) (by simpa using h2);have e:i+(k+1)=i+1+k:=by omega
  rw [e]
  cases a0 with
  |val _ _=>exact ⟨g1,g2,g3⟩
  |io _=>exact ⟨fun A h=>List.mem_cons_of_mem _ (g1 A h),fun os h=>List.mem_cons_of_mem _ (g2 os h),fun os h j A hj=>List.mem_cons_of_mem _ (g3 os h j A hj)⟩
  |box _=>exact ⟨fun A h=>List.mem_cons_of_mem _ (g1 A h),fun os h=>List.mem_cons_of_mem _ (g2 os h),fun os h j A hj=>List.mem_cons_of_mem _ (g3 os h j A hj)⟩
  |dO _=>exact ⟨fun A h=>List.mem_append_right _ (g1 A h),fun os h=>List.mem_append_right _ (g2 os h),fun os h j A hj=>List.mem_append_right _ (g3 os h j A hj)⟩
def oW (ps:List AP) (mu:Mu):Prop:=
 ∀p∈mu.an,(∃i r W n l,p=.arr i 0 1 W n l∧∃d,ps[i]?=some (.io r d))∨(∃i qZ b qs,p=.box i 1 qZ∧ps[i]?=some (.box b qs))∨∃i j W n l qs,p=.arr i j 1 W n l∧ps[i]?=some (.dO qs)
theorem Hh:(ps:List OP)→(t:RT)→(os:List OV)→(y:aO t)→{x:aO (oE ps t)}→fp ps t os y=some x→∀(j:Nat) (A:nd),os[j]?=some (.own A)→(∃r d,ps[j]?=some (.own r d))∧∃B:nd,(fC ps t x).1[j]?=some (.own B)∧B.r.width=A.r.width∧B.xs.length=A.xs.length
 | [],t,[],y,x,h=>by intro k A hk;simp at hk
 | [],_,_::_,_,_,h=>by simp [fp] at h
 |_::_,_,[],_,_,h=>by simp [fp] at h
 |p::ps,t,o::os,y,x,h=>by
  unfold fp at h
  cases h1:ve p o with
  |none=>simp [h1] at h
  |some a=>
   cases h2:fp ps t os y with
   |none=>simp [h1,h2] at h
   |some z=>
    simp only [h1,h2] at h;have h:(a,z)=x:=Option.some.inj h;subst h;intro j A hj
    cases j with
    |succ j=>
     obtain ⟨⟨r,d,q1⟩,B,q2,q3⟩:=Hh ps t os y h2 j A (by simpa using hj);exact ⟨⟨r,d,by simpa using q1⟩,B,(by show (fC ps t z).1[j]?=_;exact q2),q3⟩
    |zero=>
     simp only [List.getElem?_cons_zero,Option.some.injEq] at hj;subst hj
     cases p with
     |own r d=>
      have h1:(bif A.md.is d then eb r A.xs else none)=some a:=h1;obtain ⟨_,h1⟩:=bH h1;obtain ⟨er,T3⟩:=cS h1;refine ⟨⟨r,d,rfl⟩,{ r:=r,own:=true,xs:=a,md:=d },rfl,by show r.width=_;rw [←er],?_⟩;show List.length (a:List (aO r))=_;rw [T3]
      cases er
      rfl
     |_=>cases h1
theorem FG:(ps:List AP)→(fP:List AV)→{x:aO (aH (ps.map some))}→gU ps fP=some x→∀(k:Nat) (av:AV),fP[k]?=some av→∃p:AP,ps[k]?=some p∧match p,av with
  |.io _ _,.io A=>∃B:nd,(dV (ps.map some) x)[k]?=some (some (.io B))∧B.r.width=A.r.width∧B.xs.length=A.xs.length
  |.box _ _,.box _=>True
  |.val _ _,.val _ _=>True
  |.dO qs,.dO os=>∃Em:List OV,(dV (ps.map some) x)[k]?=some (some (AV.dO Em))∧∀(j:Nat) (A:nd),os[j]?=some (OV.own A)→(∃r d,qs[j]?=some (OP.own r d))∧∃B:nd,Em[j]?=some (OV.own B)∧B.r.width=A.r.width∧B.xs.length=A.xs.length
  |_,_=>False
 | [],[],_,_=>by intro k av h;simp at h
 | [],_::_,_,hx=>by simp [gU] at hx
 |_::_,[],_,hx=>by simp [gU] at hx
 |p::ps,av::fP,x,hx=>by
  unfold gU at hx
  cases hy:gU ps fP with
  |none=>simp [hy] at hx
  |some y=>
   simp only [hy] at hx;have e2:(p.av (aH (ps.map some)) x).2=y:=(M4 (c:=⟨fun _=>0,fun _ _=>.nil,fun _=>none⟩) (w:=default) (i:=0) (lc:=fun _=>.nil) hx).1;intro k QN hk
   cases k with
   |zero=>
    simp only [List.getElem?_cons_zero,Option.some.injEq] at hk;subst hk;refine ⟨p,rfl,?_⟩
    cases p with
    |val agg qs=>cases av with
     |val _ _=>trivial
     |io _=>cases agg<;>cases hx
     |box _=>cases agg<;>cases hx
     |dO _=>cases agg<;>cases hx
    |io r d=>cases av with
     |val _ _=>cases hx
     |box _=>cases hx
     |dO _=>cases hx
     |io A=>
      have hx:(bif A.md.is d then (match eb r A.xs with | some xs=>some ((xs,y):aO (.cons (.sl r) (aH (ps.map some)))) | none=>none) else none)=some x:=hx;obtain ⟨_,hx⟩:=bH hx
      cases hc:eb r A.xs with
      |none=>rw [hc] at hx;cases hx
      |some xs=>
       rw [hc] at hx;injection hx with hx;obtain ⟨er,T3⟩:=cS hc;refine ⟨{ r:=r,own:=true,xs:=x.1,md:=d },rfl,by show r.width=_;rw [←er],?_⟩;show List.length (x.1:List (aO r))=_;rw [←hx];show xs.length=_;rw [T3]
       cases er
       rfl
    |box b qs=>cases av with
     |val _ _=>cases hx
     |io _=>cases hx
     |dO _=>cases hx
     |box _=>trivial
    |dO qs=>cases av with
     |val _ _=>cases hx
     |io _=>cases hx
     |box _=>cases hx
     |dO os=>
      have hx:fp qs (aH (ps.map some)) os y=some x:=hx;exact ⟨_,rfl,Hh qs _ os y hx⟩
   |succ k=>
    obtain ⟨p',h1,h2⟩:=FG ps fP hy k QN (by simpa using hk);refine ⟨p',by simpa using h1,?_⟩;have eh:(dV ((p::ps).map some) x)[k+1]?=(dV (ps.map some) y)[k]?:=by
     show (dV (ps.map some) (p.av (aH (ps.map some)) x).2)[k]?=_;rw [e2]
    cases p'<;>cases QN<;>simp only at h2 ⊢ <;> (try exact h2)
    ·obtain ⟨B,q1,q2,q3⟩:=h2;exact ⟨B,eh.trans q1,q2,q3⟩
    ·obtain ⟨Em,q1,q2⟩:=h2;exact ⟨Em,eh.trans q1,q2⟩
end Go.TM
namespace Go.TM
open Go Go.RowKit
theorem M5 {P:Program} {fn:Func} {tm:Array Value} {w:World} {vals:List Value} (h:(fn.results.toList.mapM (Hf tm)).run P w=.ok vals w) :
  (results fn tm).run P w=.ok (if hs:vals.toArray.size=1 then vals.toArray[0] else .tuple vals.toArray) w:=by
 have e:results fn tm=(do let vs ←fn.results.mapM (Hf tm);pure (if h:vs.size=1 then vs[0] else .tuple vs):Sem Value):=rfl;rw [e,Array.mapM_eq_mapM_toList];simp [Sem.run_bind,h]
theorem M6 {c:Cz} {w:World} {mu:Mu} {lc:Nat→Nat→Loc} {fP:List AV} {args:Array Value} (hH:Handed c w mu) (hA:Cb c w lc 0 fP args.toList) {ps:List AP} {x:aO (aH (ps.map some))} (hx:gU ps fP=some x) {n:Nat} (hn:ps.length≤n) :
  ∃(Gq:Mu) (c':Cz),Gq.m=mu.m∧Gq.ok=mu.ok∧oW ps Gq∧Lr Gq lc 0 ps fP args.toList∧args.size=ps.length∧fP.length=ps.length∧
   Rel w Gq c' (start n ps x) { tmps:=args++Array.replicate (n-args.size) undef,defers:=[] } w:=by
 obtain ⟨l1,l2,hold⟩:=Bv ps 0 fP args.toList hx hA;have UX:=FG ps fP hx;have Hi:args.size=ps.length:=by rw [l2];simp
 let a:Act:={ tmps:=args++Array.replicate (n-args.size) undef,defers:=[] }
 have Zj:∀k v,args.toList[k]?=some v→a.eval (.tmp k)=v:=by
  intro k v hk;have dS:k<args.size:=by
   have:=(List.getElem?_eq_some_iff.1 hk).1;simpa using this
  show (args++Array.replicate (n-args.size) undef).getD k undef=v;rw [Array.getD_eq_getD_getElem?,Array.getElem?_append_left dS];rw [Array.getElem?_toList] at hk;rw [hk];rfl
 let Gq:Mu:={ m:=mu.m,ok:=mu.ok,an:=Hg lc 0 fP args.toList }
 have hlen:(dV (ps.map some) x++List.replicate (n+1-ps.length) none).length=n+1:=by
  rw [List.length_append,tU];simp;omega
 have ME:∀(i:Nat) (av:AV),(dV (ps.map some) x++List.replicate (n+1-ps.length) none)[i]?=some (some av)→(dV (ps.map some) x)[i]?=some (some av):=by
  intro i av hi
  by_cases h:i<(dV (ps.map some) x).length
  ·rwa [List.getElem?_append_left h] at hi
  ·rw [List.getElem?_append_right (by omega),List.getElem?_replicate] at hi
   split at hi<;>simp at hi
 have Ew:Fx w Gq c w:=⟨fun b l hb=>⟨hH.lt b l hb,(hH.lb b l hb).imp id fun hh=>.inr ((hH.m b).2 ⟨l,hb,hh⟩)⟩,fun b _ hb=>.inr ((hH.ok b).2 hb),⟨rfl,rfl,rfl,Nat.le_refl _⟩,fun _ _ _=>rfl⟩;have aas:Ey c w lc a 0 (dV (ps.map some) x++List.replicate (n+1-ps.length) none):=by
  intro i av hi;obtain ⟨v,h1,h2⟩:=hold i av (ME i av hi);have:=Zj i v h1;rw [Nat.zero_add] at h2 ⊢;rw [this];exact h2
 have Zk:∀k av v,fP[k]?=some av→args.toList[k]?=some v→wA c w k (lc k) av v:=by
  have key:∀(fP:List AV) (i:Nat) (vs:List Value),Cb c w lc i fP vs→∀k av v,fP[k]?=some av→vs[k]?=some v→wA c w (i+k) (lc (i+k)) av v:=by
   intro fP
   induction fP with
   |nil=>intro i vs _ k av v h;simp at h
   |cons a0 fP ih=>
    intro i vs h k av v h1 h2;obtain ⟨v0,l,rfl,g1,g2⟩:=h
    cases k with
    |zero=>simp at h1 h2;subst h1 h2;exact g1
    |succ k=>
     have:=ih (i+1) l g2 k av v (by simpa using h1) (by simpa using h2)
     rwa [show i+1+k=i+(k+1) by omega] at this
  intro k av v h1 h2;have:=key fP 0 args.toList hA k av v h1 h2
  rwa [Nat.zero_add] at this
 have ag6:∀p∈Gq.an,UQ (dV (ps.map some) x++List.replicate (n+1-ps.length) none) lc a p:=by
  intro p hp;obtain ⟨k,av,v,h1,h2,h3⟩:=xx 0 fP args.toList p hp;have hk:k<ps.length:=by rw [l1];exact (List.getElem?_eq_some_iff.1 h1).1
  simp only [Nat.zero_add] at h3;obtain ⟨p',q1,q2⟩:=UX k av h1;rcases h3 with ⟨A,rfl,rfl⟩ | ⟨os,rfl,rfl⟩ | ⟨os,j,A,rfl,hj,rfl⟩
  ·refine ⟨rfl,by rw [hlen];omega,fun QN aat=>.inl ?_⟩
   cases p' with
   |io r dd=>
    obtain ⟨B,e1,e2,e3⟩:=q2;have:=ME k QN aat;rw [e1] at this;simp only [Option.some.injEq] at this;exact ⟨B,this.symm,fun _=>⟨e2,e3,rfl⟩⟩
   |val _ _=>exact q2.elim
   |box _ _=>exact q2.elim
   |dO _=>exact q2.elim
  ·refine ⟨rfl,by rw [hlen];omega,fun Em _ => ?_⟩;obtain ⟨qZ,vs,ty,e1,_⟩:=Zk k _ v h1 h2;rw [Zj k v h2,e1]
  ·refine ⟨rfl,by rw [hlen];omega,fun QN aat=>.inr ?_⟩
   cases p' with
   |io r dd=>exact q2.elim
   |val _ _=>exact q2.elim
   |box _ _=>exact q2.elim
   |dO qs=>
    obtain ⟨Em,e1,e2⟩:=q2;have:=ME k QN aat;rw [e1] at this;simp only [Option.some.injEq] at this;obtain ⟨_,B,e3,e4,e5⟩:=e2 j A hj;refine ⟨Em,this.symm,fun A' ig => ?_⟩;rw [e3] at ig;injection ig with ig;injection ig with ig;subst ig;exact ⟨e4,e5,rfl⟩
 obtain ⟨c',hR⟩:=Rel.QP (a:=a) Ew rfl aas ag6;refine ⟨Gq,c',rfl,rfl,fun p hp => ?_,fun k p av v h0 h1 h2 => ?_,Hi,l1.symm,hR⟩
 ·obtain ⟨k,av,v,h1,h2,h3⟩:=xx 0 fP args.toList p hp;simp only [Nat.zero_add] at h3;obtain ⟨p',q1,q2⟩:=UX k av h1;rcases h3 with ⟨A,rfl,rfl⟩ | ⟨os,rfl,rfl⟩ | ⟨os,j,A,rfl,hj,rfl⟩
  ·cases p' with
   |io r dd=>exact .inl ⟨k,r,_,_,_,rfl,dd,q1⟩
   |val _ _=>exact q2.elim
   |box _ _=>exact q2.elim
   |dO _=>exact q2.elim
  ·cases p' with
   |io r dd=>exact q2.elim
   |val _ _=>exact q2.elim
   |box b qs=>exact .inr (.inl ⟨k,_,b,qs,rfl,q1⟩)
   |dO _=>exact q2.elim
  ·cases p' with
   |io r dd=>exact q2.elim
   |val _ _=>exact q2.elim
   |box b qs=>exact q2.elim
   |dO qs=>exact .inr (.inr ⟨k,j,_,_,_,qs,rfl,q1⟩)
 ·obtain ⟨p',q1,q2⟩:=UX k av h1;rw [h0] at q1
  cases q1
  have hh:=Zk k av v h1 h2;obtain ⟨a1,a2,a3⟩:=QR (lc:=lc) 0 fP args.toList (by rw [←l1,l2]) k av v h1 h2;rw [Nat.zero_add] at a1 a2 a3 ⊢
  cases p with
  |val _ _=>cases av with
   |val _ _=>trivial
   |io _=>exact q2.elim
   |box _=>exact q2.elim
   |dO _=>exact q2.elim
  |dO qs=>cases av with
   |val _ _=>exact q2.elim
   |io _=>exact q2.elim
   |box _=>exact q2.elim
   |dO os=>
    obtain ⟨us,rfl,hl,aan⟩:=hh;obtain ⟨Em,_,e2⟩:=q2;obtain ⟨n1,_⟩:=cD.UP os 0 _ hl;refine ⟨us,rfl,fun j A hj=>⟨(e2 j A hj).1,?_⟩⟩;have dS:j<us.toList.length:=by rw [n1];exact (List.getElem?_eq_some_iff.1 hj).1
    have hO:OwnAt c w (.dw k j) (lc k j) A us.toList[j]:=aan j _ _ hj (List.getElem?_eq_getElem dS);exact ⟨_,List.getElem?_eq_getElem dS,hO.1,hO.2.1,a3 os rfl j A hj⟩
  |io r dd=>cases av with
   |val _ _=>exact q2.elim
   |box _=>exact q2.elim
   |dO _=>exact q2.elim
   |io A=>
    have hO:OwnAt c w (.dw k 0) (lc k 0) A v:=hh;exact ⟨hO.1,hO.2.1,a1 A rfl⟩
  |box _ _=>cases av with
   |val _ _=>exact q2.elim
   |io _=>exact q2.elim
   |dO _=>exact q2.elim
   |box os=>
    obtain ⟨qZ,vs,ty,e1,_⟩:=hh;refine ⟨qZ,e1,?_⟩;have:=a2 os rfl;rw [e1] at this;exact this
theorem OX {P:Program} {T:n9} (hT:jx P T) {w0:World} {mu Gq:Mu} (hm:Gq.m=mu.m) (iR:Gq.ok=mu.ok) {c:Cz} {st:St} {a:Act} {w:World} (h:Rel w0 Gq c st a w) {fn:Func} {ps:List AP} {rs:List RP} (hrs:Ce T a.tmps fn.results.toList rs)
  {lc:Nat→Nat→Loc} {fP:List AV} {vs:List Value} (h1:ps.length=fP.length) (h2:ps.length=vs.length) (hl:Lr Gq lc 0 ps fP vs) {e:Ex} {y:aO (eg rs (cF ps))} (hf:Ez rs ps e st=some y) :
  (e=.normal∨e=.ret)∧∃v,(results fn a.tmps).run P w=.ok v w∧∃c',Fx w0 mu c' w∧u9 c' w (iH rs (cF ps) y).1 v∧kj c' w lc 0 fP vs (pk ps (iH rs (cF ps) y).2):=by
 have he:e=.normal∨e=.ret:=by
  cases e with
  |normal=>exact .inl rfl
  |ret=>exact .inr rfl
  |exit m=>cases hf
 refine ⟨he,?_⟩;have hf:((wX st 0 ps).bind fun x=>(He st rs (cF ps) x.1).bind fun q=>bif x4 (dG q.2.1++x.2.1)&&apart (dG q.2.1++x.2.1) (q.2.2++x.2.2) then some q.1 else none)=some y:=by
  rcases he with rfl | rfl<;>exact hf
 obtain ⟨qx,hqx,hf⟩:=Option.bind_eq_some_iff.1 hf;obtain ⟨qr,hqr,hf⟩:=Option.bind_eq_some_iff.1 hf;obtain ⟨sP,hy⟩:=bH hf;injection hy with hy;obtain ⟨x1,u1,r1⟩:=qx;obtain ⟨x2,u2,r2⟩:=qr;subst hy;rw [Bool.and_eq_true] at sP;obtain ⟨a1,tb,a2,a3,a4⟩:=xw h ps 0 fP vs h1 h2 hl hqx;obtain ⟨b1,b2,b3,vals,b4,b5,b6⟩:=J0 hT h fn.results.toList rs hrs (cF ps) x1 hqr;have FD:∀l∈dG u2++u1,l.real=true:=fun l hl=>(List.mem_append.1 hl).elim (b3 l) (a1 l)
 have Zg:=rZ _ FD sP.1;have hap:∀p∈r2++r1,Lb.sp p.1 p.2∉dG u2++u1:=by
  intro p hp hm;have h1:=List.all_eq_true.1 sP.2 p hp;have h2:=List.all_eq_true.1 h1 _ hm;rw [(Lb.Dd rfl).2 rfl] at h2
  cases h2
 let tab:=Df .ky 0 u2++tb
 have ag7:tab.map (·.1)=dG u2++u1:=by show (Df .ky 0 u2++tb).map _=_;rw [List.map_append,Dg,a2]
 have Ap:=Classical.propDecidable
 let ρ:Lb→Option Lb:=fun l=>match look tab l with | some y=>some y | none=>if l=.out then some .out else none
 have hρt:∀p∈tab,ρ p.1=some p.2:=by
  intro p hp;have:=De tab (by rw [ag7];exact Zg) hp;show (match look tab p.1 with | some y=>some y | none=>_)=_;rw [this]
 have Dj:∀ {l y},look tab l=some y→l∈dG u2++u1:=by
  intro l y hl;have:=Bs tab hl;rw [←ag7];exact List.mem_map.2 ⟨_,this,rfl⟩
 have hρr:∀p∈r2++r1,ρ (.sp p.1 p.2)=none:=by
  intro p hp;show (match look tab (.sp p.1 p.2) with | some y=>some y | none=>if Lb.sp p.1 p.2=.out then some Lb.out else none)=none
  cases hl:look tab (.sp p.1 p.2) with
  |some y=>exact absurd (Dj hl) (hap p hp)
  |none=>simp
 have hρo:ρ .out=some .out:=by
  show (match look tab Lb.out with | some y=>some y | none=>if Lb.out=Lb.out then some Lb.out else none)=_
  cases hl:look tab Lb.out with
  |some y=>have:=FD _ (Dj hl);cases this
  |none=>simp
 have Ew:Fx w0 mu (c.map ρ) w:=by
  refine ⟨fun b l hb => ?_,fun b hb hn => ?_,h.kept,by rw [←hm];exact h.old⟩
  ·obtain ⟨k,hk,e⟩:=Cz.map_some hb;obtain ⟨g1,g2⟩:=h.owned b k hk;refine ⟨g1,?_⟩;rw [←hm];refine g2.imp (fun e2 => ?_) id;subst e2;rw [hρo] at e
   cases e;rfl
  ·rw [←hm,←iR]
   cases hk:c.own b with
   |none=>exact h.free b hb hk
   |some k=>
    have e:ρ k=none:=(Cz.nM (ρ:=ρ) hk).symm.trans hn;rcases (h.owned b k hk).2 with g | g | g
    ·subst g;rw [hρo] at e;cases e
    ·exact absurd g (Nat.not_le_of_lt hb)
    ·exact .inl g
 have hX:=a4 ρ (fun p hp=>hρt p (List.mem_append_right _ hp)) (fun p hp=>hρr p (List.mem_append_right _ hp));have hR:=b6 ρ 0 (fun k l hk=>by
  have:=hρt _ (List.mem_append_left tb (Ar .ky 0 u2 k l hk));exact this) (fun p hp=>hρr p (List.mem_append_left _ hp))
 refine ⟨_,M5 b4,c.map ρ,Ew,?_,by rw [b1];exact hX⟩;have hlen:vals.length=(iH rs (cF ps) x2).1.length:=by
  have:rs.length=fn.results.toList.length:=by
   have key:∀(l:List ResultVar) (m:List RP),Ce T a.tmps l m→m.length=l.length:=by
    intro l
    induction l with
    |nil=>intro m hm;cases m with
     |nil=>rfl
     |cons _ _=>exact hm.elim
    |cons v l ih=>intro m hm;cases m with
     |nil=>exact hm.elim
     |cons r m=>simp [ih m hm.2]
   exact key _ _ hrs
  rw [b5,b2,this]
 by_cases hs:vals.toArray.size=1
 ·rw [dif_pos hs];have C1:vals.length=1:=by simpa using hs
  obtain ⟨v,rfl⟩:∃v,vals=[v]:=by
   cases vals with
   |nil=>cases C1
   |cons v l=>cases l with
    |nil=>exact ⟨v,rfl⟩
    |cons _ _=>simp at C1
  rw [C1] at hlen
  cases ho:(iH rs (cF ps) x2).1 with
  |nil=>rw [ho] at hlen;cases hlen
  |cons r l=>cases l with
   |cons _ _=>rw [ho] at hlen;simp at hlen
   |nil=>
    rw [ho] at hR;exact .inl ⟨r,rfl,hR⟩
 ·rw [dif_neg hs];refine .inr ⟨by rw [←hlen];simpa using hs,vals.toArray,rfl,by simpa using hR⟩
theorem M7 {P:Program} {T:n9} (hT:jx P T) (hE:zV P T) {S:mI} (hS:og P S) {D:mV} {f:FuncId} {fn:Func} {code:Code} {n:Nat} {ps:List AP} {rs:List RP} {L:pA (aO (eg rs (cF ps)))} {Zl:Nat→Array Oper→Prop}
  {t:aO (aH (ps.map some))→Option (aO (eg rs (cF ps)))}
  (hf:P.funcs[f]?=some fn) (hb:fn.body=some code) (hn:fn.ntmps=n) (XL:ps.length≤n) (wm:hJ n code=true) (Lk:∀tm,Ce T tm fn.results.toList rs)
  (hL:∀(w0:World) (mu:Mu) (y:aO (eg rs (cF ps))),oW ps mu→fF (pf P w0 mu n L y) code)
  (hD:∀(w0:World) (mu:Mu),uH (aO (eg rs (cF ps))) P T S D w0 mu n Zl) (hD2:fV Zl code)
  (OY:∀(w0:World) (mu:Mu) (c:Cz) (a:Act) (w:World) x,Rel w0 mu c (start n ps x) a w→a.tmps.size=n→∃c2 lK,Rel w0 mu c2 lK a w∧gF T S D L code lK (Ez rs ps)=t x):FnOk P f (oG ps rs t):=by
 intro c w mu lc fP args A y hH hA hs ho;unfold oG at hs
 cases hx:gU ps fP with
 |none=>rw [hx] at hs;cases hs
 |some x=>
  rw [hx] at hs;simp only [Option.some.injEq] at hs;subst hs;have Gr:t x=some y:=ho;obtain ⟨Gq,c',hm,iR,Hj,QS,Hi,RS,hR⟩:=M6 hH hA hx XL;refine calls_of_wp hf hb ?_;rw [hn];have oU:(args++Array.replicate (n-args.size) undef).size=n:=by simp;omega
  obtain ⟨c2,lK,hR2,ag9⟩:=OY w Gq c' _ w x hR oU;refine Da (pT hT hE hS w Gq n) (hD w Gq) code wm (hL w Gq y Hj) hD2 (fun {e} {c1} {GL} {a1} {w1} h1 h2 h3 => ?_) hR2 oU (ag9.trans Gr);obtain ⟨he,v,u4,c2,Ms,hV,hX⟩:=OX (P:=P) hT hm iR h1 (Lk a1.tmps) RS.symm (by rw [←Hi];simp) QS h3;have Hb:a1.defers=[]∧∃v,(results fn a1.tmps).run P w1=.ok v w1∧(∃v',Ending.returned v=.returned v'∧∃c',Fx w mu c' w1∧u9 c' w1 (iH rs (cF ps) y).1 v'∧kj c' w1 lc 0 fP args.toList (pk ps (iH rs (cF ps) y).2)):=
   ⟨h1.plain,v,u4,v,rfl,c2,Ms,hV,hX⟩
  rcases he with rfl | rfl<;>exact Hb
theorem aha {P:Program} {T:n9} (hT:jx P T) (hE:zV P T) {S:mI} (hS:og P S) {D:mV} {f:FuncId} {fn:Func} {code:Code} {n:Nat} {ps:List AP} {rs:List RP} {L:pA (aO (eg rs (cF ps)))} {Zl:Nat→Array Oper→Prop}
  {t:aO (aH (ps.map some))→Option (aO (eg rs (cF ps)))}
  (hf:P.funcs[f]?=some fn) (hb:fn.body=some code) (hn:fn.ntmps=n) (XL:ps.length≤n) (wm:hJ n code=true) (Lk:∀tm,Ce T tm fn.results.toList rs)
  (hL:∀(w0:World) (mu:Mu) (y:aO (eg rs (cF ps))),oW ps mu→fF (pf P w0 mu n L y) code)
  (hD:∀(w0:World) (mu:Mu),uH (aO (eg rs (cF ps))) P T S D w0 mu n Zl) (hD2:fV Zl code)
  (OY:∀x,gF T S D L code (start n ps x) (Ez rs ps)=t x):FnOk P f (oG ps rs t):=
 M7 hT hE hS hf hb hn XL wm Lk hL hD hD2 (fun _ _ c _ _ x h _=>⟨c,_,h,OY x⟩)
end Go.TM
namespace Go.TM
open Go Go.RowKit
def iter {X E:Type} (round:X→Option (Sum X E)):Nat→X→Option E
 |0,_=>none
 |n+1,x=>match round x with
  |some (.inl y)=>iter round n y
  |some (.inr e)=>some e
  |none=>none
theorem EA {X E:Type} {round:X→Option (Sum X E)}:(n:Nat)→{x:X}→{e:E}→iter round n x=some e→∀m,n≤m→iter round m x=some e
 |0,_,_,h,_,_=>by cases h
 |n+1,x,e,h,0,hm=>by omega
 |n+1,x,e,h,m+1,hm=>by
  unfold iter at h ⊢
  cases hr:round x with
  |none=>rw [hr] at h;cases h
  |some z=>cases z with
   |inl y=>rw [hr] at h;exact EA n h m (by omega)
   |inr e'=>rw [hr] at h;exact h
noncomputable def aI {X E:Type} (round:X→Option (Sum X E)) (x:X):Option E:=
 have:=Classical.propDecidable (∃e n,iter round n x=some e)
 if h:∃e n,iter round n x=some e then some (Classical.choose h) else none
theorem Hk {X E:Type} {round:X→Option (Sum X E)} {x:X} {e:E} {n:Nat} (h:iter round n x=some e):aI round x=some e:=by
 have hex:∃e n,iter round n x=some e:=⟨e,n,h⟩;unfold aI;simp only;rw [dif_pos hex];obtain ⟨m,hm⟩:=Classical.choose_spec hex;have h1:=EA m hm (max m n) (Nat.le_max_left _ _);have h2:=EA n h (max m n) (Nat.le_max_right _ _);rw [h1] at h2;exact h2
theorem yf {X E:Type} {round:X→Option (Sum X E)} {x:X} {e:E} (h:aI round x=some e):∃n,iter round n x=some e:=by
 unfold aI at h;simp only at h
 split at h
 ·rename_i hex;injection h with h;rw [←h];exact Classical.choose_spec hex
 ·cases h
theorem jz {X E:Type} (round:X→Option (Sum X E)) (x:X):aI round x=match round x with | some (.inl y)=>aI round y | some (.inr e)=>some e | none=>none:=by
 cases hr:round x with
 |none=>
  cases h:aI round x with
  |none=>rfl
  |some e=>
   obtain ⟨n,hn⟩:=yf h
   cases n with
   |zero=>cases hn
   |succ n=>unfold iter at hn;rw [hr] at hn;cases hn
 |some z=>cases z with
  |inr e=>exact Hk (n:=1) (by unfold iter;rw [hr])
  |inl y=>
   simp only
   cases h:aI round y with
   |some e=>
    obtain ⟨n,hn⟩:=yf h;exact Hk (n:=n+1) (by unfold iter;rw [hr];exact hn)
   |none=>
    cases h2:aI round x with
    |none=>rfl
    |some e=>
     obtain ⟨n,hn⟩:=yf h2
     cases n with
     |zero=>cases hn
     |succ n=>
      unfold iter at hn;rw [hr] at hn;rw [Hk hn] at h
      cases h
def Dn (st:St) (hp:List (Option AP)):Option (aO (aH hp)):=
 (pU st 0 hp).bind fun q=>bif x4 q.2.1&&apart q.2.1 q.2.2 then some q.1 else none
def pn (hp:List (Option AP)) (x:aO (aH hp)):St:=q7 0 (dV hp x)
def hM:List AP→List (Option AP)→Bool
 | [],_=>true
 |.val _ _::ps,_::hp=>hM ps hp
 |.io _ _::ps,o::hp=>(match o with | none=>true | some (.io _ _)=>true | _=>false)&&hM ps hp
 |.box _ _::ps,o::hp=>(match o with | none=>true | some (.box l _)=>l | some (.val _ _)=>true | _=>false)&&hM ps hp
 |.dO _::_,_::_=>false
 |_::_,[]=>false
theorem yg:(ps:List AP)→(hp:List (Option AP))→hM ps hp=true→∀(i:Nat) (p:AP),ps[i]?=some p→∃o,hp[i]?=some o∧match p with
  |.val _ _=>True
  |.io _ _=>o=none∨∃r d,o=some (.io r d)
  |.box _ _=>o=none∨(∃a b,o=some (.val a b))∨∃b,o=some (.box true b)
  |.dO _=>False
 | [],_,_=>by intro i p h;simp at h
 |p::ps,[],h=>by cases p<;>simp [hM] at h
 |p::ps,o::hp,h=>by
  intro i p' hi;have gG:hM ps hp=true:=by
   cases p with
   |val _ _=>exact h
   |io _=>unfold hM at h;rw [Bool.and_eq_true] at h;exact h.2
   |dO _=>cases h
   |box _ _=>unfold hM at h;rw [Bool.and_eq_true] at h;exact h.2
  cases i with
  |succ i=>exact (yg ps hp gG i p' (by simpa using hi)).imp fun o ho=>⟨by simpa using ho.1,ho.2⟩
  |zero=>
   simp only [List.getElem?_cons_zero,Option.some.injEq] at hi;subst hi;refine ⟨o,rfl,?_⟩
   cases p with
   |val _ _=>trivial
   |dO _=>cases h
   |io _=>
    unfold hM at h;rw [Bool.and_eq_true] at h
    cases o with
    |none=>exact .inl rfl
    |some q=>cases q with
     |io r d=>exact .inr ⟨r,d,rfl⟩
     |val _ _=>cases h.1
     |box _ _=>cases h.1
     |dO _=>cases h.1
   |box _ _=>
    unfold hM at h;rw [Bool.and_eq_true] at h
    cases o with
    |none=>exact .inl rfl
    |some q=>cases q with
     |io r d=>cases h.1
     |dO _=>cases h.1
     |val a b=>exact .inr (.inl ⟨a,b,rfl⟩)
     |box l b=>
      have:l=true:=h.1;subst this;exact .inr (.inr ⟨b,rfl⟩)
end Go.TM
namespace Go.TM
open Go Go.RowKit
theorem UY {st:St} {k:Nat} {rr:RT} {dd:Md} {t:RT} {V:V} {y:aO t} {x:aO (.cons (.sl rr) t)} {u:List Lb} {r:List (Nat×Nat)} (h:FE st k (.io rr dd) t V y=some (x,u,r)):∃A,cE st k 0 1=some A∧eb rr A.xs=some x.1:=by
 cases V with
 |agg _=>cases h
 |pM _=>cases h
 |one cx=>cases cx with
  |ref a j g vw=>cases vw with
   |full=>
    have h:(bif Nat.beq a k&&(Nat.beq j 0&&Nat.beq g 1) then ((cE st a j g).bind fun A=>bif A.own&&A.md.is dd then (eb rr A.xs).map fun xs=>((xs,y),[Lb.sp a j],([]:List (Nat×Nat))) else none) else none)=some (x,u,r):=h;obtain ⟨h1,h2⟩:=bH h;rw [Bool.and_eq_true,Bool.and_eq_true] at h1;have e1:=Nat.eq_of_beq_eq_true h1.1;have e2:=Nat.eq_of_beq_eq_true h1.2.1;have e3:=Nat.eq_of_beq_eq_true h1.2.2;subst e1 e2 e3;obtain ⟨A,hA,h3⟩:=Option.bind_eq_some_iff.1 h2;obtain ⟨_,h4⟩:=bH h3;obtain ⟨xs,Zi,e⟩:=Option.map_eq_some_iff.1 h4;injection e with e _;exact ⟨A,hA,by rw [Zi,←e];rfl⟩
   |«from» _=>cases h
   |sub _ _=>cases h
  |_=>cases h
theorem RX {st:St} {k:Nat} {qs:List OP} {t:RT} {V:V} {y:aO t} {x:aO (oE qs t)} {u:List Lb} {r:List (Nat×Nat)} (h:FE st k (.box true qs) t V y=some (x,u,r)):V=.one (.ptr k 1 0)∧∃cs,fL st k 1=some cs:=by
 cases V with
 |agg _=>cases h
 |pM _=>cases h
 |one cx=>cases cx with
  |ptr b g off=>
   have h:(bif Nat.beq off 0&&(!true||(Nat.beq b k&&Nat.beq g 1)) then ((fL st b g).bind fun cs=>(nj st qs t cs y).map fun q=>(q.1,Lb.box b::dG q.2.1,q.2.2)) else none)=some (x,u,r):=h;obtain ⟨h1,h2⟩:=bH h;simp only [Bool.not_true,Bool.false_or] at h1;rw [Bool.and_eq_true,Bool.and_eq_true] at h1;have e1:=Nat.eq_of_beq_eq_true h1.1;have e2:=Nat.eq_of_beq_eq_true h1.2.1;have e3:=Nat.eq_of_beq_eq_true h1.2.2;subst e1 e2 e3;obtain ⟨cs,Af,_⟩:=Option.bind_eq_some_iff.1 h2;exact ⟨rfl,cs,Af⟩
  |_=>cases h
theorem Aw {w0:World} {mu:Mu} {c:Cz} {st:St} {a:Act} {w:World} (h:Rel w0 mu c st a w):(l:List (Option AP))→(k:Nat)→{x:aO (aH l)}→{u:List Lb}→{r:List (Nat×Nat)}→pU st k l=some (x,u,r)→∀(i:Nat),
  (∀rr dd,l[i]?=some (some (.io rr dd))→∃B A:nd,(dV l x)[i]?=some (some (.io B))∧cE st (k+i) 0 1=some A∧B.r.width=A.r.width∧B.xs.length=A.xs.length)∧
  (∀qs,l[i]?=some (some (.box true qs))→(∃cs,fL st (k+i) 1=some cs)∧dF st (k+i)=.one (.ptr (k+i) 1 0))∧
  (l[i]?=some none→(dV l x)[i]?=some none)∧(∀ag b,l[i]?=some (some (.val ag b))→∃os,(dV l x)[i]?=some (some (.val ag os)))
 | [],k,x,u,r,he=>by intro i;simp
 |none::l,k,x,u,r,he=>by
  intro i
  cases i with
  |zero=>exact ⟨fun _ _ h=>by simp at h,fun _ h=>by simp at h,fun _=>rfl,fun _ _ h=>by simp at h⟩
  |succ i=>
   have:=Aw h l (k+1) he i;rw [show k+1+i=k+(i+1) by omega] at this;exact this
 |some p::l,k,x,u,r,he=>by
  intro i;unfold pU at he
  cases h1:pU st (k+1) l with
  |none=>simp [h1] at he
  |some q1=>
   obtain ⟨y,us,rs⟩:=q1;simp only [h1] at he
   cases h2:FE st k p (aH l) (dF st k) y with
   |none=>simp [h2] at he
   |some q2=>
    obtain ⟨x1,u1,r1⟩:=q2;simp only [h2] at he;injection he with he;injection he with e1 e2;subst e1
    cases i with
    |succ i=>
     have hh:=Aw h l (k+1) h1 i;rw [show k+1+i=k+(i+1) by omega] at hh;have e:(p.av (aH l) x1).2=y:=(Dk h k (h.iX k) h2).1;have e2:(dV (some p::l) x1)[i+1]?=(dV l y)[i]?:=by
      show (dV l (p.av (aH l) x1).2)[i]?=_;rw [e]
     rw [e2];exact hh
    |zero=>
     have e2:(dV (some p::l) x1)[0]?=some (some (p.av (aH l) x1).1):=rfl;rw [e2];simp only [List.getElem?_cons_zero,Option.some.injEq,Nat.add_zero];refine ⟨fun rr dd e => ?_,fun qs e => ?_,(fun e=>by cases e),fun ag b e => ?_⟩
     ·subst e;obtain ⟨A,hA,hc⟩:=UY h2;obtain ⟨er,T3⟩:=cS hc;refine ⟨_,A,rfl,hA,by show rr.width=_;rw [←er],?_⟩;show List.length (x1.1:List (aO rr))=_;rw [T3]
      cases er
      rfl
     ·subst e;obtain ⟨q1,q2⟩:=RX h2;exact ⟨q2,q1⟩
     ·subst e;exact ⟨_,rfl⟩
end Go.TM
namespace Go.TM
open Go Go.RowKit
theorem EB {w0:World} {mu:Mu} {c:Cz} {st:St} {a:Act} {w:World} (h:Rel w0 mu c st a w) {ps:List AP} (hs:oW ps mu) {hp:List (Option AP)} (rf:hM ps hp=true) {x:aO (aH hp)} (hx:Dn st hp=some x):∃c',Rel w0 mu c' (pn hp x) a w:=by
 obtain ⟨q,hq,OM⟩:=Option.bind_eq_some_iff.1 hx;obtain ⟨sP,Lp⟩:=bH OM;injection Lp with Lp;obtain ⟨x0,u,r⟩:=q;subst Lp;rw [Bool.and_eq_true] at sP;obtain ⟨FD,tb,UI,agX,hold⟩:=Av h hp 0 hq;have hat:=Aw h hp 0 hq;have Zg:=rZ _ FD sP.1;have hap:∀p∈r,Lb.sp p.1 p.2∉u:=by
  intro p hp hm;have h1:=List.all_eq_true.1 sP.2 p hp;have h2:=List.all_eq_true.1 h1 _ hm;rw [(Lb.Dd rfl).2 rfl] at h2
  cases h2
 have Ap:=Classical.propDecidable
 let ρ:Lb→Option Lb:=fun l=>match look tb l with | some y=>some y | none=>if l=.out then some .out else none
 have hρt:∀p∈tb,ρ p.1=some p.2:=by
  intro p hp;have:=De tb (by rw [UI];exact Zg) hp;show (match look tb p.1 with | some y=>some y | none=>_)=_;rw [this]
 have Dj:∀ {l y},look tb l=some y→l∈u:=by
  intro l y hl;have:=Bs tb hl;rw [←UI];exact List.mem_map.2 ⟨_,this,rfl⟩
 have hρr:∀p∈r,ρ (.sp p.1 p.2)=none:=by
  intro p hp;show (match look tb (.sp p.1 p.2) with | some y=>some y | none=>if Lb.sp p.1 p.2=.out then some Lb.out else none)=none
  cases hl:look tb (.sp p.1 p.2) with
  |some y=>exact absurd (Dj hl) (hap p hp)
  |none=>simp
 have hρo:ρ .out=some .out:=by
  show (match look tb Lb.out with | some y=>some y | none=>if Lb.out=Lb.out then some Lb.out else none)=_
  cases hl:look tb Lb.out with
  |some y=>have:=FD _ (Dj hl);cases this
  |none=>simp
 have Ew:Fx w0 mu (c.map ρ) w:=by
  refine ⟨fun b l hb => ?_,fun b hb hn => ?_,h.kept,h.old⟩
  ·obtain ⟨k,hk,e⟩:=Cz.map_some hb;obtain ⟨g1,g2⟩:=h.owned b k hk;refine ⟨g1,g2.imp (fun e2 => ?_) id⟩;subst e2;rw [hρo] at e
   cases e;rfl
  ·cases hk:c.own b with
   |none=>exact h.free b hb hk
   |some k=>
    have e:ρ k=none:=(Cz.nM (ρ:=ρ) hk).symm.trans hn;rcases (h.owned b k hk).2 with g | g | g
    ·subst g;rw [hρo] at e;cases e
    ·exact absurd g (Nat.not_le_of_lt hb)
    ·exact .inl g
 refine Rel.QP Ew h.plain (hold ρ hρt hρr) (fun p hpm => ?_);have XZ:=h.gS p hpm;have hlen:∀(i:Nat) (o:Option AP),hp[i]?=some o→i<(dV hp x0).length:=fun i o ho=>by rw [tU];exact (List.getElem?_eq_some_iff.1 ho).1
 rcases hs p hpm with ⟨i,rr,W,n,l,rfl,dd,hpi⟩ | ⟨i,qZ,b,qs,rfl,hpi⟩ | ⟨i,j,W,n,l,qs,rfl,hpi⟩
 ·obtain ⟨o,ho,Xo⟩:=yg ps hp rf i _ hpi;refine ⟨rfl,hlen i o ho,fun av MW=>.inl ?_⟩;rcases Xo with rfl | ⟨r2,d2,rfl⟩
  ·rw [(hat i).2.2.1 ho] at MW;cases MW
  ·obtain ⟨B,A,e1,e2,e3,e4⟩:=(hat i).1 r2 d2 ho;rw [e1] at MW;simp only [Option.some.injEq] at MW;rw [Nat.zero_add] at e2;obtain ⟨f1,f2,f3⟩:=XZ.2 A e2;exact ⟨B,MW.symm,fun _=>⟨e3.trans f1,e4.trans f2,f3⟩⟩
 ·obtain ⟨o,ho,Xo⟩:=yg ps hp rf i _ hpi;refine ⟨rfl,hlen i o ho,fun os xp => ?_⟩;rcases Xo with rfl | ⟨a1,b1,rfl⟩ | ⟨b1,rfl⟩
  ·rw [(hat i).2.2.1 ho] at xp;cases xp
  ·obtain ⟨Em,e⟩:=(hat i).2.2.2 a1 b1 ho;rw [e] at xp;cases xp
  ·obtain ⟨⟨cs,Af⟩,hv⟩:=(hat i).2.1 b1 ho;rw [Nat.zero_add] at Af hv;have xu:=h.iX i;rw [hv] at xu;rw [xu.2.2 cs Af,XZ.2 cs Af]
 ·obtain ⟨o,ho,Xo⟩:=yg ps hp rf i _ hpi;exact Xo.elim
def EC (id:Nat) (hp e0 e1:List (Option AP)):Ex→St→Option (Sum (aO (aH hp)) (Sum (aO (aH e0)) (aO (aH e1))))
 |.normal,st=>(Dn st hp).map .inl
 |.exit m,st=>bif Nat.beq m id then (Dn st e0).map fun y=>.inr (.inl y) else none
 |.ret,st=>(Dn st e1).map fun y=>.inr (.inr y)
noncomputable def ED {R:Type} (hp e0 e1:List (Option AP)) (round:aO (aH hp)→Option (Sum (aO (aH hp)) (Sum (aO (aH e0)) (aO (aH e1))))) (st:St) (k:Ex→St→Option R):Option R:=
 (Dn st hp).bind fun x=>(aI round x).bind fun z=>match z with
  |.inl y=>k .normal (pn e0 y)
  |.inr y=>k .ret (pn e1 y)
theorem X0 {R:Type} {P:Program} {T:n9} {S:mI} {D:mV} {n id:Nat} {w0:World} {mu:Mu} {ps:List AP} {hp e0 e1:List (Option AP)} {b:Code} {r:R} {L:pA R} {Zl:Nat→Array Oper→Prop}
  {L':pA (Sum (aO (aH hp)) (Sum (aO (aH e0)) (aO (aH e1))))} {round:aO (aH hp)→Option (Sum (aO (aH hp)) (Sum (aO (aH e0)) (aO (aH e1))))}
  (IZ:wz P T S w0 mu n) (hD:uH (Sum (aO (aH hp)) (Sum (aO (aH e0)) (aO (aH e1)))) P T S D w0 mu n Zl) (hs:oW ps mu) (hf:(hM ps hp&&(hM ps e0&&hM ps e1))=true) (wm:hJ n b=true) (hD2:fV Zl b)
  (Hc:∀z,fF (pf P w0 mu n L' z) b) (OZ:∀x,gF T S D L' b (pn hp x) (EC id hp e0 e1)=round x) (hL:∀st k,L id b st k=ED hp e0 e1 round st k):pf P w0 mu n L r id b:=by
 intro k Q hk c st a w h hn hv;rw [Bool.and_eq_true,Bool.and_eq_true] at hf;rw [hL] at hv;unfold ED at hv;obtain ⟨x,hx,hv⟩:=Option.bind_eq_some_iff.1 hv;obtain ⟨z,hz,hv⟩:=Option.bind_eq_some_iff.1 hv;obtain ⟨c1,h1⟩:=EB h hs hf.1 hx;obtain ⟨m,hm⟩:=yf hz;refine wp_block ?_;refine wp_loop_ghost (fun m a w=>∃x c,Rel w0 mu c (pn hp x) a w∧a.tmps.size=n∧iter round m x=some z) m ⟨x,c1,h1,hn,hm⟩ ?_
 rintro m a w ⟨x,c,hR,hn,hi⟩
 cases m with
 |zero=>cases hi
 |succ m=>
  unfold iter at hi
  cases hr:round x with
  |none=>rw [hr] at hi;cases hi
  |some y=>
   rw [hr] at hi;refine Da IZ hD b wm (Hc y) hD2 (fun {e} {c2} {lK} {a2} {w2} g1 g2 g3 => ?_) hR hn ((OZ x).trans hr)
   cases e with
   |normal=>
    obtain ⟨x2,q1,rfl⟩:=Option.map_eq_some_iff.1 g3;obtain ⟨c3,g4⟩:=EB g1 hs hf.1 q1;exact ⟨m,Nat.lt_succ_self m,x2,c3,g4,g2,hi⟩
   |exit m'=>
    obtain ⟨wi,g5⟩:=bH g3;have wi:=Nat.eq_of_beq_eq_true wi;subst wi;obtain ⟨x2,q1,rfl⟩:=Option.map_eq_some_iff.1 g5;injection hi with hi;subst hi;obtain ⟨c3,g4⟩:=EB g1 hs hf.2.1 q1;show (if m'=m' then Q .normal a2 w2 else Q (.exit m') a2 w2);rw [if_pos rfl];exact hk g4 g2 hv
   |ret=>
    obtain ⟨x2,q1,rfl⟩:=Option.map_eq_some_iff.1 g3;injection hi with hi;subst hi;obtain ⟨c3,g4⟩:=EB g1 hs hf.2.2 q1;exact hk g4 g2 hv
end Go.TM
namespace Go.TM
open Go Go.RowKit
section
variable {P:Program} {ops:Array Oper} {Q:Exit→Act→World→Prop} {md:Region.Mode} {ds:List Nat}
def wY (md:Region.Mode) (ops:Array Oper) (i:Nat):Nat→Nat→Bool
 |0,_=>false
 |fuel+1,d=>match ops[d]? with
  |some o=>o.after.any fun e=>Region.binds md e&&(e.on==i||wY md ops i fuel e.on)
  |none=>false
def wZ (md:Region.Mode) (ops:Array Oper) (bB:Array Bool):Prop:=
 ∀j oj,ops[j]?=some oj→bB.getD j false=true→∀e∈oj.after,Region.binds md e=true→bB.getD e.on false=true
theorem wZ.set {bB:Array Bool} {i:Nat} (h:wZ md ops bB) (hi:i∈Region.ready md ops bB):wZ md ops (bB.setIfInBounds i true):=by
 obtain ⟨_,oi,QT,ri⟩:=mem_ready.1 hi;intro j oj hj hl e he hb
 by_cases X2:i=j
 ·subst X2;have:oj=oi:=Option.some.inj (hj.symm.trans QT);subst this;exact getD_set_true (ri e he hb)
 ·rw [getD_set_ne false X2] at hl;exact getD_set_true (h j oj hj hl e he hb)
theorem wZ.none (md:Region.Mode) (ops:Array Oper) (n:Nat):wZ md ops (Array.replicate n false):=by
 intro j oj _ hl;simp [Array.getD_eq_getD_getElem?,Array.getElem?_replicate] at hl
 split at hl<;>simp at hl
theorem Dp {bB:Array Bool} {i:Nat} (hc:wZ md ops bB):∀(fuel d:Nat),wY md ops i fuel d=true→bB.getD d false=true→bB.getD i false=true
 |0,_,h,_=>by simp [wY] at h
 |fuel+1,d,h,hl=>by
  unfold wY at h
  cases ho:ops[d]? with
  |none=>rw [ho] at h;simp at h
  |some o=>
   rw [ho] at h;obtain ⟨e,he,h1⟩:=Array.any_eq_true'.1 h;simp only [Bool.and_eq_true,Bool.or_eq_true,beq_iff_eq] at h1;have hle:=hc d o ho hl e he h1.1;rcases h1.2 with h2 | h2
   ·rw [←h2];exact hle
   ·exact Dp hc fuel e.on h2 hle
theorem Gb {bB:Array Bool} {i d fuel:Nat} (hc:wZ md ops bB) (hr:wY md ops i fuel d=true) (Mt:bB.getD i true=false):d∉Region.ready md ops bB:=by
 intro hd;obtain ⟨_,o,ho,ri⟩:=mem_ready.1 hd;have hi:bB.getD i false=true:=by
  cases fuel with
  |zero=>simp [wY] at hr
  |succ n=>
   unfold wY at hr;rw [ho] at hr;obtain ⟨e,he,h1⟩:=Array.any_eq_true'.1 hr;simp only [Bool.and_eq_true,Bool.or_eq_true,beq_iff_eq] at h1;have hle:=ri e he h1.1;rcases h1.2 with h2 | h2
   ·rw [←h2];exact hle
   ·exact Dp hc n e.on h2 hle
 rcases Nat.lt_or_ge i bB.size with h' | h'
 ·simp [h'] at Mt hi;rw [Mt] at hi
  cases hi
 ·simp [Array.getElem?_eq_none h'] at Mt
def rk (P:Program) (md:Region.Mode) (ops:Array Oper) (Q:Exit→Act→World→Prop) (ds:List Nat):Nat→Array Bool→Act→World→Prop
 |0,bB,a,w=>Region.ready md ops bB=[]∧Q .normal a w
 |fuel+1,bB,a,w=>
  (Region.ready md ops bB=[]→Q .normal a w)∧
  ∀i∈Region.ready md ops bB,wpOp P ops Q i (fun a' w'=>(i∉ds→kW w w')∧rk P md ops Q ds fuel (bB.setIfInBounds i true) a' w') a w
theorem B3:∀(fuel:Nat) (bB:Array Bool) (a:Act) (w:World),rk P md ops Q ds fuel bB a w→wpAny P md ops Q fuel bB a w
 |0,_,_,_,h=>h
 |fuel+1,_,_,_,h=>⟨h.1,fun i hi=>wpOp_mono (fun a' w' h'=>B3 fuel _ a' w' h'.2) (h.2 i hi)⟩
theorem Ls {i:Nat} {oi:Oper} {v:Value} {w0:World} (hi:ops[i]?=some oi) (M8:∀(j:Nat) (o:Oper) cs b,ops[j]?=some o→o.op≠.select cs b)
  (hQ:∀c a w,Q (.panic c) (a.put oi.dst v) w→Q (.panic c) a w) (n:Nat) :
  ∀(fuel:Nat) (bB:Array Bool) (a:Act) (w:World),
   (∀j oj,ops[j]?=some oj→j≠i→bB.getD j true=false→(∀e∈oj.after,Region.binds md e=true→e.on≠i)→oi.apart ops oj=true)→
   wZ md ops bB→(∀d∈ds,bB.getD d true=false→wY md ops i n d=true)→
   i∈Region.ready md ops bB→YieldsIf P ops (kW w0) oi v a→kW w0 w→
   rk P md ops Q ds fuel (bB.setIfInBounds i true) (a.put oi.dst v) w→rk P md ops Q ds (fuel+1) bB a w:=by
 intro fuel
 induction fuel with
 |zero=>
  intro bB a w _ _ _ hr hy hS H;refine ⟨fun h=>(by rw [h] at hr;cases hr),fun j hj => ?_⟩
  by_cases Lt:j=i
  ·subst Lt;exact hy.wpOp hi hS ⟨fun _=>kW.refl w,H⟩
  ·have:=ready_mono hj Lt;rw [H.1] at this
   cases this
 |succ fuel ih=>
  intro bB a w GZ hc hd hr hy hS H;refine ⟨fun h=>(by rw [h] at hr;cases hr),fun j hj => ?_⟩
  by_cases Lt:j=i
  ·subst Lt;exact hy.wpOp hi hS ⟨fun _=>kW.refl w,H⟩
  ·have h1:=H.2 j (ready_mono hj Lt);obtain ⟨O0,oj,hoj,ri⟩:=mem_ready.1 hj;have RY:=(mem_ready.1 hr).1;have aav:∀e∈oj.after,Region.binds md e=true→e.on≠i:=fun e he hb heq=>by
    have h1:=ri e he hb;rw [heq] at h1;rcases Nat.lt_or_ge i bB.size with h' | h'
    ·simp [h'] at RY h1;rw [RY] at h1;cases h1
    ·simp [Array.getElem?_eq_none h'] at h1
   have hjd:j∉ds:=fun hm=>Gb hc (hd j hm O0) RY hj
   have h2:=wpOp_putIf hoj (GZ j oj hoj Lt O0 aav) (fun cs b=>M8 i oi cs b hi) (fun cs b=>M8 j oj cs b hoj) hQ hy h1;have O1:∀k ok,ops[k]?=some ok→k≠i→(bB.setIfInBounds j true).getD k true=false→
     (∀e∈ok.after,Region.binds md e=true→e.on≠i)→oi.apart ops ok=true:=fun k ok hk hki Mt Xp=>by
    refine GZ k ok hk hki ?_ Xp
    by_cases M9:j=k
    ·subst M9;exact O0
    ·rw [getD_set_ne true M9] at Mt;exact Mt
   have T2:∀d∈ds,(bB.setIfInBounds j true).getD d true=false→wY md ops i n d=true:=fun d hm Mt=>by
    refine hd d hm ?_
    by_cases M9:j=d
    ·subst M9;exact O0
    ·rw [getD_set_ne true M9] at Mt;exact Mt
   refine wpOp_mono (fun a' w' h3=>⟨h3.2.1,ih (bB.setIfInBounds j true) a' w' O1 (hc.set hj) T2 (ready_mono hr (Ne.symm Lt)) h3.1 (hS.trans (h3.2.1 hjd)) ?_⟩) h2;rw [Array.setIfInBounds_comm _ _ Lt];exact h3.2.2
theorem O2 {i:Nat} {oi:Oper} {v:Value} (hi:ops[i]?=some oi) (M8:∀(j:Nat) (o:Oper) cs b,ops[j]?=some o→o.op≠.select cs b)
  (hQ:∀c a w,Q (.panic c) (a.put oi.dst v) w→Q (.panic c) a w) :
  ∀(fuel:Nat) (bB:Array Bool) (a:Act) (w:World),
   (∀j oj,ops[j]?=some oj→j≠i→bB.getD j true=false→(∀e∈oj.after,Region.binds md e=true→e.on≠i)→oi.apart ops oj=true)→
   i∈Region.ready md ops bB→Yields P ops oi v a→
   rk P md ops Q ds fuel (bB.setIfInBounds i true) (a.put oi.dst v) w→rk P md ops Q ds (fuel+1) bB a w:=by
 intro fuel
 induction fuel with
 |zero=>
  intro bB a w _ hr hy H;refine ⟨fun h=>(by rw [h] at hr;cases hr),fun j hj => ?_⟩
  by_cases Lt:j=i
  ·subst Lt;exact (hy.yieldsIf (S:=fun _=>True)).wpOp hi trivial ⟨fun _=>kW.refl w,H⟩
  ·have:=ready_mono hj Lt;rw [H.1] at this
   cases this
 |succ fuel ih=>
  intro bB a w GZ hr hy H;refine ⟨fun h=>(by rw [h] at hr;cases hr),fun j hj => ?_⟩
  by_cases Lt:j=i
  ·subst Lt;exact (hy.yieldsIf (S:=fun _=>True)).wpOp hi trivial ⟨fun _=>kW.refl w,H⟩
  ·have h1:=H.2 j (ready_mono hj Lt);obtain ⟨O0,oj,hoj,ri⟩:=mem_ready.1 hj;have RY:=(mem_ready.1 hr).1;have aav:∀e∈oj.after,Region.binds md e=true→e.on≠i:=fun e he hb heq=>by
    have h1:=ri e he hb;rw [heq] at h1;rcases Nat.lt_or_ge i bB.size with h' | h'
    ·simp [h'] at RY h1;rw [RY] at h1;cases h1
    ·simp [Array.getElem?_eq_none h'] at h1
   have h2:=wpOp_put hoj (GZ j oj hoj Lt O0 aav) (fun cs b=>M8 i oi cs b hi) (fun cs b=>M8 j oj cs b hoj) hQ hy h1;have O1:∀k ok,ops[k]?=some ok→k≠i→(bB.setIfInBounds j true).getD k true=false→
     (∀e∈ok.after,Region.binds md e=true→e.on≠i)→oi.apart ops ok=true:=fun k ok hk hki Mt Xp=>by
    refine GZ k ok hk hki ?_ Xp
    by_cases M9:j=k
    ·subst M9;exact O0
    ·rw [getD_set_ne true M9] at Mt;exact Mt
   refine wpOp_mono (fun a' w' h3=>⟨h3.2.1,ih (bB.setIfInBounds j true) a' w' O1 (ready_mono hr (Ne.symm Lt)) h3.1 ?_⟩) h2;rw [Array.setIfInBounds_comm _ _ Lt];exact h3.2.2
end
end Go.TM
namespace Go.TM
open Go Go.RowKit
def Cf (i:Nat):List Nat→Bool
 | []=>false
 |x::l=>Nat.beq x i||Cf i l
def Zm (ops:List Oper) (ls:List Nat) (j:Nat):Bool:=
 match nth ops j with
 |some o => !Cf j ls&&o.after.toList.all fun e => !Region.binds .any e||Cf e.on ls
 |none=>false
def QU (ops:Array Oper) (Na:List Oper) (n:Nat) (ls:List Nat) (i:Nat):Bool:=
 match nth Na i with
 |some oi=>(List.range n).all fun j=>Nat.beq j i||(Cf j ls||match nth Na j with
  |some oj=>(oj.after.toList.any fun e=>Region.binds .any e&&Nat.beq e.on i)||oi.apart ops oj
  |none=>true)
 |none=>false
def Lu (Na:List Oper) (n:Nat) (ls:List Nat) (i:Nat):Bool:=(List.range n).all fun j=>Nat.beq j i || !Zm Na ls j
def Pl.dV:Pl→List Nat
 |.nil=>[]
 |.op i _ _=>[i]
 |.alt p q=>p.dV++q.dV
def UZ (Na:List Oper) (n:Nat) (ls hs:List Nat):Bool:=(List.range n).all fun j => !Zm Na ls j||Cf j hs
def nk (ops:Array Oper) (Na:List Oper) (n:Nat) (ds:List Nat):Bool→List Nat→Pl→Bool
 |al,ls,.nil => !al&&(List.range n).all fun j => !Zm Na ls j
 |al,ls,.op i kd r=>Zm Na ls i&&((match kd with
   |.any => !al&&QU ops Na n ls i
   |.take => !al&&(QU ops Na n ls i&&ds.all fun d=>Cf d ls||wY .any ops i n d)
   |.one=>al||Lu Na n ls i
   |.last=>(al||Lu Na n ls i)&&Cf i ds)&&nk ops Na n ds false (i::ls) r)
 |al,ls,.alt p q=>(al||UZ Na n ls (p.dV++q.dV))&&(nk ops Na n ds true ls p&&nk ops Na n ds true ls q)
def J1:Pl→List Nat
 |.nil=>[]
 |.op i .last l=>i::J1 l
 |.op _ _ l=>J1 l
 |.alt p q=>J1 p++J1 q
def Pl.depth:Pl→Nat
 |.nil=>0
 |.op _ _ l=>l.depth+1
 |.alt p q=>Nat.max p.depth q.depth
def Hl (ops:Array Oper) (l:Pl):Bool:=
 Region.noSelect ops&&(Nat.ble l.depth ops.size&&nk ops ops.toList ops.size (J1 l) false [] l)
structure Xq (n:Nat) (ls:List Nat) (bB:Array Bool):Prop where
 size:bB.size=n
 gf:∀j,bB.getD j false=Cf j ls
 gt:∀j,bB.getD j true=(Cf j ls||decide (n≤j))
theorem Xq.push {n:Nat} {ls:List Nat} {bB:Array Bool} (h:Xq n ls bB) {i:Nat} (hi:i<n):Xq n (i::ls) (bB.setIfInBounds i true) where
 size:=by simp [h.size]
 gf:=fun j=>by
  unfold Cf
  by_cases e:i=j
  ·subst e;have:Nat.beq i i=true:=Nat.beq_refl i;rw [this];simp [h.size,hi]
  ·rw [getD_set_ne false e,h.gf j];have:Nat.beq i j=false:=by
    cases hq:Nat.beq i j
    ·rfl
    ·exact absurd (Nat.eq_of_beq_eq_true hq) e
   simp [this]
 gt:=fun j=>by
  unfold Cf
  by_cases e:i=j
  ·subst e;simp [h.size,hi]
  ·rw [getD_set_ne true e,h.gt j];have:Nat.beq i j=false:=by
    cases hq:Nat.beq i j
    ·rfl
    ·exact absurd (Nat.eq_of_beq_eq_true hq) e
   simp [this]
theorem Xq.none (n:Nat):Xq n [] (Array.replicate n false) where
 size:=by simp
 gf:=fun j=>by
  simp only [Array.getD_eq_getD_getElem?,Array.getElem?_replicate,Cf]
  split<;>rfl
 gt:=fun j=>by
  simp only [Array.getD_eq_getD_getElem?,Array.getElem?_replicate,Cf]
  split
  ·rename_i h;simp;omega
  ·rename_i h;simp;omega
theorem Bw {ops:Array Oper} {ls:List Nat} {bB:Array Bool} (h:Xq ops.size ls bB) (j:Nat):Zm ops.toList ls j=true↔j∈Region.ready .any ops bB:=by
 rw [mem_ready];unfold Zm;rw [ng,Array.getElem?_toList,h.gt j]
 cases ho:ops[j]? with
 |none=>simp
 |some o=>
  have dS:j<ops.size:=(Array.getElem?_eq_some_iff.1 ho).1;have hn:decide (ops.size≤j)=false:=by simp;omega
  simp only [hn,Bool.or_false,Bool.and_eq_true,Bool.not_eq_true',List.all_eq_true,Array.mem_toList_iff,Bool.or_eq_true,Option.some.injEq,exists_eq_left',h.gf]
  constructor
  ·rintro ⟨h0,h1⟩
   exact ⟨h0,fun e he hb=>(h1 e he).resolve_left (by simp [hb])⟩
  ·rintro ⟨h0,h1⟩
   refine ⟨h0,fun e he => ?_⟩
   cases hb:Region.binds .any e
   ·exact .inl rfl
   ·exact .inr (h1 e he hb)
theorem RZ {i j:Nat} (h:i≠j):Nat.beq i j=false:=by
 cases hq:Nat.beq i j
 ·rfl
 ·exact absurd (Nat.eq_of_beq_eq_true hq) h
theorem Hm {ops:Array Oper} {ls:List Nat} {bB:Array Bool} (h:Xq ops.size ls bB) {i:Nat} {oi:Oper} (hi:ops[i]?=some oi) (hf:QU ops ops.toList ops.size ls i=true) :
  ∀j oj,ops[j]?=some oj→j≠i→bB.getD j true=false→(∀e∈oj.after,Region.binds .any e=true→e.on≠i)→oi.apart ops oj=true:=by
 intro j oj hj Lt Mt Xp;unfold QU at hf;rw [ng,Array.getElem?_toList,hi] at hf;have dS:j<ops.size:=(Array.getElem?_eq_some_iff.1 hj).1;have h1:=List.all_eq_true.1 hf j (List.mem_range.2 dS);rw [ng,Array.getElem?_toList,hj,RZ Lt,Bool.false_or] at h1;rw [h.gt j,Bool.or_eq_false_iff] at Mt;rw [Mt.1,Bool.false_or,Bool.or_eq_true] at h1;rcases h1 with h1 | h1
 ·obtain ⟨e,he,h2⟩:=List.any_eq_true.1 h1;rw [Bool.and_eq_true] at h2;exact absurd (Nat.eq_of_beq_eq_true h2.2) (Xp e (Array.mem_toList_iff.1 he) h2.1)
 ·exact h1
theorem Nb {ops:Array Oper} {ls:List Nat} {bB:Array Bool} (h:Xq ops.size ls bB) {i:Nat} (hf:Lu ops.toList ops.size ls i=true):∀j∈Region.ready .any ops bB,j=i:=by
 intro j hj;have dS:j<ops.size:=by
  obtain ⟨_,o,ho,_⟩:=mem_ready.1 hj;exact (Array.getElem?_eq_some_iff.1 ho).1
 have h1:=List.all_eq_true.1 hf j (List.mem_range.2 dS);rw [(Bw h j).2 hj,Bool.not_true,Bool.or_false] at h1;exact Nat.eq_of_beq_eq_true h1
theorem Dq {P:Program} {T:n9} {S:mI} {w0:World} {mu:Mu} {c:Cz} {st bN:St} {a:Act} {w:World} {ops:Array Oper} {o:Oper} {C:World→Prop} (h:Rel w0 mu c st a w)
  (hd:∀k,o.dst=some k→k<a.tmps.size) (hv:(Eo T S ops.toList st o).val=some bN)
  (base:(QA T S st o).val=some bN→∃v,(∀w':World,C w'→(execOp a.eval o).run P w'=.ok (.value v) w')∧Rel w0 mu c bN (a.put o.dst v) w) :
  ∃v,YieldsIf P ops C o v a∧Rel w0 mu c bN (a.put o.dst v) w:=by
 unfold Eo at hv;unfold YieldsIf Region.wanted
 cases hg:o.guard with
 |none=>
  simp only [hg] at hv ⊢;obtain ⟨v,h1,h2⟩:=base hv;exact ⟨v,.inl ⟨trivial,h1⟩,h2⟩
 |some p=>
  obtain ⟨j,want⟩:=p;simp only [hg] at hv ⊢
  cases hj:(nth ops.toList j).bind (·.dst) with
  |none=>simp [hj,N.val] at hv
  |some d=>
   simp only [hj] at hv
   split at hv
   ·rename_i b Uz;obtain ⟨h1,h2⟩:=Bo h Uz;rw [G2 (ops:=ops) hj h1 h2];have yes:(QA T S (TM.bP st (some d) (.one (.bool b))) o).val=some bN→∃v,(∀w':World,C w'→(execOp a.eval o).run P w'=.ok (.value v) w')∧Rel w0 mu c bN (a.put o.dst v) w:=fun e=>base (by rwa [Bp st d Uz] at e)
    have no:(N.done (TM.bP (TM.bP st (some d) (.one (.bool b))) o.dst (.pM []))).val=some bN→Rel w0 mu c bN (a.put o.dst undef) w:=by
     intro e;simp only [N.val,Option.some.injEq] at e;subst e;rw [Bp st d Uz];exact h.bP (Bq _ _ _) hd
    rcases xr hv with ⟨hb,GQ⟩ | ⟨hb,GQ⟩
    ·subst hb
     cases want
     ·exact ⟨undef,.inr ⟨rfl,rfl⟩,no GQ⟩
     ·obtain ⟨v,h3,h4⟩:=yes GQ;exact ⟨v,.inl ⟨rfl,h3⟩,h4⟩
    ·subst hb
     cases want
     ·obtain ⟨v,h3,h4⟩:=yes GQ;exact ⟨v,.inl ⟨rfl,h3⟩,h4⟩
     ·exact ⟨undef,.inr ⟨rfl,rfl⟩,no GQ⟩
   ·rename_i Uz;simp only [N.val,Option.some.injEq] at hv;subst hv;rw [B0 (ops:=ops) hj (G3 h Uz)];exact ⟨undef,.inr ⟨by cases want<;>rfl,rfl⟩,h.bP (Bq _ _ _) hd⟩
   ·simp [N.val] at hv
theorem X3 {P:Program} {T:n9} (hT:jx P T) {S:mI} {w0:World} {mu:Mu} {c:Cz} {st:St} {a:Act} {w:World} (h:Rel w0 mu c st a w) {o:Oper} (hk:kindOk S st o .take=true)
  {bN:St} (hv:(QA T S st o).val=some bN) (hd:∀k,o.dst=some k→k<a.tmps.size):∃v,(∀w':World,kW w w'→(execOp a.eval o).run P w'=.ok (.value v) w')∧Rel w0 mu c bN (a.put o.dst v) w:=by
 unfold kindOk at hk;unfold QA at hv
 cases ho:o.op with
 |load t x=>
  simp only [ho] at hv;obtain ⟨v,h1,h2⟩:=Mw hT h (cP h x) hv hd;exact ⟨v,fun w' hw=>by simp only [execOp,ho];exact u7 (h1 w' hw),h2⟩
 |_=>simp [ho] at hk
theorem Dr {i:Nat}:(l:List Nat)→Cf i l=true→i∈l
 | [],h=>by cases h
 |x::l,h=>by
  unfold Cf at h;rw [Bool.or_eq_true] at h;rcases h with h | h
  ·rw [Nat.eq_of_beq_eq_true h];exact List.mem_cons_self
  ·exact List.mem_cons_of_mem _ (Dr l h)
theorem Ax {R:Type} {P:Program} {T:n9} (hT:jx P T) (hE:zV P T) {S:mI} {w0:World} {mu:Mu} {n:Nat} (IZ:wz P T S w0 mu n) {ops:Array Oper} {ds:List Nat} {Q:Exit→Act→World→Prop} (hQ:∀c a w,¬Q (.panic c) a w)
  {k:St→Option R} {r:R} (hk:Next w0 mu n r k (Q .normal)) (Zb:Region.noSelect ops=true) (wm:Ca n ops.toList=true) :
  (l:Pl)→(ls:List Nat)→(bB:Array Bool)→(fuel:Nat)→{c:Cz}→{st:St}→{a:Act}→{w:World}→Xq ops.size ls bB→wZ .any ops bB→l.depth≤fuel→
   Rel w0 mu c st a w→a.tmps.size=n→wS T S ops.toList l st k=some r→
   (nk ops ops.toList ops.size ds false ls l=true→rk P .any ops Q ds fuel bB a w)∧
   (nk ops ops.toList ops.size ds true ls l=true→∃Nc,fuel=Nc+1∧∀i∈l.dV,i∈Region.ready .any ops bB∧wpOp P ops Q i (fun a' w'=>(i∉ds→kW w w')∧rk P .any ops Q ds Nc (bB.setIfInBounds i true) a' w') a w)
 |.nil,ls,bB,fuel,c,st,a,w,hl,_,_,h,hn,hv=>by
  refine ⟨fun hb => ?_,fun hb=>by simp [nk] at hb⟩;unfold nk at hb;rw [Bool.and_eq_true] at hb;have hr:Region.ready .any ops bB=[]:=by
   refine List.eq_nil_iff_forall_not_mem.2 fun j hj => ?_
   obtain ⟨_,o,ho,_⟩:=mem_ready.1 hj;have dS:j<ops.size:=(Array.getElem?_eq_some_iff.1 ho).1;have h1:=List.all_eq_true.1 hb.2 j (List.mem_range.2 dS);rw [(Bw hl j).2 hj] at h1
   cases h1
  have hq:=hk h hn hv
  cases fuel with
  |zero=>exact ⟨hr,hq⟩
  |succ fuel=>exact ⟨fun _=>hq,fun i hi=>by rw [hr] at hi;cases hi⟩
 |.op i kd l,ls,bB,0,c,st,a,w,hl,_,hf,h,hn,hv=>absurd hf (by simp [Pl.depth])
 |.op i kd l,ls,bB,fuel+1,c,st,a,w,hl,hs,hf,h,hn,hv=>by
  have hf:l.depth≤fuel:=Nat.le_of_succ_le_succ hf;have first:∀al,nk ops ops.toList ops.size ds al ls (.op i kd l)=true→Zm ops.toList ls i=true∧nk ops ops.toList ops.size ds false (i::ls) l=true:=by
   intro al hb;unfold nk at hb;rw [Bool.and_eq_true,Bool.and_eq_true] at hb;exact ⟨hb.1,hb.2.2⟩
  have step:Zm ops.toList ls i=true→nk ops ops.toList ops.size ds false (i::ls) l=true→(kd=.one∨i∈ds)→wpOp P ops Q i (fun a' w'=>(i∉ds→kW w w')∧rk P .any ops Q ds fuel (bB.setIfInBounds i true) a' w') a w:=by
   intro hup gG hds;have Zn:=(Bw hl i).1 hup;obtain ⟨_,o,QT,_⟩:=mem_ready.1 Zn;have dS:i<ops.size:=(Array.getElem?_eq_some_iff.1 QT).1;unfold wS at hv;rw [ng,Array.getElem?_toList,QT] at hv;obtain ⟨Xr,hv⟩:=bH hv;rw [N.fold_eq] at hv;obtain ⟨bN,h1,h2⟩:=Option.bind_eq_some_iff.1 hv;have T2:∀k,o.dst=some k→k<a.tmps.size:=fun k hk=>by rw [hn];exact Es wm (by rw [Array.mem_toList_iff];exact Array.mem_of_getElem? QT) k hk
   have next:∀ {c':Cz} {a':Act} {w':World},Rel w0 mu c' bN a' w'→a'.tmps.size=n→rk P .any ops Q ds fuel (bB.setIfInBounds i true) a' w':=fun hr XT=>
    (Ax hT hE IZ hQ hk Zb wm l (i::ls) _ fuel (hl.push dS) (hs.set Zn) hf hr XT h2).1 gG
   have hko:kd=.one→kindOk S st o .one=true:=fun e=>by rw [e] at Xr;exact Xr
   unfold wpOp;rw [QT];rcases MM IZ h hn (fun k hk=>by rw [←hn];exact T2 k hk) h1 with ⟨hw,wT⟩ | ⟨hw,Di⟩
   ·simp only [hw,if_true];refine .inl (Oper.wp_mono (fun a' w' ⟨⟨c',hr,oU⟩,XR⟩=>⟨fun Zg => ?_,next hr (oU.trans hn)⟩) (wT Q));rcases hds with e | e
    ·exact XR (hko e)
    ·exact absurd e Zg
   ·simp only [hw,Bool.false_eq_true,if_false];exact ⟨fun _=>kW.refl w,next Di ((u6 _ _ _).trans hn)⟩
  refine ⟨fun hb => ?_,fun hb=>⟨fuel,rfl,fun j hj => ?_⟩⟩
  ·obtain ⟨hup,gG⟩:=first _ hb;have Zn:=(Bw hl i).1 hup;unfold nk at hb;rw [Bool.and_eq_true,Bool.and_eq_true] at hb;obtain ⟨_,QV,_⟩:=hb;have alone:Lu ops.toList ops.size ls i=true→(kd=.one∨i∈ds)→rk P .any ops Q ds (fuel+1) bB a w:=by
    intro hal hds;refine ⟨fun e=>absurd Zn (by rw [e];exact List.not_mem_nil),fun j hj => ?_⟩;have:=Nb hl hal j hj;subst this;exact step hup gG hds
   obtain ⟨_,o,QT,_⟩:=mem_ready.1 Zn;have dS:i<ops.size:=(Array.getElem?_eq_some_iff.1 QT).1;unfold wS at hv;rw [ng,Array.getElem?_toList,QT] at hv;obtain ⟨Xr,hv⟩:=bH hv;rw [N.fold_eq] at hv;obtain ⟨bN,h1,h2⟩:=Option.bind_eq_some_iff.1 hv;have T2:∀k,o.dst=some k→k<a.tmps.size:=fun k hk=>by rw [hn];exact Es wm (by rw [Array.mem_toList_iff];exact Array.mem_of_getElem? QT) k hk
   have next:∀ {c':Cz} {a':Act} {w':World},Rel w0 mu c' bN a' w'→a'.tmps.size=n→rk P .any ops Q ds fuel (bB.setIfInBounds i true) a' w':=fun hr XT=>
    (Ax hT hE IZ hQ hk Zb wm l (i::ls) _ fuel (hl.push dS) (hs.set Zn) hf hr XT h2).1 gG
   have M8:=Region.noSelect_spec Zb
   cases kd with
   |one=>exact alone (by simpa using QV) (.inl rfl)
   |last=>
    simp only [Bool.false_or,Bool.and_eq_true] at QV;exact alone QV.1 (.inr (Dr ds QV.2))
   |any=>
    simp only [Bool.not_false,Bool.true_and] at QV;obtain ⟨v,hy,Di⟩:=Dq (P:=P) (ops:=ops) (C:=fun _=>True) h T2 h1 (fun e=>by
     obtain ⟨v,g1,g2⟩:=QG hT hE h Xr e T2;exact ⟨v,fun w' _=>g1 w',g2⟩)
    refine O2 QT M8 (fun c a w hq=>absurd hq (hQ _ _ _)) fuel bB a w (Hm hl QT QV) Zn ?_ (next Di ((u6 _ _ _).trans hn));rcases hy with ⟨g1,g2⟩ | g
    ·exact .inl ⟨g1,fun w'=>g2 w' trivial⟩
    ·exact .inr g
   |take=>
    simp only [Bool.not_false,Bool.true_and,Bool.and_eq_true] at QV;obtain ⟨v,hy,Di⟩:=Dq (P:=P) (ops:=ops) (C:=kW w) h T2 h1 (fun e=>X3 hT h Xr e T2);refine Ls QT M8 (fun c a w hq=>absurd hq (hQ _ _ _)) ops.size fuel bB a w (Hm hl QT QV.1) hs (fun d hm Mt => ?_) Zn hy (kW.refl w) (next Di ((u6 _ _ _).trans hn));have h3:=List.all_eq_true.1 QV.2 d hm;rw [hl.gt d,Bool.or_eq_false_iff] at Mt;rw [Mt.1,Bool.false_or] at h3;exact h3
  ·have hj:j=i:=by simpa [Pl.dV] using hj
   subst hj;obtain ⟨hup,gG⟩:=first _ hb;refine ⟨(Bw hl j).1 hup,step hup gG ?_⟩;unfold nk at hb;rw [Bool.and_eq_true,Bool.and_eq_true] at hb;obtain ⟨_,QV,_⟩:=hb
   cases kd with
   |one=>exact .inl rfl
   |last=>
    simp only [Bool.true_or,Bool.true_and] at QV;exact .inr (Dr ds QV)
   |any=>simp at QV
   |take=>simp at QV
 |.alt p q,ls,bB,fuel,c,st,a,w,hl,hs,hf,h,hn,hv=>by
  have hv:both (wS T S ops.toList p st k) (wS T S ops.toList q st k)=some r:=hv;obtain ⟨GQ,Oy⟩:=Rp hv;have hf:Nat.max p.depth q.depth≤fuel:=hf;have hp:=(Ax (ds:=ds) hT hE IZ hQ hk Zb wm p ls bB fuel hl hs (Nat.le_trans (Nat.le_max_left _ _) hf) h hn GQ).2;have hq:=(Ax (ds:=ds) hT hE IZ hQ hk Zb wm q ls bB fuel hl hs (Nat.le_trans (Nat.le_max_right _ _) hf) h hn Oy).2;have dV:nk ops ops.toList ops.size ds true ls p=true→nk ops ops.toList ops.size ds true ls q=true→∃Nc,fuel=Nc+1∧∀i∈p.dV++q.dV,i∈Region.ready .any ops bB∧wpOp P ops Q i (fun a' w'=>(i∉ds→kW w w')∧rk P .any ops Q ds Nc (bB.setIfInBounds i true) a' w') a w:=by
   intro h1 h2;obtain ⟨f1,e1,g1⟩:=hp h1;obtain ⟨f2,e2,g2⟩:=hq h2;have:f1=f2:=by omega
   subst this;exact ⟨f1,e1,fun i hi=>(List.mem_append.1 hi).elim (g1 i) (g2 i)⟩
  have parts:∀al,nk ops ops.toList ops.size ds al ls (.alt p q)=true→(al||UZ ops.toList ops.size ls (p.dV++q.dV))=true∧nk ops ops.toList ops.size ds true ls p=true∧nk ops ops.toList ops.size ds true ls q=true:=by
   intro al hb;unfold nk at hb;rw [Bool.and_eq_true,Bool.and_eq_true] at hb;exact hb
  refine ⟨fun hb => ?_,fun hb => ?_⟩
  ·obtain ⟨hc,h1,h2⟩:=parts _ hb;obtain ⟨f,rfl,g⟩:=dV h1 h2;have amn:∀j∈Region.ready .any ops bB,j∈p.dV++q.dV:=by
    intro j hj;have dS:j<ops.size:=by
     obtain ⟨_,o,ho,_⟩:=mem_ready.1 hj;exact (Array.getElem?_eq_some_iff.1 ho).1
    rw [Bool.false_or] at hc;have h1:=List.all_eq_true.1 hc j (List.mem_range.2 dS);rw [(Bw hl j).2 hj,Bool.not_true,Bool.false_or] at h1;exact Dr _ h1
   refine ⟨fun e => ?_,fun j hj=>(g j (amn j hj)).2⟩;have mK:∃i,i∈p.dV++q.dV:=by
    have key:∀(l:Pl),nk ops ops.toList ops.size ds true ls l=true→∃i,i∈l.dV:=by
     intro l
     induction l with
     |nil=>intro h;simp [nk] at h
     |op i _ _ _=>intro _;exact ⟨i,by simp [Pl.dV]⟩
     |alt p q ih _=>
      intro h;unfold nk at h;rw [Bool.and_eq_true,Bool.and_eq_true] at h;obtain ⟨i,hi⟩:=ih h.2.1;exact ⟨i,List.mem_append_left _ hi⟩
    obtain ⟨i,hi⟩:=key p h1;exact ⟨i,List.mem_append_left _ hi⟩
   obtain ⟨i,hi⟩:=mK;have:=(g i hi).1;rw [e] at this
   cases this
  ·obtain ⟨_,h1,h2⟩:=parts _ hb;exact dV h1 h2
theorem uK {R:Type} {P:Program} {T:n9} (hT:jx P T) (hE:zV P T) (hm:P.follows .mixedOrders=true) {S:mI} {D:mV} {w0:World} {mu:Mu} {n:Nat} (IZ:wz P T S w0 mu n) :
  uH R P T S D w0 mu n (fun id ops=>Hl ops (D id)=true):=by
 intro id ops Q k r iR wm hk c st a w h hn hv;unfold Hl at iR;rw [Bool.and_eq_true,Bool.and_eq_true] at iR;obtain ⟨Zb,hlen,hb⟩:=iR
 let Q':Exit→Act→World→Prop:=fun e a w=>e=.normal∧Q .normal a w
 have key:(Code.region id ops true).wp P Q' a w:=by
  refine wp_region_any hm (B3 _ _ _ _ ((Ax hT hE IZ (ds:=J1 (D id)) (Q:=Q') (fun c a w hq=>by cases hq.1) (fun {c st a w} g1 g2 g3=>⟨rfl,hk g1 g2 g3⟩) Zb wm (D id) [] _ ops.size (Xq.none _) (wZ.none _ _ _) (Nat.le_of_ble_eq_true hlen) h.drew hn hv).1 hb))
 exact Code.wp_mono (fun e a w hq=>by obtain ⟨rfl,hq⟩:=hq;exact hq) key
end Go.TM
namespace Go.TM
open Go Go.RowKit
abbrev X4:RT→Type→Type
 |.nil,R=>R
 |.cons t r,R=>den t→X4 r R
abbrev nJ {R:Type}:(r:RT)→X4 r R→aO r→R
 |.nil,f,_=>f
 |.cons _ r,f,x=>nJ r (f x.1) x.2
def gV:mV:=fun _=>.nil
def noL {R:Type}:pA R:=fun _ _ _ _=>none
def U0 (f:Func):Code:=match f.body with | some c=>c | none=>.skip
def nn:Nat→List (Option AP)
 |0=>[]
 |n+1=>none::nn n
structure Rec where
 size:Nat
 agg:Bool
 dg:List (Nat×Nat)
 row:Option RT
 elem:Option (RT×Nat)
 kind:Option Ty
 mJ:List Nat
 eq:Bool
 dp:Bool:=false
 cap:Bool:=false
inductive Tr where
 |leaf
 |node (l:Tr) (k:Nat) (v:Rec) (r:Tr)
def Tr.flat:Tr→Tr
 |.leaf=>.leaf
 |.node l k v r=>.node l.flat k { v with dp:=false } r.flat
def Tr.Aj (l:List Nat):Tr→Tr
 |.leaf=>.leaf
 |.node a k v b=>.node (a.Aj l) k { v with cap:=l.any (Nat.beq k) } (b.Aj l)
def Tr.find:Tr→Nat→Option Rec
 |.leaf,_=>none
 |.node l k v r,t=>bif Nat.beq t k then some v else bif Nat.blt t k then l.find t else r.find t
def Tr.all (p:Nat→Rec→Bool):Tr→Bool
 |.leaf=>true
 |.node l k v r=>l.all p&&(p k v&&r.all p)
theorem Tr.Ds {p:Nat→Rec→Bool}:(tr:Tr)→tr.all p=true→∀ {t v},tr.find t=some v→p t v=true
 |.leaf,_,_,_,h=>by cases h
 |.node l k v r,h,t,u,hf=>by
  unfold Tr.all at h;rw [Bool.and_eq_true,Bool.and_eq_true] at h;unfold Tr.find at hf
  cases hb:Nat.beq t k with
  |true=>
   rw [hb] at hf;injection hf with hf;subst hf;rw [Nat.eq_of_beq_eq_true hb];exact h.2.1
  |false=>
   rw [hb] at hf
   cases hl:Nat.blt t k with
   |true=>rw [hl] at hf;exact Tr.Ds l h.1 hf
   |false=>rw [hl] at hf;exact Tr.Ds r h.2.2 hf
def mg (tr:Tr):n9 where
 cells t:=(tr.find t).map (·.size)
 agg t:=match tr.find t with | some r=>r.agg | none=>false
 off t f:=match tr.find t with | some r=>(nth r.dg f).map (·.1) | none=>none
 fsz t f:=match tr.find t with | some r=>(nth r.dg f).map (·.2) | none=>none
 row t:=match tr.find t with | some r=>r.row | none=>none
 elem t:=match tr.find t with | some r=>r.elem | none=>none
 pM _:=none
 kind t:=match tr.find t with | some r=>r.kind | none=>none
 one t f:=match tr.find t with | some r=>r.mJ.any (Nat.beq f) | none=>false
 eq t:=match tr.find t with | some r=>r.eq | none=>false
 dp t:=match tr.find t with | some r=>r.dp | none=>false
 cap t:=match tr.find t with | some r=>r.cap | none=>false
def pE:RT→List Value→Bool
 |.nil,[]=>true
 |.cons (.int k) r,.int l n::vs=>decide (k=l)&&decide (n=0)&&pE r vs
 |.cons .bool r,.bool b::vs => !b&&pE r vs
 |.cons .str r,.string s::vs=>(match s.data.toList with | []=>true | _=>false)&&pE r vs
 |.cons (.sl _) r,.slice none 0 0::vs=>pE r vs
 |_,_=>false
theorem xy:(r:RT)→(vs:List Value)→pE r vs=true→kQ r vs
 |.nil,[],_=>rfl
 |.nil,_::_,h=>by simp [pE] at h
 |.cons t r,[],h=>by cases t<;>simp [pE] at h
 |.cons t r,v::vs,h=>by
  cases t with
  |int k=>
   cases v<;>try (simp [pE] at h;done)
   rename_i l n;simp only [pE,Bool.and_eq_true,decide_eq_true_eq] at h;obtain ⟨⟨rfl,rfl⟩,h⟩:=h;exact ⟨vs,rfl,xy r vs h⟩
  |bool=>
   cases v<;>try (simp [pE] at h;done)
   rename_i b;simp only [pE,Bool.and_eq_true,Bool.not_eq_true'] at h;obtain ⟨rfl,h⟩:=h;exact ⟨vs,rfl,xy r vs h⟩
  |str=>
   cases v<;>try (simp [pE] at h;done)
   rename_i s;simp only [pE,Bool.and_eq_true] at h;obtain ⟨h1,h⟩:=h;refine ⟨vs,?_,xy r vs h⟩;obtain ⟨d⟩:=s;obtain ⟨d⟩:=d
   cases d with
   |nil=>rfl
   |cons _ _=>simp at h1
  |sl q=>
   cases v<;>try (simp [pE] at h;done)
   rename_i a n m
   cases a with
   |some _=>simp [pE] at h
   |none=>cases n with
    |succ _=>simp [pE] at h
    |zero=>cases m with
     |succ _=>simp [pE] at h
     |zero=>
      have h:pE r vs=true:=h;exact ⟨vs,rfl,xy r vs h⟩
def wB {α:Type} (o:Option α) (p:α→Bool):Bool:=match o with | some x=>p x | none=>false
theorem ij {α:Type} {o:Option α} {p:α→Bool} (h:wB o p=true):∃x,o=some x∧p x=true:=by
 cases o with
 |none=>cases h
 |some x=>exact ⟨x,rfl,h⟩
def yh (P:Program):List Field→List (Nat×Nat)→Bool
 | [],[]=>true
 |f::fs,(o,s)::ps=>Nat.beq f.offset o&&(wB (P.info? f.type) (fun i=>Nat.beq i.size s)&&(Nat.blt 0 s&&yh P fs ps))
 |_,_=>false
theorem Cg {P:Program}:(fs:List Field)→(ps:List (Nat×Nat))→yh P fs ps=true→
  fs.mapM (fun f=>(P.info? f.type).map fun i=>(f.offset,i.size))=some ps∧∀(k:Nat) p,ps[k]?=some p→∃JB n,fs[k]?=some JB∧JB.offset=p.1∧(P.info? JB.type).map (·.size)=some (n+1)
 | [],[],_=>⟨rfl,fun k p h=>by simp at h⟩
 | [],_::_,h=>by simp [yh] at h
 |_::_,[],h=>by simp [yh] at h
 |f::fs,(o,s)::ps,h=>by
  unfold yh at h;rw [Bool.and_eq_true,Bool.and_eq_true,Bool.and_eq_true] at h;obtain ⟨h1,h2,h3,h4⟩:=h;obtain ⟨i,hi,his⟩:=ij h2;have h1:=Nat.eq_of_beq_eq_true h1;have his:=Nat.eq_of_beq_eq_true his;obtain ⟨g1,g2⟩:=Cg fs ps h4;refine ⟨by simp [List.mapM_cons,hi,g1,h1,his],fun k p hp => ?_⟩
  cases k with
  |zero=>
   simp at hp;subst hp;have h3:0<s:=Nat.le_of_ble_eq_true h3;exact ⟨f,s-1,rfl,h1,by rw [hi];simp [his];omega⟩
  |succ k=>exact g2 k p (by simpa using hp)
def Nd (P:Program) (t:Nat):Ty→Bool
 |.int k=>wB (P.underlying t) fun | .int l=>decide (k=l) | _=>false
 |.bool=>wB (P.underlying t) fun | .bool=>true | _=>false
 |.str=>wB (P.underlying t) fun | .string=>true | _=>false
 |.sl _=>false
def Lv (P:Program) (t:Nat) (r:Rec):Bool:=
 wB (P.info? t) (fun i=>Nat.beq i.size r.size&&(match r.row with | some q=>wB i.zero (fun z=>pE q z.cells.toList) | none=>true)) &&
 (wB (P.underlying t) (fun d=>(d.isRow==r.agg)&&(bif r.agg then true else Nat.beq r.size 1)&&(match d with | .struct fs=>bif r.agg then yh P fs.toList r.dg else Nat.beq r.dg.length 0 | _ => !r.agg&&Nat.beq r.dg.length 0)
   && (match r.elem with | some (q,b)=>(match d with | .slice e=>wB (P.info? e) (fun i=>Nat.beq i.size q.width&&(Nat.blt 0 q.width&&(Nat.beq i.bytes b&&(Nat.blt 0 b&&wB i.zero (fun z=>pE q z.cells.toList))))) | _=>false) | none=>true)) &&
 ((match r.kind with | some k=>Nd P t k | none=>true)&&(match r.elem with | some (.cons (.int .u8) .nil,_)=>wB (P.underlying t) (fun d=>match d with | .slice e=>Nd P e (.int .u8) | _=>false) | _=>true)))
def Zo (P:Program) (t:Nat) (l:List Nat):Bool:=l.all fun f=>wB (P.underlying t) fun d=>match d with | .struct fs=>wB fs[f]? (fun JB=>wB (P.underlying JB.type) fun e => !e.isRow) | _=>false
def zN (P:Program) (t:Nat) (r:Rec):Bool:=Lv P t r&&Zo P t r.mJ
theorem kC {P:Program} {tr:Tr} (h:tr.all (zN P)=true):jx P (mg tr):=by
 have ahd:∀ {t r},tr.find t=some r→zN P t r=true:=fun hf=>Tr.Ds tr h hf
 have get:∀ {t r},tr.find t=some r→Lv P t r=true:=fun hf=>(Bool.and_eq_true _ _▸ahd hf).1
 have base:∀ {t r},tr.find t=some r→(∃i,P.info? t=some i∧i.size=r.size∧∀q,r.row=some q→∃z,i.zero=some z∧kQ q z.cells.toList)∧
   (∃d,P.underlying t=some d∧d.isRow=r.agg∧(r.agg=false→r.size=1)∧(r.dg≠[]∨r.agg=true→∃fs,d=.struct fs∧yh P fs.toList r.dg=true)∧
    ∀q b,r.elem=some (q,b)→∃e i z,d=.slice e∧P.info? e=some i∧i.size=q.width∧0<q.width∧i.bytes=b∧0<b∧i.zero=some z∧kQ q z.cells.toList)∧
   ∀k,r.kind=some k→Nd P t k=true:=by
  intro t r hf;have h1:=get hf;unfold Lv at h1;rw [Bool.and_eq_true,Bool.and_eq_true,Bool.and_eq_true] at h1;obtain ⟨h1,h2,h3,_⟩:=h1;obtain ⟨i,hi,h4⟩:=ij h1;rw [Bool.and_eq_true] at h4;obtain ⟨d,hd,h5⟩:=ij h2;rw [Bool.and_eq_true,Bool.and_eq_true,Bool.and_eq_true] at h5;obtain ⟨⟨⟨g1,g2⟩,g3⟩,g4⟩:=h5;refine ⟨⟨i,hi,Nat.eq_of_beq_eq_true h4.1,fun q hq => ?_⟩,⟨d,hd,by simpa using g1,fun QQ => ?_,fun mK => ?_,fun q b he => ?_⟩,fun k hk => ?_⟩
  ·have h6:=h4.2;rw [hq] at h6;obtain ⟨z,hz,h7⟩:=ij h6;exact ⟨z,hz,xy q _ h7⟩
  ·rw [QQ] at g2;exact Nat.eq_of_beq_eq_true g2
  ·cases QQ:r.agg with
   |true=>
    rw [QQ] at g3
    cases d with
    |struct fs=>exact ⟨fs,rfl,g3⟩
    |_=>simp at g3
   |false=>
    rw [QQ] at g3;rcases mK with mK | mK
    ·have:Nat.beq r.dg.length 0=true:=by
      cases d with
      |struct fs=>exact g3
      |_=>simpa using g3
     exact absurd (List.length_eq_zero_iff.1 (Nat.eq_of_beq_eq_true this)) mK
    ·rw [QQ] at mK;cases mK
  ·rw [he] at g4
   cases d with
   |slice e=>
    obtain ⟨i,h6,h7⟩:=ij g4;rw [Bool.and_eq_true,Bool.and_eq_true,Bool.and_eq_true,Bool.and_eq_true] at h7;obtain ⟨k1,k2,k3,k4,k5⟩:=h7;obtain ⟨z,hz,h8⟩:=ij k5;exact ⟨e,i,z,rfl,h6,Nat.eq_of_beq_eq_true k1,Nat.le_of_ble_eq_true k2,Nat.eq_of_beq_eq_true k3,Nat.le_of_ble_eq_true k4,hz,xy q _ h8⟩
   |_=>cases g4
  ·rw [hk] at h3;exact h3
 have look:∀ {α:Type} {t:Nat} {g:Rec→Option α} {x:α},(match tr.find t with | some r=>g r | none=>none)=some x→∃r,tr.find t=some r∧g r=some x:=by
  intro α t g x hx
  cases hf:tr.find t with
  |none=>rw [hf] at hx;cases hx
  |some r=>rw [hf] at hx;exact ⟨r,rfl,hx⟩
 have ahe:∀ {t:Nat} {g:Rec→Bool},(match tr.find t with | some r=>g r | none=>false)=true→∃r,tr.find t=some r∧g r=true:=by
  intro t g hx
  cases hf:tr.find t with
  |none=>rw [hf] at hx;cases hx
  |some r=>rw [hf] at hx;exact ⟨r,rfl,hx⟩
 exact {
  cells:=fun t n ht=>by
   obtain ⟨r,hf,rfl⟩:=Option.map_eq_some_iff.1 ht;obtain ⟨⟨i,hi,hs,_⟩,_⟩:=base hf;rw [hi];simp [hs]
  agg:=fun t n ht=>by
   obtain ⟨r,hf,rfl⟩:=Option.map_eq_some_iff.1 ht;obtain ⟨_,⟨d,hd,h1,h2,_⟩,_⟩:=base hf;have e:(mg tr).agg t=r.agg:=by show (match tr.find t with | some r=>r.agg | none=>false)=_;rw [hf]
   exact ⟨d,hd,h1.trans e.symm,fun h=>h2 (e▸h)⟩
  off:=fun t f k ht=>by
   obtain ⟨r,hf,hk⟩:=look ht;obtain ⟨p,hp,rfl⟩:=Option.map_eq_some_iff.1 hk;obtain ⟨_,⟨d,hd,_,_,h3,_⟩,_⟩:=base hf;rw [ng] at hp;obtain ⟨fs,rfl,hfs⟩:=h3 (.inl (by intro e;rw [e] at hp;simp at hp));obtain ⟨JB,n,g1,g2,g3⟩:=(Cg fs.toList r.dg hfs).2 f p hp;exact ⟨fs,JB,n,hd,by simpa using g1,g2,g3⟩
  bld:=fun t ht=>by
   obtain ⟨r,hf,QQ⟩:=ahe (g:=fun r=>r.agg) ht;obtain ⟨_,⟨d,hd,_,_,h3,_⟩,_⟩:=base hf;obtain ⟨fs,rfl,hfs⟩:=h3 (.inr QQ);refine ⟨fs,r.dg,hd,(Cg fs.toList r.dg hfs).1,fun f o s ho hs => ?_⟩;have ho:(match tr.find t with | some r=>(nth r.dg f).map (·.1) | none=>none)=some o:=ho;have hs:(match tr.find t with | some r=>(nth r.dg f).map (·.2) | none=>none)=some s:=hs;rw [hf] at ho hs;obtain ⟨p,hp,rfl⟩:=Option.map_eq_some_iff.1 ho;obtain ⟨p',lE,rfl⟩:=Option.map_eq_some_iff.1 hs;rw [hp] at lE;injection lE with e;subst e;rw [ng] at hp;exact hp
  row:=fun t q ht=>by
   obtain ⟨r,hf,hk⟩:=look (g:=fun r=>r.row) ht;obtain ⟨⟨i,hi,_,h1⟩,_⟩:=base hf;obtain ⟨z,hz,Ow⟩:=h1 q hk;exact ⟨i,z,hi,hz,Ow⟩
  elem:=fun t q b ht=>by
   obtain ⟨r,hf,hk⟩:=look (g:=fun r=>r.elem) ht;obtain ⟨_,⟨d,hd,_,_,_,h4⟩,_⟩:=base hf;obtain ⟨e,i,z,rfl,h5⟩:=h4 q b hk;exact ⟨e,i,z,hd,h5⟩
  u8:=fun t e b ht hu=>by
   obtain ⟨r,hf,hk⟩:=look (g:=fun r=>r.elem) ht;have h1:=get hf;unfold Lv at h1;rw [Bool.and_eq_true,Bool.and_eq_true,Bool.and_eq_true] at h1;have h2:=h1.2.2.2;rw [hk] at h2;obtain ⟨d,hd,h3⟩:=ij h2;rw [hu] at hd;injection hd with hd;subst hd;obtain ⟨d2,hd2,h4⟩:=ij h3;rw [hd2]
   cases d2<;>simp at h4
   rw [←h4]
  one:=fun t f ht=>by
   have ht:(match tr.find t with | some r=>r.mJ.any (Nat.beq f) | none=>false)=true:=ht
   cases hf:tr.find t with
   |none=>rw [hf] at ht;cases ht
   |some r=>
    rw [hf] at ht;have h2:Zo P t r.mJ=true:=(Bool.and_eq_true _ _▸ahd hf).2;obtain ⟨g,hg,hb⟩:=List.any_eq_true.1 ht;have hb:=Nat.eq_of_beq_eq_true hb;subst hb;have h3:=List.all_eq_true.1 h2 f hg;obtain ⟨d,hd,h4⟩:=ij h3
    cases d with
    |struct fs=>
     obtain ⟨JB,amp,h5⟩:=ij h4;obtain ⟨e,he,h6⟩:=ij h5;exact ⟨fs,JB,e,hd,amp,he,by simpa using h6⟩
    |_=>cases h4
  kind:=fun t y ht=>by
   obtain ⟨r,hf,hk⟩:=look (g:=fun r=>r.kind) ht;have h1:=(base hf).2.2 y hk
   cases y with
   |int k=>
    obtain ⟨d,hd,h2⟩:=ij h1;refine ⟨d,hd,?_⟩
    cases d<;>simp at h2
    rw [h2];rfl
   |bool=>
    obtain ⟨d,hd,h2⟩:=ij h1;refine ⟨d,hd,?_⟩
    cases d<;>simp at h2
    rfl
   |str=>
    obtain ⟨d,hd,h2⟩:=ij h1;refine ⟨d,hd,?_⟩
    cases d<;>simp at h2
    rfl
   |sl _=>cases h1 }
end Go.TM
namespace Go.TM
open Go Go.RowKit
def fq:Code→List (Nat×Code)
 |.seq a b=>fq a++fq b
 |.cond _ a b=>fq a++fq b
 |.block id (.loop b)=>[(id,b)]
 |.block _ a=>fq a
 |_=>[]
theorem tV {ok:Nat→Code→Prop}:(c:Code)→(∀p∈fq c,ok p.1 p.2)→fF ok c:=by
 intro c
 induction c with
 |seq a b iha ihb=>
  intro h;unfold fq at h;exact ⟨iha fun p hp=>h p (List.mem_append_left _ hp),ihb fun p hp=>h p (List.mem_append_right _ hp)⟩
 |cond x a b iha ihb=>
  intro h;unfold fq at h;exact ⟨iha fun p hp=>h p (List.mem_append_left _ hp),ihb fun p hp=>h p (List.mem_append_right _ hp)⟩
 |block id a ih=>
  intro h
  by_cases hb:∃b',a=.loop b'
  ·obtain ⟨b',rfl⟩:=hb;exact h (id,b') (by unfold fq;exact List.mem_cons_self)
  ·cases a with
   |loop b'=>exact absurd ⟨b',rfl⟩ hb
   |_=>unfold fq at h;unfold fF;exact ih h
 |_=>intro _;unfold fF;trivial
def Bx (c:Code) (i:Nat):Code:=match nth (fq c) i with | some p=>p.2 | none=>.skip
def kZ (D:mV):Code→Bool
 |.region id ops true=>Hl ops (D id)
 |.seq a b=>kZ D a&&kZ D b
 |.cond _ a b=>kZ D a&&kZ D b
 |.block _ (.loop _)=>true
 |.block _ a=>kZ D a
 |_=>true
theorem wC {D:mV}:(c:Code)→kZ D c=true→fV (fun id ops=>Hl ops (D id)=true) c:=by
 intro c
 induction c with
 |region id ops dr=>
  intro h
  cases dr with
  |true=>exact h
  |false=>unfold fV;trivial
 |seq a b iha ihb=>
  intro h;unfold kZ at h;rw [Bool.and_eq_true] at h;exact ⟨iha h.1,ihb h.2⟩
 |cond x a b iha ihb=>
  intro h;unfold kZ at h;rw [Bool.and_eq_true] at h;exact ⟨iha h.1,ihb h.2⟩
 |block id a ih=>
  intro h
  by_cases hb:∃b',a=.loop b'
  ·obtain ⟨b',rfl⟩:=hb;unfold fV;trivial
  ·cases a with
   |loop b'=>exact absurd ⟨b',rfl⟩ hb
   |_=>unfold kZ at h;unfold fV;exact ih h
 |_=>intro _;unfold fV;trivial
def Src.same:Src→Src→Bool
 |.tmp a,.tmp b=>Nat.beq a b
 |.cell a,.cell b=>Nat.beq a b
 |.ptr a,.ptr b=>Nat.beq a b
 |_,_=>false
theorem Src.Dt:{a b:Src}→a.same b=true→a=b
 |.tmp _,.tmp _,h=>congrArg Src.tmp (Nat.eq_of_beq_eq_true h)
 |.cell _,.cell _,h=>congrArg Src.cell (Nat.eq_of_beq_eq_true h)
 |.ptr _,.ptr _,h=>congrArg Src.ptr (Nat.eq_of_beq_eq_true h)
 |.tmp _,.cell _,h=>by cases h
 |.tmp _,.ptr _,h=>by cases h
 |.cell _,.tmp _,h=>by cases h
 |.cell _,.ptr _,h=>by cases h
 |.ptr _,.tmp _,h=>by cases h
 |.ptr _,.cell _,h=>by cases h
def Nf (T:n9):List ResultVar→List RP→Bool
 | [],[]=>true
 |.tmp t::vs,r::rs=>(r.src.same (.tmp t)||r.src.same (.ptr t))&&Nf T vs rs
 |.cell t ty::vs,r::rs=>r.src.same (.cell t)&&((match T.cells ty with | some n=>Nat.beq n r.ps.length | none=>false)&&((T.agg ty==r.agg)&&Nf T vs rs))
 |_,_=>false
theorem By {T:n9} (tm:Array Value):(vs:List ResultVar)→(rs:List RP)→Nf T vs rs=true→Ce T tm vs rs
 | [],[],_=>trivial
 | [],_::_,h=>by simp [Nf] at h
 |v::_,[],h=>by cases v<;>simp [Nf] at h
 |.tmp t::vs,r::rs,h=>by
  unfold Nf at h;rw [Bool.and_eq_true,Bool.or_eq_true] at h;exact ⟨h.1.imp Src.Dt Src.Dt,By tm vs rs h.2⟩
 |.cell t ty::vs,r::rs,h=>by
  unfold Nf at h;rw [Bool.and_eq_true,Bool.and_eq_true,Bool.and_eq_true] at h;obtain ⟨h1,h2,h3,h4⟩:=h;refine ⟨⟨Src.Dt h1,?_,by simpa using h3⟩,By tm vs rs h4⟩
  cases hc:T.cells ty with
  |none=>rw [hc] at h2;cases h2
  |some n=>rw [hc] at h2;rw [Nat.eq_of_beq_eq_true h2]
abbrev aaz:=List (Nat×(Pm×Pm×Pm×Ag))
def Ch:aaz→mI
 | [],_=>none
 |(g,s)::l,f=>bif Nat.beq f g then some s else Ch l f
structure tM (P:Program) (f:FuncId) (F8:Ag):Prop where
 ok:FnOk P f F8
 fn:∃fn,P.funcs[f]?=some fn∧(fn.name == "runtime.NumGoroutine")=false∧fn.body.isNone=false
theorem U5 {P:Program}:og P (Ch []):=fun f a b c F8 h=>by cases h
theorem R0 {P:Program} {g:Nat} {a b c:Pm} {F8:Ag} {l:aaz} (hk:tM P g F8) (hl:og P (Ch l)):og P (Ch ((g,(a,b,c,F8))::l)):=by
 intro f a' b' c' amq h;unfold Ch at h
 cases hb:Nat.beq f g with
 |true=>
  rw [hb] at h;injection h with h;injection h with _ h;injection h with _ h;injection h with _ h;subst h;rw [Nat.eq_of_beq_eq_true hb];exact ⟨hk.ok,hk.fn⟩
 |false=>rw [hb] at h;exact hl f a' b' c' amq h
def Zp (T:n9) (D:mV) (fn:Func) (code:Code) (n:Nat) (ps:List AP) (rs:List RP):Bool:=
 Nat.beq fn.ntmps n&&(Nat.ble ps.length n&&(hJ n code&&(Nf T fn.results.toList rs&&kZ D code)))
theorem X5 {P:Program} {tr:Tr} (hT:tr.all (zN P)=true) (hE:zV P (mg tr)) (hm:P.follows .mixedOrders=true) {S:mI} (hS:og P S) {D:mV} {f:FuncId} {fn:Func} {code:Code} {n:Nat} {ps:List AP} {rs:List RP}
  {L:pA (aO (eg rs (cF ps)))} {t:aO (aH (ps.map some))→Option (aO (eg rs (cF ps)))}
  (hf:P.funcs[f]?=some fn) (hb:fn.body=some code) (sP:Zp (mg tr) D fn code n ps rs=true) (Ng:(fn.name == "runtime.NumGoroutine")=false)
  (hL:∀(w0:World) (mu:Mu) (y:aO (eg rs (cF ps))),oW ps mu→∀p∈fq code,pf P w0 mu n L y p.1 p.2)
  (OY:∀x,gF (mg tr) S D L code (start n ps x) (Ez rs ps)=t x):tM P f (oG ps rs t):=by
 unfold Zp at sP;rw [Bool.and_eq_true,Bool.and_eq_true,Bool.and_eq_true,Bool.and_eq_true] at sP;obtain ⟨h1,h2,h3,h4,h5⟩:=sP;refine ⟨aha (kC hT) hE hS hf hb (Nat.eq_of_beq_eq_true h1) (Nat.le_of_ble_eq_true h2) h3 (fun tm=>By tm _ _ h4) (fun w0 mu y hs=>tV code (hL w0 mu y hs))
  (fun w0 mu=>uK (kC hT) hE hm (pT (kC hT) hE hS w0 mu n)) (wC code h5) OY,fn,hf,Ng,by rw [hb];rfl⟩
def J2 (D:mV) (ps:List AP) (hp e0 e1:List (Option AP)) (n:Nat) (b:Code):Bool:=
 (hM ps hp&&(hM ps e0&&hM ps e1))&&(hJ n b&&kZ D b)
theorem R1 {R:Type} {P:Program} {tr:Tr} (hT:tr.all (zN P)=true) (hE:zV P (mg tr)) (hm:P.follows .mixedOrders=true) {S:mI} (hS:og P S) {D:mV} {n id:Nat} {w0:World} {mu:Mu} {ps:List AP} {hp e0 e1:List (Option AP)} {b:Code} {r:R} {L:pA R}
  {L':pA (Sum (aO (aH hp)) (Sum (aO (aH e0)) (aO (aH e1))))} {round:aO (aH hp)→Option (Sum (aO (aH hp)) (Sum (aO (aH e0)) (aO (aH e1))))}
  (hs:oW ps mu) (sP:J2 D ps hp e0 e1 n b=true)
  (Hc:∀z,∀p∈fq b,pf P w0 mu n L' z p.1 p.2) (OZ:∀x,gF (mg tr) S D L' b (pn hp x) (EC id hp e0 e1)=round x) (hL:∀st k,L id b st k=ED hp e0 e1 round st k):pf P w0 mu n L r id b:=by
 unfold J2 at sP;rw [Bool.and_eq_true,Bool.and_eq_true (hJ n b)] at sP;exact X0 (pT (kC hT) hE hS w0 mu n) (uK (kC hT) hE hm (pT (kC hT) hE hS w0 mu n)) hs sP.1 sP.2.1 (wC b sP.2.2) (fun z=>tV b (Hc z)) OZ hL
def bW {A B C:Type} (o:Option (Sum A B)) (f:A→Option C) (g:B→Option C):Option C:=
 o.bind fun z=>match z with
  |.inl y=>f y
  |.inr y=>g y
end Go.TM
namespace Go.TM
open Go Go.RowKit Go.ChangeShapes
def RT.app:RT→RT→RT
 |.nil,s=>s
 |.cons t r,s=>.cons t (r.app s)
def X6:(r s:RT)→aO r→aO s→aO (r.app s)
 |.nil,_,_,y=>y
 |.cons _ r,s,x,y=>(x.1,X6 r s x.2 y)
mutual
def I1:(t:Ty)→den t→Prop
 |.int k,n=>(Lit.int k n).wf=true
 |.bool,_=>True
 |.str,s=>ByteArray.size s≤maxLen
 |.sl r,xs=>(XD xs).length≤maxLen∧∀x∈XD xs,Hn r x
def Hn:(r:RT)→aO r→Prop
 |.nil,_=>True
 |.cons t r,x=>I1 t x.1∧Hn r x.2
end
theorem Ho (x:aO .nil):Hn .nil x:=Hn.eq_1 x▸trivial
theorem rn {t:Ty} {r:RT} {x:aO (.cons t r)}:Hn (.cons t r) x↔I1 t x.1∧Hn r x.2:=Hn.eq_2 t r x▸Iff.rfl
theorem ahf {k:IntKind} {n:Int}:I1 (.int k) n↔(Lit.int k n).wf=true:=I1.eq_1 k n▸Iff.rfl
theorem aaA {b:Bool}:I1 .bool b:=I1.eq_2 b▸trivial
theorem ahg {s:ByteArray}:I1 .str s↔ByteArray.size s≤maxLen:=I1.eq_3 s▸Iff.rfl
theorem ahh {r:RT} {xs:List (aO r)}:I1 (.sl r) xs↔(xs.length≤maxLen∧∀x∈xs,Hn r x):=I1.eq_4 r xs▸Iff.rfl
theorem RT.EE:(r s:RT)→(r.app s).width=r.width+s.width
 |.nil,s=>by simp [RT.app,RT.width]
 |.cons t r,s=>by simp [RT.app,RT.width,RT.EE r s];omega
theorem ej.cat {w:World} {ok:Nat→Prop}:(r s:RT)→(l m:List Value)→(x:aO r)→(y:aO s)→ej w ok r l x→ej w ok s m y→ej w ok (r.app s) (l++m) (X6 r s x y)
 |.nil,s,l,m,x,y,h,h'=>by
  have:l=[]:=h;subst this;exact h'
 |.cons t r,s,l,m,x,y,h,h'=>by
  obtain ⟨v,l',rfl,h1,h2⟩:=h;exact ⟨v,l'++m,rfl,h1,ej.cat r s l' m x.2 y h2 h'⟩
theorem Hn.cat:(r s:RT)→(x:aO r)→(y:aO s)→Hn r x→Hn s y→Hn (r.app s) (X6 r s x y)
 |.nil,_,_,_,_,h'=>h'
 |.cons t r,s,x,y,h,h'=>by
  exact rn.2 ⟨(rn.1 h).1,Hn.cat r s x.2 y (rn.1 h).2 h'⟩
def Hp (P:Program) (row:TypeId→Option RT):Nat→List Field→Option RT
 |_,[]=>some .nil
 |off,f::fs=>match row f.type with
  |some q=>(match Hp P row (off+q.width) fs with
   |some r=>bif Nat.beq f.offset off&&Nat.beq (P.cellsOf f.type) q.width then some (q.app r) else none
   |none=>none)
  |none=>none
def Hq (P:Program):Nat→TypeId→Option RT
 |0,_=>none
 |n+1,t=>match P.underlying t with
  |some .bool=>some (.cons .bool .nil)
  |some (.int k)=>some (.cons (.int k) .nil)
  |some .string=>some (.cons .str .nil)
  |some (.slice e)=>(match Hq P n e with
   |some q=>bif Nat.beq (P.cellsOf e) q.width&&Nat.blt 0 q.width then some (.cons (.sl q) .nil) else none
   |none=>none)
  |some (.struct fs)=>(match Hp P (Hq P n) 0 fs.toList with
   |some r=>bif Nat.beq (P.cellsOf t) r.width then some r else none
   |none=>none)
  |_=>none
theorem QW {α:Type} {Pr:Nat→α→Prop}:(n:Nat)→(∀i,i<n→∃x,Pr i x)→∃xs:List α,xs.length=n∧∀(i:Nat) x,xs[i]?=some x→Pr i x
 |0,_=>⟨[],rfl,fun i x h=>by simp at h⟩
 |n+1,h=>by
  obtain ⟨xs,h1,h2⟩:=QW n (fun i hi=>h i (by omega));obtain ⟨x,hx⟩:=h n (by omega);refine ⟨xs++[x],by simp [h1],fun i y hy => ?_⟩
  by_cases hi:i<n
  ·rw [List.getElem?_append_left (by omega)] at hy;exact h2 i y hy
  ·rw [List.getElem?_append_right (by omega)] at hy;have Hc:i=n:=by
    have:=(List.getElem?_eq_some_iff.1 hy).1;simp at this;omega
   subst Hc;rw [h1,Nat.sub_self] at hy;simp at hy;rw [←hy];exact hx
theorem J3 {w:World} {a:Addr} {v:Value} (h:w.cell? a=some v):a.spot=none:=by
 unfold World.cell? at h
 split at h
 ·split at h
  ·cases h
  ·rename_i hs;simpa using hs
 ·cases h
theorem Nh {α β:Type} {f:α→Option β}:(l:List α)→{m:List β}→l.mapM f=some m→m.length=l.length∧∀(i:Nat) a,l[i]?=some a→f a=m[i]?
 | [],m,h=>by
  simp at h;subst h;exact ⟨rfl,fun i a ha=>by simp at ha⟩
 |a::l,m,h=>by
  rw [List.mapM_cons] at h
  cases ha:f a with
  |none=>simp [ha] at h
  |some b=>
   cases hl:l.mapM f with
   |none=>simp [ha,hl] at h
   |some m'=>
    simp [ha,hl] at h;subst h;obtain ⟨h1,h2⟩:=Nh l hl;refine ⟨by simp [h1],fun i x hx => ?_⟩
    cases i with
    |zero=>simp at hx;subst hx;simpa using ha
    |succ i=>simpa using h2 i x (by simpa using hx)
theorem FH {w:World} {base n:Nat} {a:Addr} {vs:List Value} (h:w.cells? base a n=some vs):vs.length=n∧w.rangeAt a.block a.off vs∧(0<n→a.spot=none):=by
 unfold World.cells? at h
 split at h
 ·obtain ⟨h1,h2⟩:=Nh _ h;simp at h1;have each:∀j v,vs[j]?=some v→w.cell? (a.add j)=some v:=by
   intro j v hv;have hj:j<n:=by
    have:=(List.getElem?_eq_some_iff.1 hv).1;omega
   rw [h2 j j (by simp [hj]),hv]
  refine ⟨h1,fun j v hv => ?_,fun hn => ?_⟩
  ·have:=each j v hv;have hs:=J3 this;have e:a.add j=⟨a.block,a.off+j,none⟩:=by
    unfold Addr.add at hs ⊢
    split
    ·rename_i h0;subst h0;rw [if_pos rfl] at hs;obtain ⟨b,o,s⟩:=a;simp at hs;subst hs;rfl
    ·rfl
   rw [←e];exact this
  ·have dS:0<vs.length:=by omega
   have:=each 0 vs[0] (by simp [dS]);have hs:=J3 this;simpa [Addr.add] using hs
 ·cases h
theorem J4 {P:Program} {w:World} {cs:List Value} {row:TypeId→Option RT}:(fs:List Field)→(off:Nat)→(r:RT)→Hp P row off fs=some r→
  (∀f∈fs,∀q,row f.type=some q→∃x:aO q,ej w (fun _=>True) q ((cs.drop f.offset).take (P.cellsOf f.type)) x∧Hn q x)→off+r.width≤cs.length→
  ∃x:aO r,ej w (fun _=>True) r ((cs.drop off).take r.width) x∧Hn r x
 | [],off,r,h,_,_=>by
  simp only [Hp,Option.some.injEq] at h;subst h;exact ⟨(),by simp [RT.width,ej],Ho _⟩
 |f::fs,off,r,h,hf,hl=>by
  unfold Hp at h
  cases hq:row f.type with
  |none=>simp [hq] at h
  |some q=>
   simp only [hq] at h
   cases hr:Hp P row (off+q.width) fs with
   |none=>simp [hr] at h
   |some r'=>
    simp only [hr] at h;obtain ⟨h1,h2⟩:=bH h;injection h2 with h2;subst h2;rw [Bool.and_eq_true] at h1;have ho:=Nat.eq_of_beq_eq_true h1.1;have hc:=Nat.eq_of_beq_eq_true h1.2;rw [RT.EE] at hl;obtain ⟨x,OM,Lp⟩:=hf f List.mem_cons_self q hq;obtain ⟨y,hy1,hy2⟩:=J4 fs (off+q.width) r' hr (fun g hg=>hf g (List.mem_cons_of_mem _ hg)) (by omega);refine ⟨X6 q r' x y,?_,Hn.cat q r' x y Lp hy2⟩;rw [RT.EE,List.take_add,List.drop_drop];rw [ho,hc] at OM;exact ej.cat q r' _ _ x y OM hy1
theorem Lw {H:Type} {enc:TypeId×Value→H} {P:Program} {w:World} {base:Nat} {spare:Nat→Bool} {held:Bool}:(n:Nat)→∀ {t:TypeId} {r:RT} {fuel:Nat} {cs:List Value} {y:DataW H×List MemPlace},Hq P n t=some r→
  DataW.trod enc P w base spare held fuel t cs=some y→∃x:aO r,ej w (fun _=>True) r cs x∧Hn r x
 |0,_,_,_,_,_,h,_=>by cases h
 |n+1,t,r,fuel,cs,y,h,hd=>by
  unfold Hq at h
  cases hu:P.underlying t with
  |none=>simp [hu] at h
  |some d=>
   cases d with
   |bool=>
    simp only [hu,Option.some.injEq] at h;subst h;obtain ⟨b,rfl,_⟩:=DataW.trod_bool hu hd;exact ⟨((b:Bool),()),⟨_,_,rfl,Bl.2 rfl,rfl⟩,rn.2 ⟨aaA,Ho _⟩⟩
   |int k=>
    simp only [hu,Option.some.injEq] at h;subst h;obtain ⟨m,rfl,_,hw⟩:=DataW.trod_int hu hd;exact ⟨((m:Int),()),⟨_,_,rfl,x7.2 rfl,rfl⟩,rn.2 ⟨ahf.2 hw,Ho _⟩⟩
   |string=>
    simp only [hu,Option.some.injEq] at h;subst h;obtain ⟨s,rfl,_,hw⟩:=DataW.trod_string hu hd;exact ⟨((s:ByteArray),()),⟨_,_,rfl,Ep.2 rfl,rfl⟩,rn.2 ⟨ahg.2 hw,Ho _⟩⟩
   |slice e=>
    simp only [hu] at h
    cases hq:Hq P n e with
    |none=>simp [hq] at h
    |some q=>
     simp only [hq] at h;obtain ⟨h1,h2⟩:=bH h;injection h2 with h2;subst h2;rw [Bool.and_eq_true] at h1;have hw:=Nat.eq_of_beq_eq_true h1.1;have aaB:0<q.width:=Nat.le_of_ble_eq_true h1.2;rcases DataW.trod_slice hu hd with ⟨rfl,_⟩ | ⟨a,len,cap,elems,rest,m,_,rfl,_,hb,hl,hm,hlen,hel,_,_⟩
     ·exact ⟨(([]:List (aO q)),()),⟨_,_,rfl,(qY _ _ _ _ _).2 (.inl ⟨rfl,rfl⟩),rfl⟩,rn.2 ⟨ahh.2 ⟨Nat.zero_le _,fun x hx=>by cases hx⟩,Ho _⟩⟩
     ·have each:∀i,i<len→∃x:aO q,(fx w (fun _=>True) q a.block (a.off+i*q.width) x∧Hn q x)∧a.spot=none∧a.block<w.heap.size:=by
       intro i hi;have h3:=hel i hi;rw [List.getElem?_eq_getElem (by omega),Option.bind_eq_some_iff] at h3;obtain ⟨vs,F9,hy⟩:=h3;obtain ⟨x,hx,hs⟩:=Lw n hq hy;obtain ⟨g1,g2,g3⟩:=FH F9;have hbk:(a.add (i*P.cellsOf e)).block=a.block:=by unfold Addr.add;split<;>rfl
       have hof:(a.add (i*P.cellsOf e)).off=a.off+i*q.width:=by
        unfold Addr.add;rw [hw]
        split
        ·rename_i h0;rw [h0];rfl
        ·rfl
       rw [hbk,hof] at g2;refine ⟨x,⟨(mf q _ _ x).2 ⟨vs,g2,hx⟩,hs⟩,?_,?_⟩
       ·have h4:=hel 0 (by omega);rw [List.getElem?_eq_getElem (by omega),Option.bind_eq_some_iff] at h4;obtain ⟨vs0,ams,_⟩:=h4;have:=(FH ams).2.2 (by omega);simpa [Addr.add] using this
       ·have dS:0<vs.length:=by omega
        have h5:=QB (g2 0 vs[0] (by simp [dS]));exact h5
      obtain ⟨xs,OM,Lp⟩:=QW len each;refine ⟨((xs:List (aO q)),()),⟨_,_,rfl,(qY _ _ _ _ _).2 (.inr ⟨a,cap,by rw [OM],by rw [OM];exact hl,fun mK => ?_,fun i x hi=>(Lp i x hi).1.1⟩),rfl⟩,?_⟩
      ·have dS:0<xs.length:=List.length_pos_iff.2 mK;have:=(Lp 0 xs[0] (by simp [dS])).2;exact ⟨this.1,this.2,trivial⟩
      ·refine rn.2 ⟨ahh.2 ⟨by show xs.length≤maxLen;omega,fun x hx => ?_⟩,Ho _⟩;obtain ⟨i,hi⟩:=List.getElem?_of_mem hx;exact (Lp i x hi).1.2
   |struct fs=>
    simp only [hu] at h
    cases hq:Hp P (Hq P n) 0 fs.toList with
    |none=>simp [hq] at h
    |some q=>
     simp only [hq] at h;obtain ⟨h1,h2⟩:=bH h;injection h2 with h2;subst h2;have hw:=Nat.eq_of_beq_eq_true h1;obtain ⟨xs,m,_,_,hlen,Zi,hel⟩:=DataW.trod_struct hu hd;obtain ⟨x,g1,g2⟩:=J4 (w:=w) (cs:=cs) fs.toList 0 q hq (fun f hf p hp=>by
      obtain ⟨i,hi⟩:=List.getElem?_of_mem hf;rw [Array.getElem?_toList] at hi;have h3:=hel i f hi;have dS:i<fs.size:=(Array.getElem?_eq_some_iff.1 hi).1;rw [List.getElem?_eq_getElem (by omega)] at h3;exact Lw n hp h3) (by omega)
     refine ⟨x,?_,g2⟩;have:(cs.drop 0).take q.width=cs:=by rw [List.drop_zero,List.take_of_length_le (by omega)]
     rwa [this] at g1
   |_=>simp [hu] at h
end Go.TM
namespace Go.TM
open Go Go.RowKit Go.ChangeShapes
mutual
theorem Ty.Ay:(t:Ty)→Ty.eq? t t=some ⟨rfl⟩
 |.int k=>by simp [Ty.eq?]
 |.bool=>rfl
 |.str=>rfl
 |.sl r=>by simp [Ty.eq?,RT.Ay r]
theorem RT.Ay:(r:RT)→RT.eq? r r=some ⟨rfl⟩
 |.nil=>rfl
 |.cons t r=>by simp [RT.eq?,Ty.Ay t,RT.Ay r]
end
theorem O3 (r:RT) (xs:List (aO r)):eb r xs=some xs:=by
 unfold eb;rw [RT.Ay]
theorem wD {p:OP} {ps:List OP} {t:RT} {o:OV} {os:List OV} {y:aO t} {x:den p.ty} {z:aO (oE ps t)} (h1:ve p o=some x) (h2:fp ps t os y=some z):fp (p::ps) t (o::os) y=some ((x,z):aO (oE (p::ps) t)):=by
 unfold fp;rw [h1,h2];rfl
theorem R2 {k:IntKind} {n:Int}:ve (.int k) (.int k n)=some n:=if_pos rfl
def pV:RT→List OP
 |.nil=>[]
 |.cons (.int k) r=>.int k::pV r
 |.cons .bool r=>.bool::pV r
 |.cons .str r=>.str::pV r
 |.cons (.sl q) r=>.shr q::pV r
def Cz.free:Cz:={ bx:=fun _=>0,lc:=fun _ _=>.nil,own:=fun _=>none }
theorem Ni {w:World} {f:Nat→Lb}:(r:RT)→(t:RT)→(j:Nat)→(vs:List Value)→(x:aO r)→(y:aO t)→ej w (fun _=>True) r vs x→Hn r x→
  ∃z:aO (oE (pV r) t),cD Cz.free w f j (fC (pV r) t z).1 vs∧fp (pV r) t (fC (pV r) t z).1 y=some z∧(Hn t y→Hn (oE (pV r) t) z)
 |.nil,t,j,vs,x,y,h,_=>by
  have:vs=[]:=h;subst this;exact ⟨y,rfl,rfl,id⟩
 |.cons ty r,t,j,vs,x,y,h,hs=>by
  obtain ⟨v,l,rfl,h1,h2⟩:=h;obtain ⟨s1,s2⟩:=rn.1 hs;obtain ⟨z,g1,g2,g3⟩:=Ni (f:=f) r t (j+1) l x.2 y h2 s2
  cases ty with
  |int k=>
   refine ⟨(x.1,z),⟨l,by rw [x7.1 h1],g1⟩,?_,fun hy=>rn.2 ⟨s1,g3 hy⟩⟩;exact wD (p:=.int k) (o:=.int k x.1) (R2) g2
  |bool=>
   refine ⟨(x.1,z),⟨l,by rw [Bl.1 h1],g1⟩,?_,fun hy=>rn.2 ⟨s1,g3 hy⟩⟩;exact wD (p:=.bool) (o:=.bool x.1) (rfl) g2
  |str=>
   refine ⟨(x.1,z),⟨l,by rw [Ep.1 h1],g1⟩,?_,fun hy=>rn.2 ⟨s1,g3 hy⟩⟩;exact wD (p:=.str) (o:=.str x.1) (rfl) g2
  |sl q=>
   refine ⟨(x.1,z),⟨v,l,rfl,ef.stays ⟨Nat.le_refl _,fun _ _ _=>rfl,fun _ _ _=>rfl⟩ _ _ _ h1,g1⟩,?_,fun hy=>rn.2 ⟨s1,g3 hy⟩⟩;exact wD (p:=.shr q) (o:=.shr q x.1) (O3 q x.1) g2
def OP.same:OP→OP→Bool
 |.int k,.int l=>decide (k=l)
 |.bool,.bool=>true
 |.str,.str=>true
 |.shr r,.shr s=>(RT.eq? r s).isSome
 |_,_=>false
theorem OP.Dt {p q:OP} (h:p.same q=true):p=q:=by
 cases p<;>cases q<;>simp [OP.same] at h
 ·rw [h]
 ·rfl
 ·rfl
 ·rename_i r s;obtain ⟨⟨e⟩,_⟩:=Option.isSome_iff_exists.1 h;rw [e]
def Bz:List OP→List OP→Bool
 | [],[]=>true
 |p::l,q::m=>p.same q&&Bz l m
 |_,_=>false
theorem Hr:(l m:List OP)→Bz l m=true→l=m
 | [],[],_=>rfl
 |p::l,q::m,h=>by
  unfold Bz at h;rw [Bool.and_eq_true] at h;rw [OP.Dt h.1,Hr l m h.2]
 | [],_::_,h=>by simp [Bz] at h
 |_::_,[],h=>by simp [Bz] at h
def Oz (P:Program):List TypeId→List AP→Bool
 | [],[]=>true
 |t::ts,.val agg os::ps=>(match Hq P 30 t with
   |some r=>Bz (pV r) os
   |none=>false)&&((match P.underlying t with | some (.struct _)=>agg | _ => !agg)&&(P.readableRec t&&(Nat.blt t P.types.size&&Oz P ts ps)))
 |_,_=>false
theorem one_cell {P:Program} {w:World} {r:Reach} {b:Nat} {t:TypeId} {v:Value} {rt:RT} (hn:Hq P 30 t=some rt) (hs:∀fs,P.underlying t≠some (.struct fs)) (h:Value.okWide P w r b t v):v.cells.toList=[v]:=by
 cases hu:P.underlying t with
 |none=>simp [Hq,hu] at hn
 |some d=>
  cases v<;>try rfl
  rename_i cs
  exfalso
  cases d<;>first | exact hs _ hu | (simp [Hq,hu] at hn;done) | (simp [Value.okWide,hu,Cell.okWide,Cell.ok] at h)
theorem J5 {H:Type} {enc:TypeId×Value→H} {P:Program} {w:World} {lc:Nat→Nat→Loc}:(ts:List TypeId)→(ps:List AP)→Oz P ts ps=true→(i:Nat)→(vs:List Value)→(ds:List (DataW H))→(p:List MemPlace)→
  (∀(j:Nat) t v,ts[j]?=some t→vs[j]?=some v→∃b,Value.okWide P w .any b t v)→DataW.TrodAll enc P w 0 (fun _=>true) true ts vs ds p→
  ∃(x:aO (aH (ps.map some))) (fP:List AV),gU ps fP=some x∧Cb Cz.free w lc i fP vs∧Hn (aH (ps.map some)) x
 | [],[],_,i,vs,ds,p,_,hA=>by
  obtain ⟨rfl,_,_⟩:=trodAll_nil hA;exact ⟨(),[],rfl,rfl,Ho _⟩
 | [],_::_,hb,_,_,_,_,_,_=>by simp [Oz] at hb
 |t::ts,[],hb,_,_,_,_,_,_=>by simp [Oz] at hb
 |t::ts,.io _ _::_,hb,_,_,_,_,_,_=>by simp [Oz] at hb
 |t::ts,.box _ _::_,hb,_,_,_,_,_,_=>by simp [Oz] at hb
 |t::ts,.dO _::_,hb,_,_,_,_,_,_=>by simp [Oz] at hb
 |t::ts,.val agg os::ps,hb,i,vs,ds,p,yd,hA=>by
  obtain ⟨v,vs',d,ds',p',q',rfl,rfl,rfl,h1,h2⟩:=trodAll_cons hA;unfold Oz at hb;rw [Bool.and_eq_true,Bool.and_eq_true,Bool.and_eq_true,Bool.and_eq_true] at hb;obtain ⟨b1,b2,_,_,b5⟩:=hb;obtain ⟨y,fP,g1,g2,g3⟩:=J5 (lc:=lc) ts ps b5 (i+1) vs' ds' q' (fun j t v ht hv=>yd (j+1) t v (by simpa using ht) (by simpa using hv)) h2;obtain ⟨b0,iR⟩:=yd 0 t v rfl rfl
  cases hr:Hq P 30 t with
  |none=>rw [hr] at b1;cases b1
  |some r=>
   rw [hr] at b1;have xp:=Hr _ _ b1;subst xp;obtain ⟨fuel,hd⟩:=h1;obtain ⟨x,OM,Lp⟩:=Lw 30 hr hd;obtain ⟨z,k1,k2,k3⟩:=Ni (f:=.dw i) r (aH (ps.map some)) 0 v.cells.toList x y OM Lp
   cases agg with
   |false=>
    have hs:∀fs,P.underlying t≠some (.struct fs):=by
     intro fs e;rw [e] at b2
     cases b2
    rw [one_cell hr hs iR] at k1;refine ⟨z,.val false (fC (pV r) (aH (ps.map some)) z).1::fP,?_,⟨v,vs',rfl,k1,g2⟩,k3 g3⟩;show (match gU ps fP with | some y=>JU (.val false (pV r)) (aH (ps.map some)) (.val false _) y | none=>none)=_;rw [g1];exact k2
   |true=>
    obtain ⟨fs,hu⟩:∃fs,P.underlying t=some (.struct fs):=by
     cases hu:P.underlying t with
     |none=>rw [hu] at b2;cases b2
     |some d=>
      rw [hu] at b2
      cases d<;>first | exact ⟨_,rfl⟩ | cases b2
    obtain ⟨cs,rfl,_⟩:∃cs,v=.agg cs∧True:=by
     unfold Value.okWide at iR;rw [hu] at iR;obtain ⟨cs,e,_⟩:=iR;exact ⟨cs,e,trivial⟩
    refine ⟨z,.val true (fC (pV r) (aH (ps.map some)) z).1::fP,?_,⟨.agg cs,vs',rfl,⟨cs,rfl,k1⟩,g2⟩,k3 g3⟩;show (match gU ps fP with | some y=>JU (.val true (pV r)) (aH (ps.map some)) (.val true _) y | none=>none)=_;rw [g1];exact k2
theorem J6 {H:Type} {enc:TypeId×Value→H} {P:Program} (hl:laidOutB P=true) {W W':World} (hb:Below W.heap.size W W'):(ts:List TypeId)→(ps:List AP)→Oz P ts ps=true→(vs:List Value)→(ds:List (DataW H))→(p:List MemPlace)→(∀x∈p,x.block<W.heap.size)→
  DataW.TrodAll enc P W 0 (fun _=>true) true ts vs ds p→DataW.TrodAll enc P W' 0 (fun b=>decide (b<W.heap.size)) true ts vs ds p
 | [],[],_,vs,ds,p,_,hA=>by
  obtain ⟨rfl,rfl,rfl⟩:=trodAll_nil hA;exact trodAll_mk0
 | [],_::_,hb,_,_,_,_,_=>by simp [Oz] at hb
 |t::ts,[],hb,_,_,_,_,_=>by simp [Oz] at hb
 |t::ts,.io _ _::_,hb,_,_,_,_,_=>by simp [Oz] at hb
 |t::ts,.box _ _::_,hb,_,_,_,_,_=>by simp [Oz] at hb
 |t::ts,.dO _::_,hb,_,_,_,_,_=>by simp [Oz] at hb
 |t::ts,.val agg os::ps,hp,vs,ds,p,dS,hA=>by
  obtain ⟨v,vs',d,ds',p',q',rfl,rfl,rfl,h1,h2⟩:=trodAll_cons hA;unfold Oz at hp;rw [Bool.and_eq_true,Bool.and_eq_true,Bool.and_eq_true,Bool.and_eq_true] at hp;obtain ⟨_,_,b3,b4,b5⟩:=hp;exact trodAll_cons_mk (Below.trod hl b3 (Nat.le_of_ble_eq_true b4) h1 hb (fun x hx=>dS x (List.mem_append_left _ hx))) (J6 hl hb ts ps b5 vs' ds' q' (fun x hx=>dS x (List.mem_append_right _ hx)) h2)
theorem R3 {H:Type} {enc:TypeId×Value→H} {P:Program} (hl:laidOutB P=true) {f:FuncId} {ps:List AP} {s:Nat} {t:aO (aH (ps.map some))→Option (aO (eg [{ src:=.tmp s,agg:=false,ps:=[.bool] }] (cF ps)))}
  (hk:tM P f (oG ps [{ src:=.tmp s,agg:=false,ps:=[.bool] }] t)) {ts:List TypeId} (XL:Oz P ts ps=true) (amu:∀x,Hn (aH (ps.map some)) x→∃y,t x=some y∧y.1=true)
  {W:World} {base:Nat} {args:Array Value} {ds:List (DataW H)} {p:List MemPlace} (yd:∀(j:Nat) t v,ts[j]?=some t→args[j]?=some v→Value.okWide P W .any base t v)
  (hA:DataW.TrodAll enc P W 0 (fun _=>true) true ts args.toList ds p) (dS:∀x∈p,x.block<W.heap.size) :
  Calls P f args W fun e W'=>e=.returned (.bool true)∧Below W.heap.size W W'∧DataW.TrodAll enc P W' 0 (fun b=>decide (b<W.heap.size)) true ts args.toList ds p:=by
 obtain ⟨x,fP,h1,h2,h3⟩:=J5 (lc:=fun _ _=>.nil) ts ps XL 0 args.toList ds p (fun j t v ht hv=>⟨base,yd j t v ht (by rwa [Array.getElem?_toList] at hv)⟩) hA;obtain ⟨y,hy,hy1⟩:=amu x h3
 let μ:Mu:={ m:=fun _=>False,ok:=fun _=>True,an:=[] }
 have hH:Handed Cz.free W μ:={
  m:=fun b=>⟨fun h=>h.elim,fun ⟨l,h,_⟩=>by cases h⟩
  ok:=fun b=>⟨fun _=>rfl,fun _=>trivial⟩
  lt:=fun b l h=>by cases h
  lb:=fun b l h=>by cases h }
 have hs:oG ps [{ src:=.tmp s,agg:=false,ps:=[.bool] }] t fP=some { r:=eg [{ src:=.tmp s,agg:=false,ps:=[.bool] }] (cF ps),o:=t x,res:=fun y=>{ outs:=(iH [{ src:=.tmp s,agg:=false,ps:=[.bool] }] (cF ps) y).1,exts:=pk ps (iH [{ src:=.tmp s,agg:=false,ps:=[.bool] }] (cF ps) y).2 } }:=by
  unfold oG;rw [h1]
 refine (hk.ok Cz.free W μ (fun _ _=>.nil) fP args _ y hH h2 hs hy).mono fun e W' ⟨v,he,c',hb,hV,_⟩ => ?_
 have ahj:Below W.heap.size W W':=⟨hb.kept.1,hb.kept.2.1,hb.kept.2.2.1,hb.kept.2.2.2,fun k hk=>hb.old k hk (fun h=>h.elim)⟩;have hv:v=.bool true:=by
  have hV:u9 c' W' [.one (.bool y.1)] v:=hV;rcases hV with ⟨r,e1,g⟩ | ⟨g,_⟩
  ·simp only [List.cons.injEq,and_true] at e1;subst e1;obtain ⟨v',l,e2,g2,_⟩:=g;simp only [List.cons.injEq] at e2;obtain ⟨e2,_⟩:=e2;obtain ⟨l',g3,_⟩:=g2;simp only [List.cons.injEq] at g3;rw [e2,g3.1,hy1]
  ·simp at g
 exact ⟨by rw [he,hv],ahj,J6 hl ahj ts ps XL args.toList ds p dS hA⟩
theorem dH {a:Int} (h1 : -9223372036854775808≤a) (h2:a<9223372036854775808):IntKind.i64.wrap a=a:=by
 rw [IntKind.wrap_i64];omega
theorem sy {X E:Type} {round:X→Option (Sum X E)} {n:Nat} (st:Nat→X) (g:Nat→Option E) (U7:∃e,round (st n)=some (.inr e)∧g n=some e)
  (FI:∀k,k<n→(∃e,round (st k)=some (.inr e)∧g k=some e)∨(round (st k)=some (.inl (st (k+1)))∧g k=g (k+1))):∀k,k≤n→aI round (st k)=g k:=by
 have key:∀d k,k+d=n→aI round (st k)=g k:=by
  intro d
  induction d with
  |zero=>
   intro k hk;have:k=n:=by omega
   subst this;obtain ⟨e,h1,h2⟩:=U7;rw [jz,h1,h2]
  |succ d ih=>
   intro k hk;rcases FI k (by omega) with ⟨e,h1,h2⟩ | ⟨h1,h2⟩
   ·rw [jz,h1,h2]
   ·rw [jz,h1,h2];exact ih (k+1) (by omega)
 intro k hk;exact key (n-k) k (by omega)
theorem ca {X E:Type} {round:X→Option (Sum X E)} (n:Nat) (st:Nat→X) {e:E} (U7:round (st n)=some (.inr e))
  (FI:∀k,k<n→round (st k)=some (.inl (st (k+1)))):aI round (st 0)=some e:=
 sy st (fun _=>some e) ⟨e,U7,rfl⟩ (fun k hk=>.inr ⟨FI k hk,rfl⟩) 0 (Nat.zero_le _)
theorem dA {X E:Type} {round:X→Option (Sum X E)} (n:Nat) (I:Nat→X→Prop) (Q:E→Prop) (U7:∀x,I n x→∃e,round x=some (.inr e)∧Q e)
  (FI:∀k x,k<n→I k x→(∃e,round x=some (.inr e)∧Q e)∨(∃y,round x=some (.inl y)∧I (k+1) y)) {x:X} (h:I 0 x):∃e,aI round x=some e∧Q e:=by
 have key:∀d k x,k+d=n→I k x→∃e,aI round x=some e∧Q e:=by
  intro d
  induction d with
  |zero=>
   intro k x hk hI;have:k=n:=by omega
   subst this;obtain ⟨e,h1,h2⟩:=U7 x hI;exact ⟨e,by rw [jz,h1],h2⟩
  |succ d ih=>
   intro k x hk hI;rcases FI k x (by omega) hI with ⟨e,h1,h2⟩ | ⟨y,h1,h2⟩
   ·exact ⟨e,by rw [jz,h1],h2⟩
   ·obtain ⟨e,h3,h4⟩:=ih (k+1) y (by omega) h2;exact ⟨e,by rw [jz,h1];exact h3,h4⟩
 exact key n 0 x (by omega) h
theorem kk {A B C:Type} {a:A} {f:A→Option C} {g:B→Option C}:bW (some (.inl a)) f g=f a:=rfl
theorem U9 {A B C:Type} {b:B} {f:A→Option C} {g:B→Option C}:bW (some (.inr b)) f g=g b:=rfl
theorem ak {p:Prop} [Decidable p] (h:p):decide p=true:=decide_eq_true h
theorem aq {p:Prop} [Decidable p] (h:¬p):decide p=false:=decide_eq_false h
theorem aF (k:Nat):Int.toNat ((k:Nat):Int)=k:=rfl
theorem fW {a b:Nat} (h:a<b):Nat.blt a b=true:=Nat.ble_eq_true_of_le h
theorem aT {a b:Nat} (h:a≤b):Nat.ble a b=true:=Nat.ble_eq_true_of_le h
theorem ax (k:Nat):decide ((0:Int)≤((k:Nat):Int))=true:=ak (by omega)
theorem aD {k n:Nat} (h:k<n):decide (((k:Nat):Int)<((n:Nat):Int))=true:=ak (by omega)
theorem aM (n:Nat):decide (((n:Nat):Int)<((n:Nat):Int))=false:=aq (by omega)
theorem aN {k:Nat} (h:k<4611686018427387904):IntKind.i64.wrap (((k:Nat):Int)+(1:Int))=(((k+1:Nat)):Int):=by
 rw [dH]<;>omega
theorem Hs (bs:ByteArray):∀(d i:Nat) (r:List UInt8),bs.size-i=d→ByteArray.toList.loop bs i r=r.reverse++bs.data.toList.drop i
 |0,i,r,h=>by
  unfold ByteArray.toList.loop;rw [if_neg (by omega)];have:bs.data.toList.drop i=[]:=List.drop_of_length_le (by
   have:bs.data.toList.length=bs.size:=Array.length_toList;omega)
  rw [this,List.append_nil]
 |d+1,i,r,h=>by
  unfold ByteArray.toList.loop;have dS:i<bs.size:=by omega
  rw [if_pos dS,Hs bs d (i+1) _ (by omega)];have amv:i<bs.data.toList.length:=by
   have:bs.data.toList.length=bs.size:=Array.length_toList;omega
  rw [List.reverse_cons,List.append_assoc,List.drop_eq_getElem_cons amv]
  congr 2
  simp [ByteArray.get!,dS]
theorem Ht (bs:ByteArray):bs.toList=bs.data.toList:=by
 unfold ByteArray.toList;rw [Hs bs _ 0 [] rfl];simp
theorem R4 {a b:ByteArray}:uU a b=true↔a=b:=by
 unfold uU;rw [beq_iff_eq]
 constructor
 ·intro h;rw [Ht,Ht] at h;obtain ⟨⟨x⟩⟩:=a;obtain ⟨⟨y⟩⟩:=b;exact congrArg (fun l=>ByteArray.mk ⟨l⟩) h
 ·intro h;rw [h]
theorem Hu (a:ByteArray):uU a a=true:=R4.2 rfl
def wl {α:Type} (f:α→Nat) (xs:List α):Nat:=xs.foldr (fun x n=>f x+n) 0
theorem Lx {α:Type} (f:α→Nat):wl f []=0:=rfl
theorem sb {α:Type} (f:α→Nat) (x:α) (xs:List α):wl f (x::xs)=f x+wl f xs:=rfl
theorem Hv {α:Type} (f:α→Nat) (xs ys:List α):wl f (xs++ys)=wl f xs+wl f ys:=by
 induction xs with
 |nil=>simp [wl]
 |cons x xs ih=>
  show f x+wl f (xs++ys)=f x+wl f xs+wl f ys;rw [ih];omega
theorem Hw {α:Type} (f:α→Nat) (xs:List α):∀x∈xs,f x≤wl f xs:=by
 induction xs with
 |nil=>intro x h;cases h
 |cons y xs ih=>
  intro x h;show f x≤f y+wl f xs;rcases List.mem_cons.1 h with rfl | h
  ·omega
  ·have:=ih x h;omega
theorem mW {α:Type} (f:α→Nat) (h:∀x,f x=0) (xs:List α):wl f xs=0:=by
 induction xs with
 |nil=>rfl
 |cons y xs ih=>show f y+wl f xs=0;rw [h,ih]
theorem pW {X Y E F:Type} {r1:X→Option (Sum X E)} {r2:Y→Option (Sum Y F)} (n:Nat) (R:Nat→X→Y→Prop) (Q:E→F→Prop)
  (FI:∀k x y,k≤n→R k x y→(∃e f,r1 x=some (.inr e)∧r2 y=some (.inr f)∧Q e f)∨(k<n∧∃x' y',r1 x=some (.inl x')∧r2 y=some (.inl y')∧R (k+1) x' y')) {x:X} {y:Y} (h:R 0 x y) :
  ∃e f,aI r1 x=some e∧aI r2 y=some f∧Q e f:=by
 have key:∀d k x y,k+d=n→R k x y→∃e f,aI r1 x=some e∧aI r2 y=some f∧Q e f:=by
  intro d
  induction d with
  |zero=>
   intro k x y hk hR;rcases FI k x y (by omega) hR with ⟨e,f,h1,h2,h3⟩ | ⟨dS,_⟩
   ·exact ⟨e,f,by rw [jz,h1],by rw [jz,h2],h3⟩
   ·omega
  |succ d ih=>
   intro k x y hk hR;rcases FI k x y (by omega) hR with ⟨e,f,h1,h2,h3⟩ | ⟨_,x',y',h1,h2,h3⟩
   ·exact ⟨e,f,by rw [jz,h1],by rw [jz,h2],h3⟩
   ·obtain ⟨e,f,g1,g2,g3⟩:=ih (k+1) x' y' (by omega) h3;exact ⟨e,f,by rw [jz,h1];exact g1,by rw [jz,h2];exact g2,g3⟩
 exact key n 0 x y (by omega) h
end Go.TM
namespace Go.TM
open Go Go.RowKit
def uL (P:Program):Nat→RT→List Field→Bool
 |_,.nil,[]=>true
 |off,.cons t r,f::fs=>Nat.beq f.offset off&&((f.name != "_")&&(P.plainKey f.type&&(Nd P f.type t&&uL P (off+1) r fs)))
 |_,_,_=>false
def EF (P:Program) (t:TypeId) (r:RT):Bool:=
 match P.underlying t with
 |some (.struct fs) => !P.stoodInHeld t&&(!P.eqGuardType P.depth t&&uL P 0 r fs.toList)
 |_=>false
def Zq (P:Program) (t:Nat) (r:Rec):Bool := !r.eq||(match r.row with | some q=>EF P t q | none=>false)
theorem O4 {P:Program} {c:Cz} {st:St} {w w':World} {t:TypeId} {ty:Ty} {d:Nat} {a b:CV} {x y:Value} {r:Bool} {q:RT} {l:List CV} (hk:Nd P t ty=true) (hf:uV (.cons ty q) (a::l)=true) (h:xY a b=some r) (hx:pR c st w a x) (hy:pR c st w b y) :
  (Op.equalIn (d+1) t x y).run P w'=.ok r w'∧uV q l=true:=by
 cases ty with
 |sl _=>cases a<;>simp [uV] at hf
 |int k=>
  obtain ⟨e,he,h2⟩:=ij hk
  cases a<;>try (simp [uV] at hf;done)
  rename_i k1 n;simp only [uV,Bool.and_eq_true,decide_eq_true_eq] at hf
  cases b<;>try (simp [xY] at h;done)
  rename_i k2 m;simp only [xY] at h
  split at h
  ·rename_i Xr;subst Xr
   cases h
   cases e<;>simp at h2
   have hx:x=.int k1 n:=hx;have hy:y=.int k1 m:=hy;subst hx hy;refine ⟨?_,hf.2⟩;rw [run_equalIn_int w' d t k1 _ n m he]
   congr 1
  ·cases h
 |bool=>
  obtain ⟨e,he,h2⟩:=ij hk
  cases a<;>try (simp [uV] at hf;done)
  cases b<;>try (simp [xY] at h;done)
  rename_i p q';simp only [xY,Option.some.injEq] at h;subst h
  cases e<;>simp at h2
  have hx:x=.bool p:=hx;have hy:y=.bool q':=hy;subst hx hy;exact ⟨run_equalIn_bool' w' d t p q' he,hf⟩
 |str=>
  obtain ⟨e,he,h2⟩:=ij hk
  cases a<;>try (simp [uV] at hf;done)
  cases b<;>try (simp [xY] at h;done)
  rename_i p q';simp only [xY,Option.some.injEq] at h;subst h
  cases e<;>simp at h2
  have hx:x=.string p:=hx;have hy:y=.string q':=hy;subst hx hy;exact ⟨run_equalIn_string w' d t p q' he,hf⟩
theorem Du {P:Program} {c:Cz} {st:St} {w w':World} {d:Nat} {us vs:Array Value}:(fs:List Field)→(off:Nat)→(q:RT)→(l m:List CV)→{b:Bool}→uL P off q fs=true→uV q l=true→pN l m=some b→
  iG c st w l (us.toList.drop off)→iG c st w m (vs.toList.drop off)→(Op.eqFields (d+1) us vs fs).run P w'=.ok b w'
 | [],off,q,l,m,b,hf,rf,hc,hl,hm=>by
  cases q with
  |cons t r=>cases t<;>simp [uL] at hf
  |nil=>
   cases l with
   |cons _ _=>simp [uV] at rf
   |nil=>cases m with
    |cons _ _=>simp [pN] at hc
    |nil=>
     simp only [pN,Option.some.injEq] at hc;subst hc;simp [Op.eqFields]
 |f::fs,off,q,l,m,b,hf,rf,hc,hl,hm=>by
  cases q with
  |nil=>simp [uL] at hf
  |cons t r=>
   unfold uL at hf;rw [Bool.and_eq_true,Bool.and_eq_true,Bool.and_eq_true,Bool.and_eq_true] at hf;obtain ⟨h1,h2,h3,h4,h5⟩:=hf;have h1:=Nat.eq_of_beq_eq_true h1
   cases l with
   |nil=>cases t<;>simp [uV] at rf
   |cons x l=>cases m with
    |nil=>simp [pN] at hc
    |cons y m=>
     simp only [pN] at hc
     cases he:xY x y with
     |none=>simp [he] at hc
     |some b1=>
      cases hes:pN l m with
      |none=>simp [he,hes] at hc
      |some b2=>
       simp only [he,hes,Option.some.injEq] at hc;subst hc;have XK:off<us.size:=by
        have:=hl.1;simp at this;omega
       have JD:off<vs.size:=by
        have:=hm.1;simp at this;omega
       have hdu:us.toList.drop off=us[off]::us.toList.drop (off+1):=by
        have:off<us.toList.length:=by simpa using XK
        rw [List.drop_eq_getElem_cons this];simp
       have hdv:vs.toList.drop off=vs[off]::vs.toList.drop (off+1):=by
        have:off<vs.toList.length:=by simpa using JD
        rw [List.drop_eq_getElem_cons this];simp
       rw [hdu] at hl;rw [hdv] at hm;have rx:=hl.2 0 x us[off] rfl rfl;have ry:=hm.2 0 y vs[off] rfl rfl;obtain ⟨k1,k2⟩:=O4 (w':=w') (d:=d) h4 rf he rx ry;have rl:iG c st w l (us.toList.drop (off+1)):=⟨by have:=hl.1;simpa using this,fun i a v ha hv=>hl.2 (i+1) a v (by simpa using ha) (by simpa using hv)⟩;have rm:iG c st w m (vs.toList.drop (off+1)):=⟨by have:=hm.1;simpa using this,fun i a v ha hv=>hm.2 (i+1) a v (by simpa using ha) (by simpa using hv)⟩;have ih:=Du (w':=w') (d:=d) fs (off+1) r l m h5 k2 hes rl rm;unfold Op.eqFields;rw [if_pos (by simpa using h2)];have p1:(part f.type us f.offset).run P w'=.ok us[off] w':=run_part_plain w' h3 (by rw [h1];exact Array.getElem?_eq_getElem XK);have p2:(part f.type vs f.offset).run P w'=.ok vs[off] w':=run_part_plain w' h3 (by rw [h1];exact Array.getElem?_eq_getElem JD);simp only [Sem.run_bind,p1,p2,k1,Result.andThen_ok]
       cases b1
       ·simp
       ·simp [ih]
theorem O5 {P:Program} {tr:Tr} (h:tr.all (Zq P)=true):zV P (mg tr):=by
 intro t ht c st w l m us vs b op ox oy rf hc hl hm w';have ht:(match tr.find t with | some r=>r.eq | none=>false)=true:=ht
 cases hf:tr.find t with
 |none=>rw [hf] at ht;cases ht
 |some r=>
  rw [hf] at ht;have ht:r.eq=true:=ht;have h1:=Tr.Ds tr h hf;unfold Zq at h1;rw [ht,Bool.not_true,Bool.false_or] at h1;unfold n9.fits at rf;have sO:(mg tr).row t=r.row:=by show (match tr.find t with | some r=>r.row | none=>none)=_;rw [hf]
  rw [sO] at rf
  cases hq:r.row with
  |none=>rw [hq] at h1;cases h1
  |some q=>
   rw [hq] at h1 rf;have h1:EF P t q=true:=h1;have rf:uV q l=true:=rf;unfold EF at h1
   split at h1
   ·rename_i fs hu;rw [Bool.and_eq_true,Bool.and_eq_true,Bool.not_eq_true',Bool.not_eq_true'] at h1;have hfo:P.fieldsOf t=fs:=by unfold Program.fieldsOf;rw [hu]
    refine ⟨run_eqGuard_agg w' op t ox oy us vs h1.2.1,?_⟩;show (Op.equalIn (9999+1) t (.agg us) (.agg vs)).run P w'=.ok b w';rw [run_equalIn_struct w' 9999 t us vs (by rw [hfo];exact hu) h1.1,hfo];exact Du (d:=9998) fs.toList 0 q l m h1.2.2 rf hc (by simpa using hl) (by simpa using hm)
   ·cases h1
end Go.TM
namespace Go.TM
open Go Go.RowKit
def Nj (n:Nat) (ps:List AP) (x:aO (aH (ps.map some))):St:=bP (start n ps x) (some 0) (.one .gg)
def QX (n:Nat) (r:RT) (xs:List (aO r)) (ps:List AP) (x:aO (aH (ps.map some))):St:=bP (start n ps x) (some 0) (.one (.nn r xs))
theorem Nk {P:Program} {tr:Tr} (hT:tr.all (zN P)=true) (hE:zV P (mg tr)) (hm:P.follows .mixedOrders=true) {S:mI} (hS:og P S) {D:mV} {f:FuncId} {fn:Func} {code:Code} {n:Nat} {r:RT} {qs:List AP} {rs:List RP}
  {L:pA (aO (eg rs (cF (.val false [.shr r]::qs))))} {t:aO (aH ((AP.val false [.shr r]::qs).map some))→Option (aO (eg rs (cF (.val false [.shr r]::qs))))}
  (hf:P.funcs[f]?=some fn) (hb:fn.body=some code) (sP:Zp (mg tr) D fn code n (.val false [.shr r]::qs) rs=true) (Ng:(fn.name == "runtime.NumGoroutine")=false)
  (hL:∀(w0:World) (mu:Mu) (y:aO (eg rs (cF (.val false [.shr r]::qs)))),oW (.val false [.shr r]::qs) mu→∀p∈fq code,pf P w0 mu n L y p.1 p.2)
  (Va:∀z,gF (mg tr) S D L code (Nj n (.val false [.shr r]::qs) (([]:List (aO r)),z)) (Ez rs (.val false [.shr r]::qs))=t (([]:List (aO r)),z))
  (hnn:∀x,gF (mg tr) S D L code (QX n r x.1 (.val false [.shr r]::qs) x) (Ez rs (.val false [.shr r]::qs))=t x):tM P f (oG (.val false [.shr r]::qs) rs t):=by
 unfold Zp at sP;rw [Bool.and_eq_true,Bool.and_eq_true,Bool.and_eq_true,Bool.and_eq_true] at sP;obtain ⟨h1,h2,h3,h4,h5⟩:=sP;refine ⟨M7 (kC hT) hE hS hf hb (Nat.eq_of_beq_eq_true h1) (Nat.le_of_ble_eq_true h2) h3 (fun tm=>By tm _ _ h4) (fun w0 mu y hs=>tV code (hL w0 mu y hs))
  (fun w0 mu=>uK (kC hT) hE hm (pT (kC hT) hE hS w0 mu n)) (wC code h5) (fun w0 mu c a w x hR hn => ?_),fn,hf,Ng,by rw [hb];rfl⟩
 have aaB:0<n:=by
  have:=Nat.le_of_ble_eq_true h2;simp at this;omega
 have xu:=hR.iX 0;have hg:dF (start n (.val false [.shr r]::qs) x) 0=.one (.shr r x.1):=rfl;rw [hg] at xu;have GH:ef w c.ok (.sl r) (a.eval (.tmp 0)) x.1:=xu;have h0:0<a.tmps.size:=by omega
 by_cases hv:a.eval (.tmp 0)=.slice none 0 0
 ·refine ⟨c,Nj n (.val false [.shr r]::qs) x,?_,?_⟩
  ·have:=hR.bP (d:=some 0) (v:=.one .gg) (u:=a.eval (.tmp 0)) hv (fun k e=>by cases e;exact h0)
   rwa [G0 a 0 _ h0 rfl] at this
  ·have hx:x.1=([]:List (aO r)):=by
    rcases (qY _ _ _ _ _).1 GH with ⟨_,h⟩ | ⟨_,_,h,_⟩
    ·exact h
    ·rw [hv] at h;cases h
   obtain ⟨x1,z⟩:=x;simp only at hx;subst hx;exact Va z
 ·refine ⟨c,QX n r x.1 (.val false [.shr r]::qs) x,?_,hnn x⟩;have:=hR.bP (d:=some 0) (v:=.one (.nn r x.1)) (u:=a.eval (.tmp 0)) ⟨GH,hv⟩ (fun k e=>by cases e;exact h0)
  rwa [G0 a 0 _ h0 rfl] at this
end Go.TM
namespace Go.TM
open Go Go.RowKit
section
variable {R:Type} (T:n9) (S:mI) (D:mV) (L:pA R)
noncomputable def Hy:Nat→Code→St→(St→Option R)→(Ex→St→Option R)→Option R
 |0,_,st,g,_=>g st
 |n+1,.seq a b,st,g,k=>gF T S D L a st fun e bN=>match e with
  |.normal=>Hy n b bN g k
  |e=>k e bN
 |_,_,_,_,_=>none
end
def zO:Nat→Code→Code
 |0,c=>c
 |n+1,.seq _ b=>zO n b
 |_,_=>.skip
theorem EG {n:Nat}:(m:Nat)→(c:Code)→hJ n c=true→hJ n (zO m c)=true
 |0,_,h=>h
 |m+1,c,h=>by
  cases c with
  |seq a b=>
   unfold hJ at h;rw [Bool.and_eq_true] at h;exact EG m b h.2
  |_=>rfl
theorem Az {ok:Nat→Code→Prop}:(m:Nat)→(c:Code)→fF ok c→fF ok (zO m c)
 |0,_,h=>h
 |m+1,c,h=>by
  cases c with
  |seq a b=>exact Az m b h.2
  |_=>exact trivial
theorem Ci {ok:Nat→Array Oper→Prop}:(m:Nat)→(c:Code)→fV ok c→fV ok (zO m c)
 |0,_,h=>h
 |m+1,c,h=>by
  cases c with
  |seq a b=>exact Ci m b h.2
  |_=>exact trivial
theorem Hz {R:Type} {P:Program} {T:n9} {S:mI} {D:mV} {L:pA R} {w0:World} {mu:Mu} {n:Nat} {r:R} {ok:Nat→Array Oper→Prop} (IZ:wz P T S w0 mu n) (hD:uH R P T S D w0 mu n ok)
  {k:Ex→St→Option R} {Q:Exit→Act→World→Prop} (hk:QI w0 mu n r k Q) {g:St→Option R}:(m:Nat)→(cd:Code)→hJ n cd=true→fF (pf P w0 mu n L r) cd→fV ok cd→
  (∀ {c:Cz} {st:St} {a:Act} {w:World},Rel w0 mu c st a w→a.tmps.size=n→g st=some r→(zO m cd).wp P Q a w)→
  {c:Cz}→{st:St}→{a:Act}→{w:World}→Rel w0 mu c st a w→a.tmps.size=n→Hy T S D L m cd st g k=some r→cd.wp P Q a w
 |0,cd,_,_,_,hg,c,st,a,w,h,hn,hv=>hg h hn hv
 |m+1,cd,hd,hL,hw,hg,c,st,a,w,h,hn,hv=>by
  cases cd with
  |seq x y=>
   have hv:(gF T S D L x st fun e bN=>match e with
    |.normal=>Hy T S D L m y bN g k
    |e=>k e bN)=some r:=hv
   unfold hJ at hd;rw [Bool.and_eq_true] at hd;refine wp_seq (Da IZ hD x hd.1 hL.1 hw.1 (fun {e} {c} {st} {a} {w} h1 h2 h3 => ?_) h hn hv)
   cases e with
   |normal=>exact Hz IZ hD hk m y hd.2 hL.2 hw.2 hg h1 h2 h3
   |exit m=>exact hk h1 h2 h3
   |ret=>exact hk h1 h2 h3
  |_=>have hv:(none:Option R)=some r:=hv;cases hv
def ahk {R:Type} (P:Program) (w0:World) (mu:Mu) (n:Nat) (k:Ex→St→Option R) (r:R) (b:Code) (hp:List (Option AP)) (g:aO (aH hp)→Option R):Prop:=
 ∀x,g x=some r→∀ {Q:Exit→Act→World→Prop},QI w0 mu n r k Q→∀ {c:Cz} {a:Act} {w:World},Rel w0 mu c (pn hp x) a w→a.tmps.size=n→b.wp P Q a w
structure Vb (tr:Tr) (S:mI) (D:mV) (n:Nat) (ps:List AP) {R:Type} (L:pA R) (k:Ex→St→Option R) (P:Program) (b:Code) (hp:List (Option AP)) (g:aO (aH hp)→Option R):Prop where
 ok:∀(w0:World) (mu:Mu) (r:R),oW ps mu→hJ n b=true→fV (fun id ops=>Hl ops (D id)=true) b→fF (pf P w0 mu n L r) b→ahk P w0 mu n k r b hp g
theorem Vc {P:Program} {tr:Tr} (hT:tr.all (zN P)=true) (hE:zV P (mg tr)) (hm:P.follows .mixedOrders=true) {S:mI} (hS:og P S) {D:mV} {n:Nat} {ps:List AP} {R:Type} {L:pA R} {k:Ex→St→Option R} {b:Code} {hp:List (Option AP)} {g:aO (aH hp)→Option R}
  (h:∀x,gF (mg tr) S D L b (pn hp x) k=g x):Vb tr S D n ps L k P b hp g:=
 ⟨fun w0 mu _ _ hd hw hL x hx _ hk _ _ _ hr hn=>Da (pT (kC hT) hE hS w0 mu n) (uK (kC hT) hE hm (pT (kC hT) hE hS w0 mu n)) b hd hL hw hk hr hn ((h x).trans hx)⟩
theorem X7 {P:Program} {tr:Tr} (hT:tr.all (zN P)=true) (hE:zV P (mg tr)) (hm:P.follows .mixedOrders=true) {S:mI} (hS:og P S) {D:mV} {n:Nat} {ps:List AP} {R:Type} {L:pA R} {k:Ex→St→Option R} {b b':Code} {hp lE:List (Option AP)} {g:aO (aH hp)→Option R} {g':aO (aH lE)→Option R} {m:Nat}
  (hb:zO m b=b') (rf:hM ps lE=true) (h:∀x,Hy (mg tr) S D L m b (pn hp x) (fun st=>(Dn st lE).bind g') k=g x) (hs:Vb tr S D n ps L k P b' lE g'):Vb tr S D n ps L k P b hp g:=
 ⟨fun w0 mu r hsh hd hw hL x hx Q hk c a w hr hn=>Hz (pT (kC hT) hE hS w0 mu n) (uK (kC hT) hE hm (pT (kC hT) hE hS w0 mu n)) hk m b hd hL hw (fun {c} {st} {a} {w} h1 h2 h3=>by
  obtain ⟨y,hy,h4⟩:=Option.bind_eq_some_iff.1 h3;obtain ⟨c',h5⟩:=EB h1 hsh rf hy;rw [hb];exact hs.ok w0 mu r hsh (hb▸EG m b hd) (hb▸Ci m b hw) (hb▸Az m b hL) y h4 hk h5 h2) hr hn ((h x).trans hx)⟩
theorem Nl {P:Program} {tr:Tr} (hT:tr.all (zN P)=true) (hE:zV P (mg tr)) (hm:P.follows .mixedOrders=true) {S:mI} (hS:og P S) {D:mV} {f:FuncId} {fn:Func} {code b':Code} {n m:Nat} {ps:List AP} {rs:List RP}
  {L:pA (aO (eg rs (cF ps)))} {t:aO (aH (ps.map some))→Option (aO (eg rs (cF ps)))} {lE:List (Option AP)} {g':aO (aH lE)→Option (aO (eg rs (cF ps)))}
  (hf:P.funcs[f]?=some fn) (hb:fn.body=some code) (sP:Zp (mg tr) D fn code n ps rs=true) (Ng:(fn.name == "runtime.NumGoroutine")=false)
  (hL:∀(w0:World) (mu:Mu) (y:aO (eg rs (cF ps))),oW ps mu→∀p∈fq code,pf P w0 mu n L y p.1 p.2)
  (hr:zO m code=b') (rf:hM ps lE=true) (OY:∀x,Hy (mg tr) S D L m code (start n ps x) (fun st=>(Dn st lE).bind g') (Ez rs ps)=t x)
  (hs:Vb tr S D n ps L (Ez rs ps) P b' lE g'):tM P f (oG ps rs t):=by
 unfold Zp at sP;rw [Bool.and_eq_true,Bool.and_eq_true,Bool.and_eq_true,Bool.and_eq_true] at sP;obtain ⟨h1,h2,h3,h4,h5⟩:=sP;refine ⟨fun c w mu lc fP args A y hH hA mL ho => ?_,fn,hf,Ng,by rw [hb];rfl⟩;unfold oG at mL
 cases hx:gU ps fP with
 |none=>rw [hx] at mL;cases mL
 |some x=>
  rw [hx] at mL;simp only [Option.some.injEq] at mL;subst mL;have Gr:t x=some y:=ho;obtain ⟨Gq,c',hmm,iR,Hj,QS,Hi,RS,hR⟩:=M6 hH hA hx (Nat.le_of_ble_eq_true h2);refine calls_of_wp hf hb ?_;have hn:=Nat.eq_of_beq_eq_true h1;rw [hn];have oU:(args++Array.replicate (n-args.size) undef).size=n:=by
   have:args.size≤n:=by
    have h6:=Nat.le_of_ble_eq_true h2;have h7:=(Bv ps 0 fP args.toList hx hA).2.1;simp at h7;omega
   simp;omega
  have hlp:=tV code (hL w Gq y Hj);have hdr:=wC code h5;refine Hz (pT (kC hT) hE hS w Gq n) (uK (kC hT) hE hm (pT (kC hT) hE hS w Gq n)) (k:=Ez rs ps) (r:=y) (fun {e} {c1} {GL} {a1} {w1} q1 q2 q3 => ?_) m code h3 hlp hdr (fun {c1} {GL} {a1} {w1} q1 q2 q3 => ?_) hR oU ((OY x).trans Gr)
  ·obtain ⟨he,v,u4,c2,Ms,hV,hX⟩:=OX (P:=P) (kC hT) hmm iR q1 (By a1.tmps _ _ h4) RS.symm (by rw [←Hi];simp) QS q3;have Hb:a1.defers=[]∧∃v,(results fn a1.tmps).run P w1=.ok v w1∧(∃v',Ending.returned v=.returned v'∧∃c',Fx w mu c' w1∧u9 c' w1 (iH rs (cF ps) y).1 v'∧kj c' w1 lc 0 fP args.toList (pk ps (iH rs (cF ps) y).2)):=
    ⟨q1.plain,v,u4,v,rfl,c2,Ms,hV,hX⟩
   rcases he with rfl | rfl<;>exact Hb
  ·obtain ⟨z,hz,q4⟩:=Option.bind_eq_some_iff.1 q3;obtain ⟨c2,q5⟩:=EB q1 Hj rf hz;rw [hr];refine hs.ok w Gq y Hj (hr▸EG m code h3) (hr▸Ci m code hdr) (hr▸Az m code hlp) z q4 (fun {e} {c1} {GL} {a1} {w1} q1 q2 q3 => ?_) q5 q2;obtain ⟨he,v,u4,c2,Ms,hV,hX⟩:=OX (P:=P) (kC hT) hmm iR q1 (By a1.tmps _ _ h4) RS.symm (by rw [←Hi];simp) QS q3;have Hb:a1.defers=[]∧∃v,(results fn a1.tmps).run P w1=.ok v w1∧(∃v',Ending.returned v=.returned v'∧∃c',Fx w mu c' w1∧u9 c' w1 (iH rs (cF ps) y).1 v'∧kj c' w1 lc 0 fP args.toList (pk ps (iH rs (cF ps) y).2)):=
    ⟨q1.plain,v,u4,v,rfl,c2,Ms,hV,hX⟩
   rcases he with rfl | rfl<;>exact Hb
end Go.TM
namespace Go.TM
open Go Go.RowKit
noncomputable section
structure TK (P:Program) where
 tr:Tr
 hT:tr.all (zN P)=true
 hE:zV P (mg tr)
 hm:P.follows .mixedOrders=true
structure KF (P:Program) where
 f:FuncId
 m:Pm×Pm×Pm
 F8:Ag
 ok:tM P f F8
def KF.sl {P:Program} (k:KF P):Nat×(Pm×Pm×Pm×Ag):=(k.f,(k.m.1,k.m.2.1,k.m.2.2,k.F8))
def aaC {P:Program}:List (KF P)→aaz
 | []=>[]
 |k::l=>k.sl::aaC l
theorem HA {P:Program}:(l:List (KF P))→og P (Ch (aaC l))
 | []=>U5
 |k::l=>R0 k.ok (HA l)
def kw {P:Program} {f:FuncId} {s:Ag} (h:tM P f s):KF P:=⟨f,(.shr,.shr,.shr),s,h⟩
def kv {P:Program} (m:Pm×Pm×Pm) {f:FuncId} {s:Ag} (h:tM P f s):KF P:=⟨f,m,s,h⟩
structure LD where
 i:Nat
 b:Code
 hp:List (Option AP)
 e:List (Option AP)
 q:List (Option AP)
 r:aO (aH hp)→Option (Sum (aO (aH hp)) (Sum (aO (aH e)) (aO (aH q))))
def LD.Ok (l:LD) (P:Program) (n:Nat) (ps:List AP):Prop:=
 ∀ {R:Type} (L:pA R) (y:R) (w0:World) (mu:Mu),(∀st k,L l.i l.b st k=ED l.hp l.e l.q l.r st k)→oW ps mu→pf P w0 mu n L y l.i l.b
structure KLs (P:Program) (n:Nat) (ps:List AP) where
 d:LD
 ok:d.Ok P n ps
def ob {P:Program} {n:Nat} {ps:List AP} {R:Type}:List (KLs P n ps)→pA R
 | []=>noL
 |l::ls=>fun id b st k=>bif Nat.beq id l.d.i then ED l.d.hp l.d.e l.d.q l.d.r st k else ob ls id b st k
def HB {P:Program} {n:Nat} {ps:List AP}:List (KLs P n ps)→List (Nat×Code)
 | []=>[]
 |l::ls=>(l.d.i,l.d.b)::HB ls
def Nn {P:Program} {n:Nat} {ps:List AP}:List (KLs P n ps)→Bool
 | []=>true
 |l::ls=>ls.all (fun m => !Nat.beq m.d.i l.d.i)&&Nn ls
theorem Vd {P:Program} {n:Nat} {ps:List AP} {R:Type}:(ls:List (KLs P n ps))→Nn ls=true→∀l∈ls,∀st (k:Ex→St→Option R),ob ls l.d.i l.d.b st k=ED l.d.hp l.d.e l.d.q l.d.r st k
 | [],_,l,h=>by cases h
 |m::ls,hb,l,h=>by
  intro st k;unfold Nn at hb;rw [Bool.and_eq_true] at hb;rcases List.mem_cons.1 h with rfl | h
  ·show (bif Nat.beq l.d.i l.d.i then _ else _)=_;rw [Nat.beq_refl];rfl
  ·show (bif Nat.beq l.d.i m.d.i then _ else ob ls l.d.i l.d.b st k)=_;have:=List.all_eq_true.1 hb.1 l h;rw [Bool.not_eq_true'] at this;rw [this];exact Vd ls hb.2 l h st k
theorem QY {P:Program} {n:Nat} {ps:List AP}:(ls:List (KLs P n ps))→∀p∈HB ls,∃l∈ls,p=(l.d.i,l.d.b)
 | [],p,h=>by cases h
 |m::ls,p,h=>by
  rcases List.mem_cons.1 h with rfl | h
  ·exact ⟨m,List.mem_cons_self,rfl⟩
  ·obtain ⟨l,h1,h2⟩:=QY ls p h;exact ⟨l,List.mem_cons_of_mem _ h1,h2⟩
theorem Ly {P:Program} {n:Nat} {ps:List AP} {R:Type} {ls:List (KLs P n ps)} (hb:Nn ls=true) {c:Code} (hc:fq c=HB ls) (y:R) (w0:World) (mu:Mu) (hs:oW ps mu):∀p∈fq c,pf P w0 mu n (ob ls) y p.1 p.2:=by
 rw [hc];intro p hp;obtain ⟨l,hl,rfl⟩:=QY ls p hp;exact l.ok (ob ls) y w0 mu (Vd ls hb l hl) hs
structure FC (P:Program) where
 t:TK P
 l:List (KF P)
 D:mV
 fn:Func
 ps:List AP
abbrev FC.code {P:Program} (F:FC P):Code:=U0 F.fn
abbrev FC.S {P:Program} (F:FC P):mI:=Ch (aaC F.l)
abbrev FC.T {P:Program} (F:FC P):n9:=mg F.t.tr
abbrev FC.KL {P:Program} (F:FC P):Type:=KLs P F.fn.ntmps F.ps
abbrev FC.Ok {P:Program} (F:FC P) (l:LD):Prop:=l.Ok P F.fn.ntmps F.ps
abbrev FC.fin {P:Program} (F:FC P) (rs:List RP):Ex→St→Option (aO (eg rs (cF F.ps))):=Ez rs F.ps
def FC.lp {P:Program} (F:FC P) (j:Nat):Code:=Bx F.code j
theorem FC.kl {P:Program} (F:FC P) {l:LD} (ls:List F.KL) (h1:(J2 F.D F.ps l.hp l.e l.q F.fn.ntmps l.b&&Nn ls)=true) (h2:fq l.b=HB ls)
  (ht:∀x,gF F.T F.S F.D (ob ls) l.b (pn l.hp x) (EC l.i l.hp l.e l.q)=l.r x):F.Ok l:=by
 rw [Bool.and_eq_true] at h1;exact fun _ _ w0 mu hL hs=>R1 F.t.hT F.t.hE F.t.hm (HA F.l) hs h1.1 (fun z=>Ly h1.2 h2 z w0 mu hs) ht hL
theorem FC.lF {P:Program} (F:FC P) {l:LD} (h:∀x,(J2 F.D F.ps l.hp l.e l.q F.fn.ntmps l.b&&(fq l.b).isEmpty,gF F.T F.S F.D noL l.b (pn l.hp x) (EC l.i l.hp l.e l.q))=(true,l.r x)):F.Ok l:=by
 have h1:=congrArg Prod.fst (h (wq _));have h1:(J2 F.D F.ps l.hp l.e l.q F.fn.ntmps l.b&&(fq l.b).isEmpty)=true:=h1;rw [Bool.and_eq_true] at h1;have ht:∀x,gF F.T F.S F.D noL l.b (pn l.hp x) (EC l.i l.hp l.e l.q)=l.r x:=fun x=>congrArg Prod.snd (h x)
 have g:F.Ok l:=F.kl [] (by rw [h1.1];rfl) (List.isEmpty_iff.1 h1.2) ht;exact @g
abbrev FC.amx {P:Program} (F:FC P) (rs:List RP) (t:X4 (aH (F.ps.map some)) (Option (aO (eg rs (cF F.ps))))):Ag:=oG F.ps rs (nJ (aH (F.ps.map some)) t)
abbrev FC.Kn {P:Program} (F:FC P) (rs:List RP) (f:FuncId) (t:X4 (aH (F.ps.map some)) (Option (aO (eg rs (cF F.ps))))):Prop:=tM P f (F.amx rs t)
def FC.Zr {P:Program} (F:FC P) (rs:List RP):Bool:=F.fn.body.isSome&&(Zp F.T F.D F.fn F.code F.fn.ntmps F.ps rs && !(F.fn.name == "runtime.NumGoroutine"))
theorem FC.O6 {P:Program} {F:FC P} {rs:List RP} (h:F.Zr rs=true):F.fn.body=some F.code∧Zp F.T F.D F.fn F.code F.fn.ntmps F.ps rs=true∧(F.fn.name == "runtime.NumGoroutine")=false:=by
 unfold FC.Zr at h;rw [Bool.and_eq_true,Bool.and_eq_true,Bool.not_eq_true'] at h;obtain ⟨h1,h2,h3⟩:=h;refine ⟨?_,h2,h3⟩;obtain ⟨c,hc⟩:=Option.isSome_iff_exists.1 h1;unfold FC.code U0;rw [hc]
theorem FC.kf {P:Program} (F:FC P) {rs:List RP} {f:FuncId} {t:X4 (aH (F.ps.map some)) (Option (aO (eg rs (cF F.ps))))} (ls:List F.KL) (hf:P.funcs[f]?=some F.fn) (h1:(F.Zr rs&&Nn ls)=true) (h2:fq F.code=HB ls)
  (ht:∀x,gF F.T F.S F.D (ob ls) F.code (start F.fn.ntmps F.ps x) (F.fin rs)=nJ (aH (F.ps.map some)) t x):F.Kn rs f t:=by
 rw [Bool.and_eq_true] at h1;obtain ⟨hb,hc,hn⟩:=F.O6 h1.1;exact X5 F.t.hT F.t.hE F.t.hm (HA F.l) (D:=F.D) (L:=ob ls) hf hb hc hn (fun w0 mu y hs=>Ly h1.2 h2 y w0 mu hs) ht
theorem FC.nf {P:Program} (F:FC P) {rs:List RP} {f:FuncId} {t:X4 (aH (F.ps.map some)) (Option (aO (eg rs (cF F.ps))))} (hf:P.funcs[f]?=some F.fn)
  (h:∀x,(F.Zr rs&&(fq F.code).isEmpty,gF F.T F.S F.D noL F.code (start F.fn.ntmps F.ps x) (F.fin rs))=(true,nJ (aH (F.ps.map some)) t x)):F.Kn rs f t:=by
 have h1:=congrArg Prod.fst (h (wq _));have h1:(F.Zr rs&&(fq F.code).isEmpty)=true:=h1;rw [Bool.and_eq_true] at h1;exact F.kf [] hf (by rw [h1.1];rfl) (List.isEmpty_iff.1 h1.2) fun x=>congrArg Prod.snd (h x)
theorem FC.Xs {P:Program} (F:FC P) {rs:List RP} {f:FuncId} {t:X4 (aH (F.ps.map some)) (Option (aO (eg rs (cF F.ps))))} (hf:P.funcs[f]?=some F.fn) (h1:(F.Zr rs&&(fq F.code).isEmpty)=true)
  (ht:∀x,gF F.T F.S F.D noL F.code (start F.fn.ntmps F.ps x) (F.fin rs)=nJ (aH (F.ps.map some)) t x):F.Kn rs f t:=by
 rw [Bool.and_eq_true] at h1;exact F.kf [] hf (by rw [h1.1];rfl) (List.isEmpty_iff.1 h1.2) ht
theorem FC.kl1 {P:Program} (F:FC P) {l:LD} (h1:(J2 F.D F.ps l.hp l.e l.q F.fn.ntmps l.b&&(fq l.b).isEmpty)=true)
  (ht:∀x,gF F.T F.S F.D noL l.b (pn l.hp x) (EC l.i l.hp l.e l.q)=l.r x):F.Ok l:=by
 rw [Bool.and_eq_true] at h1;have g:F.Ok l:=F.kl [] (by rw [h1.1];rfl) (List.isEmpty_iff.1 h1.2) ht;exact @g
theorem FC.kfn {P:Program} (F:FC P) {rs:List RP} {f:FuncId} {t:X4 (aH (F.ps.map some)) (Option (aO (eg rs (cF F.ps))))} (ls:List F.KL) (hf:P.funcs[f]?=some F.fn) (r:RT) (qs:List AP) (hq:F.ps=.val false [.shr r]::qs) (h1:(F.Zr rs&&Nn ls)=true) (h2:fq F.code=HB ls)
  (h4:∀x,gF F.T F.S F.D (ob ls) F.code (bP (start F.fn.ntmps F.ps (hq▸(([]:List (aO r)),x))) (some 0) (.one .gg)) (F.fin rs)=nJ (aH (F.ps.map some)) t (hq▸(([]:List (aO r)),x)))
  (h5:∀x,gF F.T F.S F.D (ob ls) F.code (bP (start F.fn.ntmps F.ps (hq▸x)) (some 0) (.one (.nn r x.1))) (F.fin rs)=nJ (aH (F.ps.map some)) t (hq▸x)):F.Kn rs f t:=by
 rw [Bool.and_eq_true] at h1;obtain ⟨hb,hc,hn⟩:=F.O6 h1.1;obtain ⟨tt,l,D,fn,ps⟩:=F;simp only at hq;subst hq;exact Nk tt.hT tt.hE tt.hm (HA l) (D:=D) (L:=ob ls) hf hb hc hn (fun w0 mu y hs=>Ly h1.2 h2 y w0 mu hs) h4 h5
theorem FC.ahl {P:Program} (F:FC P) (ls:List F.KL) {R:Type} {k:Ex→St→Option R} {b:Code} {hp:List (Option AP)} {g:aO (aH hp)→Option R} (h:∀x,gF F.T F.S F.D (ob ls) b (pn hp x) k=g x):Vb F.t.tr F.S F.D F.fn.ntmps F.ps (ob ls) k P b hp g:=
 Vc F.t.hT F.t.hE F.t.hm (HA F.l) h
theorem FC.Zs {P:Program} (F:FC P) (ls:List F.KL) {R:Type} {k:Ex→St→Option R} {b b':Code} {hp lE:List (Option AP)} {g:aO (aH hp)→Option R} {g':aO (aH lE)→Option R} (m:Nat) (hs:Vb F.t.tr F.S F.D F.fn.ntmps F.ps (ob ls) k P b' lE g')
  (hb:zO m b=b') (rf:hM F.ps lE=true) (h:∀x,Hy F.T F.S F.D (ob ls) m b (pn hp x) (fun st=>(Dn st lE).bind g') k=g x):Vb F.t.tr F.S F.D F.fn.ntmps F.ps (ob ls) k P b hp g:=
 X7 F.t.hT F.t.hE F.t.hm (HA F.l) hb rf h hs
theorem FC.amz {P:Program} (F:FC P) (ls:List F.KL) {rs:List RP} {f:FuncId} {t:X4 (aH (F.ps.map some)) (Option (aO (eg rs (cF F.ps))))} (hf:P.funcs[f]?=some F.fn) (m:Nat) {b':Code} {lE:List (Option AP)} {g':aO (aH lE)→Option (aO (eg rs (cF F.ps)))} (hs:Vb F.t.tr F.S F.D F.fn.ntmps F.ps (ob ls) (F.fin rs) P b' lE g')
  (h1:(F.Zr rs&&(Nn ls&&hM F.ps lE))=true) (h2:fq F.code=HB ls) (hr:zO m F.code=b') (ht:∀x,Hy F.T F.S F.D (ob ls) m F.code (start F.fn.ntmps F.ps x) (fun st=>(Dn st lE).bind g') (F.fin rs)=nJ (aH (F.ps.map some)) t x):F.Kn rs f t:=by
 rw [Bool.and_eq_true,Bool.and_eq_true] at h1;obtain ⟨hb,hc,hn⟩:=F.O6 h1.1;exact Nl F.t.hT F.t.hE F.t.hm (HA F.l) (D:=F.D) (L:=ob ls) hf hb hc hn (fun w0 mu y hs=>Ly h1.2.1 h2 y w0 mu hs) hr h1.2.2 ht hs
def sp:List (Nat×AP)→Nat→List (Option AP)
 | [],k=>nn k
 |(g,p)::l,k=>nn g++some p::sp l k
abbrev vl (l:List OP):AP:=.val false l
abbrev va (l:List OP):AP:=.val true l
abbrev Pl.a (i:Nat) (p:Pl):Pl:=.op i .any p
abbrev Pl.t (i:Nat) (p:Pl):Pl:=.op i .take p
abbrev Pl.o (i:Nat) (p:Pl):Pl:=.op i .one p
abbrev Pl.l (i:Nat) (p:Pl):Pl:=.op i .last p
def dr (i:Nat) (p:Pl) (D:mV:=gV):mV:=fun id=>bif Nat.beq id i then p else D id
end
end Go.TM
namespace Go.TM
open Go Go.RowKit
noncomputable section
end
end Go.TM
