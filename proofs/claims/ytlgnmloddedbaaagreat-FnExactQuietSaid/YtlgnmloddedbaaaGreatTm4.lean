/- A machine over trees: an evaluator of the code, and that what it finds is so; part 4. -/
import Derived.Test.YtlgnmloddedbaaaGreatTm3
import Derived.Deep.LoopGhost
import Derived.OrdersHeld
import Derived.KernelRfl
import Derived.Carry
import Derived.ChangeArms
import Derived.ChangeOld
import Derived.OpenShut
import Derived.Laws.StructEq
import Derived.ChangeKeysEq
namespace Go.TM
open Go Go.RowKit
theorem IK {P:Program} {fn:Func} {tm:Array Value} {w:World} {vals:List Value} (h:(fn.results.toList.mapM (D6 tm)).run P w=.ok vals w) :
  (results fn tm).run P w=.ok (if hs:vals.toArray.size=1 then vals.toArray[0] else .tuple vals.toArray) w:=by
 have e:results fn tm=(do let vs ←fn.results.mapM (D6 tm);pure (if h:vs.size=1 then vs[0] else .tuple vs):Sem Value):=rfl;rw [e,Array.mapM_eq_mapM_toList];simp [Sem.run_bind,h]
theorem Qd {c:Cz} {w:World} {mu:Mu} {lc:Nat→Nat→Loc} {dX:List AV} {args:Array Value} (hH:Handed c w mu) (hA:zg c w lc 0 dX args.toList) {ps:List AP} {x:aA (aN (ps.map some))} (hx:fm ps dX=some x) {n:Nat} (hn:ps.length≤n) :
  ∃(Fs:Mu) (c':Cz),Fs.m=mu.m∧(Fs.ok=mu.ok∧Fs.rs=mu.rs)∧mz ps Fs∧Hh Fs lc 0 ps dX args.toList∧args.size=ps.length∧dX.length=ps.length∧
   Rel w Fs c' (start n ps x) { tmps:=args++Array.replicate (n-args.size) undef,defers:=[] } w:=by
 obtain ⟨l1,l2,hold⟩:=BM ps 0 dX args.toList hx hA;have Qe:=CL ps dX hx;have LU:args.size=ps.length:=by rw [l2];simp
 let a:Act:={ tmps:=args++Array.replicate (n-args.size) undef,defers:=[] }
 have TV:∀k v,args.toList[k]?=some v→a.eval (.tmp k)=v:=by
  intro k v hk;have cA:k<args.size:=by
   have:=(List.getElem?_eq_some_iff.1 hk).1;simpa using this
  show (args++Array.replicate (n-args.size) undef).getD k undef=v;rw [Array.getD_eq_getD_getElem?,Array.getElem?_append_left cA];rw [Array.getElem?_toList] at hk;rw [hk];rfl
 let Fs:Mu:={ m:=mu.m,ok:=mu.ok,an:=D7 lc 0 dX args.toList,rs:=mu.rs }
 have hlen:(cB (ps.map some) x++List.replicate (n+1-ps.length) none).length=n+1:=by
  rw [List.length_append,qF];simp;omega
 have Ic:∀(i:Nat) (av:AV),(cB (ps.map some) x++List.replicate (n+1-ps.length) none)[i]?=some (some av)→(cB (ps.map some) x)[i]?=some (some av):=by
  intro i av hi
  by_cases h:i<(cB (ps.map some) x).length
  ·rwa [List.getElem?_append_left h] at hi
  ·rw [List.getElem?_append_right (by omega),List.getElem?_replicate] at hi
   split at hi<;>simp at hi
 have AI:Dj w Fs c w:=⟨fun b l hb=>⟨hH.lt b l hb,(hH.lb b l hb).imp id fun hh=>.inr ((hH.m b).2 ⟨l,hb,hh⟩)⟩,fun b _ hb=>.inr ((hH.ok b).2 hb),⟨rfl,rfl,rfl,Nat.le_refl _⟩,fun _ _ _=>rfl,fun b l hb=>⟨(hH.rs b l hb).1,.inr (.inr (hH.rs b l hb).2)⟩⟩;have Vl:BL c w lc a 0 (cB (ps.map some) x++List.replicate (n+1-ps.length) none):=by
  intro i av hi;obtain ⟨v,h1,h2⟩:=hold i av (Ic i av hi);have:=TV i v h1;rw [Nat.zero_add] at h2 ⊢;rw [this];exact h2
 have TW:∀k av v,dX[k]?=some av→args.toList[k]?=some v→sP c w k (lc k) av v:=by
  have key:∀(dX:List AV) (i:Nat) (vs:List Value),zg c w lc i dX vs→∀k av v,dX[k]?=some av→vs[k]?=some v→sP c w (i+k) (lc (i+k)) av v:=by
   intro dX
   induction dX with
   |nil=>intro i vs _ k av v h;simp at h
   |cons a0 dX ih=>
    intro i vs h k av v h1 h2;obtain ⟨v0,l,rfl,g1,g2⟩:=h
    cases k with
    |zero=>simp at h1 h2;subst h1 h2;exact g1
    |succ k=>
     have:=ih (i+1) l g2 k av v (by simpa using h1) (by simpa using h2)
     rwa [show i+1+k=i+(k+1) by omega] at this
  intro k av v h1 h2;have:=key dX 0 args.toList hA k av v h1 h2
  rwa [Nat.zero_add] at this
 have abv:∀p∈Fs.an,P7 (cB (ps.map some) x++List.replicate (n+1-ps.length) none) lc a p:=by
  intro p hp;obtain ⟨k,av,v,h1,h2,h3⟩:=ue 0 dX args.toList p hp;have hk:k<ps.length:=by rw [l1];exact (List.getElem?_eq_some_iff.1 h1).1
  simp only [Nat.zero_add] at h3;obtain ⟨p',q1,q2⟩:=Qe k av h1;rcases h3 with ⟨A,rfl,rfl⟩ | ⟨os,rfl,rfl⟩ | ⟨os,j,A,rfl,hj,rfl⟩
  ·refine ⟨rfl,by rw [hlen];omega,fun LO Vm=>.inl ?_⟩
   cases p' with
   |io r dd=>
    obtain ⟨B,e1,e2,e3⟩:=q2;have:=Ic k LO Vm;rw [e1] at this;simp only [Option.some.injEq] at this;exact ⟨B,this.symm,fun _=>⟨e2,e3,rfl⟩⟩
   |val _ _=>exact q2.elim
   |box _ _=>exact q2.elim
   |bR _=>exact q2.elim
  ·refine ⟨rfl,by rw [hlen];omega,fun Ax _ => ?_⟩;obtain ⟨n5,vs,ty,e1,_⟩:=TW k _ v h1 h2;rw [TV k v h2,e1]
  ·refine ⟨rfl,by rw [hlen];omega,fun LO Vm=>.inr ?_⟩
   cases p' with
   |io r dd=>exact q2.elim
   |val _ _=>exact q2.elim
   |box _ _=>exact q2.elim
   |bR qs=>
    obtain ⟨Ax,e1,e2⟩:=q2;have:=Ic k LO Vm;rw [e1] at this;simp only [Option.some.injEq] at this;obtain ⟨_,B,e3,e4,e5⟩:=e2 j A hj;refine ⟨Ax,this.symm,fun A' ee => ?_⟩;rw [e3] at ee;injection ee with ee;injection ee with ee;subst ee;exact ⟨e4,e5,rfl⟩
 obtain ⟨c',hR⟩:=Rel.LQ (a:=a) AI rfl Vl abv;refine ⟨Fs,c',rfl,⟨rfl,rfl⟩,fun p hp => ?_,fun k p av v h0 h1 h2 => ?_,LU,l1.symm,hR⟩
 ·obtain ⟨k,av,v,h1,h2,h3⟩:=ue 0 dX args.toList p hp;simp only [Nat.zero_add] at h3;obtain ⟨p',q1,q2⟩:=Qe k av h1;rcases h3 with ⟨A,rfl,rfl⟩ | ⟨os,rfl,rfl⟩ | ⟨os,j,A,rfl,hj,rfl⟩
  ·cases p' with
   |io r dd=>exact .inl ⟨k,r,_,_,_,rfl,dd,q1⟩
   |val _ _=>exact q2.elim
   |box _ _=>exact q2.elim
   |bR _=>exact q2.elim
  ·cases p' with
   |io r dd=>exact q2.elim
   |val _ _=>exact q2.elim
   |box b qs=>exact .inr (.inl ⟨k,_,b,qs,rfl,q1⟩)
   |bR _=>exact q2.elim
  ·cases p' with
   |io r dd=>exact q2.elim
   |val _ _=>exact q2.elim
   |box b qs=>exact q2.elim
   |bR qs=>exact .inr (.inr ⟨k,j,_,_,_,qs,rfl,q1⟩)
 ·obtain ⟨p',q1,q2⟩:=Qe k av h1;rw [h0] at q1
  cases q1
  have hh:=TW k av v h1 h2;obtain ⟨a1,a2,a3⟩:=LS (lc:=lc) 0 dX args.toList (by rw [←l1,l2]) k av v h1 h2;rw [Nat.zero_add] at a1 a2 a3 ⊢
  cases p with
  |val _ _=>cases av with
   |val _ _=>trivial
   |io _=>exact q2.elim
   |box _=>exact q2.elim
   |bR _=>exact q2.elim
  |bR qs=>cases av with
   |val _ _=>exact q2.elim
   |io _=>exact q2.elim
   |box _=>exact q2.elim
   |bR os=>
    obtain ⟨us,rfl,hl,PS⟩:=hh;obtain ⟨Ax,_,e2⟩:=q2;obtain ⟨n1,_⟩:=bF.P6 os 0 _ hl;refine ⟨us,rfl,fun j A hj=>⟨(e2 j A hj).1,?_⟩⟩;have cA:j<us.toList.length:=by rw [n1];exact (List.getElem?_eq_some_iff.1 hj).1
    have hO:OwnAt c w (.cf k j) (lc k j) A us.toList[j]:=PS j _ _ hj (List.getElem?_eq_getElem cA);exact ⟨_,List.getElem?_eq_getElem cA,hO.1,hO.2.1,a3 os rfl j A hj⟩
  |io r dd=>cases av with
   |val _ _=>exact q2.elim
   |box _=>exact q2.elim
   |bR _=>exact q2.elim
   |io A=>
    have hO:OwnAt c w (.cf k 0) (lc k 0) A v:=hh;exact ⟨hO.1,hO.2.1,a1 A rfl⟩
  |box _ _=>cases av with
   |val _ _=>exact q2.elim
   |io _=>exact q2.elim
   |bR _=>exact q2.elim
   |box os=>
    obtain ⟨n5,vs,ty,e1,_⟩:=hh;refine ⟨n5,e1,?_⟩;have:=a2 os rfl;rw [e1] at this;exact this
theorem Vn {P:Program} {T:kG} (hT:fi P T) {w0:World} {mu Fs:Mu} (hm:Fs.m=mu.m) (fZ:Fs.ok=mu.ok∧Fs.rs=mu.rs) {c:Cz} {st:St} {a:Act} {w:World} (h:Rel w0 Fs c st a w) {fn:Func} {ps:List AP} {rs:List RP} (Pb:zj T a.tmps fn.results.toList rs)
  {lc:Nat→Nat→Loc} {dX:List AV} {vs:List Value} (h1:ps.length=dX.length) (h2:ps.length=vs.length) (hl:Hh Fs lc 0 ps dX vs) {e:Ex} {y:aA (dn rs (cj ps))} (hf:Fq rs ps e st=some y) :
  (e=.normal∨e=.ret)∧∃v,(results fn a.tmps).run P w=.ok v w∧∃c',Dj w0 mu c' w∧tX c' w (iP rs (cj ps) y).1 v∧jk c' w lc 0 dX vs (om ps (iP rs (cj ps) y).2):=by
 have he:e=.normal∨e=.ret:=by
  cases e with
  |normal=>exact .inl rfl
  |ret=>exact .inr rfl
  |exit m=>cases hf
 refine ⟨he,?_⟩;have hf:((tl st 0 ps).bind fun x=>(D5 st rs (cj ps) x.1).bind fun q=>bif uG (cg q.2.1++x.2.1)&&apart (cg q.2.1++x.2.1) (q.2.2++x.2.2) then some q.1 else none)=some y:=by
  rcases he with rfl | rfl<;>exact hf
 obtain ⟨qx,hqx,hf⟩:=Option.bind_eq_some_iff.1 hf;obtain ⟨qr,hqr,hf⟩:=Option.bind_eq_some_iff.1 hf;obtain ⟨tn,hy⟩:=aK hf;injection hy with hy;obtain ⟨x1,u1,r1⟩:=qx;obtain ⟨x2,u2,r2⟩:=qr;subst hy;rw [Bool.and_eq_true] at tn;obtain ⟨a1,tb,a2,a3,a4⟩:=ud h ps 0 dX vs h1 h2 hl hqx;obtain ⟨b1,b2,b3,vals,b4,b5,b6⟩:=Gp hT h fn.results.toList rs Pb (cj ps) x1 hqr;have CG:∀l∈cg u2++u1,l.real=true:=fun l hl=>(List.mem_append.1 hl).elim (b3 l) (a1 l)
 have Hb:=oT _ CG tn.1;have Ff:∀p∈r2++r1,Lb.sp p.1 p.2∉cg u2++u1:=by
  intro p hp hm;have h1:=List.all_eq_true.1 tn.2 p hp;have h2:=List.all_eq_true.1 h1 _ hm;rw [(Lb.Ay rfl).2 rfl] at h2
  cases h2
 let tab:=AA .ja 0 u2++tb
 have abw:tab.map (·.1)=cg u2++u1:=by show (AA .ja 0 u2++tb).map _=_;rw [List.map_append,AB,a2]
 have mP:=Classical.propDecidable
 let ρ:Lb→Option Lb:=fun l=>match look tab l with | some y=>some y | none=>if l=.out then some .out else none
 have hρt:∀p∈tab,ρ p.1=some p.2:=by
  intro p hp;have:=Az tab (by rw [abw];exact Hb) hp;show (match look tab p.1 with | some y=>some y | none=>_)=_;rw [this]
 have AH:∀ {l y},look tab l=some y→l∈cg u2++u1:=by
  intro l y hl;have:=xZ tab hl;rw [←abw];exact List.mem_map.2 ⟨_,this,rfl⟩
 have hρr:∀p∈r2++r1,ρ (.sp p.1 p.2)=none:=by
  intro p hp;show (match look tab (.sp p.1 p.2) with | some y=>some y | none=>if Lb.sp p.1 p.2=.out then some Lb.out else none)=none
  cases hl:look tab (.sp p.1 p.2) with
  |some y=>exact absurd (AH hl) (Ff p hp)
  |none=>simp
 have hρo:ρ .out=some .out:=by
  show (match look tab Lb.out with | some y=>some y | none=>if Lb.out=Lb.out then some Lb.out else none)=_
  cases hl:look tab Lb.out with
  |some y=>have:=CG _ (AH hl);cases this
  |none=>simp
 have AI:Dj w0 mu (c.map ρ) w:=by
  refine ⟨fun b l hb => ?_,fun b hb hn => ?_,h.kept,by rw [←hm];exact h.old,fun b l hb => ?_⟩
  ·obtain ⟨k,hk,e⟩:=Cz.map_some hb;obtain ⟨g1,g2⟩:=h.owned b k hk;refine ⟨g1,?_⟩;rw [←hm];refine g2.imp (fun e2 => ?_) id;subst e2;rw [hρo] at e
   cases e;rfl
  ·rw [←hm,←fZ.1]
   cases hk:c.own b with
   |none=>exact h.free b hb hk
   |some k=>
    have e:ρ k=none:=(Cz.kI (ρ:=ρ) hk).symm.trans hn;rcases (h.owned b k hk).2 with g | g | g
    ·subst g;rw [hρo] at e;cases e
    ·exact absurd g (Nat.not_le_of_lt hb)
    ·exact .inl g
  ·obtain ⟨k,hk,_⟩:=Cz.sQ hb;rw [←hm,←fZ.2];exact h.mq b k hk
 have hX:=a4 ρ (fun p hp=>hρt p (List.mem_append_right _ hp)) (fun p hp=>hρr p (List.mem_append_right _ hp));have hR:=b6 ρ 0 (fun k l hk=>by
  have:=hρt _ (List.mem_append_left tb (xc .ja 0 u2 k l hk));exact this) (fun p hp=>hρr p (List.mem_append_left _ hp))
 refine ⟨_,IK b4,c.map ρ,AI,?_,by rw [b1];exact hX⟩;have hlen:vals.length=(iP rs (cj ps) x2).1.length:=by
  have:rs.length=fn.results.toList.length:=by
   have key:∀(l:List ResultVar) (m:List RP),zj T a.tmps l m→m.length=l.length:=by
    intro l
    induction l with
    |nil=>intro m hm;cases m with
     |nil=>rfl
     |cons _ _=>exact hm.elim
    |cons v l ih=>intro m hm;cases m with
     |nil=>exact hm.elim
     |cons r m=>simp [ih m hm.2]
   exact key _ _ Pb
  rw [b5,b2,this]
 by_cases hs:vals.toArray.size=1
 ·rw [dif_pos hs];have Am:vals.length=1:=by simpa using hs
  obtain ⟨v,rfl⟩:∃v,vals=[v]:=by
   cases vals with
   |nil=>cases Am
   |cons v l=>cases l with
    |nil=>exact ⟨v,rfl⟩
    |cons _ _=>simp at Am
  rw [Am] at hlen
  cases ho:(iP rs (cj ps) x2).1 with
  |nil=>rw [ho] at hlen;cases hlen
  |cons r l=>cases l with
   |cons _ _=>rw [ho] at hlen;simp at hlen
   |nil=>
    rw [ho] at hR;exact .inl ⟨r,rfl,hR⟩
 ·rw [dif_neg hs];refine .inr ⟨by rw [←hlen];simpa using hs,vals.toArray,rfl,by simpa using hR⟩
theorem IL {P:Program} {T:kG} (hT:fi P T) (hE:ze P T) {S:kO} (hS:og P S) {D:mN} {f:FuncId} {fn:Func} {code:Code} {n:Nat} {ps:List AP} {rs:List RP} {L:qu (aA (dn rs (cj ps)))} {TX:Nat→Array Oper→Prop}
  {t:aA (aN (ps.map some))→Option (aA (dn rs (cj ps)))}
  (hf:P.funcs[f]?=some fn) (hb:fn.body=some code) (hn:fn.ntmps=n) (R3:ps.length≤n) (sD:jb n code=true) (Bz:∀tm,zj T tm fn.results.toList rs)
  (hL:∀(w0:World) (mu:Mu) (y:aA (dn rs (cj ps))),mz ps mu→eN (od P w0 mu n L y) code)
  (hD:∀(w0:World) (mu:Mu),tW (aA (dn rs (cj ps))) P T S D w0 mu n TX) (hD2:fk TX code)
  (Qf:∀(w0:World) (mu:Mu) (c:Cz) (a:Act) (w:World) x,Rel w0 mu c (start n ps x) a w→a.tmps.size=n→∃c2 gP,Rel w0 mu c2 gP a w∧fc T S D L code gP (Fq rs ps)=t x):FnOk P f (nj ps rs t):=by
 intro c w mu lc dX args A y hH hA hs ho;unfold nj at hs
 cases hx:fm ps dX with
 |none=>rw [hx] at hs;cases hs
 |some x=>
  rw [hx] at hs;simp only [Option.some.injEq] at hs;subst hs;have Fg:t x=some y:=ho;obtain ⟨Fs,c',hm,fZ,Vo,aby,LU,Vb,hR⟩:=Qd hH hA hx R3;refine calls_of_wp hf hb ?_;rw [hn];have jP:(args++Array.replicate (n-args.size) undef).size=n:=by simp;omega
  obtain ⟨c2,gP,hR2,abz⟩:=Qf w Fs c' _ w x hR jP;refine Io (AM hT hE hS w Fs n) (hD w Fs) code sD (hL w Fs y Vo) hD2 (fun {e} {c1} {xU} {a1} {w1} h1 h2 h3 => ?_) hR2 jP (abz.trans Fg);obtain ⟨he,v,qE,c2,PI,hV,hX⟩:=Vn (P:=P) hT hm fZ h1 (Bz a1.tmps) Vb.symm (by rw [←LU];simp) aby h3;have PM:a1.defers=[]∧∃v,(results fn a1.tmps).run P w1=.ok v w1∧(∃v',Ending.returned v=.returned v'∧∃c',Dj w mu c' w1∧tX c' w1 (iP rs (cj ps) y).1 v'∧jk c' w1 lc 0 dX args.toList (om ps (iP rs (cj ps) y).2)):=
   ⟨h1.plain,v,qE,v,rfl,c2,PI,hV,hX⟩
  rcases he with rfl | rfl<;>exact PM
theorem abA {P:Program} {T:kG} (hT:fi P T) (hE:ze P T) {S:kO} (hS:og P S) {D:mN} {f:FuncId} {fn:Func} {code:Code} {n:Nat} {ps:List AP} {rs:List RP} {L:qu (aA (dn rs (cj ps)))} {TX:Nat→Array Oper→Prop}
  {t:aA (aN (ps.map some))→Option (aA (dn rs (cj ps)))}
  (hf:P.funcs[f]?=some fn) (hb:fn.body=some code) (hn:fn.ntmps=n) (R3:ps.length≤n) (sD:jb n code=true) (Bz:∀tm,zj T tm fn.results.toList rs)
  (hL:∀(w0:World) (mu:Mu) (y:aA (dn rs (cj ps))),mz ps mu→eN (od P w0 mu n L y) code)
  (hD:∀(w0:World) (mu:Mu),tW (aA (dn rs (cj ps))) P T S D w0 mu n TX) (hD2:fk TX code)
  (Qf:∀x,fc T S D L code (start n ps x) (Fq rs ps)=t x):FnOk P f (nj ps rs t):=
 IL hT hE hS hf hb hn R3 sD Bz hL hD hD2 (fun _ _ c _ _ x h _=>⟨c,_,h,Qf x⟩)
end Go.TM
namespace Go.TM
open Go Go.RowKit
def iter {X E:Type} (round:X→Option (Sum X E)):Nat→X→Option E
 |0,_=>none
 |n+1,x=>match round x with
  |some (.inl y)=>iter round n y
  |some (.inr e)=>some e
  |none=>none
theorem BN {X E:Type} {round:X→Option (Sum X E)}:(n:Nat)→{x:X}→{e:E}→iter round n x=some e→∀m,n≤m→iter round m x=some e
 |0,_,_,h,_,_=>by cases h
 |n+1,x,e,h,0,hm=>by omega
 |n+1,x,e,h,m+1,hm=>by
  unfold iter at h ⊢
  cases hr:round x with
  |none=>rw [hr] at h;cases h
  |some z=>cases z with
   |inl y=>rw [hr] at h;exact BN n h m (by omega)
   |inr e'=>rw [hr] at h;exact h
noncomputable def aF {X E:Type} (round:X→Option (Sum X E)) (x:X):Option E:=
 have:=Classical.propDecidable (∃e n,iter round n x=some e)
 if h:∃e n,iter round n x=some e then some (Classical.choose h) else none
theorem D9 {X E:Type} {round:X→Option (Sum X E)} {x:X} {e:E} {n:Nat} (h:iter round n x=some e):aF round x=some e:=by
 have hex:∃e n,iter round n x=some e:=⟨e,n,h⟩;unfold aF;simp only;rw [dif_pos hex];obtain ⟨m,hm⟩:=Classical.choose_spec hex;have h1:=BN m hm (max m n) (Nat.le_max_left _ _);have h2:=BN n h (max m n) (Nat.le_max_right _ _);rw [h1] at h2;exact h2
theorem uW {X E:Type} {round:X→Option (Sum X E)} {x:X} {e:E} (h:aF round x=some e):∃n,iter round n x=some e:=by
 unfold aF at h;simp only at h
 split at h
 ·rename_i hex;injection h with h;rw [←h];exact Classical.choose_spec hex
 ·cases h
theorem iG {X E:Type} (round:X→Option (Sum X E)) (x:X):aF round x=match round x with | some (.inl y)=>aF round y | some (.inr e)=>some e | none=>none:=by
 cases hr:round x with
 |none=>
  cases h:aF round x with
  |none=>rfl
  |some e=>
   obtain ⟨n,hn⟩:=uW h
   cases n with
   |zero=>cases hn
   |succ n=>unfold iter at hn;rw [hr] at hn;cases hn
 |some z=>cases z with
  |inr e=>exact D9 (n:=1) (by unfold iter;rw [hr])
  |inl y=>
   simp only
   cases h:aF round y with
   |some e=>
    obtain ⟨n,hn⟩:=uW h;exact D9 (n:=n+1) (by unfold iter;rw [hr];exact hn)
   |none=>
    cases h2:aF round x with
    |none=>rfl
    |some e=>
     obtain ⟨n,hn⟩:=uW h2
     cases n with
     |zero=>cases hn
     |succ n=>
      unfold iter at hn;rw [hr] at hn;rw [D9 hn] at h
      cases h
def TY (st:St) (hp:List (Option AP)):Option (aA (aN hp)):=
 (ni st 0 hp).bind fun q=>bif uG q.2.1&&apart q.2.1 q.2.2 then some q.1 else none
def pV (hp:List (Option AP)) (x:aA (aN hp)):St:=n6 0 (cB hp x)
def gY:List AP→List (Option AP)→Bool
 | [],_=>true
 |.val _ _::ps,_::hp=>gY ps hp
 |.io _ _::ps,o::hp=>(match o with | none=>true | some (.io _ _)=>true | _=>false)&&gY ps hp
 |.box _ _::ps,o::hp=>(match o with | none=>true | some (.box l _)=>l | some (.val _ _)=>true | _=>false)&&gY ps hp
 |.bR _::_,_::_=>false
 |_::_,[]=>false
theorem uX:(ps:List AP)→(hp:List (Option AP))→gY ps hp=true→∀(i:Nat) (p:AP),ps[i]?=some p→∃o,hp[i]?=some o∧match p with
  |.val _ _=>True
  |.io _ _=>o=none∨∃r d,o=some (.io r d)
  |.box _ _=>o=none∨(∃a b,o=some (.val a b))∨∃b,o=some (.box true b)
  |.bR _=>False
 | [],_,_=>by intro i p h;simp at h
 |p::ps,[],h=>by cases p<;>simp [gY] at h
 |p::ps,o::hp,h=>by
  intro i p' hi;have fe:gY ps hp=true:=by
   cases p with
   |val _ _=>exact h
   |io _=>unfold gY at h;rw [Bool.and_eq_true] at h;exact h.2
   |bR _=>cases h
   |box _ _=>unfold gY at h;rw [Bool.and_eq_true] at h;exact h.2
  cases i with
  |succ i=>exact (uX ps hp fe i p' (by simpa using hi)).imp fun o ho=>⟨by simpa using ho.1,ho.2⟩
  |zero=>
   simp only [List.getElem?_cons_zero,Option.some.injEq] at hi;subst hi;refine ⟨o,rfl,?_⟩
   cases p with
   |val _ _=>trivial
   |bR _=>cases h
   |io _=>
    unfold gY at h;rw [Bool.and_eq_true] at h
    cases o with
    |none=>exact .inl rfl
    |some q=>cases q with
     |io r d=>exact .inr ⟨r,d,rfl⟩
     |val _ _=>cases h.1
     |box _ _=>cases h.1
     |bR _=>cases h.1
   |box _ _=>
    unfold gY at h;rw [Bool.and_eq_true] at h
    cases o with
    |none=>exact .inl rfl
    |some q=>cases q with
     |io r d=>cases h.1
     |bR _=>cases h.1
     |val a b=>exact .inr (.inl ⟨a,b,rfl⟩)
     |box l b=>
      have:l=true:=h.1;subst this;exact .inr (.inr ⟨b,rfl⟩)
end Go.TM
namespace Go.TM
open Go Go.RowKit
theorem Qg {st:St} {k:Nat} {rr:RT} {dd:Md} {t:RT} {V:V} {y:aA t} {x:aA (.cons (.sl rr) t)} {u:List Lb} {r:List (Nat×Nat)} (h:CJ st k (.io rr dd) t V y=some (x,u,r)):∃A,aX st k 0 1=some A∧bH rr A.xs=some x.1:=by
 cases V with
 |agg _=>cases h
 |m9 _=>cases h
 |one cx=>cases cx with
  |ref a j g vw=>cases vw with
   |full=>
    have h:(bif Nat.beq a k&&(Nat.beq j 0&&Nat.beq g 1) then ((aX st a j g).bind fun A=>bif A.own&&A.md.is dd then (bH rr A.xs).map fun xs=>((xs,y),[Lb.sp a j],([]:List (Nat×Nat))) else none) else none)=some (x,u,r):=h;obtain ⟨h1,h2⟩:=aK h;rw [Bool.and_eq_true,Bool.and_eq_true] at h1;have e1:=Nat.eq_of_beq_eq_true h1.1;have e2:=Nat.eq_of_beq_eq_true h1.2.1;have e3:=Nat.eq_of_beq_eq_true h1.2.2;subst e1 e2 e3;obtain ⟨A,hA,h3⟩:=Option.bind_eq_some_iff.1 h2;obtain ⟨_,h4⟩:=aK h3;obtain ⟨xs,TU,e⟩:=Option.map_eq_some_iff.1 h4;injection e with e _;exact ⟨A,hA,by rw [TU,←e];rfl⟩
   |«from» _=>cases h
   |sub _ _=>cases h
  |_=>cases h
theorem Nd {st:St} {k:Nat} {qs:List OP} {t:RT} {V:V} {y:aA t} {x:aA (mb qs t)} {u:List Lb} {r:List (Nat×Nat)} (h:CJ st k (.box true qs) t V y=some (x,u,r)):V=.one (.ptr k 1 0)∧∃cs,cZ st k 1=some cs:=by
 cases V with
 |agg _=>cases h
 |m9 _=>cases h
 |one cx=>cases cx with
  |ptr b g off=>
   have h:(bif Nat.beq off 0&&(!true||(Nat.beq b k&&Nat.beq g 1)) then ((cZ st b g).bind fun cs=>(kT st qs t cs y).map fun q=>(q.1,Lb.box b::cg q.2.1,q.2.2)) else none)=some (x,u,r):=h;obtain ⟨h1,h2⟩:=aK h;simp only [Bool.not_true,Bool.false_or] at h1;rw [Bool.and_eq_true,Bool.and_eq_true] at h1;have e1:=Nat.eq_of_beq_eq_true h1.1;have e2:=Nat.eq_of_beq_eq_true h1.2.1;have e3:=Nat.eq_of_beq_eq_true h1.2.2;subst e1 e2 e3;obtain ⟨cs,wJ,_⟩:=Option.bind_eq_some_iff.1 h2;exact ⟨rfl,cs,wJ⟩
  |_=>cases h
theorem xk {w0:World} {mu:Mu} {c:Cz} {st:St} {a:Act} {w:World} (h:Rel w0 mu c st a w):(l:List (Option AP))→(k:Nat)→{x:aA (aN l)}→{u:List Lb}→{r:List (Nat×Nat)}→ni st k l=some (x,u,r)→∀(i:Nat),
  (∀rr dd,l[i]?=some (some (.io rr dd))→∃B A:gu,(cB l x)[i]?=some (some (.io B))∧aX st (k+i) 0 1=some A∧B.r.width=A.r.width∧B.xs.length=A.xs.length)∧
  (∀qs,l[i]?=some (some (.box true qs))→(∃cs,cZ st (k+i) 1=some cs)∧bV st (k+i)=.one (.ptr (k+i) 1 0))∧
  (l[i]?=some none→(cB l x)[i]?=some none)∧(∀ag b,l[i]?=some (some (.val ag b))→∃os,(cB l x)[i]?=some (some (.val ag os)))
 | [],k,x,u,r,he=>by intro i;simp
 |none::l,k,x,u,r,he=>by
  intro i
  cases i with
  |zero=>exact ⟨fun _ _ h=>by simp at h,fun _ h=>by simp at h,fun _=>rfl,fun _ _ h=>by simp at h⟩
  |succ i=>
   have:=xk h l (k+1) he i;rw [show k+1+i=k+(i+1) by omega] at this;exact this
 |some p::l,k,x,u,r,he=>by
  intro i;unfold ni at he
  cases h1:ni st (k+1) l with
  |none=>simp [h1] at he
  |some q1=>
   obtain ⟨y,us,rs⟩:=q1;simp only [h1] at he
   cases h2:CJ st k p (aN l) (bV st k) y with
   |none=>simp [h2] at he
   |some q2=>
    obtain ⟨x1,u1,r1⟩:=q2;simp only [h2] at he;injection he with he;injection he with e1 e2;subst e1
    cases i with
    |succ i=>
     have hh:=xk h l (k+1) h1 i;rw [show k+1+i=k+(i+1) by omega] at hh;have e:(p.av (aN l) x1).2=y:=(AN h k (h.ea k) h2).1;have e2:(cB (some p::l) x1)[i+1]?=(cB l y)[i]?:=by
      show (cB l (p.av (aN l) x1).2)[i]?=_;rw [e]
     rw [e2];exact hh
    |zero=>
     have e2:(cB (some p::l) x1)[0]?=some (some (p.av (aN l) x1).1):=rfl;rw [e2];simp only [List.getElem?_cons_zero,Option.some.injEq,Nat.add_zero];refine ⟨fun rr dd e => ?_,fun qs e => ?_,(fun e=>by cases e),fun ag b e => ?_⟩
     ·subst e;obtain ⟨A,hA,hc⟩:=Qg h2;obtain ⟨er,OM⟩:=bm hc;refine ⟨_,A,rfl,hA,by show rr.width=_;rw [←er],?_⟩;show List.length (x1.1:List (aA rr))=_;rw [OM]
      cases er
      rfl
     ·subst e;obtain ⟨q1,q2⟩:=Nd h2;exact ⟨q2,q1⟩
     ·subst e;exact ⟨_,rfl⟩
end Go.TM
namespace Go.TM
open Go Go.RowKit
theorem Vp {w0:World} {mu:Mu} {c:Cz} {st:St} {a:Act} {w:World} (h:Rel w0 mu c st a w) {ps:List AP} (hs:mz ps mu) {hp:List (Option AP)} (rB:gY ps hp=true) {x:aA (aN hp)} (hx:TY st hp=some x):∃c',Rel w0 mu c' (pV hp x) a w:=by
 obtain ⟨q,hq,JY⟩:=Option.bind_eq_some_iff.1 hx;obtain ⟨tn,DL⟩:=aK JY;injection DL with DL;obtain ⟨x0,u,r⟩:=q;subst DL;rw [Bool.and_eq_true] at tn;obtain ⟨CG,tb,PL,abb,hold⟩:=xj h hp 0 hq;have hat:=xk h hp 0 hq;have Hb:=oT _ CG tn.1;have Ff:∀p∈r,Lb.sp p.1 p.2∉u:=by
  intro p hp hm;have h1:=List.all_eq_true.1 tn.2 p hp;have h2:=List.all_eq_true.1 h1 _ hm;rw [(Lb.Ay rfl).2 rfl] at h2
  cases h2
 have mP:=Classical.propDecidable
 let ρ:Lb→Option Lb:=fun l=>match look tb l with | some y=>some y | none=>if l=.out then some .out else none
 have hρt:∀p∈tb,ρ p.1=some p.2:=by
  intro p hp;have:=Az tb (by rw [PL];exact Hb) hp;show (match look tb p.1 with | some y=>some y | none=>_)=_;rw [this]
 have AH:∀ {l y},look tb l=some y→l∈u:=by
  intro l y hl;have:=xZ tb hl;rw [←PL];exact List.mem_map.2 ⟨_,this,rfl⟩
 have hρr:∀p∈r,ρ (.sp p.1 p.2)=none:=by
  intro p hp;show (match look tb (.sp p.1 p.2) with | some y=>some y | none=>if Lb.sp p.1 p.2=.out then some Lb.out else none)=none
  cases hl:look tb (.sp p.1 p.2) with
  |some y=>exact absurd (AH hl) (Ff p hp)
  |none=>simp
 have hρo:ρ .out=some .out:=by
  show (match look tb Lb.out with | some y=>some y | none=>if Lb.out=Lb.out then some Lb.out else none)=_
  cases hl:look tb Lb.out with
  |some y=>have:=CG _ (AH hl);cases this
  |none=>simp
 have AI:Dj w0 mu (c.map ρ) w:=by
  refine ⟨fun b l hb => ?_,fun b hb hn => ?_,h.kept,h.old,fun b l hb => ?_⟩
  ·obtain ⟨k,hk,e⟩:=Cz.map_some hb;obtain ⟨g1,g2⟩:=h.owned b k hk;refine ⟨g1,g2.imp (fun e2 => ?_) id⟩;subst e2;rw [hρo] at e
   cases e;rfl
  ·cases hk:c.own b with
   |none=>exact h.free b hb hk
   |some k=>
    have e:ρ k=none:=(Cz.kI (ρ:=ρ) hk).symm.trans hn;rcases (h.owned b k hk).2 with g | g | g
    ·subst g;rw [hρo] at e;cases e
    ·exact absurd g (Nat.not_le_of_lt hb)
    ·exact .inl g
  ·obtain ⟨k,hk,_⟩:=Cz.sQ hb;exact h.mq b k hk
 refine Rel.LQ AI h.plain (hold ρ hρt hρr) (fun p hpm => ?_);have Sj:=h.cV p hpm;have hlen:∀(i:Nat) (o:Option AP),hp[i]?=some o→i<(cB hp x0).length:=fun i o ho=>by rw [qF];exact (List.getElem?_eq_some_iff.1 ho).1
 rcases hs p hpm with ⟨i,rr,W,n,l,rfl,dd,UU⟩ | ⟨i,n5,b,qs,rfl,UU⟩ | ⟨i,j,W,n,l,qs,rfl,UU⟩
 ·obtain ⟨o,ho,ho2⟩:=uX ps hp rB i _ UU;refine ⟨rfl,hlen i o ho,fun av Ix=>.inl ?_⟩;rcases ho2 with rfl | ⟨r2,d2,rfl⟩
  ·rw [(hat i).2.2.1 ho] at Ix;cases Ix
  ·obtain ⟨B,A,e1,e2,e3,e4⟩:=(hat i).1 r2 d2 ho;rw [e1] at Ix;simp only [Option.some.injEq] at Ix;rw [Nat.zero_add] at e2;obtain ⟨f1,f2,f3⟩:=Sj.2 A e2;exact ⟨B,Ix.symm,fun _=>⟨e3.trans f1,e4.trans f2,f3⟩⟩
 ·obtain ⟨o,ho,ho2⟩:=uX ps hp rB i _ UU;refine ⟨rfl,hlen i o ho,fun os ru => ?_⟩;rcases ho2 with rfl | ⟨a1,b1,rfl⟩ | ⟨b1,rfl⟩
  ·rw [(hat i).2.2.1 ho] at ru;cases ru
  ·obtain ⟨Ax,e⟩:=(hat i).2.2.2 a1 b1 ho;rw [e] at ru;cases ru
  ·obtain ⟨⟨cs,wJ⟩,hv⟩:=(hat i).2.1 b1 ho;rw [Nat.zero_add] at wJ hv;have ua:=h.ea i;rw [hv] at ua;rw [ua.2.2 cs wJ,Sj.2 cs wJ]
 ·obtain ⟨o,ho,ho2⟩:=uX ps hp rB i _ UU;exact ho2.elim
def LV:List OP→List CV→List (Nat×Nat)
 |.own _ .lz::ps,.ref a j _ _::cs=>(a,j)::LV ps cs
 |_::ps,_::cs=>LV ps cs
 |_,_=>[]
def Ea (st:St):(k:Nat)→List (Option AP)→List (Nat×Nat)
 |_,[]=>[]
 |k,some (.box _ qs)::l=>(match bV st k with | .one (.ptr b g _)=>(match cZ st b g with | some cs=>LV qs cs | none=>[]) | _=>[])++Ea st (k+1) l
 |k,some (.val _ qs)::l=>LV qs (bV st k).cells++Ea st (k+1) l
 |k,_::l=>Ea st (k+1) l
def IM (st:St) (hp:List (Option AP)):Option (aA (aN hp)):=TY (FO st (Ea st 0 hp)) hp
theorem Dl {w0:World} {mu:Mu} {c:Cz} {st:St} {a:Act} {w:World} (h:Rel w0 mu c st a w) {ps:List AP} (hs:mz ps mu) {hp:List (Option AP)} (rB:gY ps hp=true) {x:aA (aN hp)} (hx:IM st hp=some x):∃c',Rel w0 mu c' (pV hp x) a w:=by
 obtain ⟨c1,h1,_⟩:=D3 (Ea st 0 hp) h;exact Vp h1 hs rB hx
def BO (id:Nat) (hp e0 e1:List (Option AP)):Ex→St→Option (Sum (aA (aN hp)) (Sum (aA (aN e0)) (aA (aN e1))))
 |.normal,st=>(IM st hp).map .inl
 |.exit m,st=>bif Nat.beq m id then (IM st e0).map fun y=>.inr (.inl y) else none
 |.ret,st=>(IM st e1).map fun y=>.inr (.inr y)
noncomputable def BP {R:Type} (hp e0 e1:List (Option AP)) (round:aA (aN hp)→Option (Sum (aA (aN hp)) (Sum (aA (aN e0)) (aA (aN e1))))) (st:St) (k:Ex→St→Option R):Option R:=
 (IM st hp).bind fun x=>(aF round x).bind fun z=>match z with
  |.inl y=>k .normal (pV e0 y)
  |.inr y=>k .ret (pV e1 y)
theorem Sk {R:Type} {P:Program} {T:kG} {S:kO} {D:mN} {n id:Nat} {w0:World} {mu:Mu} {ps:List AP} {hp e0 e1:List (Option AP)} {b:Code} {r:R} {L:qu R} {TX:Nat→Array Oper→Prop}
  {L':qu (Sum (aA (aN hp)) (Sum (aA (aN e0)) (aA (aN e1))))} {round:aA (aN hp)→Option (Sum (aA (aN hp)) (Sum (aA (aN e0)) (aA (aN e1))))}
  (HS:uS P T S w0 mu n) (hD:tW (Sum (aA (aN hp)) (Sum (aA (aN e0)) (aA (aN e1)))) P T S D w0 mu n TX) (hs:mz ps mu) (hf:(gY ps hp&&(gY ps e0&&gY ps e1))=true) (sD:jb n b=true) (hD2:fk TX b)
  (Db:∀z,eN (od P w0 mu n L' z) b) (Kg:∀x,fc T S D L' b (pV hp x) (BO id hp e0 e1)=round x) (hL:∀st k,L id b st k=BP hp e0 e1 round st k):od P w0 mu n L r id b:=by
 intro k Q hk c st a w h hn hv;rw [Bool.and_eq_true,Bool.and_eq_true] at hf;rw [hL] at hv;unfold BP at hv;obtain ⟨x,hx,hv⟩:=Option.bind_eq_some_iff.1 hv;obtain ⟨z,hz,hv⟩:=Option.bind_eq_some_iff.1 hv;obtain ⟨c1,h1⟩:=Dl h hs hf.1 hx;obtain ⟨m,hm⟩:=uW hz;refine wp_block ?_;refine wp_loop_ghost (fun m a w=>∃x c,Rel w0 mu c (pV hp x) a w∧a.tmps.size=n∧iter round m x=some z) m ⟨x,c1,h1,hn,hm⟩ ?_
 rintro m a w ⟨x,c,hR,hn,hi⟩
 cases m with
 |zero=>cases hi
 |succ m=>
  unfold iter at hi
  cases hr:round x with
  |none=>rw [hr] at hi;cases hi
  |some y=>
   rw [hr] at hi;refine Io HS hD b sD (Db y) hD2 (fun {e} {c2} {gP} {a2} {w2} g1 g2 g3 => ?_) hR hn ((Kg x).trans hr)
   cases e with
   |normal=>
    obtain ⟨x2,q1,rfl⟩:=Option.map_eq_some_iff.1 g3;obtain ⟨c3,g4⟩:=Dl g1 hs hf.1 q1;exact ⟨m,Nat.lt_succ_self m,x2,c3,g4,g2,hi⟩
   |exit m'=>
    obtain ⟨Hi,g5⟩:=aK g3;have Hi:=Nat.eq_of_beq_eq_true Hi;subst Hi;obtain ⟨x2,q1,rfl⟩:=Option.map_eq_some_iff.1 g5;injection hi with hi;subst hi;obtain ⟨c3,g4⟩:=Dl g1 hs hf.2.1 q1;show (if m'=m' then Q .normal a2 w2 else Q (.exit m') a2 w2);rw [if_pos rfl];exact hk g4 g2 hv
   |ret=>
    obtain ⟨x2,q1,rfl⟩:=Option.map_eq_some_iff.1 g3;injection hi with hi;subst hi;obtain ⟨c3,g4⟩:=Dl g1 hs hf.2.2 q1;exact hk g4 g2 hv
end Go.TM
namespace Go.TM
open Go Go.RowKit
section
variable {P:Program} {ops:Array Oper} {Q:Exit→Act→World→Prop} {md:Region.Mode} {ds:List Nat}
def tp (md:Region.Mode) (ops:Array Oper) (i:Nat):Nat→Nat→Bool
 |0,_=>false
 |fuel+1,d=>match ops[d]? with
  |some o=>o.after.any fun e=>Region.binds md e&&(e.on==i||tp md ops i fuel e.on)
  |none=>false
def tu (md:Region.Mode) (ops:Array Oper) (aV:Array Bool):Prop:=
 ∀j oj,ops[j]?=some oj→aV.getD j false=true→∀e∈oj.after,Region.binds md e=true→aV.getD e.on false=true
theorem tu.set {aV:Array Bool} {i:Nat} (h:tu md ops aV) (hi:i∈Region.ready md ops aV):tu md ops (aV.setIfInBounds i true):=by
 obtain ⟨_,oi,LW,mI⟩:=mem_ready.1 hi;intro j oj hj hl e he hb
 by_cases hij:i=j
 ·subst hij;have:oj=oi:=Option.some.inj (hj.symm.trans LW);subst this;exact getD_set_true (mI e he hb)
 ·rw [getD_set_ne false hij] at hl;exact getD_set_true (h j oj hj hl e he hb)
theorem tu.none (md:Region.Mode) (ops:Array Oper) (n:Nat):tu md ops (Array.replicate n false):=by
 intro j oj _ hl;simp [Array.getD_eq_getD_getElem?,Array.getElem?_replicate] at hl
 split at hl<;>simp at hl
theorem AR {aV:Array Bool} {i:Nat} (hc:tu md ops aV):∀(fuel d:Nat),tp md ops i fuel d=true→aV.getD d false=true→aV.getD i false=true
 |0,_,h,_=>by simp [tp] at h
 |fuel+1,d,h,hl=>by
  unfold tp at h
  cases ho:ops[d]? with
  |none=>rw [ho] at h;simp at h
  |some o=>
   rw [ho] at h;obtain ⟨e,he,h1⟩:=Array.any_eq_true'.1 h;simp only [Bool.and_eq_true,Bool.or_eq_true,beq_iff_eq] at h1;have hle:=hc d o ho hl e he h1.1;rcases h1.2 with h2 | h2
   ·rw [←h2];exact hle
   ·exact AR hc fuel e.on h2 hle
theorem Dd {aV:Array Bool} {i d fuel:Nat} (hc:tu md ops aV) (hr:tp md ops i fuel d=true) (HT:aV.getD i true=false):d∉Region.ready md ops aV:=by
 intro hd;obtain ⟨_,o,ho,mI⟩:=mem_ready.1 hd;have hi:aV.getD i false=true:=by
  cases fuel with
  |zero=>simp [tp] at hr
  |succ n=>
   unfold tp at hr;rw [ho] at hr;obtain ⟨e,he,h1⟩:=Array.any_eq_true'.1 hr;simp only [Bool.and_eq_true,Bool.or_eq_true,beq_iff_eq] at h1;have hle:=mI e he h1.1;rcases h1.2 with h2 | h2
   ·rw [←h2];exact hle
   ·exact AR hc n e.on h2 hle
 rcases Nat.lt_or_ge i aV.size with h' | h'
 ·simp [h'] at HT hi;rw [HT] at hi
  cases hi
 ·simp [Array.getElem?_eq_none h'] at HT
def oq (P:Program) (md:Region.Mode) (ops:Array Oper) (Q:Exit→Act→World→Prop) (ds:List Nat):Nat→Array Bool→Act→World→Prop
 |0,aV,a,w=>Region.ready md ops aV=[]∧Q .normal a w
 |fuel+1,aV,a,w=>
  (Region.ready md ops aV=[]→Q .normal a w)∧
  ∀i∈Region.ready md ops aV,wpOp P ops Q i (fun a' w'=>(i∉ds→ia w w')∧oq P md ops Q ds fuel (aV.setIfInBounds i true) a' w') a w
theorem yN:∀(fuel:Nat) (aV:Array Bool) (a:Act) (w:World),oq P md ops Q ds fuel aV a w→wpAny P md ops Q fuel aV a w
 |0,_,_,_,h=>h
 |fuel+1,_,_,_,h=>⟨h.1,fun i hi=>wpOp_mono (fun a' w' h'=>yN fuel _ a' w' h'.2) (h.2 i hi)⟩
theorem Hj {i:Nat} {oi:Oper} {v:Value} {w0:World} (hi:ops[i]?=some oi) (IN:∀(j:Nat) (o:Oper) cs b,ops[j]?=some o→o.op≠.select cs b)
  (hQ:∀c a w,Q (.panic c) (a.put oi.dst v) w→Q (.panic c) a w) (n:Nat) :
  ∀(fuel:Nat) (aV:Array Bool) (a:Act) (w:World),
   (∀j oj,ops[j]?=some oj→j≠i→aV.getD j true=false→(∀e∈oj.after,Region.binds md e=true→e.on≠i)→oi.apart ops oj=true)→
   tu md ops aV→(∀d∈ds,aV.getD d true=false→tp md ops i n d=true)→
   i∈Region.ready md ops aV→YieldsIf P ops (ia w0) oi v a→ia w0 w→
   oq P md ops Q ds fuel (aV.setIfInBounds i true) (a.put oi.dst v) w→oq P md ops Q ds (fuel+1) aV a w:=by
 intro fuel
 induction fuel with
 |zero=>
  intro aV a w _ _ _ hr hy hS H;refine ⟨fun h=>(by rw [h] at hr;cases hr),fun j hj => ?_⟩
  by_cases Hk:j=i
  ·subst Hk;exact hy.wpOp hi hS ⟨fun _=>ia.refl w,H⟩
  ·have:=ready_mono hj Hk;rw [H.1] at this
   cases this
 |succ fuel ih=>
  intro aV a w DO hc hd hr hy hS H;refine ⟨fun h=>(by rw [h] at hr;cases hr),fun j hj => ?_⟩
  by_cases Hk:j=i
  ·subst Hk;exact hy.wpOp hi hS ⟨fun _=>ia.refl w,H⟩
  ·have h1:=H.2 j (ready_mono hj Hk);obtain ⟨Kh,oj,Vq,mI⟩:=mem_ready.1 hj;have Nf:=(mem_ready.1 hr).1;have Nb:∀e∈oj.after,Region.binds md e=true→e.on≠i:=fun e he hb heq=>by
    have h1:=mI e he hb;rw [heq] at h1;rcases Nat.lt_or_ge i aV.size with h' | h'
    ·simp [h'] at Nf h1;rw [Nf] at h1;cases h1
    ·simp [Array.getElem?_eq_none h'] at h1
   have hjd:j∉ds:=fun hm=>Dd hc (hd j hm Kh) Nf hj
   have h2:=wpOp_putIf Vq (DO j oj Vq Hk Kh Nb) (fun cs b=>IN i oi cs b hi) (fun cs b=>IN j oj cs b Vq) hQ hy h1;have Ki:∀k ok,ops[k]?=some ok→k≠i→(aV.setIfInBounds j true).getD k true=false→
     (∀e∈ok.after,Region.binds md e=true→e.on≠i)→oi.apart ops ok=true:=fun k ok hk hki HT RY=>by
    refine DO k ok hk hki ?_ RY
    by_cases Bs:j=k
    ·subst Bs;exact Kh
    ·rw [getD_set_ne true Bs] at HT;exact HT
   have Ke:∀d∈ds,(aV.setIfInBounds j true).getD d true=false→tp md ops i n d=true:=fun d hm HT=>by
    refine hd d hm ?_
    by_cases Bs:j=d
    ·subst Bs;exact Kh
    ·rw [getD_set_ne true Bs] at HT;exact HT
   refine wpOp_mono (fun a' w' h3=>⟨h3.2.1,ih (aV.setIfInBounds j true) a' w' Ki (hc.set hj) Ke (ready_mono hr (Ne.symm Hk)) h3.1 (hS.trans (h3.2.1 hjd)) ?_⟩) h2;rw [Array.setIfInBounds_comm _ _ Hk];exact h3.2.2
theorem Kj {i:Nat} {oi:Oper} {v:Value} (hi:ops[i]?=some oi) (IN:∀(j:Nat) (o:Oper) cs b,ops[j]?=some o→o.op≠.select cs b)
  (hQ:∀c a w,Q (.panic c) (a.put oi.dst v) w→Q (.panic c) a w) :
  ∀(fuel:Nat) (aV:Array Bool) (a:Act) (w:World),
   (∀j oj,ops[j]?=some oj→j≠i→aV.getD j true=false→(∀e∈oj.after,Region.binds md e=true→e.on≠i)→oi.apart ops oj=true)→
   i∈Region.ready md ops aV→Yields P ops oi v a→
   oq P md ops Q ds fuel (aV.setIfInBounds i true) (a.put oi.dst v) w→oq P md ops Q ds (fuel+1) aV a w:=by
 intro fuel
 induction fuel with
 |zero=>
  intro aV a w _ hr hy H;refine ⟨fun h=>(by rw [h] at hr;cases hr),fun j hj => ?_⟩
  by_cases Hk:j=i
  ·subst Hk;exact (hy.yieldsIf (S:=fun _=>True)).wpOp hi trivial ⟨fun _=>ia.refl w,H⟩
  ·have:=ready_mono hj Hk;rw [H.1] at this
   cases this
 |succ fuel ih=>
  intro aV a w DO hr hy H;refine ⟨fun h=>(by rw [h] at hr;cases hr),fun j hj => ?_⟩
  by_cases Hk:j=i
  ·subst Hk;exact (hy.yieldsIf (S:=fun _=>True)).wpOp hi trivial ⟨fun _=>ia.refl w,H⟩
  ·have h1:=H.2 j (ready_mono hj Hk);obtain ⟨Kh,oj,Vq,mI⟩:=mem_ready.1 hj;have Nf:=(mem_ready.1 hr).1;have Nb:∀e∈oj.after,Region.binds md e=true→e.on≠i:=fun e he hb heq=>by
    have h1:=mI e he hb;rw [heq] at h1;rcases Nat.lt_or_ge i aV.size with h' | h'
    ·simp [h'] at Nf h1;rw [Nf] at h1;cases h1
    ·simp [Array.getElem?_eq_none h'] at h1
   have h2:=wpOp_put Vq (DO j oj Vq Hk Kh Nb) (fun cs b=>IN i oi cs b hi) (fun cs b=>IN j oj cs b Vq) hQ hy h1;have Ki:∀k ok,ops[k]?=some ok→k≠i→(aV.setIfInBounds j true).getD k true=false→
     (∀e∈ok.after,Region.binds md e=true→e.on≠i)→oi.apart ops ok=true:=fun k ok hk hki HT RY=>by
    refine DO k ok hk hki ?_ RY
    by_cases Bs:j=k
    ·subst Bs;exact Kh
    ·rw [getD_set_ne true Bs] at HT;exact HT
   refine wpOp_mono (fun a' w' h3=>⟨h3.2.1,ih (aV.setIfInBounds j true) a' w' Ki (ready_mono hr (Ne.symm Hk)) h3.1 ?_⟩) h2;rw [Array.setIfInBounds_comm _ _ Hk];exact h3.2.2
end
end Go.TM
namespace Go.TM
open Go Go.RowKit
def zk (i:Nat):List Nat→Bool
 | []=>false
 |x::l=>Nat.beq x i||zk i l
def TZ (ops:List Oper) (ls:List Nat) (j:Nat):Bool:=
 match nth ops j with
 |some o => !zk j ls&&o.after.toList.all fun e => !Region.binds .any e||zk e.on ls
 |none=>false
def LX (ops:Array Oper) (IP:List Oper) (n:Nat) (ls:List Nat) (i:Nat):Bool:=
 match nth IP i with
 |some oi=>(List.range n).all fun j=>Nat.beq j i||(zk j ls||match nth IP j with
  |some oj=>(oj.after.toList.any fun e=>Region.binds .any e&&Nat.beq e.on i)||oi.apart ops oj
  |none=>true)
 |none=>false
def Hl (IP:List Oper) (n:Nat) (ls:List Nat) (i:Nat):Bool:=(List.range n).all fun j=>Nat.beq j i || !TZ IP ls j
def Pl.cB:Pl→List Nat
 |.nil=>[]
 |.op i _ _=>[i]
 |.alt p q=>p.cB++q.cB
def Qh (IP:List Oper) (n:Nat) (ls hs:List Nat):Bool:=(List.range n).all fun j => !TZ IP ls j||zk j hs
def kU (ops:Array Oper) (IP:List Oper) (n:Nat) (ds:List Nat):Bool→List Nat→Pl→Bool
 |al,ls,.nil => !al&&(List.range n).all fun j => !TZ IP ls j
 |al,ls,.op i kd r=>TZ IP ls i&&((match kd with
   |.any => !al&&LX ops IP n ls i
   |.take => !al&&(LX ops IP n ls i&&ds.all fun d=>zk d ls||tp .any ops i n d)
   |.one=>al||Hl IP n ls i
   |.last=>(al||Hl IP n ls i)&&zk i ds)&&kU ops IP n ds false (i::ls) r)
 |al,ls,.alt p q=>(al||Qh IP n ls (p.cB++q.cB))&&(kU ops IP n ds true ls p&&kU ops IP n ds true ls q)
def Gq:Pl→List Nat
 |.nil=>[]
 |.op i .last l=>i::Gq l
 |.op _ _ l=>Gq l
 |.alt p q=>Gq p++Gq q
def Pl.depth:Pl→Nat
 |.nil=>0
 |.op _ _ l=>l.depth+1
 |.alt p q=>Nat.max p.depth q.depth
def Eb (ops:Array Oper) (l:Pl):Bool:=
 Region.noSelect ops&&(Nat.ble l.depth ops.size&&kU ops ops.toList ops.size (Gq l) false [] l)
structure RG (n:Nat) (ls:List Nat) (aV:Array Bool):Prop where
 size:aV.size=n
 gf:∀j,aV.getD j false=zk j ls
 gt:∀j,aV.getD j true=(zk j ls||decide (n≤j))
theorem RG.push {n:Nat} {ls:List Nat} {aV:Array Bool} (h:RG n ls aV) {i:Nat} (hi:i<n):RG n (i::ls) (aV.setIfInBounds i true) where
 size:=by simp [h.size]
 gf:=fun j=>by
  unfold zk
  by_cases e:i=j
  ·subst e;have:Nat.beq i i=true:=Nat.beq_refl i;rw [this];simp [h.size,hi]
  ·rw [getD_set_ne false e,h.gf j];have:Nat.beq i j=false:=by
    cases hq:Nat.beq i j
    ·rfl
    ·exact absurd (Nat.eq_of_beq_eq_true hq) e
   simp [this]
 gt:=fun j=>by
  unfold zk
  by_cases e:i=j
  ·subst e;simp [h.size,hi]
  ·rw [getD_set_ne true e,h.gt j];have:Nat.beq i j=false:=by
    cases hq:Nat.beq i j
    ·rfl
    ·exact absurd (Nat.eq_of_beq_eq_true hq) e
   simp [this]
theorem RG.none (n:Nat):RG n [] (Array.replicate n false) where
 size:=by simp
 gf:=fun j=>by
  simp only [Array.getD_eq_getD_getElem?,Array.getElem?_replicate,zk]
  split<;>rfl
 gt:=fun j=>by
  simp only [Array.getD_eq_getD_getElem?,Array.getElem?_replicate,zk]
  split
  ·rename_i h;simp;omega
  ·rename_i h;simp;omega
theorem x6 {ops:Array Oper} {ls:List Nat} {aV:Array Bool} (h:RG ops.size ls aV) (j:Nat):TZ ops.toList ls j=true↔j∈Region.ready .any ops aV:=by
 rw [mem_ready];unfold TZ;rw [fX,Array.getElem?_toList,h.gt j]
 cases ho:ops[j]? with
 |none=>simp
 |some o=>
  have cA:j<ops.size:=(Array.getElem?_eq_some_iff.1 ho).1;have hn:decide (ops.size≤j)=false:=by simp;omega
  simp only [hn,Bool.or_false,Bool.and_eq_true,Bool.not_eq_true',List.all_eq_true,Array.mem_toList_iff,Bool.or_eq_true,Option.some.injEq,exists_eq_left',h.gf]
  constructor
  ·rintro ⟨h0,h1⟩
   exact ⟨h0,fun e he hb=>(h1 e he).resolve_left (by simp [hb])⟩
  ·rintro ⟨h0,h1⟩
   refine ⟨h0,fun e he => ?_⟩
   cases hb:Region.binds .any e
   ·exact .inl rfl
   ·exact .inr (h1 e he hb)
theorem Ng {i j:Nat} (h:i≠j):Nat.beq i j=false:=by
 cases hq:Nat.beq i j
 ·rfl
 ·exact absurd (Nat.eq_of_beq_eq_true hq) h
theorem Ec {ops:Array Oper} {ls:List Nat} {aV:Array Bool} (h:RG ops.size ls aV) {i:Nat} {oi:Oper} (hi:ops[i]?=some oi) (hf:LX ops ops.toList ops.size ls i=true) :
  ∀j oj,ops[j]?=some oj→j≠i→aV.getD j true=false→(∀e∈oj.after,Region.binds .any e=true→e.on≠i)→oi.apart ops oj=true:=by
 intro j oj hj Hk HT RY;unfold LX at hf;rw [fX,Array.getElem?_toList,hi] at hf;have cA:j<ops.size:=(Array.getElem?_eq_some_iff.1 hj).1;have h1:=List.all_eq_true.1 hf j (List.mem_range.2 cA);rw [fX,Array.getElem?_toList,hj,Ng Hk,Bool.false_or] at h1;rw [h.gt j,Bool.or_eq_false_iff] at HT;rw [HT.1,Bool.false_or,Bool.or_eq_true] at h1;rcases h1 with h1 | h1
 ·obtain ⟨e,he,h2⟩:=List.any_eq_true.1 h1;rw [Bool.and_eq_true] at h2;exact absurd (Nat.eq_of_beq_eq_true h2.2) (RY e (Array.mem_toList_iff.1 he) h2.1)
 ·exact h1
theorem IQ {ops:Array Oper} {ls:List Nat} {aV:Array Bool} (h:RG ops.size ls aV) {i:Nat} (hf:Hl ops.toList ops.size ls i=true):∀j∈Region.ready .any ops aV,j=i:=by
 intro j hj;have cA:j<ops.size:=by
  obtain ⟨_,o,ho,_⟩:=mem_ready.1 hj;exact (Array.getElem?_eq_some_iff.1 ho).1
 have h1:=List.all_eq_true.1 hf j (List.mem_range.2 cA);rw [(x6 h j).2 hj,Bool.not_true,Bool.or_false] at h1;exact Nat.eq_of_beq_eq_true h1
theorem AS {P:Program} {T:kG} {S:kO} {w0:World} {mu:Mu} {c:Cz} {st aZ:St} {a:Act} {w:World} {ops:Array Oper} {o:Oper} {C:World→Prop} (h:Rel w0 mu c st a w)
  (hd:∀k,o.dst=some k→k<a.tmps.size) (hv:(wT T S ops.toList st o).val=some aZ)
  (base:(JB T S st o).val=some aZ→∃v,(∀w':World,C w'→(execOp a.eval o).run P w'=.ok (.value v) w')∧Rel w0 mu c aZ (a.put o.dst v) w) :
  ∃v,YieldsIf P ops C o v a∧Rel w0 mu c aZ (a.put o.dst v) w:=by
 unfold wT at hv;unfold YieldsIf Region.wanted
 cases hg:o.guard with
 |none=>
  simp only [hg] at hv ⊢;obtain ⟨v,h1,h2⟩:=base hv;exact ⟨v,.inl ⟨trivial,h1⟩,h2⟩
 |some p=>
  obtain ⟨j,want⟩:=p;simp only [hg] at hv ⊢
  cases hj:(nth ops.toList j).bind (·.dst) with
  |none=>simp [hj,N.val] at hv
  |some d=>
   simp only [hj] at hv
   split at hv
   ·rename_i b Py;obtain ⟨h1,h2⟩:=xW h Py;rw [DQ (ops:=ops) hj h1 h2];have yes:(JB T S (TM.ba st (some d) (.one (.bool b))) o).val=some aZ→∃v,(∀w':World,C w'→(execOp a.eval o).run P w'=.ok (.value v) w')∧Rel w0 mu c aZ (a.put o.dst v) w:=fun e=>base (by rwa [xX st d Py] at e)
    have no:(N.done (TM.ba (TM.ba st (some d) (.one (.bool b))) o.dst (.m9 []))).val=some aZ→Rel w0 mu c aZ (a.put o.dst undef) w:=by
     intro e;simp only [N.val,Option.some.injEq] at e;subst e;rw [xX st d Py];exact h.ba (xY _ _ _) hd
    rcases tV hv with ⟨hb,yG⟩ | ⟨hb,yG⟩
    ·subst hb
     cases want
     ·exact ⟨undef,.inr ⟨rfl,rfl⟩,no yG⟩
     ·obtain ⟨v,h3,h4⟩:=yes yG;exact ⟨v,.inl ⟨rfl,h3⟩,h4⟩
    ·subst hb
     cases want
     ·obtain ⟨v,h3,h4⟩:=yes yG;exact ⟨v,.inl ⟨rfl,h3⟩,h4⟩
     ·exact ⟨undef,.inr ⟨rfl,rfl⟩,no yG⟩
   ·rename_i Py;simp only [N.val,Option.some.injEq] at hv;subst hv;rw [yJ (ops:=ops) hj (DR h Py)];exact ⟨undef,.inr ⟨by cases want<;>rfl,rfl⟩,h.ba (xY _ _ _) hd⟩
   ·simp [N.val] at hv
theorem Sm {P:Program} {T:kG} (hT:fi P T) {S:kO} {w0:World} {mu:Mu} {c:Cz} {st:St} {a:Act} {w:World} (h:Rel w0 mu c st a w) {o:Oper} (hk:kindOk S st o .take=true)
  {aZ:St} (hv:(JB T S st o).val=some aZ) (hd:∀k,o.dst=some k→k<a.tmps.size):∃v,(∀w':World,ia w w'→(execOp a.eval o).run P w'=.ok (.value v) w')∧Rel w0 mu c aZ (a.put o.dst v) w:=by
 unfold kindOk at hk;unfold JB at hv
 cases ho:o.op with
 |load t x=>
  simp only [ho] at hv;obtain ⟨v,h1,h2⟩:=HY hT h (bB h x) hv hd;exact ⟨v,fun w' hw=>by simp only [execOp,ho];exact rG (h1 w' hw),h2⟩
 |_=>simp [ho] at hk
theorem AT {i:Nat}:(l:List Nat)→zk i l=true→i∈l
 | [],h=>by cases h
 |x::l,h=>by
  unfold zk at h;rw [Bool.or_eq_true] at h;rcases h with h | h
  ·rw [Nat.eq_of_beq_eq_true h];exact List.mem_cons_self
  ·exact List.mem_cons_of_mem _ (AT l h)
theorem xl {R:Type} {P:Program} {T:kG} (hT:fi P T) (hE:ze P T) {S:kO} {w0:World} {mu:Mu} {n:Nat} (HS:uS P T S w0 mu n) {ops:Array Oper} {ds:List Nat} {Q:Exit→Act→World→Prop} (hQ:∀c a w,¬Q (.panic c) a w)
  {k:St→Option R} {r:R} (hk:Next w0 mu n r k (Q .normal)) (RC:Region.noSelect ops=true) (sD:zf n ops.toList=true) :
  (l:Pl)→(ls:List Nat)→(aV:Array Bool)→(fuel:Nat)→{c:Cz}→{st:St}→{a:Act}→{w:World}→RG ops.size ls aV→tu .any ops aV→l.depth≤fuel→
   Rel w0 mu c st a w→a.tmps.size=n→pP T S ops.toList l st k=some r→
   (kU ops ops.toList ops.size ds false ls l=true→oq P .any ops Q ds fuel aV a w)∧
   (kU ops ops.toList ops.size ds true ls l=true→∃IS,fuel=IS+1∧∀i∈l.cB,i∈Region.ready .any ops aV∧wpOp P ops Q i (fun a' w'=>(i∉ds→ia w w')∧oq P .any ops Q ds IS (aV.setIfInBounds i true) a' w') a w)
 |.nil,ls,aV,fuel,c,st,a,w,hl,_,_,h,hn,hv=>by
  refine ⟨fun hb => ?_,fun hb=>by simp [kU] at hb⟩;unfold kU at hb;rw [Bool.and_eq_true] at hb;have hr:Region.ready .any ops aV=[]:=by
   refine List.eq_nil_iff_forall_not_mem.2 fun j hj => ?_
   obtain ⟨_,o,ho,_⟩:=mem_ready.1 hj;have cA:j<ops.size:=(Array.getElem?_eq_some_iff.1 ho).1;have h1:=List.all_eq_true.1 hb.2 j (List.mem_range.2 cA);rw [(x6 hl j).2 hj] at h1
   cases h1
  have hq:=hk h hn hv
  cases fuel with
  |zero=>exact ⟨hr,hq⟩
  |succ fuel=>exact ⟨fun _=>hq,fun i hi=>by rw [hr] at hi;cases hi⟩
 |.op i kd l,ls,aV,0,c,st,a,w,hl,_,hf,h,hn,hv=>absurd hf (by simp [Pl.depth])
 |.op i kd l,ls,aV,fuel+1,c,st,a,w,hl,hs,hf,h,hn,hv=>by
  have hf:l.depth≤fuel:=Nat.le_of_succ_le_succ hf;have first:∀al,kU ops ops.toList ops.size ds al ls (.op i kd l)=true→TZ ops.toList ls i=true∧kU ops ops.toList ops.size ds false (i::ls) l=true:=by
   intro al hb;unfold kU at hb;rw [Bool.and_eq_true,Bool.and_eq_true] at hb;exact ⟨hb.1,hb.2.2⟩
  have step:TZ ops.toList ls i=true→kU ops ops.toList ops.size ds false (i::ls) l=true→(kd=.one∨i∈ds)→wpOp P ops Q i (fun a' w'=>(i∉ds→ia w w')∧oq P .any ops Q ds fuel (aV.setIfInBounds i true) a' w') a w:=by
   intro RB fe hds;have T0:=(x6 hl i).1 RB;obtain ⟨_,o,LW,_⟩:=mem_ready.1 T0;have cA:i<ops.size:=(Array.getElem?_eq_some_iff.1 LW).1;unfold pP at hv;rw [fX,Array.getElem?_toList,LW] at hv;obtain ⟨RH,hv⟩:=aK hv;rw [N.fold_eq] at hv;obtain ⟨aZ,h1,h2⟩:=Option.bind_eq_some_iff.1 hv;have Ke:∀k,o.dst=some k→k<a.tmps.size:=fun k hk=>by rw [hn];exact BE sD (by rw [Array.mem_toList_iff];exact Array.mem_of_getElem? LW) k hk
   have next:∀ {c':Cz} {a':Act} {w':World},Rel w0 mu c' aZ a' w'→a'.tmps.size=n→oq P .any ops Q ds fuel (aV.setIfInBounds i true) a' w':=fun hr MJ=>
    (xl hT hE HS hQ hk RC sD l (i::ls) _ fuel (hl.push cA) (hs.set T0) hf hr MJ h2).1 fe
   have hko:kd=.one→kindOk S st o .one=true:=fun e=>by rw [e] at RH;exact RH
   unfold wpOp;rw [LW];rcases Im HS h hn (fun k hk=>by rw [←hn];exact Ke k hk) h1 with ⟨hw,rn⟩ | ⟨hw,xe⟩
   ·simp only [hw,if_true];refine .inl (Oper.wp_mono (fun a' w' ⟨⟨c',hr,jP⟩,Sa⟩=>⟨fun Hb => ?_,next hr (jP.trans hn)⟩) (rn Q));rcases hds with e | e
    ·exact Sa (hko e)
    ·exact absurd e Hb
   ·simp only [hw,Bool.false_eq_true,if_false];exact ⟨fun _=>ia.refl w,next xe ((rE _ _ _).trans hn)⟩
  refine ⟨fun hb => ?_,fun hb=>⟨fuel,rfl,fun j hj => ?_⟩⟩
  ·obtain ⟨RB,fe⟩:=first _ hb;have T0:=(x6 hl i).1 RB;unfold kU at hb;rw [Bool.and_eq_true,Bool.and_eq_true] at hb;obtain ⟨_,LY,_⟩:=hb;have alone:Hl ops.toList ops.size ls i=true→(kd=.one∨i∈ds)→oq P .any ops Q ds (fuel+1) aV a w:=by
    intro hal hds;refine ⟨fun e=>absurd T0 (by rw [e];exact List.not_mem_nil),fun j hj => ?_⟩;have:=IQ hl hal j hj;subst this;exact step RB fe hds
   obtain ⟨_,o,LW,_⟩:=mem_ready.1 T0;have cA:i<ops.size:=(Array.getElem?_eq_some_iff.1 LW).1;unfold pP at hv;rw [fX,Array.getElem?_toList,LW] at hv;obtain ⟨RH,hv⟩:=aK hv;rw [N.fold_eq] at hv;obtain ⟨aZ,h1,h2⟩:=Option.bind_eq_some_iff.1 hv;have Ke:∀k,o.dst=some k→k<a.tmps.size:=fun k hk=>by rw [hn];exact BE sD (by rw [Array.mem_toList_iff];exact Array.mem_of_getElem? LW) k hk
   have next:∀ {c':Cz} {a':Act} {w':World},Rel w0 mu c' aZ a' w'→a'.tmps.size=n→oq P .any ops Q ds fuel (aV.setIfInBounds i true) a' w':=fun hr MJ=>
    (xl hT hE HS hQ hk RC sD l (i::ls) _ fuel (hl.push cA) (hs.set T0) hf hr MJ h2).1 fe
   have IN:=Region.noSelect_spec RC
   cases kd with
   |one=>exact alone (by simpa using LY) (.inl rfl)
   |last=>
    simp only [Bool.false_or,Bool.and_eq_true] at LY;exact alone LY.1 (.inr (AT ds LY.2))
   |any=>
    simp only [Bool.not_false,Bool.true_and] at LY;obtain ⟨v,hy,xe⟩:=AS (P:=P) (ops:=ops) (C:=fun _=>True) h Ke h1 (fun e=>by
     obtain ⟨v,g1,g2⟩:=LI hT hE h RH e Ke;exact ⟨v,fun w' _=>g1 w',g2⟩)
    refine Kj LW IN (fun c a w hq=>absurd hq (hQ _ _ _)) fuel aV a w (Ec hl LW LY) T0 ?_ (next xe ((rE _ _ _).trans hn));rcases hy with ⟨g1,g2⟩ | g
    ·exact .inl ⟨g1,fun w'=>g2 w' trivial⟩
    ·exact .inr g
   |take=>
    simp only [Bool.not_false,Bool.true_and,Bool.and_eq_true] at LY;obtain ⟨v,hy,xe⟩:=AS (P:=P) (ops:=ops) (C:=ia w) h Ke h1 (fun e=>Sm hT h RH e Ke);refine Hj LW IN (fun c a w hq=>absurd hq (hQ _ _ _)) ops.size fuel aV a w (Ec hl LW LY.1) hs (fun d hm HT => ?_) T0 hy (ia.refl w) (next xe ((rE _ _ _).trans hn));have h3:=List.all_eq_true.1 LY.2 d hm;rw [hl.gt d,Bool.or_eq_false_iff] at HT;rw [HT.1,Bool.false_or] at h3;exact h3
  ·have hj:j=i:=by simpa [Pl.cB] using hj
   subst hj;obtain ⟨RB,fe⟩:=first _ hb;refine ⟨(x6 hl j).1 RB,step RB fe ?_⟩;unfold kU at hb;rw [Bool.and_eq_true,Bool.and_eq_true] at hb;obtain ⟨_,LY,_⟩:=hb
   cases kd with
   |one=>exact .inl rfl
   |last=>
    simp only [Bool.true_or,Bool.true_and] at LY;exact .inr (AT ds LY)
   |any=>simp at LY
   |take=>simp at LY
 |.alt p q,ls,aV,fuel,c,st,a,w,hl,hs,hf,h,hn,hv=>by
  have hv:both (pP T S ops.toList p st k) (pP T S ops.toList q st k)=some r:=hv;obtain ⟨yG,J9⟩:=My hv;have hf:Nat.max p.depth q.depth≤fuel:=hf;have hp:=(xl (ds:=ds) hT hE HS hQ hk RC sD p ls aV fuel hl hs (Nat.le_trans (Nat.le_max_left _ _) hf) h hn yG).2;have hq:=(xl (ds:=ds) hT hE HS hQ hk RC sD q ls aV fuel hl hs (Nat.le_trans (Nat.le_max_right _ _) hf) h hn J9).2;have cB:kU ops ops.toList ops.size ds true ls p=true→kU ops ops.toList ops.size ds true ls q=true→∃IS,fuel=IS+1∧∀i∈p.cB++q.cB,i∈Region.ready .any ops aV∧wpOp P ops Q i (fun a' w'=>(i∉ds→ia w w')∧oq P .any ops Q ds IS (aV.setIfInBounds i true) a' w') a w:=by
   intro h1 h2;obtain ⟨f1,e1,g1⟩:=hp h1;obtain ⟨f2,e2,g2⟩:=hq h2;have:f1=f2:=by omega
   subst this;exact ⟨f1,e1,fun i hi=>(List.mem_append.1 hi).elim (g1 i) (g2 i)⟩
  have parts:∀al,kU ops ops.toList ops.size ds al ls (.alt p q)=true→(al||Qh ops.toList ops.size ls (p.cB++q.cB))=true∧kU ops ops.toList ops.size ds true ls p=true∧kU ops ops.toList ops.size ds true ls q=true:=by
   intro al hb;unfold kU at hb;rw [Bool.and_eq_true,Bool.and_eq_true] at hb;exact hb
  refine ⟨fun hb => ?_,fun hb => ?_⟩
  ·obtain ⟨hc,h1,h2⟩:=parts _ hb;obtain ⟨f,rfl,g⟩:=cB h1 h2;have agW:∀j∈Region.ready .any ops aV,j∈p.cB++q.cB:=by
    intro j hj;have cA:j<ops.size:=by
     obtain ⟨_,o,ho,_⟩:=mem_ready.1 hj;exact (Array.getElem?_eq_some_iff.1 ho).1
    rw [Bool.false_or] at hc;have h1:=List.all_eq_true.1 hc j (List.mem_range.2 cA);rw [(x6 hl j).2 hj,Bool.not_true,Bool.false_or] at h1;exact AT _ h1
   refine ⟨fun e => ?_,fun j hj=>(g j (agW j hj)).2⟩;have eH:∃i,i∈p.cB++q.cB:=by
    have key:∀(l:Pl),kU ops ops.toList ops.size ds true ls l=true→∃i,i∈l.cB:=by
     intro l
     induction l with
     |nil=>intro h;simp [kU] at h
     |op i _ _ _=>intro _;exact ⟨i,by simp [Pl.cB]⟩
     |alt p q ih _=>
      intro h;unfold kU at h;rw [Bool.and_eq_true,Bool.and_eq_true] at h;obtain ⟨i,hi⟩:=ih h.2.1;exact ⟨i,List.mem_append_left _ hi⟩
    obtain ⟨i,hi⟩:=key p h1;exact ⟨i,List.mem_append_left _ hi⟩
   obtain ⟨i,hi⟩:=eH;have:=(g i hi).1;rw [e] at this
   cases this
  ·obtain ⟨_,h1,h2⟩:=parts _ hb;exact cB h1 h2
theorem BQ {R:Type} {P:Program} {T:kG} (hT:fi P T) (hE:ze P T) (hm:P.follows .mixedOrders=true) {S:kO} {D:mN} {w0:World} {mu:Mu} {n:Nat} (HS:uS P T S w0 mu n) :
  tW R P T S D w0 mu n (fun id ops=>Eb ops (D id)=true):=by
 intro id ops Q k r fZ sD hk c st a w h hn hv;unfold Eb at fZ;rw [Bool.and_eq_true,Bool.and_eq_true] at fZ;obtain ⟨RC,hlen,hb⟩:=fZ
 let Q':Exit→Act→World→Prop:=fun e a w=>e=.normal∧Q .normal a w
 have key:(Code.region id ops true).wp P Q' a w:=by
  refine wp_region_any hm (yN _ _ _ _ ((xl hT hE HS (ds:=Gq (D id)) (Q:=Q') (fun c a w hq=>by cases hq.1) (fun {c st a w} g1 g2 g3=>⟨rfl,hk g1 g2 g3⟩) RC sD (D id) [] _ ops.size (RG.none _) (tu.none _ _ _) (Nat.le_of_ble_eq_true hlen) h.drew hn hv).1 hb))
 exact Code.wp_mono (fun e a w hq=>by obtain ⟨rfl,hq⟩:=hq;exact hq) key
end Go.TM
namespace Go.TM
open Go Go.RowKit
abbrev Vr:RT→Type→Type
 |.nil,R=>R
 |.cons t r,R=>den t→Vr r R
abbrev ON {R:Type}:(r:RT)→Vr r R→aA r→R
 |.nil,f,_=>f
 |.cons _ r,f,x=>ON r (f x.1) x.2
def gO:mN:=fun _=>.nil
def noL {R:Type}:qu R:=fun _ _ _ _=>none
def Qi (f:Func):Code:=match f.body with | some c=>c | none=>.skip
def nn:Nat→List (Option AP)
 |0=>[]
 |n+1=>none::nn n
structure Rec where
 size:Nat
 agg:Bool
 bW:List (Nat×Nat)
 row:Option RT
 elem:Option (RT×Nat)
 kind:Option Ty
 jf:List Nat
 eq:Bool
 dp:Bool:=false
 cap:Bool:=false
 lz:List Nat:=[]
inductive Tr where
 |leaf
 |node (l:Tr) (k:Nat) (v:Rec) (r:Tr)
def Tr.flat:Tr→Tr
 |.leaf=>.leaf
 |.node l k v r=>.node l.flat k { v with dp:=false } r.flat
def Tr.wS (l:List Nat):Tr→Tr
 |.leaf=>.leaf
 |.node a k v b=>.node (a.wS l) k { v with cap:=l.any (Nat.beq k) } (b.wS l)
def Tr.find:Tr→Nat→Option Rec
 |.leaf,_=>none
 |.node l k v r,t=>bif Nat.beq t k then some v else bif Nat.blt t k then l.find t else r.find t
def Tr.all (p:Nat→Rec→Bool):Tr→Bool
 |.leaf=>true
 |.node l k v r=>l.all p&&(p k v&&r.all p)
theorem Tr.AU {p:Nat→Rec→Bool}:(tr:Tr)→tr.all p=true→∀ {t v},tr.find t=some v→p t v=true
 |.leaf,_,_,_,h=>by cases h
 |.node l k v r,h,t,u,hf=>by
  unfold Tr.all at h;rw [Bool.and_eq_true,Bool.and_eq_true] at h;unfold Tr.find at hf
  cases hb:Nat.beq t k with
  |true=>
   rw [hb] at hf;injection hf with hf;subst hf;rw [Nat.eq_of_beq_eq_true hb];exact h.2.1
  |false=>
   rw [hb] at hf
   cases hl:Nat.blt t k with
   |true=>rw [hl] at hf;exact Tr.AU l h.1 hf
   |false=>rw [hl] at hf;exact Tr.AU r h.2.2 hf
def n7 (tr:Tr):kG where
 cells t:=(tr.find t).map (·.size)
 agg t:=match tr.find t with | some r=>r.agg | none=>false
 off t f:=match tr.find t with | some r=>(nth r.bW f).map (·.1) | none=>none
 fsz t f:=match tr.find t with | some r=>(nth r.bW f).map (·.2) | none=>none
 row t:=match tr.find t with | some r=>r.row | none=>none
 elem t:=match tr.find t with | some r=>r.elem | none=>none
 m9 _:=none
 kind t:=match tr.find t with | some r=>r.kind | none=>none
 one t f:=match tr.find t with | some r=>r.jf.any (Nat.beq f) | none=>false
 eq t:=match tr.find t with | some r=>r.eq | none=>false
 dp t:=match tr.find t with | some r=>r.dp | none=>false
 cap t:=match tr.find t with | some r=>r.cap | none=>false
 lz t d:=match tr.find t,d with | some r,some d=>r.lz.any (Nat.beq d) | _,_=>false
def mT:RT→List Value→Bool
 |.nil,[]=>true
 |.cons (.int k) r,.int l n::vs=>decide (k=l)&&decide (n=0)&&mT r vs
 |.cons .bool r,.bool b::vs => !b&&mT r vs
 |.cons .str r,.string s::vs=>(match s.data.toList with | []=>true | _=>false)&&mT r vs
 |.cons (.sl _) r,.slice none 0 0::vs=>mT r vs
 |_,_=>false
theorem uf:(r:RT)→(vs:List Value)→mT r vs=true→iE r vs
 |.nil,[],_=>rfl
 |.nil,_::_,h=>by simp [mT] at h
 |.cons t r,[],h=>by cases t<;>simp [mT] at h
 |.cons t r,v::vs,h=>by
  cases t with
  |int k=>
   cases v<;>try (simp [mT] at h;done)
   rename_i l n;simp only [mT,Bool.and_eq_true,decide_eq_true_eq] at h;obtain ⟨⟨rfl,rfl⟩,h⟩:=h;exact ⟨vs,rfl,uf r vs h⟩
  |bool=>
   cases v<;>try (simp [mT] at h;done)
   rename_i b;simp only [mT,Bool.and_eq_true,Bool.not_eq_true'] at h;obtain ⟨rfl,h⟩:=h;exact ⟨vs,rfl,uf r vs h⟩
  |str=>
   cases v<;>try (simp [mT] at h;done)
   rename_i s;simp only [mT,Bool.and_eq_true] at h;obtain ⟨h1,h⟩:=h;refine ⟨vs,?_,uf r vs h⟩;obtain ⟨d⟩:=s;obtain ⟨d⟩:=d
   cases d with
   |nil=>rfl
   |cons _ _=>simp at h1
  |sl q=>
   cases v<;>try (simp [mT] at h;done)
   rename_i a n m
   cases a with
   |some _=>simp [mT] at h
   |none=>cases n with
    |succ _=>simp [mT] at h
    |zero=>cases m with
     |succ _=>simp [mT] at h
     |zero=>
      have h:mT r vs=true:=h;exact ⟨vs,rfl,uf r vs h⟩
def sR {α:Type} (o:Option α) (p:α→Bool):Bool:=match o with | some x=>p x | none=>false
theorem fo {α:Type} {o:Option α} {p:α→Bool} (h:sR o p=true):∃x,o=some x∧p x=true:=by
 cases o with
 |none=>cases h
 |some x=>exact ⟨x,rfl,h⟩
def uY (P:Program):List Field→List (Nat×Nat)→Bool
 | [],[]=>true
 |f::fs,(o,s)::ps=>Nat.beq f.offset o&&(sR (P.info? f.type) (fun i=>Nat.beq i.size s)&&(Nat.blt 0 s&&uY P fs ps))
 |_,_=>false
theorem zl {P:Program}:(fs:List Field)→(ps:List (Nat×Nat))→uY P fs ps=true→
  fs.mapM (fun f=>(P.info? f.type).map fun i=>(f.offset,i.size))=some ps∧∀(k:Nat) p,ps[k]?=some p→∃FR n,fs[k]?=some FR∧FR.offset=p.1∧(P.info? FR.type).map (·.size)=some (n+1)
 | [],[],_=>⟨rfl,fun k p h=>by simp at h⟩
 | [],_::_,h=>by simp [uY] at h
 |_::_,[],h=>by simp [uY] at h
 |f::fs,(o,s)::ps,h=>by
  unfold uY at h;rw [Bool.and_eq_true,Bool.and_eq_true,Bool.and_eq_true] at h;obtain ⟨h1,h2,h3,h4⟩:=h;obtain ⟨i,hi,his⟩:=fo h2;have h1:=Nat.eq_of_beq_eq_true h1;have his:=Nat.eq_of_beq_eq_true his;obtain ⟨g1,g2⟩:=zl fs ps h4;refine ⟨by simp [List.mapM_cons,hi,g1,h1,his],fun k p hp => ?_⟩
  cases k with
  |zero=>
   simp at hp;subst hp;have h3:0<s:=Nat.le_of_ble_eq_true h3;exact ⟨f,s-1,rfl,h1,by rw [hi];simp [his];omega⟩
  |succ k=>exact g2 k p (by simpa using hp)
def IT (P:Program) (t:Nat):Ty→Bool
 |.int k=>sR (P.underlying t) fun | .int l=>decide (k=l) | _=>false
 |.bool=>sR (P.underlying t) fun | .bool=>true | _=>false
 |.str=>sR (P.underlying t) fun | .string=>true | _=>false
 |.sl _=>false
def Hm (P:Program) (t:Nat) (r:Rec):Bool:=
 sR (P.info? t) (fun i=>Nat.beq i.size r.size&&(match r.row with | some q=>sR i.zero (fun z=>mT q z.cells.toList) | none=>true)) &&
 (sR (P.underlying t) (fun d=>(d.isRow==r.agg)&&(bif r.agg then true else Nat.beq r.size 1)&&(match d with | .struct fs=>bif r.agg then uY P fs.toList r.bW else Nat.beq r.bW.length 0 | _ => !r.agg&&Nat.beq r.bW.length 0)
   && (match r.elem with | some (q,b)=>(match d with | .slice e=>sR (P.info? e) (fun i=>Nat.beq i.size q.width&&(Nat.blt 0 q.width&&(Nat.beq i.bytes b&&(Nat.blt 0 b&&sR i.zero (fun z=>mT q z.cells.toList))))) | _=>false) | none=>true)) &&
 ((match r.kind with | some k=>IT P t k | none=>true)&&(match r.elem with | some (.cons (.int .u8) .nil,_)=>sR (P.underlying t) (fun d=>match d with | .slice e=>IT P e (.int .u8) | _=>false) | _=>true)))
def T1 (P:Program) (t:Nat) (l:List Nat):Bool:=l.all fun f=>sR (P.underlying t) fun d=>match d with | .struct fs=>sR fs[f]? (fun FR=>sR (P.underlying FR.type) fun e => !e.isRow) | _=>false
def AW (P:Program) (t:Nat) (r:Rec):Bool:=Hm P t r&&T1 P t r.jf
theorem tv {P:Program} {tr:Tr} (h:tr.all (AW P)=true):fi P (n7 tr):=by
 have abG:∀ {t r},tr.find t=some r→AW P t r=true:=fun hf=>Tr.AU tr h hf
 have get:∀ {t r},tr.find t=some r→Hm P t r=true:=fun hf=>(Bool.and_eq_true _ _▸abG hf).1
 have base:∀ {t r},tr.find t=some r→(∃i,P.info? t=some i∧i.size=r.size∧∀q,r.row=some q→∃z,i.zero=some z∧iE q z.cells.toList)∧
   (∃d,P.underlying t=some d∧d.isRow=r.agg∧(r.agg=false→r.size=1)∧(r.bW≠[]∨r.agg=true→∃fs,d=.struct fs∧uY P fs.toList r.bW=true)∧
    ∀q b,r.elem=some (q,b)→∃e i z,d=.slice e∧P.info? e=some i∧i.size=q.width∧0<q.width∧i.bytes=b∧0<b∧i.zero=some z∧iE q z.cells.toList)∧
   ∀k,r.kind=some k→IT P t k=true:=by
  intro t r hf;have h1:=get hf;unfold Hm at h1;rw [Bool.and_eq_true,Bool.and_eq_true,Bool.and_eq_true] at h1;obtain ⟨h1,h2,h3,_⟩:=h1;obtain ⟨i,hi,h4⟩:=fo h1;rw [Bool.and_eq_true] at h4;obtain ⟨d,hd,h5⟩:=fo h2;rw [Bool.and_eq_true,Bool.and_eq_true,Bool.and_eq_true] at h5;obtain ⟨⟨⟨g1,g2⟩,g3⟩,g4⟩:=h5;refine ⟨⟨i,hi,Nat.eq_of_beq_eq_true h4.1,fun q hq => ?_⟩,⟨d,hd,by simpa using g1,fun LR => ?_,fun eH => ?_,fun q b he => ?_⟩,fun k hk => ?_⟩
  ·have h6:=h4.2;rw [hq] at h6;obtain ⟨z,hz,h7⟩:=fo h6;exact ⟨z,hz,uf q _ h7⟩
  ·rw [LR] at g2;exact Nat.eq_of_beq_eq_true g2
  ·cases LR:r.agg with
   |true=>
    rw [LR] at g3
    cases d with
    |struct fs=>exact ⟨fs,rfl,g3⟩
    |_=>simp at g3
   |false=>
    rw [LR] at g3;rcases eH with eH | eH
    ·have:Nat.beq r.bW.length 0=true:=by
      cases d with
      |struct fs=>exact g3
      |_=>simpa using g3
     exact absurd (List.length_eq_zero_iff.1 (Nat.eq_of_beq_eq_true this)) eH
    ·rw [LR] at eH;cases eH
  ·rw [he] at g4
   cases d with
   |slice e=>
    obtain ⟨i,h6,h7⟩:=fo g4;rw [Bool.and_eq_true,Bool.and_eq_true,Bool.and_eq_true,Bool.and_eq_true] at h7;obtain ⟨k1,k2,k3,k4,k5⟩:=h7;obtain ⟨z,hz,h8⟩:=fo k5;exact ⟨e,i,z,rfl,h6,Nat.eq_of_beq_eq_true k1,Nat.le_of_ble_eq_true k2,Nat.eq_of_beq_eq_true k3,Nat.le_of_ble_eq_true k4,hz,uf q _ h8⟩
   |_=>cases g4
  ·rw [hk] at h3;exact h3
 have look:∀ {α:Type} {t:Nat} {g:Rec→Option α} {x:α},(match tr.find t with | some r=>g r | none=>none)=some x→∃r,tr.find t=some r∧g r=some x:=by
  intro α t g x hx
  cases hf:tr.find t with
  |none=>rw [hf] at hx;cases hx
  |some r=>rw [hf] at hx;exact ⟨r,rfl,hx⟩
 have abH:∀ {t:Nat} {g:Rec→Bool},(match tr.find t with | some r=>g r | none=>false)=true→∃r,tr.find t=some r∧g r=true:=by
  intro t g hx
  cases hf:tr.find t with
  |none=>rw [hf] at hx;cases hx
  |some r=>rw [hf] at hx;exact ⟨r,rfl,hx⟩
 exact {
  cells:=fun t n ht=>by
   obtain ⟨r,hf,rfl⟩:=Option.map_eq_some_iff.1 ht;obtain ⟨⟨i,hi,hs,_⟩,_⟩:=base hf;rw [hi];simp [hs]
  agg:=fun t n ht=>by
   obtain ⟨r,hf,rfl⟩:=Option.map_eq_some_iff.1 ht;obtain ⟨_,⟨d,hd,h1,h2,_⟩,_⟩:=base hf;have e:(n7 tr).agg t=r.agg:=by show (match tr.find t with | some r=>r.agg | none=>false)=_;rw [hf]
   exact ⟨d,hd,h1.trans e.symm,fun h=>h2 (e▸h)⟩
  off:=fun t f k ht=>by
   obtain ⟨r,hf,hk⟩:=look ht;obtain ⟨p,hp,rfl⟩:=Option.map_eq_some_iff.1 hk;obtain ⟨_,⟨d,hd,_,_,h3,_⟩,_⟩:=base hf;rw [fX] at hp;obtain ⟨fs,rfl,hfs⟩:=h3 (.inl (by intro e;rw [e] at hp;simp at hp));obtain ⟨FR,n,g1,g2,g3⟩:=(zl fs.toList r.bW hfs).2 f p hp;exact ⟨fs,FR,n,hd,by simpa using g1,g2,g3⟩
  bld:=fun t ht=>by
   obtain ⟨r,hf,LR⟩:=abH (g:=fun r=>r.agg) ht;obtain ⟨_,⟨d,hd,_,_,h3,_⟩,_⟩:=base hf;obtain ⟨fs,rfl,hfs⟩:=h3 (.inr LR);refine ⟨fs,r.bW,hd,(zl fs.toList r.bW hfs).1,fun f o s ho hs => ?_⟩;have ho:(match tr.find t with | some r=>(nth r.bW f).map (·.1) | none=>none)=some o:=ho;have hs:(match tr.find t with | some r=>(nth r.bW f).map (·.2) | none=>none)=some s:=hs;rw [hf] at ho hs;obtain ⟨p,hp,rfl⟩:=Option.map_eq_some_iff.1 ho;obtain ⟨p',m6,rfl⟩:=Option.map_eq_some_iff.1 hs;rw [hp] at m6;injection m6 with e;subst e;rw [fX] at hp;exact hp
  row:=fun t q ht=>by
   obtain ⟨r,hf,hk⟩:=look (g:=fun r=>r.row) ht;obtain ⟨⟨i,hi,_,h1⟩,_⟩:=base hf;obtain ⟨z,hz,H5⟩:=h1 q hk;exact ⟨i,z,hi,hz,H5⟩
  elem:=fun t q b ht=>by
   obtain ⟨r,hf,hk⟩:=look (g:=fun r=>r.elem) ht;obtain ⟨_,⟨d,hd,_,_,_,h4⟩,_⟩:=base hf;obtain ⟨e,i,z,rfl,h5⟩:=h4 q b hk;exact ⟨e,i,z,hd,h5⟩
  u8:=fun t e b ht hu=>by
   obtain ⟨r,hf,hk⟩:=look (g:=fun r=>r.elem) ht;have h1:=get hf;unfold Hm at h1;rw [Bool.and_eq_true,Bool.and_eq_true,Bool.and_eq_true] at h1;have h2:=h1.2.2.2;rw [hk] at h2;obtain ⟨d,hd,h3⟩:=fo h2;rw [hu] at hd;injection hd with hd;subst hd;obtain ⟨d2,Vs,h4⟩:=fo h3;rw [Vs]
   cases d2<;>simp at h4
   rw [←h4]
  one:=fun t f ht=>by
   have ht:(match tr.find t with | some r=>r.jf.any (Nat.beq f) | none=>false)=true:=ht
   cases hf:tr.find t with
   |none=>rw [hf] at ht;cases ht
   |some r=>
    rw [hf] at ht;have h2:T1 P t r.jf=true:=(Bool.and_eq_true _ _▸abG hf).2;obtain ⟨g,hg,hb⟩:=List.any_eq_true.1 ht;have hb:=Nat.eq_of_beq_eq_true hb;subst hb;have h3:=List.all_eq_true.1 h2 f hg;obtain ⟨d,hd,h4⟩:=fo h3
    cases d with
    |struct fs=>
     obtain ⟨FR,agY,h5⟩:=fo h4;obtain ⟨e,he,h6⟩:=fo h5;exact ⟨fs,FR,e,hd,agY,he,by simpa using h6⟩
    |_=>cases h4
  kind:=fun t y ht=>by
   obtain ⟨r,hf,hk⟩:=look (g:=fun r=>r.kind) ht;have h1:=(base hf).2.2 y hk
   cases y with
   |int k=>
    obtain ⟨d,hd,h2⟩:=fo h1;refine ⟨d,hd,?_⟩
    cases d<;>simp at h2
    rw [h2];rfl
   |bool=>
    obtain ⟨d,hd,h2⟩:=fo h1;refine ⟨d,hd,?_⟩
    cases d<;>simp at h2
    rfl
   |str=>
    obtain ⟨d,hd,h2⟩:=fo h1;refine ⟨d,hd,?_⟩
    cases d<;>simp at h2
    rfl
   |sl _=>cases h1 }
end Go.TM
namespace Go.TM
open Go Go.RowKit
def ef:Code→List (Nat×Code)
 |.seq a b=>ef a++ef b
 |.cond _ a b=>ef a++ef b
 |.block id (.loop b)=>[(id,b)]
 |.block _ a=>ef a
 |_=>[]
theorem uZ {ok:Nat→Code→Prop}:(c:Code)→(∀p∈ef c,ok p.1 p.2)→eN ok c:=by
 intro c
 induction c with
 |seq a b Vt Vu=>
  intro h;unfold ef at h;exact ⟨Vt fun p hp=>h p (List.mem_append_left _ hp),Vu fun p hp=>h p (List.mem_append_right _ hp)⟩
 |cond x a b Vt Vu=>
  intro h;unfold ef at h;exact ⟨Vt fun p hp=>h p (List.mem_append_left _ hp),Vu fun p hp=>h p (List.mem_append_right _ hp)⟩
 |block id a ih=>
  intro h
  by_cases hb:∃b',a=.loop b'
  ·obtain ⟨b',rfl⟩:=hb;exact h (id,b') (by unfold ef;exact List.mem_cons_self)
  ·cases a with
   |loop b'=>exact absurd ⟨b',rfl⟩ hb
   |_=>unfold ef at h;unfold eN;exact ih h
 |_=>intro _;unfold eN;trivial
def AX (c:Code) (i:Nat):Code:=match nth (ef c) i with | some p=>p.2 | none=>.skip
def jn (D:mN):Code→Bool
 |.region id ops true=>Eb ops (D id)
 |.seq a b=>jn D a&&jn D b
 |.cond _ a b=>jn D a&&jn D b
 |.block _ (.loop _)=>true
 |.block _ a=>jn D a
 |_=>true
theorem xm {D:mN}:(c:Code)→jn D c=true→fk (fun id ops=>Eb ops (D id)=true) c:=by
 intro c
 induction c with
 |region id ops dr=>
  intro h
  cases dr with
  |true=>exact h
  |false=>unfold fk;trivial
 |seq a b Vt Vu=>
  intro h;unfold jn at h;rw [Bool.and_eq_true] at h;exact ⟨Vt h.1,Vu h.2⟩
 |cond x a b Vt Vu=>
  intro h;unfold jn at h;rw [Bool.and_eq_true] at h;exact ⟨Vt h.1,Vu h.2⟩
 |block id a ih=>
  intro h
  by_cases hb:∃b',a=.loop b'
  ·obtain ⟨b',rfl⟩:=hb;unfold fk;trivial
  ·cases a with
   |loop b'=>exact absurd ⟨b',rfl⟩ hb
   |_=>unfold jn at h;unfold fk;exact ih h
 |_=>intro _;unfold fk;trivial
def Src.same:Src→Src→Bool
 |.tmp a,.tmp b=>Nat.beq a b
 |.cell a,.cell b=>Nat.beq a b
 |.ptr a,.ptr b=>Nat.beq a b
 |_,_=>false
theorem Src.AY:{a b:Src}→a.same b=true→a=b
 |.tmp _,.tmp _,h=>congrArg Src.tmp (Nat.eq_of_beq_eq_true h)
 |.cell _,.cell _,h=>congrArg Src.cell (Nat.eq_of_beq_eq_true h)
 |.ptr _,.ptr _,h=>congrArg Src.ptr (Nat.eq_of_beq_eq_true h)
 |.tmp _,.cell _,h=>by cases h
 |.tmp _,.ptr _,h=>by cases h
 |.cell _,.tmp _,h=>by cases h
 |.cell _,.ptr _,h=>by cases h
 |.ptr _,.tmp _,h=>by cases h
 |.ptr _,.cell _,h=>by cases h
def IU (T:kG):List ResultVar→List RP→Bool
 | [],[]=>true
 |.tmp t::vs,r::rs=>(r.src.same (.tmp t)||r.src.same (.ptr t))&&IU T vs rs
 |.cell t ty::vs,r::rs=>r.src.same (.cell t)&&((match T.cells ty with | some n=>Nat.beq n r.ps.length | none=>false)&&((T.agg ty==r.agg)&&IU T vs rs))
 |_,_=>false
theorem Dm {T:kG} (tm:Array Value):(vs:List ResultVar)→(rs:List RP)→IU T vs rs=true→zj T tm vs rs
 | [],[],_=>trivial
 | [],_::_,h=>by simp [IU] at h
 |v::_,[],h=>by cases v<;>simp [IU] at h
 |.tmp t::vs,r::rs,h=>by
  unfold IU at h;rw [Bool.and_eq_true,Bool.or_eq_true] at h;exact ⟨h.1.imp Src.AY Src.AY,Dm tm vs rs h.2⟩
 |.cell t ty::vs,r::rs,h=>by
  unfold IU at h;rw [Bool.and_eq_true,Bool.and_eq_true,Bool.and_eq_true] at h;obtain ⟨h1,h2,h3,h4⟩:=h;refine ⟨⟨Src.AY h1,?_,by simpa using h3⟩,Dm tm vs rs h4⟩
  cases hc:T.cells ty with
  |none=>rw [hc] at h2;cases h2
  |some n=>rw [hc] at h2;rw [Nat.eq_of_beq_eq_true h2]
abbrev Vv:=List (Nat×(Pm×Pm×Pm×wO))
def zm:Vv→kO
 | [],_=>none
 |(g,s)::l,f=>bif Nat.beq f g then some s else zm l f
structure rL (P:Program) (f:FuncId) (Cp:wO):Prop where
 ok:FnOk P f Cp
 fn:∃fn,P.funcs[f]?=some fn∧(fn.name == "runtime.NumGoroutine")=false∧fn.body.isNone=false
theorem Qj {P:Program}:og P (zm []):=fun f a b c Cp h=>by cases h
theorem Nh {P:Program} {g:Nat} {a b c:Pm} {Cp:wO} {l:Vv} (hk:rL P g Cp) (hl:og P (zm l)):og P (zm ((g,(a,b,c,Cp))::l)):=by
 intro f a' b' c' agZ h;unfold zm at h
 cases hb:Nat.beq f g with
 |true=>
  rw [hb] at h;injection h with h;injection h with _ h;injection h with _ h;injection h with _ h;subst h;rw [Nat.eq_of_beq_eq_true hb];exact ⟨hk.ok,hk.fn⟩
 |false=>rw [hb] at h;exact hl f a' b' c' agZ h
def ZW (T:kG) (D:mN) (fn:Func) (code:Code) (n:Nat) (ps:List AP) (rs:List RP):Bool:=
 Nat.beq fn.ntmps n&&(Nat.ble ps.length n&&(jb n code&&(IU T fn.results.toList rs&&jn D code)))
theorem Sn {P:Program} {tr:Tr} (hT:tr.all (AW P)=true) (hE:ze P (n7 tr)) (hm:P.follows .mixedOrders=true) {S:kO} (hS:og P S) {D:mN} {f:FuncId} {fn:Func} {code:Code} {n:Nat} {ps:List AP} {rs:List RP}
  {L:qu (aA (dn rs (cj ps)))} {t:aA (aN (ps.map some))→Option (aA (dn rs (cj ps)))}
  (hf:P.funcs[f]?=some fn) (hb:fn.body=some code) (tn:ZW (n7 tr) D fn code n ps rs=true) (Qk:(fn.name == "runtime.NumGoroutine")=false)
  (hL:∀(w0:World) (mu:Mu) (y:aA (dn rs (cj ps))),mz ps mu→∀p∈ef code,od P w0 mu n L y p.1 p.2)
  (Qf:∀x,fc (n7 tr) S D L code (start n ps x) (Fq rs ps)=t x):rL P f (nj ps rs t):=by
 unfold ZW at tn;rw [Bool.and_eq_true,Bool.and_eq_true,Bool.and_eq_true,Bool.and_eq_true] at tn;obtain ⟨h1,h2,h3,h4,h5⟩:=tn;refine ⟨abA (tv hT) hE hS hf hb (Nat.eq_of_beq_eq_true h1) (Nat.le_of_ble_eq_true h2) h3 (fun tm=>Dm tm _ _ h4) (fun w0 mu y hs=>uZ code (hL w0 mu y hs))
  (fun w0 mu=>BQ (tv hT) hE hm (AM (tv hT) hE hS w0 mu n)) (xm code h5) Qf,fn,hf,Qk,by rw [hb];rfl⟩
def Gr (D:mN) (ps:List AP) (hp e0 e1:List (Option AP)) (n:Nat) (b:Code):Bool:=
 (gY ps hp&&(gY ps e0&&gY ps e1))&&(jb n b&&jn D b)
theorem Ni {R:Type} {P:Program} {tr:Tr} (hT:tr.all (AW P)=true) (hE:ze P (n7 tr)) (hm:P.follows .mixedOrders=true) {S:kO} (hS:og P S) {D:mN} {n id:Nat} {w0:World} {mu:Mu} {ps:List AP} {hp e0 e1:List (Option AP)} {b:Code} {r:R} {L:qu R}
  {L':qu (Sum (aA (aN hp)) (Sum (aA (aN e0)) (aA (aN e1))))} {round:aA (aN hp)→Option (Sum (aA (aN hp)) (Sum (aA (aN e0)) (aA (aN e1))))}
  (hs:mz ps mu) (tn:Gr D ps hp e0 e1 n b=true)
  (Db:∀z,∀p∈ef b,od P w0 mu n L' z p.1 p.2) (Kg:∀x,fc (n7 tr) S D L' b (pV hp x) (BO id hp e0 e1)=round x) (hL:∀st k,L id b st k=BP hp e0 e1 round st k):od P w0 mu n L r id b:=by
 unfold Gr at tn;rw [Bool.and_eq_true,Bool.and_eq_true (jb n b)] at tn;exact Sk (AM (tv hT) hE hS w0 mu n) (BQ (tv hT) hE hm (AM (tv hT) hE hS w0 mu n)) hs tn.1 tn.2.1 (xm b tn.2.2) (fun z=>uZ b (Db z)) Kg hL
def bN {A B C:Type} (o:Option (Sum A B)) (f:A→Option C) (g:B→Option C):Option C:=
 o.bind fun z=>match z with
  |.inl y=>f y
  |.inr y=>g y
end Go.TM
namespace Go.TM
open Go Go.RowKit Go.ChangeShapes
def RT.app:RT→RT→RT
 |.nil,s=>s
 |.cons t r,s=>.cons t (r.app s)
def Sp:(r s:RT)→aA r→aA s→aA (r.app s)
 |.nil,_,_,y=>y
 |.cons _ r,s,x,y=>(x.1,Sp r s x.2 y)
mutual
def AZ:(t:Ty)→den t→Prop
 |.int k,n=>(Lit.int k n).wf=true
 |.bool,_=>True
 |.str,s=>ByteArray.size s≤maxLen
 |.sl r,xs=>(Ly xs).length≤maxLen∧∀x∈Ly xs,Af r x
def Af:(r:RT)→aA r→Prop
 |.nil,_=>True
 |.cons t r,x=>AZ t x.1∧Af r x.2
end
theorem Ed (x:aA .nil):Af .nil x:=Af.eq_1 x▸trivial
theorem ai {t:Ty} {r:RT} {x:aA (.cons t r)}:Af (.cons t r) x↔AZ t x.1∧Af r x.2:=Af.eq_2 t r x▸Iff.rfl
theorem T2 {k:IntKind} {n:Int}:AZ (.int k) n↔(Lit.int k n).wf=true:=AZ.eq_1 k n▸Iff.rfl
theorem Vw {b:Bool}:AZ .bool b:=AZ.eq_2 b▸trivial
theorem T3 {s:ByteArray}:AZ .str s↔ByteArray.size s≤maxLen:=AZ.eq_3 s▸Iff.rfl
theorem Sq {r:RT} {xs:List (aA r)}:AZ (.sl r) xs↔(xs.length≤maxLen∧∀x∈xs,Af r x):=AZ.eq_4 r xs▸Iff.rfl
theorem RT.BR:(r s:RT)→(r.app s).width=r.width+s.width
 |.nil,s=>by simp [RT.app,RT.width]
 |.cons t r,s=>by simp [RT.app,RT.width,RT.BR r s];omega
theorem cF.cat {w:World} {ok:Nat→Prop}:(r s:RT)→(l m:List Value)→(x:aA r)→(y:aA s)→cF w ok r l x→cF w ok s m y→cF w ok (r.app s) (l++m) (Sp r s x y)
 |.nil,s,l,m,x,y,h,h'=>by
  have:l=[]:=h;subst this;exact h'
 |.cons t r,s,l,m,x,y,h,h'=>by
  obtain ⟨v,l',rfl,h1,h2⟩:=h;exact ⟨v,l'++m,rfl,h1,cF.cat r s l' m x.2 y h2 h'⟩
theorem Af.cat:(r s:RT)→(x:aA r)→(y:aA s)→Af r x→Af s y→Af (r.app s) (Sp r s x y)
 |.nil,_,_,_,_,h'=>h'
 |.cons t r,s,x,y,h,h'=>by
  exact ai.2 ⟨(ai.1 h).1,Af.cat r s x.2 y (ai.1 h).2 h'⟩
def Ee (P:Program) (row:TypeId→Option RT):Nat→List Field→Option RT
 |_,[]=>some .nil
 |off,f::fs=>match row f.type with
  |some q=>(match Ee P row (off+q.width) fs with
   |some r=>bif Nat.beq f.offset off&&Nat.beq (P.cellsOf f.type) q.width then some (q.app r) else none
   |none=>none)
  |none=>none
def Ef (P:Program):Nat→TypeId→Option RT
 |0,_=>none
 |n+1,t=>match P.underlying t with
  |some .bool=>some (.cons .bool .nil)
  |some (.int k)=>some (.cons (.int k) .nil)
  |some .string=>some (.cons .str .nil)
  |some (.slice e)=>(match Ef P n e with
   |some q=>bif Nat.beq (P.cellsOf e) q.width&&Nat.blt 0 q.width then some (.cons (.sl q) .nil) else none
   |none=>none)
  |some (.struct fs)=>(match Ee P (Ef P n) 0 fs.toList with
   |some r=>bif Nat.beq (P.cellsOf t) r.width then some r else none
   |none=>none)
  |_=>none
theorem LZ {α:Type} {Pr:Nat→α→Prop}:(n:Nat)→(∀i,i<n→∃x,Pr i x)→∃xs:List α,xs.length=n∧∀(i:Nat) x,xs[i]?=some x→Pr i x
 |0,_=>⟨[],rfl,fun i x h=>by simp at h⟩
 |n+1,h=>by
  obtain ⟨xs,h1,h2⟩:=LZ n (fun i hi=>h i (by omega));obtain ⟨x,hx⟩:=h n (by omega);refine ⟨xs++[x],by simp [h1],fun i y hy => ?_⟩
  by_cases hi:i<n
  ·rw [List.getElem?_append_left (by omega)] at hy;exact h2 i y hy
  ·rw [List.getElem?_append_right (by omega)] at hy;have Db:i=n:=by
    have:=(List.getElem?_eq_some_iff.1 hy).1;simp at this;omega
   subst Db;rw [h1,Nat.sub_self] at hy;simp at hy;rw [←hy];exact hx
theorem Gs {w:World} {a:Addr} {v:Value} (h:w.cell? a=some v):a.spot=none:=by
 unfold World.cell? at h
 split at h
 ·split at h
  ·cases h
  ·rename_i hs;simpa using hs
 ·cases h
theorem IV {α β:Type} {f:α→Option β}:(l:List α)→{m:List β}→l.mapM f=some m→m.length=l.length∧∀(i:Nat) a,l[i]?=some a→f a=m[i]?
 | [],m,h=>by
  simp at h;subst h;exact ⟨rfl,fun i a ha=>by simp at ha⟩
 |a::l,m,h=>by
  rw [List.mapM_cons] at h
  cases ha:f a with
  |none=>simp [ha] at h
  |some b=>
   cases hl:l.mapM f with
   |none=>simp [ha,hl] at h
   |some m'=>
    simp [ha,hl] at h;subst h;obtain ⟨h1,h2⟩:=IV l hl;refine ⟨by simp [h1],fun i x hx => ?_⟩
    cases i with
    |zero=>simp at hx;subst hx;simpa using ha
    |succ i=>simpa using h2 i x (by simpa using hx)
theorem CM {w:World} {base n:Nat} {a:Addr} {vs:List Value} (h:w.cells? base a n=some vs):vs.length=n∧w.rangeAt a.block a.off vs∧(0<n→a.spot=none):=by
 unfold World.cells? at h
 split at h
 ·obtain ⟨h1,h2⟩:=IV _ h;simp at h1;have each:∀j v,vs[j]?=some v→w.cell? (a.add j)=some v:=by
   intro j v hv;have hj:j<n:=by
    have:=(List.getElem?_eq_some_iff.1 hv).1;omega
   rw [h2 j j (by simp [hj]),hv]
  refine ⟨h1,fun j v hv => ?_,fun hn => ?_⟩
  ·have:=each j v hv;have hs:=Gs this;have e:a.add j=⟨a.block,a.off+j,none⟩:=by
    unfold Addr.add at hs ⊢
    split
    ·rename_i h0;subst h0;rw [if_pos rfl] at hs;obtain ⟨b,o,s⟩:=a;simp at hs;subst hs;rfl
    ·rfl
   rw [←e];exact this
  ·have cA:0<vs.length:=by omega
   have:=each 0 vs[0] (by simp [cA]);have hs:=Gs this;simpa [Addr.add] using hs
 ·cases h
theorem Gt {P:Program} {w:World} {cs:List Value} {row:TypeId→Option RT}:(fs:List Field)→(off:Nat)→(r:RT)→Ee P row off fs=some r→
  (∀f∈fs,∀q,row f.type=some q→∃x:aA q,cF w (fun _=>True) q ((cs.drop f.offset).take (P.cellsOf f.type)) x∧Af q x)→off+r.width≤cs.length→
  ∃x:aA r,cF w (fun _=>True) r ((cs.drop off).take r.width) x∧Af r x
 | [],off,r,h,_,_=>by
  simp only [Ee,Option.some.injEq] at h;subst h;exact ⟨(),by simp [RT.width,cF],Ed _⟩
 |f::fs,off,r,h,hf,hl=>by
  unfold Ee at h
  cases hq:row f.type with
  |none=>simp [hq] at h
  |some q=>
   simp only [hq] at h
   cases hr:Ee P row (off+q.width) fs with
   |none=>simp [hr] at h
   |some r'=>
    simp only [hr] at h;obtain ⟨h1,h2⟩:=aK h;injection h2 with h2;subst h2;rw [Bool.and_eq_true] at h1;have ho:=Nat.eq_of_beq_eq_true h1.1;have hc:=Nat.eq_of_beq_eq_true h1.2;rw [RT.BR] at hl;obtain ⟨x,JY,DL⟩:=hf f List.mem_cons_self q hq;obtain ⟨y,hy1,hy2⟩:=Gt fs (off+q.width) r' hr (fun g hg=>hf g (List.mem_cons_of_mem _ hg)) (by omega);refine ⟨Sp q r' x y,?_,Af.cat q r' x y DL hy2⟩;rw [RT.BR,List.take_add,List.drop_drop];rw [ho,hc] at JY;exact cF.cat q r' _ _ x y JY hy1
theorem Hn {H:Type} {enc:TypeId×Value→H} {P:Program} {w:World} {base:Nat} {spare:Nat→Bool} {held:Bool}:(n:Nat)→∀ {t:TypeId} {r:RT} {fuel:Nat} {cs:List Value} {y:DataW H×List MemPlace},Ef P n t=some r→
  DataW.trod enc P w base spare held fuel t cs=some y→∃x:aA r,cF w (fun _=>True) r cs x∧Af r x
 |0,_,_,_,_,_,h,_=>by cases h
 |n+1,t,r,fuel,cs,y,h,hd=>by
  unfold Ef at h
  cases hu:P.underlying t with
  |none=>simp [hu] at h
  |some d=>
   cases d with
   |bool=>
    simp only [hu,Option.some.injEq] at h;subst h;obtain ⟨b,rfl,_⟩:=DataW.trod_bool hu hd;exact ⟨((b:Bool),()),⟨_,_,rfl,sJ.2 rfl,rfl⟩,ai.2 ⟨Vw,Ed _⟩⟩
   |int k=>
    simp only [hu,Option.some.injEq] at h;subst h;obtain ⟨m,rfl,_,hw⟩:=DataW.trod_int hu hd;exact ⟨((m:Int),()),⟨_,_,rfl,ri.2 rfl,rfl⟩,ai.2 ⟨T2.2 hw,Ed _⟩⟩
   |string=>
    simp only [hu,Option.some.injEq] at h;subst h;obtain ⟨s,rfl,_,hw⟩:=DataW.trod_string hu hd;exact ⟨((s:ByteArray),()),⟨_,_,rfl,wU.2 rfl,rfl⟩,ai.2 ⟨T3.2 hw,Ed _⟩⟩
   |slice e=>
    simp only [hu] at h
    cases hq:Ef P n e with
    |none=>simp [hq] at h
    |some q=>
     simp only [hq] at h;obtain ⟨h1,h2⟩:=aK h;injection h2 with h2;subst h2;rw [Bool.and_eq_true] at h1;have hw:=Nat.eq_of_beq_eq_true h1.1;have PU:0<q.width:=Nat.le_of_ble_eq_true h1.2;rcases DataW.trod_slice hu hd with ⟨rfl,_⟩ | ⟨a,len,cap,elems,rest,m,_,rfl,_,hb,hl,hm,hlen,Kk,_,_⟩
     ·exact ⟨(([]:List (aA q)),()),⟨_,_,rfl,(nh _ _ _ _ _).2 (.inl ⟨rfl,rfl⟩),rfl⟩,ai.2 ⟨Sq.2 ⟨Nat.zero_le _,fun x hx=>by cases hx⟩,Ed _⟩⟩
     ·have each:∀i,i<len→∃x:aA q,(cE w (fun _=>True) q a.block (a.off+i*q.width) x∧Af q x)∧a.spot=none∧a.block<w.heap.size:=by
       intro i hi;have h3:=Kk i hi;rw [List.getElem?_eq_getElem (by omega),Option.bind_eq_some_iff] at h3;obtain ⟨vs,wX,hy⟩:=h3;obtain ⟨x,hx,hs⟩:=Hn n hq hy;obtain ⟨g1,g2,g3⟩:=CM wX;have ZS:(a.add (i*P.cellsOf e)).block=a.block:=by unfold Addr.add;split<;>rfl
       have hof:(a.add (i*P.cellsOf e)).off=a.off+i*q.width:=by
        unfold Addr.add;rw [hw]
        split
        ·rename_i h0;rw [h0];rfl
        ·rfl
       rw [ZS,hof] at g2;refine ⟨x,⟨(j8 q _ _ x).2 ⟨vs,g2,hx⟩,hs⟩,?_,?_⟩
       ·have h4:=Kk 0 (by omega);rw [List.getElem?_eq_getElem (by omega),Option.bind_eq_some_iff] at h4;obtain ⟨vs0,ag1,_⟩:=h4;have:=(CM ag1).2.2 (by omega);simpa [Addr.add] using this
       ·have cA:0<vs.length:=by omega
        have h5:=LA (g2 0 vs[0] (by simp [cA]));exact h5
      obtain ⟨xs,JY,DL⟩:=LZ len each;refine ⟨((xs:List (aA q)),()),⟨_,_,rfl,(nh _ _ _ _ _).2 (.inr ⟨a,cap,by rw [JY],by rw [JY];exact hl,fun eH => ?_,fun i x hi=>(DL i x hi).1.1⟩),rfl⟩,?_⟩
      ·have cA:0<xs.length:=List.length_pos_iff.2 eH;have:=(DL 0 xs[0] (by simp [cA])).2;exact ⟨this.1,this.2,trivial⟩
      ·refine ai.2 ⟨Sq.2 ⟨by show xs.length≤maxLen;omega,fun x hx => ?_⟩,Ed _⟩;obtain ⟨i,hi⟩:=List.getElem?_of_mem hx;exact (DL i x hi).1.2
   |struct fs=>
    simp only [hu] at h
    cases hq:Ee P (Ef P n) 0 fs.toList with
    |none=>simp [hq] at h
    |some q=>
     simp only [hq] at h;obtain ⟨h1,h2⟩:=aK h;injection h2 with h2;subst h2;have hw:=Nat.eq_of_beq_eq_true h1;obtain ⟨xs,m,_,_,hlen,TU,Kk⟩:=DataW.trod_struct hu hd;obtain ⟨x,g1,g2⟩:=Gt (w:=w) (cs:=cs) fs.toList 0 q hq (fun f hf p hp=>by
      obtain ⟨i,hi⟩:=List.getElem?_of_mem hf;rw [Array.getElem?_toList] at hi;have h3:=Kk i f hi;have cA:i<fs.size:=(Array.getElem?_eq_some_iff.1 hi).1;rw [List.getElem?_eq_getElem (by omega)] at h3;exact Hn n hp h3) (by omega)
     refine ⟨x,?_,g2⟩;have:(cs.drop 0).take q.width=cs:=by rw [List.drop_zero,List.take_of_length_le (by omega)]
     rwa [this] at g1
   |_=>simp [hu] at h
end Go.TM
namespace Go.TM
open Go Go.RowKit Go.ChangeShapes
mutual
theorem Ty.xn:(t:Ty)→Ty.eq? t t=some ⟨rfl⟩
 |.int k=>by simp [Ty.eq?]
 |.bool=>rfl
 |.str=>rfl
 |.sl r=>by simp [Ty.eq?,RT.xn r]
theorem RT.xn:(r:RT)→RT.eq? r r=some ⟨rfl⟩
 |.nil=>rfl
 |.cons t r=>by simp [RT.eq?,Ty.xn t,RT.xn r]
end
theorem Kl (r:RT) (xs:List (aA r)):bH r xs=some xs:=by
 unfold bH;rw [RT.xn]
theorem sS {p:OP} {ps:List OP} {t:RT} {o:OV} {os:List OV} {y:aA t} {x:den p.ty} {z:aA (mb ps t)} (h1:rJ p o=some x) (h2:dE ps t os y=some z):dE (p::ps) t (o::os) y=some ((x,z):aA (mb (p::ps) t)):=by
 unfold dE;rw [h1,h2];rfl
theorem Nj {k:IntKind} {n:Int}:rJ (.int k) (.int k n)=some n:=if_pos rfl
def nk:RT→List OP
 |.nil=>[]
 |.cons (.int k) r=>.int k::nk r
 |.cons .bool r=>.bool::nk r
 |.cons .str r=>.str::nk r
 |.cons (.sl q) r=>.shr q::nk r
def Cz.free:Cz:={ bx:=fun _=>0,lc:=fun _ _=>.nil,own:=fun _=>none }
theorem IX {w:World} {f:Nat→Lb}:(r:RT)→(t:RT)→(j:Nat)→(vs:List Value)→(x:aA r)→(y:aA t)→cF w (fun _=>True) r vs x→Af r x→
  ∃z:aA (mb (nk r) t),bF Cz.free w f j (dM (nk r) t z).1 vs∧dE (nk r) t (dM (nk r) t z).1 y=some z∧(Af t y→Af (mb (nk r) t) z)
 |.nil,t,j,vs,x,y,h,_=>by
  have:vs=[]:=h;subst this;exact ⟨y,rfl,rfl,id⟩
 |.cons ty r,t,j,vs,x,y,h,hs=>by
  obtain ⟨v,l,rfl,h1,h2⟩:=h;obtain ⟨s1,s2⟩:=ai.1 hs;obtain ⟨z,g1,g2,g3⟩:=IX (f:=f) r t (j+1) l x.2 y h2 s2
  cases ty with
  |int k=>
   refine ⟨(x.1,z),⟨l,by rw [ri.1 h1],g1⟩,?_,fun hy=>ai.2 ⟨s1,g3 hy⟩⟩;exact sS (p:=.int k) (o:=.int k x.1) (Nj) g2
  |bool=>
   refine ⟨(x.1,z),⟨l,by rw [sJ.1 h1],g1⟩,?_,fun hy=>ai.2 ⟨s1,g3 hy⟩⟩;exact sS (p:=.bool) (o:=.bool x.1) (rfl) g2
  |str=>
   refine ⟨(x.1,z),⟨l,by rw [wU.1 h1],g1⟩,?_,fun hy=>ai.2 ⟨s1,g3 hy⟩⟩;exact sS (p:=.str) (o:=.str x.1) (rfl) g2
  |sl q=>
   refine ⟨(x.1,z),⟨v,l,rfl,bY.stays ⟨Nat.le_refl _,fun _ _ _=>rfl,fun _ _ _=>rfl⟩ _ _ _ h1,g1⟩,?_,fun hy=>ai.2 ⟨s1,g3 hy⟩⟩;exact sS (p:=.shr q) (o:=.shr q x.1) (Kl q x.1) g2
def OP.same:OP→OP→Bool
 |.int k,.int l=>decide (k=l)
 |.bool,.bool=>true
 |.str,.str=>true
 |.shr r,.shr s=>(RT.eq? r s).isSome
 |_,_=>false
theorem OP.AY {p q:OP} (h:p.same q=true):p=q:=by
 cases p<;>cases q<;>simp [OP.same] at h
 ·rw [h]
 ·rfl
 ·rfl
 ·rename_i r s;obtain ⟨⟨e⟩,_⟩:=Option.isSome_iff_exists.1 h;rw [e]
def x7:List OP→List OP→Bool
 | [],[]=>true
 |p::l,q::m=>p.same q&&x7 l m
 |_,_=>false
theorem Eg:(l m:List OP)→x7 l m=true→l=m
 | [],[],_=>rfl
 |p::l,q::m,h=>by
  unfold x7 at h;rw [Bool.and_eq_true] at h;rw [OP.AY h.1,Eg l m h.2]
 | [],_::_,h=>by simp [x7] at h
 |_::_,[],h=>by simp [x7] at h
def JF (P:Program):List TypeId→List AP→Bool
 | [],[]=>true
 |t::ts,.val agg os::ps=>(match Ef P 30 t with
   |some r=>x7 (nk r) os
   |none=>false)&&((match P.underlying t with | some (.struct _)=>agg | _ => !agg)&&(P.readableRec t&&(Nat.blt t P.types.size&&JF P ts ps)))
 |_,_=>false
theorem one_cell {P:Program} {w:World} {r:Reach} {b:Nat} {t:TypeId} {v:Value} {rt:RT} (hn:Ef P 30 t=some rt) (hs:∀fs,P.underlying t≠some (.struct fs)) (h:Value.okWide P w r b t v):v.cells.toList=[v]:=by
 cases hu:P.underlying t with
 |none=>simp [Ef,hu] at hn
 |some d=>
  cases v<;>try rfl
  rename_i cs
  exfalso
  cases d<;>first | exact hs _ hu | (simp [Ef,hu] at hn;done) | (simp [Value.okWide,hu,Cell.okWide,Cell.ok] at h)
theorem Gu {H:Type} {enc:TypeId×Value→H} {P:Program} {w:World} {lc:Nat→Nat→Loc}:(ts:List TypeId)→(ps:List AP)→JF P ts ps=true→(i:Nat)→(vs:List Value)→(ds:List (DataW H))→(p:List MemPlace)→
  (∀(j:Nat) t v,ts[j]?=some t→vs[j]?=some v→∃b,Value.okWide P w .any b t v)→DataW.TrodAll enc P w 0 (fun _=>true) true ts vs ds p→
  ∃(x:aA (aN (ps.map some))) (dX:List AV),fm ps dX=some x∧zg Cz.free w lc i dX vs∧Af (aN (ps.map some)) x
 | [],[],_,i,vs,ds,p,_,hA=>by
  obtain ⟨rfl,_,_⟩:=trodAll_nil hA;exact ⟨(),[],rfl,rfl,Ed _⟩
 | [],_::_,hb,_,_,_,_,_,_=>by simp [JF] at hb
 |t::ts,[],hb,_,_,_,_,_,_=>by simp [JF] at hb
 |t::ts,.io _ _::_,hb,_,_,_,_,_,_=>by simp [JF] at hb
 |t::ts,.box _ _::_,hb,_,_,_,_,_,_=>by simp [JF] at hb
 |t::ts,.bR _::_,hb,_,_,_,_,_,_=>by simp [JF] at hb
 |t::ts,.val agg os::ps,hb,i,vs,ds,p,pU,hA=>by
  obtain ⟨v,vs',d,ds',p',q',rfl,rfl,rfl,h1,h2⟩:=trodAll_cons hA;unfold JF at hb;rw [Bool.and_eq_true,Bool.and_eq_true,Bool.and_eq_true,Bool.and_eq_true] at hb;obtain ⟨b1,b2,_,_,b5⟩:=hb;obtain ⟨y,dX,g1,g2,g3⟩:=Gu (lc:=lc) ts ps b5 (i+1) vs' ds' q' (fun j t v ht hv=>pU (j+1) t v (by simpa using ht) (by simpa using hv)) h2;obtain ⟨b0,fZ⟩:=pU 0 t v rfl rfl
  cases hr:Ef P 30 t with
  |none=>rw [hr] at b1;cases b1
  |some r=>
   rw [hr] at b1;have ru:=Eg _ _ b1;subst ru;obtain ⟨fuel,hd⟩:=h1;obtain ⟨x,JY,DL⟩:=Hn 30 hr hd;obtain ⟨z,k1,k2,k3⟩:=IX (f:=.cf i) r (aN (ps.map some)) 0 v.cells.toList x y JY DL
   cases agg with
   |false=>
    have hs:∀fs,P.underlying t≠some (.struct fs):=by
     intro fs e;rw [e] at b2
     cases b2
    rw [one_cell hr hs fZ] at k1;refine ⟨z,.val false (dM (nk r) (aN (ps.map some)) z).1::dX,?_,⟨v,vs',rfl,k1,g2⟩,k3 g3⟩;show (match fm ps dX with | some y=>Gi (.val false (nk r)) (aN (ps.map some)) (.val false _) y | none=>none)=_;rw [g1];exact k2
   |true=>
    obtain ⟨fs,hu⟩:∃fs,P.underlying t=some (.struct fs):=by
     cases hu:P.underlying t with
     |none=>rw [hu] at b2;cases b2
     |some d=>
      rw [hu] at b2
      cases d<;>first | exact ⟨_,rfl⟩ | cases b2
    obtain ⟨cs,rfl,_⟩:∃cs,v=.agg cs∧True:=by
     unfold Value.okWide at fZ;rw [hu] at fZ;obtain ⟨cs,e,_⟩:=fZ;exact ⟨cs,e,trivial⟩
    refine ⟨z,.val true (dM (nk r) (aN (ps.map some)) z).1::dX,?_,⟨.agg cs,vs',rfl,⟨cs,rfl,k1⟩,g2⟩,k3 g3⟩;show (match fm ps dX with | some y=>Gi (.val true (nk r)) (aN (ps.map some)) (.val true _) y | none=>none)=_;rw [g1];exact k2
theorem Gv {H:Type} {enc:TypeId×Value→H} {P:Program} (hl:laidOutB P=true) {W W':World} (hb:Below W.heap.size W W'):(ts:List TypeId)→(ps:List AP)→JF P ts ps=true→(vs:List Value)→(ds:List (DataW H))→(p:List MemPlace)→(∀x∈p,x.block<W.heap.size)→
  DataW.TrodAll enc P W 0 (fun _=>true) true ts vs ds p→DataW.TrodAll enc P W' 0 (fun b=>decide (b<W.heap.size)) true ts vs ds p
 | [],[],_,vs,ds,p,_,hA=>by
  obtain ⟨rfl,rfl,rfl⟩:=trodAll_nil hA;exact trodAll_mk0
 | [],_::_,hb,_,_,_,_,_=>by simp [JF] at hb
 |t::ts,[],hb,_,_,_,_,_=>by simp [JF] at hb
 |t::ts,.io _ _::_,hb,_,_,_,_,_=>by simp [JF] at hb
 |t::ts,.box _ _::_,hb,_,_,_,_,_=>by simp [JF] at hb
 |t::ts,.bR _::_,hb,_,_,_,_,_=>by simp [JF] at hb
 |t::ts,.val agg os::ps,hp,vs,ds,p,cA,hA=>by
  obtain ⟨v,vs',d,ds',p',q',rfl,rfl,rfl,h1,h2⟩:=trodAll_cons hA;unfold JF at hp;rw [Bool.and_eq_true,Bool.and_eq_true,Bool.and_eq_true,Bool.and_eq_true] at hp;obtain ⟨_,_,b3,b4,b5⟩:=hp;exact trodAll_cons_mk (Below.trod hl b3 (Nat.le_of_ble_eq_true b4) h1 hb (fun x hx=>cA x (List.mem_append_left _ hx))) (Gv hl hb ts ps b5 vs' ds' q' (fun x hx=>cA x (List.mem_append_right _ hx)) h2)
theorem Nk {H:Type} {enc:TypeId×Value→H} {P:Program} (hl:laidOutB P=true) {f:FuncId} {ps:List AP} {s:Nat} {t:aA (aN (ps.map some))→Option (aA (dn [{ src:=.tmp s,agg:=false,ps:=[.bool] }] (cj ps)))}
  (hk:rL P f (nj ps [{ src:=.tmp s,agg:=false,ps:=[.bool] }] t)) {ts:List TypeId} (R3:JF P ts ps=true) (ag3:∀x,Af (aN (ps.map some)) x→∃y,t x=some y∧y.1=true)
  {W:World} {base:Nat} {args:Array Value} {ds:List (DataW H)} {p:List MemPlace} (pU:∀(j:Nat) t v,ts[j]?=some t→args[j]?=some v→Value.okWide P W .any base t v)
  (hA:DataW.TrodAll enc P W 0 (fun _=>true) true ts args.toList ds p) (cA:∀x∈p,x.block<W.heap.size) :
  Calls P f args W fun e W'=>e=.returned (.bool true)∧Below W.heap.size W W'∧DataW.TrodAll enc P W' 0 (fun b=>decide (b<W.heap.size)) true ts args.toList ds p:=by
 obtain ⟨x,dX,h1,h2,h3⟩:=Gu (lc:=fun _ _=>.nil) ts ps R3 0 args.toList ds p (fun j t v ht hv=>⟨base,pU j t v ht (by rwa [Array.getElem?_toList] at hv)⟩) hA;obtain ⟨y,hy,hy1⟩:=ag3 x h3
 let μ:Mu:={ m:=fun _=>False,ok:=fun _=>True,an:=[],rs:=fun _=>False }
 have hH:Handed Cz.free W μ:={
  m:=fun b=>⟨fun h=>h.elim,fun ⟨l,h,_⟩=>by cases h⟩
  ok:=fun b=>⟨fun _=>rfl,fun _=>trivial⟩
  lt:=fun b l h=>by cases h
  lb:=fun b l h=>by cases h
  rs:=fun b l h=>by cases h }
 have hs:nj ps [{ src:=.tmp s,agg:=false,ps:=[.bool] }] t dX=some { r:=dn [{ src:=.tmp s,agg:=false,ps:=[.bool] }] (cj ps),o:=t x,res:=fun y=>{ outs:=(iP [{ src:=.tmp s,agg:=false,ps:=[.bool] }] (cj ps) y).1,exts:=om ps (iP [{ src:=.tmp s,agg:=false,ps:=[.bool] }] (cj ps) y).2 } }:=by
  unfold nj;rw [h1]
 refine (hk.ok Cz.free W μ (fun _ _=>.nil) dX args _ y hH h2 hs hy).mono fun e W' ⟨v,he,c',hb,hV,_⟩ => ?_
 have abJ:Below W.heap.size W W':=⟨hb.kept.1,hb.kept.2.1,hb.kept.2.2.1,hb.kept.2.2.2,fun k hk=>hb.old k hk (fun h=>h.elim)⟩;have hv:v=.bool true:=by
  have hV:tX c' W' [.one (.bool y.1)] v:=hV;rcases hV with ⟨r,e1,g⟩ | ⟨g,_⟩
  ·simp only [List.cons.injEq,and_true] at e1;subst e1;obtain ⟨v',l,e2,g2,_⟩:=g;simp only [List.cons.injEq] at e2;obtain ⟨e2,_⟩:=e2;obtain ⟨l',g3,_⟩:=g2;simp only [List.cons.injEq] at g3;rw [e2,g3.1,hy1]
  ·simp at g
 exact ⟨by rw [he,hv],abJ,Gv hl abJ ts ps R3 args.toList ds p cA hA⟩
theorem dk {a:Int} (h1 : -9223372036854775808≤a) (h2:a<9223372036854775808):IntKind.i64.wrap a=a:=by
 rw [IntKind.wrap_i64];omega
theorem wf_i64 {n:Int} (h:(Lit.int .i64 n).wf=true) : -9223372036854775808≤n∧n<9223372036854775808:=by
 simp only [Lit.wf,Bool.and_eq_true,decide_eq_true_eq] at h;have h1:IntKind.i64.min = -9223372036854775808:=rfl;have h2:IntKind.i64.max=9223372036854775807:=rfl;omega
theorem ug {X E:Type} {round:X→Option (Sum X E)} {n:Nat} (st:Nat→X) (g:Nat→Option E) (Ho:∃e,round (st n)=some (.inr e)∧g n=some e)
  (wm:∀k,k<n→(∃e,round (st k)=some (.inr e)∧g k=some e)∨(round (st k)=some (.inl (st (k+1)))∧g k=g (k+1))):∀k,k≤n→aF round (st k)=g k:=by
 have key:∀d k,k+d=n→aF round (st k)=g k:=by
  intro d
  induction d with
  |zero=>
   intro k hk;have:k=n:=by omega
   subst this;obtain ⟨e,h1,h2⟩:=Ho;rw [iG,h1,h2]
  |succ d ih=>
   intro k hk;rcases wm k (by omega) with ⟨e,h1,h2⟩ | ⟨h1,h2⟩
   ·rw [iG,h1,h2]
   ·rw [iG,h1,h2];exact ih (k+1) (by omega)
 intro k hk;exact key (n-k) k (by omega)
theorem bI {X E:Type} {round:X→Option (Sum X E)} (n:Nat) (st:Nat→X) {e:E} (Ho:round (st n)=some (.inr e))
  (wm:∀k,k<n→round (st k)=some (.inl (st (k+1)))):aF round (st 0)=some e:=
 ug st (fun _=>some e) ⟨e,Ho,rfl⟩ (fun k hk=>.inr ⟨wm k hk,rfl⟩) 0 (Nat.zero_le _)
theorem cL {X E:Type} {round:X→Option (Sum X E)} (n:Nat) (I:Nat→X→Prop) (Q:E→Prop) (Ho:∀x,I n x→∃e,round x=some (.inr e)∧Q e)
  (wm:∀k x,k<n→I k x→(∃e,round x=some (.inr e)∧Q e)∨(∃y,round x=some (.inl y)∧I (k+1) y)) {x:X} (h:I 0 x):∃e,aF round x=some e∧Q e:=by
 have key:∀d k x,k+d=n→I k x→∃e,aF round x=some e∧Q e:=by
  intro d
  induction d with
  |zero=>
   intro k x hk hI;have:k=n:=by omega
   subst this;obtain ⟨e,h1,h2⟩:=Ho x hI;exact ⟨e,by rw [iG,h1],h2⟩
  |succ d ih=>
   intro k x hk hI;rcases wm k x (by omega) hI with ⟨e,h1,h2⟩ | ⟨y,h1,h2⟩
   ·exact ⟨e,by rw [iG,h1],h2⟩
   ·obtain ⟨e,h3,h4⟩:=ih (k+1) y (by omega) h2;exact ⟨e,by rw [iG,h1];exact h3,h4⟩
 exact key n 0 x (by omega) h
theorem cW {A B C:Type} {a:A} {f:A→Option C} {g:B→Option C}:bN (some (.inl a)) f g=f a:=rfl
theorem aj {p:Prop} [Decidable p] (h:p):decide p=true:=decide_eq_true h
theorem aq {p:Prop} [Decidable p] (h:¬p):decide p=false:=decide_eq_false h
theorem aC (k:Nat):Int.toNat ((k:Nat):Int)=k:=rfl
theorem cX {a b:Nat} (h:a<b):Nat.blt a b=true:=Nat.ble_eq_true_of_le h
theorem aQ {a b:Nat} (h:a≤b):Nat.ble a b=true:=Nat.ble_eq_true_of_le h
theorem aw (k:Nat):decide ((0:Int)≤((k:Nat):Int))=true:=aj (by omega)
theorem az {k n:Nat} (h:k<n):decide (((k:Nat):Int)<((n:Nat):Int))=true:=aj (by omega)
theorem aD (n:Nat):decide (((n:Nat):Int)<((n:Nat):Int))=false:=aq (by omega)
theorem aE {k:Nat} (h:k<4611686018427387904):IntKind.i64.wrap (((k:Nat):Int)+(1:Int))=(((k+1:Nat)):Int):=by
 rw [dk]<;>omega
theorem Eh (bs:ByteArray):∀(d i:Nat) (r:List UInt8),bs.size-i=d→ByteArray.toList.loop bs i r=r.reverse++bs.data.toList.drop i
 |0,i,r,h=>by
  unfold ByteArray.toList.loop;rw [if_neg (by omega)];have:bs.data.toList.drop i=[]:=List.drop_of_length_le (by
   have:bs.data.toList.length=bs.size:=Array.length_toList;omega)
  rw [this,List.append_nil]
 |d+1,i,r,h=>by
  unfold ByteArray.toList.loop;have cA:i<bs.size:=by omega
  rw [if_pos cA,Eh bs d (i+1) _ (by omega)];have ag4:i<bs.data.toList.length:=by
   have:bs.data.toList.length=bs.size:=Array.length_toList;omega
  rw [List.reverse_cons,List.append_assoc,List.drop_eq_getElem_cons ag4]
  congr 2
  simp [ByteArray.get!,cA]
theorem Ei (bs:ByteArray):bs.toList=bs.data.toList:=by
 unfold ByteArray.toList;rw [Eh bs _ 0 [] rfl];simp
theorem Nl {a b:ByteArray}:pt a b=true↔a=b:=by
 unfold pt;rw [beq_iff_eq]
 constructor
 ·intro h;rw [Ei,Ei] at h;obtain ⟨⟨x⟩⟩:=a;obtain ⟨⟨y⟩⟩:=b;exact congrArg (fun l=>ByteArray.mk ⟨l⟩) h
 ·intro h;rw [h]
theorem cG (a:ByteArray):pt a a=true:=Nl.2 rfl
theorem ui {α:Type} (a:List α) (z:α) {k:Nat} (hk:k<a.length):List.set (a.take k++List.replicate (a.length-k) z) k a[k]=a.take (k+1)++List.replicate (a.length-(k+1)) z:=by
 have h1:(a.take k).length=k:=by simp;omega
 have h2:a.length-k=(a.length-(k+1))+1:=by omega
 rw [List.set_append,if_neg (by omega),h1,Nat.sub_self,h2,List.replicate_succ,List.set_cons_zero,List.take_succ_eq_append_getElem hk,List.append_assoc];rfl
def wl {α:Type} (f:α→Nat) (xs:List α):Nat:=xs.foldr (fun x n=>f x+n) 0
theorem Ej {α:Type} (f:α→Nat):wl f []=0:=rfl
theorem sU {α:Type} (f:α→Nat) (x:α) (xs:List α):wl f (x::xs)=f x+wl f xs:=rfl
theorem Ek {α:Type} (f:α→Nat) (xs ys:List α):wl f (xs++ys)=wl f xs+wl f ys:=by
 induction xs with
 |nil=>simp [wl]
 |cons x xs ih=>
  show f x+wl f (xs++ys)=f x+wl f xs+wl f ys;rw [ih];omega
theorem sV {α:Type} (f:α→Nat) (xs:List α) {k:Nat} (hk:k<xs.length):wl f (xs.take (k+1))=wl f (xs.take k)+f xs[k]:=by
 rw [List.take_succ_eq_append_getElem hk,Ek];rfl
theorem mJ {α:Type} (f:α→Nat) (xs:List α):∀x∈xs,f x≤wl f xs:=by
 induction xs with
 |nil=>intro x h;cases h
 |cons y xs ih=>
  intro x h;show f x≤f y+wl f xs;rcases List.mem_cons.1 h with rfl | h
  ·omega
  ·have:=ih x h;omega
theorem qG {α:Type} (f:α→Nat) (h:∀x,f x=0) (xs:List α):wl f xs=0:=by
 induction xs with
 |nil=>rfl
 |cons y xs ih=>show f y+wl f xs=0;rw [h,ih]
theorem pW {r:RT} {xs:List (aA r)} (h:AZ (.sl r) xs):xs.length≤9223372036854775807:=(Sq.1 h).1
theorem wo {r:RT} {xs:List (aA r)} (h:AZ (.sl r) xs):∀x∈xs,Af r x:=(Sq.1 h).2
theorem Km {s:ByteArray} (h:AZ .str s):ByteArray.size s≤9223372036854775807:=T3.1 h
theorem fL {n:Int} (h:AZ (.int .i64) n) : -9223372036854775808≤n∧n<9223372036854775808:=wf_i64 (T2.1 h)
def Left (o:Option (Int×Unit)) (wt:Nat) (left:Int):Prop:=∃m,o=some (m,()) ∧ -1≤m∧(0≤m→(wt:Int)+m≤left)
theorem nm {X Y E F:Type} {r1:X→Option (Sum X E)} {r2:Y→Option (Sum Y F)} (n:Nat) (R:Nat→X→Y→Prop) (Q:E→F→Prop)
  (wm:∀k x y,k≤n→R k x y→(∃e f,r1 x=some (.inr e)∧r2 y=some (.inr f)∧Q e f)∨(k<n∧∃x' y',r1 x=some (.inl x')∧r2 y=some (.inl y')∧R (k+1) x' y')) {x:X} {y:Y} (h:R 0 x y) :
  ∃e f,aF r1 x=some e∧aF r2 y=some f∧Q e f:=by
 have key:∀d k x y,k+d=n→R k x y→∃e f,aF r1 x=some e∧aF r2 y=some f∧Q e f:=by
  intro d
  induction d with
  |zero=>
   intro k x y hk hR;rcases wm k x y (by omega) hR with ⟨e,f,h1,h2,h3⟩ | ⟨cA,_⟩
   ·exact ⟨e,f,by rw [iG,h1],by rw [iG,h2],h3⟩
   ·omega
  |succ d ih=>
   intro k x y hk hR;rcases wm k x y (by omega) hR with ⟨e,f,h1,h2,h3⟩ | ⟨_,x',y',h1,h2,h3⟩
   ·exact ⟨e,f,by rw [iG,h1],by rw [iG,h2],h3⟩
   ·obtain ⟨e,f,g1,g2,g3⟩:=ih (k+1) x' y' (by omega) h3;exact ⟨e,f,by rw [iG,h1];exact g1,by rw [iG,h2];exact g2,g3⟩
 exact key n 0 x y (by omega) h
end Go.TM
namespace Go.TM
open Go Go.RowKit
def q7 (P:Program):Nat→RT→List Field→Bool
 |_,.nil,[]=>true
 |off,.cons t r,f::fs=>Nat.beq f.offset off&&((f.name != "_")&&(P.plainKey f.type&&(IT P f.type t&&q7 P (off+1) r fs)))
 |_,_,_=>false
def BS (P:Program) (t:TypeId) (r:RT):Bool:=
 match P.underlying t with
 |some (.struct fs) => !P.stoodInHeld t&&(!P.eqGuardType P.depth t&&q7 P 0 r fs.toList)
 |_=>false
def T4 (P:Program) (t:Nat) (r:Rec):Bool := !r.eq||(match r.row with | some q=>BS P t q | none=>false)
theorem Ko {P:Program} {c:Cz} {st:St} {w w':World} {t:TypeId} {ty:Ty} {d:Nat} {a b:CV} {x y:Value} {r:Bool} {q:RT} {l:List CV} (hk:IT P t ty=true) (hf:rf (.cons ty q) (a::l)=true) (h:uE a b=some r) (hx:jh c st w a x) (hy:jh c st w b y) :
  (Op.equalIn (d+1) t x y).run P w'=.ok r w'∧rf q l=true:=by
 cases ty with
 |sl _=>cases a<;>simp [rf] at hf
 |int k=>
  obtain ⟨e,he,h2⟩:=fo hk
  cases a<;>try (simp [rf] at hf;done)
  rename_i k1 n;simp only [rf,Bool.and_eq_true,decide_eq_true_eq] at hf
  cases b<;>try (simp [uE] at h;done)
  rename_i k2 m;simp only [uE] at h
  split at h
  ·rename_i RH;subst RH
   cases h
   cases e<;>simp at h2
   have hx:x=.int k1 n:=hx;have hy:y=.int k1 m:=hy;subst hx hy;refine ⟨?_,hf.2⟩;rw [run_equalIn_int w' d t k1 _ n m he]
   congr 1
  ·cases h
 |bool=>
  obtain ⟨e,he,h2⟩:=fo hk
  cases a<;>try (simp [rf] at hf;done)
  cases b<;>try (simp [uE] at h;done)
  rename_i p q';simp only [uE,Option.some.injEq] at h;subst h
  cases e<;>simp at h2
  have hx:x=.bool p:=hx;have hy:y=.bool q':=hy;subst hx hy;exact ⟨run_equalIn_bool' w' d t p q' he,hf⟩
 |str=>
  obtain ⟨e,he,h2⟩:=fo hk
  cases a<;>try (simp [rf] at hf;done)
  cases b<;>try (simp [uE] at h;done)
  rename_i p q';simp only [uE,Option.some.injEq] at h;subst h
  cases e<;>simp at h2
  have hx:x=.string p:=hx;have hy:y=.string q':=hy;subst hx hy;exact ⟨run_equalIn_string w' d t p q' he,hf⟩
theorem A3 {P:Program} {c:Cz} {st:St} {w w':World} {d:Nat} {us vs:Array Value}:(fs:List Field)→(off:Nat)→(q:RT)→(l m:List CV)→{b:Bool}→q7 P off q fs=true→rf q l=true→nc l m=some b→
  eM c st w l (us.toList.drop off)→eM c st w m (vs.toList.drop off)→(Op.eqFields (d+1) us vs fs).run P w'=.ok b w'
 | [],off,q,l,m,b,hf,rB,hc,hl,hm=>by
  cases q with
  |cons t r=>cases t<;>simp [q7] at hf
  |nil=>
   cases l with
   |cons _ _=>simp [rf] at rB
   |nil=>cases m with
    |cons _ _=>simp [nc] at hc
    |nil=>
     simp only [nc,Option.some.injEq] at hc;subst hc;simp [Op.eqFields]
 |f::fs,off,q,l,m,b,hf,rB,hc,hl,hm=>by
  cases q with
  |nil=>simp [q7] at hf
  |cons t r=>
   unfold q7 at hf;rw [Bool.and_eq_true,Bool.and_eq_true,Bool.and_eq_true,Bool.and_eq_true] at hf;obtain ⟨h1,h2,h3,h4,h5⟩:=hf;have h1:=Nat.eq_of_beq_eq_true h1
   cases l with
   |nil=>cases t<;>simp [rf] at rB
   |cons x l=>cases m with
    |nil=>simp [nc] at hc
    |cons y m=>
     simp only [nc] at hc
     cases he:uE x y with
     |none=>simp [he] at hc
     |some b1=>
      cases hes:nc l m with
      |none=>simp [he,hes] at hc
      |some b2=>
       simp only [he,hes,Option.some.injEq] at hc;subst hc;have Fm:off<us.size:=by
        have:=hl.1;simp at this;omega
       have wL:off<vs.size:=by
        have:=hm.1;simp at this;omega
       have hdu:us.toList.drop off=us[off]::us.toList.drop (off+1):=by
        have:off<us.toList.length:=by simpa using Fm
        rw [List.drop_eq_getElem_cons this];simp
       have hdv:vs.toList.drop off=vs[off]::vs.toList.drop (off+1):=by
        have:off<vs.toList.length:=by simpa using wL
        rw [List.drop_eq_getElem_cons this];simp
       rw [hdu] at hl;rw [hdv] at hm;have rx:=hl.2 0 x us[off] rfl rfl;have ry:=hm.2 0 y vs[off] rfl rfl;obtain ⟨k1,k2⟩:=Ko (w':=w') (d:=d) h4 rB he rx ry;have rl:eM c st w l (us.toList.drop (off+1)):=⟨by have:=hl.1;simpa using this,fun i a v ha hv=>hl.2 (i+1) a v (by simpa using ha) (by simpa using hv)⟩;have rm:eM c st w m (vs.toList.drop (off+1)):=⟨by have:=hm.1;simpa using this,fun i a v ha hv=>hm.2 (i+1) a v (by simpa using ha) (by simpa using hv)⟩;have ih:=A3 (w':=w') (d:=d) fs (off+1) r l m h5 k2 hes rl rm;unfold Op.eqFields;rw [if_pos (by simpa using h2)];have p1:(part f.type us f.offset).run P w'=.ok us[off] w':=run_part_plain w' h3 (by rw [h1];exact Array.getElem?_eq_getElem Fm);have p2:(part f.type vs f.offset).run P w'=.ok vs[off] w':=run_part_plain w' h3 (by rw [h1];exact Array.getElem?_eq_getElem wL);simp only [Sem.run_bind,p1,p2,k1,Result.andThen_ok]
       cases b1
       ·simp
       ·simp [ih]
theorem Kp {P:Program} {tr:Tr} (h:tr.all (T4 P)=true):ze P (n7 tr):=by
 intro t ht c st w l m us vs b op ox oy rB hc hl hm w';have ht:(match tr.find t with | some r=>r.eq | none=>false)=true:=ht
 cases hf:tr.find t with
 |none=>rw [hf] at ht;cases ht
 |some r=>
  rw [hf] at ht;have ht:r.eq=true:=ht;have h1:=Tr.AU tr h hf;unfold T4 at h1;rw [ht,Bool.not_true,Bool.false_or] at h1;unfold kG.fits at rB;have dj:(n7 tr).row t=r.row:=by show (match tr.find t with | some r=>r.row | none=>none)=_;rw [hf]
  rw [dj] at rB
  cases hq:r.row with
  |none=>rw [hq] at h1;cases h1
  |some q=>
   rw [hq] at h1 rB;have h1:BS P t q=true:=h1;have rB:rf q l=true:=rB;unfold BS at h1
   split at h1
   ·rename_i fs hu;rw [Bool.and_eq_true,Bool.and_eq_true,Bool.not_eq_true',Bool.not_eq_true'] at h1;have hfo:P.fieldsOf t=fs:=by unfold Program.fieldsOf;rw [hu]
    refine ⟨run_eqGuard_agg w' op t ox oy us vs h1.2.1,?_⟩;show (Op.equalIn (9999+1) t (.agg us) (.agg vs)).run P w'=.ok b w';rw [run_equalIn_struct w' 9999 t us vs (by rw [hfo];exact hu) h1.1,hfo];exact A3 (d:=9998) fs.toList 0 q l m h1.2.2 rB hc (by simpa using hl) (by simpa using hm)
   ·cases h1
end Go.TM
namespace Go.TM
open Go Go.RowKit
def IY (n:Nat) (ps:List AP) (x:aA (aN (ps.map some))):St:=ba (start n ps x) (some 0) (.one .dO)
def L0 (n:Nat) (r:RT) (xs:List (aA r)) (ps:List AP) (x:aA (aN (ps.map some))):St:=ba (start n ps x) (some 0) (.one (.nn r xs))
theorem IZ {P:Program} {tr:Tr} (hT:tr.all (AW P)=true) (hE:ze P (n7 tr)) (hm:P.follows .mixedOrders=true) {S:kO} (hS:og P S) {D:mN} {f:FuncId} {fn:Func} {code:Code} {n:Nat} {r:RT} {qs:List AP} {rs:List RP}
  {L:qu (aA (dn rs (cj (.val false [.shr r]::qs))))} {t:aA (aN ((AP.val false [.shr r]::qs).map some))→Option (aA (dn rs (cj (.val false [.shr r]::qs))))}
  (hf:P.funcs[f]?=some fn) (hb:fn.body=some code) (tn:ZW (n7 tr) D fn code n (.val false [.shr r]::qs) rs=true) (Qk:(fn.name == "runtime.NumGoroutine")=false)
  (hL:∀(w0:World) (mu:Mu) (y:aA (dn rs (cj (.val false [.shr r]::qs)))),mz (.val false [.shr r]::qs) mu→∀p∈ef code,od P w0 mu n L y p.1 p.2)
  (Ql:∀z,fc (n7 tr) S D L code (IY n (.val false [.shr r]::qs) (([]:List (aA r)),z)) (Fq rs (.val false [.shr r]::qs))=t (([]:List (aA r)),z))
  (hnn:∀x,fc (n7 tr) S D L code (L0 n r x.1 (.val false [.shr r]::qs) x) (Fq rs (.val false [.shr r]::qs))=t x):rL P f (nj (.val false [.shr r]::qs) rs t):=by
 unfold ZW at tn;rw [Bool.and_eq_true,Bool.and_eq_true,Bool.and_eq_true,Bool.and_eq_true] at tn;obtain ⟨h1,h2,h3,h4,h5⟩:=tn;refine ⟨IL (tv hT) hE hS hf hb (Nat.eq_of_beq_eq_true h1) (Nat.le_of_ble_eq_true h2) h3 (fun tm=>Dm tm _ _ h4) (fun w0 mu y hs=>uZ code (hL w0 mu y hs))
  (fun w0 mu=>BQ (tv hT) hE hm (AM (tv hT) hE hS w0 mu n)) (xm code h5) (fun w0 mu c a w x hR hn => ?_),fn,hf,Qk,by rw [hb];rfl⟩
 have PU:0<n:=by
  have:=Nat.le_of_ble_eq_true h2;simp at this;omega
 have ua:=hR.ea 0;have hg:bV (start n (.val false [.shr r]::qs) x) 0=.one (.shr r x.1):=rfl;rw [hg] at ua;have DA:bY w c.ok (.sl r) (a.eval (.tmp 0)) x.1:=ua;have h0:0<a.tmps.size:=by omega
 by_cases hv:a.eval (.tmp 0)=.slice none 0 0
 ·refine ⟨c,IY n (.val false [.shr r]::qs) x,?_,?_⟩
  ·have:=hR.ba (d:=some 0) (v:=.one .dO) (u:=a.eval (.tmp 0)) hv (fun k e=>by cases e;exact h0)
   rwa [DP a 0 _ h0 rfl] at this
  ·have hx:x.1=([]:List (aA r)):=by
    rcases (nh _ _ _ _ _).1 DA with ⟨_,h⟩ | ⟨_,_,h,_⟩
    ·exact h
    ·rw [hv] at h;cases h
   obtain ⟨x1,z⟩:=x;simp only at hx;subst hx;exact Ql z
 ·refine ⟨c,L0 n r x.1 (.val false [.shr r]::qs) x,?_,hnn x⟩;have:=hR.ba (d:=some 0) (v:=.one (.nn r x.1)) (u:=a.eval (.tmp 0)) ⟨DA,hv⟩ (fun k e=>by cases e;exact h0)
  rwa [DP a 0 _ h0 rfl] at this
end Go.TM
namespace Go.TM
open Go Go.RowKit
section
variable {R:Type} (T:kG) (S:kO) (D:mN) (L:qu R)
end
def abK {R:Type} (P:Program) (w0:World) (mu:Mu) (n:Nat) (k:Ex→St→Option R) (r:R) (b:Code) (hp:List (Option AP)) (g:aA (aN hp)→Option R):Prop:=
 ∀x,g x=some r→∀ {Q:Exit→Act→World→Prop},Pz w0 mu n r k Q→∀ {c:Cz} {a:Act} {w:World},Rel w0 mu c (pV hp x) a w→a.tmps.size=n→b.wp P Q a w
structure Seg (tr:Tr) (S:kO) (D:mN) (n:Nat) (ps:List AP) {R:Type} (L:qu R) (k:Ex→St→Option R) (P:Program) (b:Code) (hp:List (Option AP)) (g:aA (aN hp)→Option R):Prop where
 ok:∀(w0:World) (mu:Mu) (r:R),mz ps mu→jb n b=true→fk (fun id ops=>Eb ops (D id)=true) b→eN (od P w0 mu n L r) b→abK P w0 mu n k r b hp g
end Go.TM
namespace Go.TM
open Go Go.RowKit
noncomputable section
structure TK (P:Program) where
 tr:Tr
 hT:tr.all (AW P)=true
 hE:ze P (n7 tr)
 hm:P.follows .mixedOrders=true
structure KF (P:Program) where
 f:FuncId
 m:Pm×Pm×Pm
 Cp:wO
 ok:rL P f Cp
def KF.sl {P:Program} (k:KF P):Nat×(Pm×Pm×Pm×wO):=(k.f,(k.m.1,k.m.2.1,k.m.2.2,k.Cp))
def Vx {P:Program}:List (KF P)→Vv
 | []=>[]
 |k::l=>k.sl::Vx l
theorem L1 {P:Program}:(l:List (KF P))→og P (zm (Vx l))
 | []=>Qj
 |k::l=>Nh k.ok (L1 l)
def kw {P:Program} {f:FuncId} {s:wO} (h:rL P f s):KF P:=⟨f,(.shr,.shr,.shr),s,h⟩
def kv {P:Program} (m:Pm×Pm×Pm) {f:FuncId} {s:wO} (h:rL P f s):KF P:=⟨f,m,s,h⟩
structure LD where
 i:Nat
 b:Code
 hp:List (Option AP)
 e:List (Option AP)
 q:List (Option AP)
 r:aA (aN hp)→Option (Sum (aA (aN hp)) (Sum (aA (aN e)) (aA (aN q))))
def LD.Ok (l:LD) (P:Program) (n:Nat) (ps:List AP):Prop:=
 ∀ {R:Type} (L:qu R) (y:R) (w0:World) (mu:Mu),(∀st k,L l.i l.b st k=BP l.hp l.e l.q l.r st k)→mz ps mu→od P w0 mu n L y l.i l.b
structure Vy (P:Program) (n:Nat) (ps:List AP) where
 d:LD
 ok:d.Ok P n ps
def sW {P:Program} {n:Nat} {ps:List AP} {R:Type}:List (Vy P n ps)→qu R
 | []=>noL
 |l::ls=>fun id b st k=>bif Nat.beq id l.d.i then BP l.d.hp l.d.e l.d.q l.d.r st k else sW ls id b st k
def Gw {P:Program} {n:Nat} {ps:List AP}:List (Vy P n ps)→List (Nat×Code)
 | []=>[]
 |l::ls=>(l.d.i,l.d.b)::Gw ls
def Kq {P:Program} {n:Nat} {ps:List AP}:List (Vy P n ps)→Bool
 | []=>true
 |l::ls=>ls.all (fun m => !Nat.beq m.d.i l.d.i)&&Kq ls
theorem Qm {P:Program} {n:Nat} {ps:List AP} {R:Type}:(ls:List (Vy P n ps))→Kq ls=true→∀l∈ls,∀st (k:Ex→St→Option R),sW ls l.d.i l.d.b st k=BP l.d.hp l.d.e l.d.q l.d.r st k
 | [],_,l,h=>by cases h
 |m::ls,hb,l,h=>by
  intro st k;unfold Kq at hb;rw [Bool.and_eq_true] at hb;rcases List.mem_cons.1 h with rfl | h
  ·show (bif Nat.beq l.d.i l.d.i then _ else _)=_;rw [Nat.beq_refl];rfl
  ·show (bif Nat.beq l.d.i m.d.i then _ else sW ls l.d.i l.d.b st k)=_;have:=List.all_eq_true.1 hb.1 l h;rw [Bool.not_eq_true'] at this;rw [this];exact Qm ls hb.2 l h st k
theorem L2 {P:Program} {n:Nat} {ps:List AP}:(ls:List (Vy P n ps))→∀p∈Gw ls,∃l∈ls,p=(l.d.i,l.d.b)
 | [],p,h=>by cases h
 |m::ls,p,h=>by
  rcases List.mem_cons.1 h with rfl | h
  ·exact ⟨m,List.mem_cons_self,rfl⟩
  ·obtain ⟨l,h1,h2⟩:=L2 ls p h;exact ⟨l,List.mem_cons_of_mem _ h1,h2⟩
theorem Kr {P:Program} {n:Nat} {ps:List AP} {R:Type} {ls:List (Vy P n ps)} (hb:Kq ls=true) {c:Code} (hc:ef c=Gw ls) (y:R) (w0:World) (mu:Mu) (hs:mz ps mu):∀p∈ef c,od P w0 mu n (sW ls) y p.1 p.2:=by
 rw [hc];intro p hp;obtain ⟨l,hl,rfl⟩:=L2 ls p hp;exact l.ok (sW ls) y w0 mu (Qm ls hb l hl) hs
structure FC (P:Program) where
 t:TK P
 l:List (KF P)
 D:mN
 fn:Func
 ps:List AP
abbrev FC.code {P:Program} (F:FC P):Code:=Qi F.fn
abbrev FC.S {P:Program} (F:FC P):kO:=zm (Vx F.l)
abbrev FC.T {P:Program} (F:FC P):kG:=n7 F.t.tr
abbrev FC.KL {P:Program} (F:FC P):Type:=Vy P F.fn.ntmps F.ps
abbrev FC.Ok {P:Program} (F:FC P) (l:LD):Prop:=l.Ok P F.fn.ntmps F.ps
abbrev FC.fin {P:Program} (F:FC P) (rs:List RP):Ex→St→Option (aA (dn rs (cj F.ps))):=Fq rs F.ps
def FC.lp {P:Program} (F:FC P) (j:Nat):Code:=AX F.code j
theorem FC.kl {P:Program} (F:FC P) {l:LD} (ls:List F.KL) (h1:(Gr F.D F.ps l.hp l.e l.q F.fn.ntmps l.b&&Kq ls)=true) (h2:ef l.b=Gw ls)
  (ht:∀x,fc F.T F.S F.D (sW ls) l.b (pV l.hp x) (BO l.i l.hp l.e l.q)=l.r x):F.Ok l:=by
 rw [Bool.and_eq_true] at h1;exact fun _ _ w0 mu hL hs=>Ni F.t.hT F.t.hE F.t.hm (L1 F.l) hs h1.1 (fun z=>Kr h1.2 h2 z w0 mu hs) ht hL
theorem FC.jS {P:Program} (F:FC P) {l:LD} (h:∀x,(Gr F.D F.ps l.hp l.e l.q F.fn.ntmps l.b&&(ef l.b).isEmpty,fc F.T F.S F.D noL l.b (pV l.hp x) (BO l.i l.hp l.e l.q))=(true,l.r x)):F.Ok l:=by
 have h1:=congrArg Prod.fst (h (qo _));have h1:(Gr F.D F.ps l.hp l.e l.q F.fn.ntmps l.b&&(ef l.b).isEmpty)=true:=h1;rw [Bool.and_eq_true] at h1;have ht:∀x,fc F.T F.S F.D noL l.b (pV l.hp x) (BO l.i l.hp l.e l.q)=l.r x:=fun x=>congrArg Prod.snd (h x)
 have g:F.Ok l:=F.kl [] (by rw [h1.1];rfl) (List.isEmpty_iff.1 h1.2) ht;exact @g
abbrev FC.ag6 {P:Program} (F:FC P) (rs:List RP) (t:Vr (aN (F.ps.map some)) (Option (aA (dn rs (cj F.ps))))):wO:=nj F.ps rs (ON (aN (F.ps.map some)) t)
abbrev FC.Kn {P:Program} (F:FC P) (rs:List RP) (f:FuncId) (t:Vr (aN (F.ps.map some)) (Option (aA (dn rs (cj F.ps))))):Prop:=rL P f (F.ag6 rs t)
def FC.ZX {P:Program} (F:FC P) (rs:List RP):Bool:=F.fn.body.isSome&&(ZW F.T F.D F.fn F.code F.fn.ntmps F.ps rs && !(F.fn.name == "runtime.NumGoroutine"))
theorem FC.Qn {P:Program} {F:FC P} {rs:List RP} (h:F.ZX rs=true):F.fn.body=some F.code∧ZW F.T F.D F.fn F.code F.fn.ntmps F.ps rs=true∧(F.fn.name == "runtime.NumGoroutine")=false:=by
 unfold FC.ZX at h;rw [Bool.and_eq_true,Bool.and_eq_true,Bool.not_eq_true'] at h;obtain ⟨h1,h2,h3⟩:=h;refine ⟨?_,h2,h3⟩;obtain ⟨c,hc⟩:=Option.isSome_iff_exists.1 h1;unfold FC.code Qi;rw [hc]
theorem FC.kf {P:Program} (F:FC P) {rs:List RP} {f:FuncId} {t:Vr (aN (F.ps.map some)) (Option (aA (dn rs (cj F.ps))))} (ls:List F.KL) (hf:P.funcs[f]?=some F.fn) (h1:(F.ZX rs&&Kq ls)=true) (h2:ef F.code=Gw ls)
  (ht:∀x,fc F.T F.S F.D (sW ls) F.code (start F.fn.ntmps F.ps x) (F.fin rs)=ON (aN (F.ps.map some)) t x):F.Kn rs f t:=by
 rw [Bool.and_eq_true] at h1;obtain ⟨hb,hc,hn⟩:=F.Qn h1.1;exact Sn F.t.hT F.t.hE F.t.hm (L1 F.l) (D:=F.D) (L:=sW ls) hf hb hc hn (fun w0 mu y hs=>Kr h1.2 h2 y w0 mu hs) ht
theorem FC.n8 {P:Program} (F:FC P) {rs:List RP} {f:FuncId} {t:Vr (aN (F.ps.map some)) (Option (aA (dn rs (cj F.ps))))} (hf:P.funcs[f]?=some F.fn)
  (h:∀x,(F.ZX rs&&(ef F.code).isEmpty,fc F.T F.S F.D noL F.code (start F.fn.ntmps F.ps x) (F.fin rs))=(true,ON (aN (F.ps.map some)) t x)):F.Kn rs f t:=by
 have h1:=congrArg Prod.fst (h (qo _));have h1:(F.ZX rs&&(ef F.code).isEmpty)=true:=h1;rw [Bool.and_eq_true] at h1;exact F.kf [] hf (by rw [h1.1];rfl) (List.isEmpty_iff.1 h1.2) fun x=>congrArg Prod.snd (h x)
theorem FC.kl1 {P:Program} (F:FC P) {l:LD} (h1:(Gr F.D F.ps l.hp l.e l.q F.fn.ntmps l.b&&(ef l.b).isEmpty)=true)
  (ht:∀x,fc F.T F.S F.D noL l.b (pV l.hp x) (BO l.i l.hp l.e l.q)=l.r x):F.Ok l:=by
 rw [Bool.and_eq_true] at h1;have g:F.Ok l:=F.kl [] (by rw [h1.1];rfl) (List.isEmpty_iff.1 h1.2) ht;exact @g
theorem FC.kfn {P:Program} (F:FC P) {rs:List RP} {f:FuncId} {t:Vr (aN (F.ps.map some)) (Option (aA (dn rs (cj F.ps))))} (ls:List F.KL) (hf:P.funcs[f]?=some F.fn) (r:RT) (qs:List AP) (hq:F.ps=.val false [.shr r]::qs) (h1:(F.ZX rs&&Kq ls)=true) (h2:ef F.code=Gw ls)
  (h4:∀x,fc F.T F.S F.D (sW ls) F.code (ba (start F.fn.ntmps F.ps (hq▸(([]:List (aA r)),x))) (some 0) (.one .dO)) (F.fin rs)=ON (aN (F.ps.map some)) t (hq▸(([]:List (aA r)),x)))
  (h5:∀x,fc F.T F.S F.D (sW ls) F.code (ba (start F.fn.ntmps F.ps (hq▸x)) (some 0) (.one (.nn r x.1))) (F.fin rs)=ON (aN (F.ps.map some)) t (hq▸x)):F.Kn rs f t:=by
 rw [Bool.and_eq_true] at h1;obtain ⟨hb,hc,hn⟩:=F.Qn h1.1;obtain ⟨tt,l,D,fn,ps⟩:=F;simp only at hq;subst hq;exact IZ tt.hT tt.hE tt.hm (L1 l) (D:=D) (L:=sW ls) hf hb hc hn (fun w0 mu y hs=>Kr h1.2 h2 y w0 mu hs) h4 h5
def sp:List (Nat×AP)→Nat→List (Option AP)
 | [],k=>nn k
 |(g,p)::l,k=>nn g++some p::sp l k
abbrev vl (l:List OP):AP:=.val false l
abbrev va (l:List OP):AP:=.val true l
abbrev Pl.a (i:Nat) (p:Pl):Pl:=.op i .any p
abbrev Pl.t (i:Nat) (p:Pl):Pl:=.op i .take p
abbrev Pl.o (i:Nat) (p:Pl):Pl:=.op i .one p
abbrev Pl.l (i:Nat) (p:Pl):Pl:=.op i .last p
def dr (i:Nat) (p:Pl) (D:mN:=gO):mN:=fun id=>bif Nat.beq id i then p else D id
end
end Go.TM
namespace Go.TM
open Go Go.RowKit
noncomputable section
end
end Go.TM
