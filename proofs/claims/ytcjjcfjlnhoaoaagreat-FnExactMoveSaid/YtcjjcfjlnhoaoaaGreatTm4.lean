/- A machine over trees: an evaluator of the code, and that what it finds is so; part 4. -/
import Derived.Test.YtcjjcfjlnhoaoaaGreatTm3
import Derived.Deep.LoopGhost
import Derived.OrdersHeld
import Derived.KernelRfl
import Derived.Carry
import Derived.ChangeArms
import Derived.ChangeOld
import Derived.OpenShut
import Derived.Laws.StructEq
import Derived.ChangeKeysEq
namespace Go.TM
open Go Go.RowKit
theorem GG {P:Program} {fn:Func} {tm:Array Value} {w:World} {vals:List Value} (h:(fn.results.toList.mapM (BS tm)).run P w=.ok vals w) :
  (results fn tm).run P w=.ok (if hs:vals.toArray.size=1 then vals.toArray[0] else .tuple vals.toArray) w:=by
 have e:results fn tm=(do let vs ←fn.results.mapM (BS tm);pure (if h:vs.size=1 then vs[0] else .tuple vs):Sem Value):=rfl;rw [e,Array.mapM_eq_mapM_toList];simp [Sem.run_bind,h]
theorem NZ {c:Cz} {w:World} {mu:Mu} {lc:Nat→Nat→Loc} {dL:List AV} {args:Array Value} (hH:Handed c w mu) (hA:oQ c w lc 0 dL args.toList) {ps:List AP} {x:ar (aE (ps.map some))} (hx:eR ps dL=some x) {n:Nat} (hn:ps.length≤n) :
  ∃(CT:Mu) (c':Cz),CT.m=mu.m∧(CT.ok=mu.ok∧CT.rs=mu.rs)∧mW ps CT∧EB CT lc 0 ps dL args.toList∧args.size=ps.length∧dL.length=ps.length∧
   Rel w CT c' (start n ps x) { tmps:=args++Array.replicate (n-args.size) undef,defers:=[] } w:=by
 obtain ⟨l1,l2,hold⟩:=zg ps 0 dL args.toList hx hA;have N0:=Af ps dL hx;have JK:args.size=ps.length:=by rw [l2];simp
 let a:Act:={ tmps:=args++Array.replicate (n-args.size) undef,defers:=[] }
 have Q8:∀k v,args.toList[k]?=some v→a.eval (.tmp k)=v:=by
  intro k v hk;have dG:k<args.size:=by
   have:=(List.getElem?_eq_some_iff.1 hk).1;simpa using this
  show (args++Array.replicate (n-args.size) undef).getD k undef=v;rw [Array.getD_eq_getD_getElem?,Array.getElem?_append_left dG];rw [Array.getElem?_toList] at hk;rw [hk];rfl
 let CT:Mu:={ m:=mu.m,ok:=mu.ok,an:=BT lc 0 dL args.toList,rs:=mu.rs }
 have hlen:(da (ps.map some) x++List.replicate (n+1-ps.length) none).length=n+1:=by
  rw [List.length_append,qE];simp;omega
 have F2:∀(i:Nat) (av:AV),(da (ps.map some) x++List.replicate (n+1-ps.length) none)[i]?=some (some av)→(da (ps.map some) x)[i]?=some (some av):=by
  intro i av hi
  by_cases h:i<(da (ps.map some) x).length
  ·rwa [List.getElem?_append_left h] at hi
  ·rw [List.getElem?_append_right (by omega),List.getElem?_replicate] at hi
   split at hi<;>simp at hi
 have CS:K0 w CT c w:=⟨fun b l hb=>⟨hH.lt b l hb,(hH.lb b l hb).imp id fun hh=>.inr ((hH.m b).2 ⟨l,hb,hh⟩)⟩,fun b _ hb=>.inr ((hH.ok b).2 hb),⟨rfl,rfl,rfl,Nat.le_refl _⟩,fun _ _ _=>rfl,fun b l hb=>⟨(hH.rs b l hb).1,.inr (.inr (hH.rs b l hb).2)⟩⟩;have SG:zf c w lc a 0 (da (ps.map some) x++List.replicate (n+1-ps.length) none):=by
  intro i av hi;obtain ⟨v,h1,h2⟩:=hold i av (F2 i av hi);have:=Q8 i v h1;rw [Nat.zero_add] at h2 ⊢;rw [this];exact h2
 have Q9:∀k av v,dL[k]?=some av→args.toList[k]?=some v→sb c w k (lc k) av v:=by
  have key:∀(dL:List AV) (i:Nat) (vs:List Value),oQ c w lc i dL vs→∀k av v,dL[k]?=some av→vs[k]?=some v→sb c w (i+k) (lc (i+k)) av v:=by
   intro dL
   induction dL with
   |nil=>intro i vs _ k av v h;simp at h
   |cons a0 dL ih=>
    intro i vs h k av v h1 h2;obtain ⟨v0,l,rfl,g1,g2⟩:=h
    cases k with
    |zero=>simp at h1 h2;subst h1 h2;exact g1
    |succ k=>
     have:=ih (i+1) l g2 k av v (by simpa using h1) (by simpa using h2)
     rwa [show i+1+k=i+(k+1) by omega] at this
  intro k av v h1 h2;have:=key dL 0 args.toList hA k av v h1 h2
  rwa [Nat.zero_add] at this
 have W3:∀p∈CT.an,NT (da (ps.map some) x++List.replicate (n+1-ps.length) none) lc a p:=by
  intro p hp;obtain ⟨k,av,v,h1,h2,h3⟩:=tf 0 dL args.toList p hp;have hk:k<ps.length:=by rw [l1];exact (List.getElem?_eq_some_iff.1 h1).1
  simp only [Nat.zero_add] at h3;obtain ⟨p',q1,q2⟩:=N0 k av h1;rcases h3 with ⟨A,rfl,rfl⟩ | ⟨os,rfl,rfl⟩ | ⟨os,j,A,rfl,hj,rfl⟩
  ·refine ⟨rfl,by rw [hlen];omega,fun JE SH=>.inl ?_⟩
   cases p' with
   |io r dd=>
    obtain ⟨B,e1,e2,e3⟩:=q2;have:=F2 k JE SH;rw [e1] at this;simp only [Option.some.injEq] at this;exact ⟨B,this.symm,fun _=>⟨e2,e3,rfl⟩⟩
   |val _ _=>exact q2.elim
   |box _ _=>exact q2.elim
   |cz _=>exact q2.elim
  ·refine ⟨rfl,by rw [hlen];omega,fun xT _ => ?_⟩;obtain ⟨oq,vs,ty,e1,_⟩:=Q9 k _ v h1 h2;rw [Q8 k v h2,e1]
  ·refine ⟨rfl,by rw [hlen];omega,fun JE SH=>.inr ?_⟩
   cases p' with
   |io r dd=>exact q2.elim
   |val _ _=>exact q2.elim
   |box _ _=>exact q2.elim
   |cz qs=>
    obtain ⟨xT,e1,e2⟩:=q2;have:=F2 k JE SH;rw [e1] at this;simp only [Option.some.injEq] at this;obtain ⟨_,B,e3,e4,e5⟩:=e2 j A hj;refine ⟨xT,this.symm,fun A' eE => ?_⟩;rw [e3] at eE;injection eE with eE;injection eE with eE;subst eE;exact ⟨e4,e5,rfl⟩
 obtain ⟨c',hR⟩:=Rel.JH (a:=a) CS rfl SG W3;refine ⟨CT,c',rfl,⟨rfl,rfl⟩,fun p hp => ?_,fun k p av v h0 h1 h2 => ?_,JK,l1.symm,hR⟩
 ·obtain ⟨k,av,v,h1,h2,h3⟩:=tf 0 dL args.toList p hp;simp only [Nat.zero_add] at h3;obtain ⟨p',q1,q2⟩:=N0 k av h1;rcases h3 with ⟨A,rfl,rfl⟩ | ⟨os,rfl,rfl⟩ | ⟨os,j,A,rfl,hj,rfl⟩
  ·cases p' with
   |io r dd=>exact .inl ⟨k,r,_,_,_,rfl,dd,q1⟩
   |val _ _=>exact q2.elim
   |box _ _=>exact q2.elim
   |cz _=>exact q2.elim
  ·cases p' with
   |io r dd=>exact q2.elim
   |val _ _=>exact q2.elim
   |box b qs=>exact .inr (.inl ⟨k,_,b,qs,rfl,q1⟩)
   |cz _=>exact q2.elim
  ·cases p' with
   |io r dd=>exact q2.elim
   |val _ _=>exact q2.elim
   |box b qs=>exact q2.elim
   |cz qs=>exact .inr (.inr ⟨k,j,_,_,_,qs,rfl,q1⟩)
 ·obtain ⟨p',q1,q2⟩:=N0 k av h1;rw [h0] at q1
  cases q1
  have hh:=Q9 k av v h1 h2;obtain ⟨a1,a2,a3⟩:=JJ (lc:=lc) 0 dL args.toList (by rw [←l1,l2]) k av v h1 h2;rw [Nat.zero_add] at a1 a2 a3 ⊢
  cases p with
  |val _ _=>cases av with
   |val _ _=>trivial
   |io _=>exact q2.elim
   |box _=>exact q2.elim
   |cz _=>exact q2.elim
  |cz qs=>cases av with
   |val _ _=>exact q2.elim
   |io _=>exact q2.elim
   |box _=>exact q2.elim
   |cz os=>
    obtain ⟨us,rfl,hl,NH⟩:=hh;obtain ⟨xT,_,e2⟩:=q2;obtain ⟨n1,_⟩:=bo.NS os 0 _ hl;refine ⟨us,rfl,fun j A hj=>⟨(e2 j A hj).1,?_⟩⟩;have dG:j<us.toList.length:=by rw [n1];exact (List.getElem?_eq_some_iff.1 hj).1
    have hO:OwnAt c w (.cH k j) (lc k j) A us.toList[j]:=NH j _ _ hj (List.getElem?_eq_getElem dG);exact ⟨_,List.getElem?_eq_getElem dG,hO.1,hO.2.1,a3 os rfl j A hj⟩
  |io r dd=>cases av with
   |val _ _=>exact q2.elim
   |box _=>exact q2.elim
   |cz _=>exact q2.elim
   |io A=>
    have hO:OwnAt c w (.cH k 0) (lc k 0) A v:=hh;exact ⟨hO.1,hO.2.1,a1 A rfl⟩
  |box _ _=>cases av with
   |val _ _=>exact q2.elim
   |io _=>exact q2.elim
   |cz _=>exact q2.elim
   |box os=>
    obtain ⟨oq,vs,ty,e1,_⟩:=hh;refine ⟨oq,e1,?_⟩;have:=a2 os rfl;rw [e1] at this;exact this
theorem SI {P:Program} {T:lf} (hT:fQ P T) {w0:World} {mu CT:Mu} (hm:CT.m=mu.m) (gP:CT.ok=mu.ok∧CT.rs=mu.rs) {c:Cz} {st:St} {a:Act} {w:World} (h:Rel w0 CT c st a w) {fn:Func} {ps:List AP} {rs:List RP} (M0:xk T a.tmps fn.results.toList rs)
  {lc:Nat→Nat→Loc} {dL:List AV} {vs:List Value} (h1:ps.length=dL.length) (h2:ps.length=vs.length) (hl:EB CT lc 0 ps dL vs) {e:Ex} {y:ar (dq rs (ck ps))} (hf:Ie rs ps e st=some y) :
  (e=.normal∨e=.ret)∧∃v,(results fn a.tmps).run P w=.ok v w∧∃c',K0 w0 mu c' w∧sd c' w (fT rs (ck ps) y).1 v∧iI c' w lc 0 dL vs (nc ps (fT rs (ck ps) y).2):=by
 have he:e=.normal∨e=.ret:=by
  cases e with
  |normal=>exact .inl rfl
  |ret=>exact .inr rfl
  |exit m=>cases hf
 refine ⟨he,?_⟩;have hf:((sy st 0 ps).bind fun x=>(BR st rs (ck ps) x.1).bind fun q=>bif tH (cF q.2.1++x.2.1)&&apart (cF q.2.1++x.2.1) (q.2.2++x.2.2) then some q.1 else none)=some y:=by
  rcases he with rfl | rfl<;>exact hf
 obtain ⟨qx,hqx,hf⟩:=Option.bind_eq_some_iff.1 hf;obtain ⟨qr,hqr,hf⟩:=Option.bind_eq_some_iff.1 hf;obtain ⟨sA,hy⟩:=aJ hf;injection hy with hy;obtain ⟨x1,u1,r1⟩:=qx;obtain ⟨x2,u2,r2⟩:=qr;subst hy;rw [Bool.and_eq_true] at sA;obtain ⟨a1,tb,a2,a3,a4⟩:=td h ps 0 dL vs h1 h2 hl hqx;obtain ⟨b1,b2,b3,vals,b4,b5,b6⟩:=DF hT h fn.results.toList rs M0 (ck ps) x1 hqr;have zZ:∀l∈cF u2++u1,l.real=true:=fun l hl=>(List.mem_append.1 hl).elim (b3 l) (a1 l)
 have Eu:=pk _ zZ sA.1;have CI:∀p∈r2++r1,Lb.sp p.1 p.2∉cF u2++u1:=by
  intro p hp hm;have h1:=List.all_eq_true.1 sA.2 p hp;have h2:=List.all_eq_true.1 h1 _ hm;rw [(Lb.xU rfl).2 rfl] at h2
  cases h2
 let tab:=xW .gO 0 u2++tb
 have W4:tab.map (·.1)=cF u2++u1:=by show (xW .gO 0 u2++tb).map _=_;rw [List.map_append,xX,a2]
 have oz:=Classical.propDecidable
 let ρ:Lb→Option Lb:=fun l=>match look tab l with | some y=>some y | none=>if l=.out then some .out else none
 have hρt:∀p∈tab,ρ p.1=some p.2:=by
  intro p hp;have:=xV tab (by rw [W4];exact Eu) hp;show (match look tab p.1 with | some y=>some y | none=>_)=_;rw [this]
 have x5:∀ {l y},look tab l=some y→l∈cF u2++u1:=by
  intro l y hl;have:=wj tab hl;rw [←W4];exact List.mem_map.2 ⟨_,this,rfl⟩
 have hρr:∀p∈r2++r1,ρ (.sp p.1 p.2)=none:=by
  intro p hp;show (match look tab (.sp p.1 p.2) with | some y=>some y | none=>if Lb.sp p.1 p.2=.out then some Lb.out else none)=none
  cases hl:look tab (.sp p.1 p.2) with
  |some y=>exact absurd (x5 hl) (CI p hp)
  |none=>simp
 have hρo:ρ .out=some .out:=by
  show (match look tab Lb.out with | some y=>some y | none=>if Lb.out=Lb.out then some Lb.out else none)=_
  cases hl:look tab Lb.out with
  |some y=>have:=zZ _ (x5 hl);cases this
  |none=>simp
 have CS:K0 w0 mu (c.map ρ) w:=by
  refine ⟨fun b l hb => ?_,fun b hb hn => ?_,h.kept,by rw [←hm];exact h.old,fun b l hb => ?_⟩
  ·obtain ⟨k,hk,e⟩:=Cz.map_some hb;obtain ⟨g1,g2⟩:=h.owned b k hk;refine ⟨g1,?_⟩;rw [←hm];refine g2.imp (fun e2 => ?_) id;subst e2;rw [hρo] at e
   cases e;rfl
  ·rw [←hm,←gP.1]
   cases hk:c.own b with
   |none=>exact h.free b hb hk
   |some k=>
    have e:ρ k=none:=(Cz.kX (ρ:=ρ) hk).symm.trans hn;rcases (h.owned b k hk).2 with g | g | g
    ·subst g;rw [hρo] at e;cases e
    ·exact absurd g (Nat.not_le_of_lt hb)
    ·exact .inl g
  ·obtain ⟨k,hk,_⟩:=Cz.se hb;rw [←hm,←gP.2];exact h.mT b k hk
 have hX:=a4 ρ (fun p hp=>hρt p (List.mem_append_right _ hp)) (fun p hp=>hρr p (List.mem_append_right _ hp));have hR:=b6 ρ 0 (fun k l hk=>by
  have:=hρt _ (List.mem_append_left tb (vv .gO 0 u2 k l hk));exact this) (fun p hp=>hρr p (List.mem_append_left _ hp))
 refine ⟨_,GG b4,c.map ρ,CS,?_,by rw [b1];exact hX⟩;have hlen:vals.length=(fT rs (ck ps) x2).1.length:=by
  have:rs.length=fn.results.toList.length:=by
   have key:∀(l:List ResultVar) (m:List RP),xk T a.tmps l m→m.length=l.length:=by
    intro l
    induction l with
    |nil=>intro m hm;cases m with
     |nil=>rfl
     |cons _ _=>exact hm.elim
    |cons v l ih=>intro m hm;cases m with
     |nil=>exact hm.elim
     |cons r m=>simp [ih m hm.2]
   exact key _ _ M0
  rw [b5,b2,this]
 by_cases hs:vals.toArray.size=1
 ·rw [dif_pos hs];have xK:vals.length=1:=by simpa using hs
  obtain ⟨v,rfl⟩:∃v,vals=[v]:=by
   cases vals with
   |nil=>cases xK
   |cons v l=>cases l with
    |nil=>exact ⟨v,rfl⟩
    |cons _ _=>simp at xK
  rw [xK] at hlen
  cases ho:(fT rs (ck ps) x2).1 with
  |nil=>rw [ho] at hlen;cases hlen
  |cons r l=>cases l with
   |cons _ _=>rw [ho] at hlen;simp at hlen
   |nil=>
    rw [ho] at hR;exact .inl ⟨r,rfl,hR⟩
 ·rw [dif_neg hs];refine .inr ⟨by rw [←hlen];simpa using hs,vals.toArray,rfl,by simpa using hR⟩
theorem GH {P:Program} {T:lf} (hT:fQ P T) (hE:xg P T) {S:lO} (hS:oS P S) {D:nq} {f:FuncId} {fn:Func} {code:Code} {n:Nat} {ps:List AP} {rs:List RP} {L:qt (ar (dq rs (ck ps)))} {Ra:Nat→Array Oper→Prop}
  {t:ar (aE (ps.map some))→Option (ar (dq rs (ck ps)))}
  (hf:P.funcs[f]?=some fn) (hb:fn.body=some code) (hn:fn.ntmps=n) (Nh:ps.length≤n) (rW:jt n code=true) (yT:∀tm,xk T tm fn.results.toList rs)
  (hL:∀(w0:World) (mu:Mu) (y:ar (dq rs (ck ps))),mW ps mu→fG (oP P w0 mu n L y) code)
  (hD:∀(w0:World) (mu:Mu),s4 (ar (dq rs (ck ps))) P T S D w0 mu n Ra) (W5:fS Ra code)
  (N1:∀(w0:World) (mu:Mu) (c:Cz) (a:Act) (w:World) x,Rel w0 mu c (start n ps x) a w→a.tmps.size=n→∃c2 iz,Rel w0 mu c2 iz a w∧gq T S D L code iz (Ie rs ps)=t x):FnOk P f (qw ps rs t):=by
 intro c w mu lc dL args A y hH hA hs ho;unfold qw at hs
 cases hx:eR ps dL with
 |none=>rw [hx] at hs;cases hs
 |some x=>
  rw [hx] at hs;simp only [Option.some.injEq] at hs;subst hs;have hty:t x=some y:=ho;obtain ⟨CT,c',hm,gP,SJ,W6,JK,Su,hR⟩:=NZ hH hA hx Nh;refine calls_of_wp hf hb ?_;rw [hn];have kg:(args++Array.replicate (n-args.size) undef).size=n:=by simp;omega
  obtain ⟨c2,iz,hR2,W7⟩:=N1 w CT c' _ w x hR kg;refine Gi (x9 hT hE hS w CT n) (hD w CT) code rW (hL w CT y SJ) W5 (fun {e} {c1} {wc} {a1} {w1} h1 h2 h3 => ?_) hR2 kg (W7.trans hty);obtain ⟨he,v,qD,c2,H6,hV,hX⟩:=SI (P:=P) hT hm gP h1 (yT a1.tmps) Su.symm (by rw [←JK];simp) W6 h3;have NB:a1.defers=[]∧∃v,(results fn a1.tmps).run P w1=.ok v w1∧(∃v',Ending.returned v=.returned v'∧∃c',K0 w mu c' w1∧sd c' w1 (fT rs (ck ps) y).1 v'∧iI c' w1 lc 0 dL args.toList (nc ps (fT rs (ck ps) y).2)):=
   ⟨h1.plain,v,qD,v,rfl,c2,H6,hV,hX⟩
  rcases he with rfl | rfl<;>exact NB
theorem W8 {P:Program} {T:lf} (hT:fQ P T) (hE:xg P T) {S:lO} (hS:oS P S) {D:nq} {f:FuncId} {fn:Func} {code:Code} {n:Nat} {ps:List AP} {rs:List RP} {L:qt (ar (dq rs (ck ps)))} {Ra:Nat→Array Oper→Prop}
  {t:ar (aE (ps.map some))→Option (ar (dq rs (ck ps)))}
  (hf:P.funcs[f]?=some fn) (hb:fn.body=some code) (hn:fn.ntmps=n) (Nh:ps.length≤n) (rW:jt n code=true) (yT:∀tm,xk T tm fn.results.toList rs)
  (hL:∀(w0:World) (mu:Mu) (y:ar (dq rs (ck ps))),mW ps mu→fG (oP P w0 mu n L y) code)
  (hD:∀(w0:World) (mu:Mu),s4 (ar (dq rs (ck ps))) P T S D w0 mu n Ra) (W5:fS Ra code)
  (N1:∀x,gq T S D L code (start n ps x) (Ie rs ps)=t x):FnOk P f (qw ps rs t):=
 GH hT hE hS hf hb hn Nh rW yT hL hD W5 (fun _ _ c _ _ x h _=>⟨c,_,h,N1 x⟩)
end Go.TM
namespace Go.TM
open Go Go.RowKit
def iter {X E:Type} (round:X→Option (Sum X E)):Nat→X→Option E
 |0,_=>none
 |n+1,x=>match round x with
  |some (.inl y)=>iter round n y
  |some (.inr e)=>some e
  |none=>none
theorem zh {X E:Type} {round:X→Option (Sum X E)}:(n:Nat)→{x:X}→{e:E}→iter round n x=some e→∀m,n≤m→iter round m x=some e
 |0,_,_,h,_,_=>by cases h
 |n+1,x,e,h,0,hm=>by omega
 |n+1,x,e,h,m+1,hm=>by
  unfold iter at h ⊢
  cases hr:round x with
  |none=>rw [hr] at h;cases h
  |some z=>cases z with
   |inl y=>rw [hr] at h;exact zh n h m (by omega)
   |inr e'=>rw [hr] at h;exact h
noncomputable def aG {X E:Type} (round:X→Option (Sum X E)) (x:X):Option E:=
 have:=Classical.propDecidable (∃e n,iter round n x=some e)
 if h:∃e n,iter round n x=some e then some (Classical.choose h) else none
theorem BV {X E:Type} {round:X→Option (Sum X E)} {x:X} {e:E} {n:Nat} (h:iter round n x=some e):aG round x=some e:=by
 have hex:∃e n,iter round n x=some e:=⟨e,n,h⟩;unfold aG;simp only;rw [dif_pos hex];obtain ⟨m,hm⟩:=Classical.choose_spec hex;have h1:=zh m hm (max m n) (Nat.le_max_left _ _);have h2:=zh n h (max m n) (Nat.le_max_right _ _);rw [h1] at h2;exact h2
theorem tX {X E:Type} {round:X→Option (Sum X E)} {x:X} {e:E} (h:aG round x=some e):∃n,iter round n x=some e:=by
 unfold aG at h;simp only at h
 split at h
 ·rename_i hex;injection h with h;rw [←h];exact Classical.choose_spec hex
 ·cases h
theorem jA {X E:Type} (round:X→Option (Sum X E)) (x:X):aG round x=match round x with | some (.inl y)=>aG round y | some (.inr e)=>some e | none=>none:=by
 cases hr:round x with
 |none=>
  cases h:aG round x with
  |none=>rfl
  |some e=>
   obtain ⟨n,hn⟩:=tX h
   cases n with
   |zero=>cases hn
   |succ n=>unfold iter at hn;rw [hr] at hn;cases hn
 |some z=>cases z with
  |inr e=>exact BV (n:=1) (by unfold iter;rw [hr])
  |inl y=>
   simp only
   cases h:aG round y with
   |some e=>
    obtain ⟨n,hn⟩:=tX h;exact BV (n:=n+1) (by unfold iter;rw [hr];exact hn)
   |none=>
    cases h2:aG round x with
    |none=>rfl
    |some e=>
     obtain ⟨n,hn⟩:=tX h2
     cases n with
     |zero=>cases hn
     |succ n=>
      unfold iter at hn;rw [hr] at hn;rw [BV hn] at h
      cases h
def Rb (st:St) (hp:List (Option AP)):Option (ar (aE hp)):=
 (nJ st 0 hp).bind fun q=>bif tH q.2.1&&apart q.2.1 q.2.2 then some q.1 else none
def p8 (hp:List (Option AP)) (x:ar (aE hp)):St:=oA 0 (da hp x)
def iF:List AP→List (Option AP)→Bool
 | [],_=>true
 |.val _ _::ps,_::hp=>iF ps hp
 |.io _ _::ps,o::hp=>(match o with | none=>true | some (.io _ _)=>true | _=>false)&&iF ps hp
 |.box _ _::ps,o::hp=>(match o with | none=>true | some (.box l _)=>l | some (.val _ _)=>true | _=>false)&&iF ps hp
 |.cz _::_,_::_=>false
 |_::_,[]=>false
theorem tY:(ps:List AP)→(hp:List (Option AP))→iF ps hp=true→∀(i:Nat) (p:AP),ps[i]?=some p→∃o,hp[i]?=some o∧match p with
  |.val _ _=>True
  |.io _ _=>o=none∨∃r d,o=some (.io r d)
  |.box _ _=>o=none∨(∃a b,o=some (.val a b))∨∃b,o=some (.box true b)
  |.cz _=>False
 | [],_,_=>by intro i p h;simp at h
 |p::ps,[],h=>by cases p<;>simp [iF] at h
 |p::ps,o::hp,h=>by
  intro i p' hi;have fh:iF ps hp=true:=by
   cases p with
   |val _ _=>exact h
   |io _=>unfold iF at h;rw [Bool.and_eq_true] at h;exact h.2
   |cz _=>cases h
   |box _ _=>unfold iF at h;rw [Bool.and_eq_true] at h;exact h.2
  cases i with
  |succ i=>exact (tY ps hp fh i p' (by simpa using hi)).imp fun o ho=>⟨by simpa using ho.1,ho.2⟩
  |zero=>
   simp only [List.getElem?_cons_zero,Option.some.injEq] at hi;subst hi;refine ⟨o,rfl,?_⟩
   cases p with
   |val _ _=>trivial
   |cz _=>cases h
   |io _=>
    unfold iF at h;rw [Bool.and_eq_true] at h
    cases o with
    |none=>exact .inl rfl
    |some q=>cases q with
     |io r d=>exact .inr ⟨r,d,rfl⟩
     |val _ _=>cases h.1
     |box _ _=>cases h.1
     |cz _=>cases h.1
   |box _ _=>
    unfold iF at h;rw [Bool.and_eq_true] at h
    cases o with
    |none=>exact .inl rfl
    |some q=>cases q with
     |io r d=>cases h.1
     |cz _=>cases h.1
     |val a b=>exact .inr (.inl ⟨a,b,rfl⟩)
     |box l b=>
      have:l=true:=h.1;subst this;exact .inr (.inr ⟨b,rfl⟩)
end Go.TM
namespace Go.TM
open Go Go.RowKit
theorem N2 {st:St} {k:Nat} {rr:RT} {dd:Md} {t:RT} {V:V} {y:ar t} {x:ar (.cons (.sl rr) t)} {u:List Lb} {r:List (Nat×Nat)} (h:Ad st k (.io rr dd) t V y=some (x,u,r)):∃A,aV st k 0 1=some A∧cn rr A.xs=some x.1:=by
 cases V with
 |agg _=>cases h
 |nC _=>cases h
 |one cx=>cases cx with
  |ref a j g vw=>cases vw with
   |full=>
    have h:(bif Nat.beq a k&&(Nat.beq j 0&&Nat.beq g 1) then ((aV st a j g).bind fun A=>bif A.own&&A.md.is dd then (cn rr A.xs).map fun xs=>((xs,y),[Lb.sp a j],([]:List (Nat×Nat))) else none) else none)=some (x,u,r):=h;obtain ⟨h1,h2⟩:=aJ h;rw [Bool.and_eq_true,Bool.and_eq_true] at h1;have e1:=Nat.eq_of_beq_eq_true h1.1;have e2:=Nat.eq_of_beq_eq_true h1.2.1;have e3:=Nat.eq_of_beq_eq_true h1.2.2;subst e1 e2 e3;obtain ⟨A,hA,h3⟩:=Option.bind_eq_some_iff.1 h2;obtain ⟨_,h4⟩:=aJ h3;obtain ⟨xs,Q7,e⟩:=Option.map_eq_some_iff.1 h4;injection e with e _;exact ⟨A,hA,by rw [Q7,←e];rfl⟩
   |«from» _=>cases h
   |sub _ _=>cases h
  |_=>cases h
theorem Ln {st:St} {k:Nat} {qs:List OP} {t:RT} {V:V} {y:ar t} {x:ar (mH qs t)} {u:List Lb} {r:List (Nat×Nat)} (h:Ad st k (.box true qs) t V y=some (x,u,r)):V=.one (.ptr k 1 0)∧∃cs,dH st k 1=some cs:=by
 cases V with
 |agg _=>cases h
 |nC _=>cases h
 |one cx=>cases cx with
  |ptr b g off=>
   have h:(bif Nat.beq off 0&&(!true||(Nat.beq b k&&Nat.beq g 1)) then ((dH st b g).bind fun cs=>(lk st qs t cs y).map fun q=>(q.1,Lb.box b::cF q.2.1,q.2.2)) else none)=some (x,u,r):=h;obtain ⟨h1,h2⟩:=aJ h;simp only [Bool.not_true,Bool.false_or] at h1;rw [Bool.and_eq_true,Bool.and_eq_true] at h1;have e1:=Nat.eq_of_beq_eq_true h1.1;have e2:=Nat.eq_of_beq_eq_true h1.2.1;have e3:=Nat.eq_of_beq_eq_true h1.2.2;subst e1 e2 e3;obtain ⟨cs,uZ,_⟩:=Option.bind_eq_some_iff.1 h2;exact ⟨rfl,cs,uZ⟩
  |_=>cases h
theorem vG {w0:World} {mu:Mu} {c:Cz} {st:St} {a:Act} {w:World} (h:Rel w0 mu c st a w):(l:List (Option AP))→(k:Nat)→{x:ar (aE l)}→{u:List Lb}→{r:List (Nat×Nat)}→nJ st k l=some (x,u,r)→∀(i:Nat),
  (∀rr dd,l[i]?=some (some (.io rr dd))→∃B A:gM,(da l x)[i]?=some (some (.io B))∧aV st (k+i) 0 1=some A∧B.r.width=A.r.width∧B.xs.length=A.xs.length)∧
  (∀qs,l[i]?=some (some (.box true qs))→(∃cs,dH st (k+i) 1=some cs)∧cC st (k+i)=.one (.ptr (k+i) 1 0))∧
  (l[i]?=some none→(da l x)[i]?=some none)∧(∀ag b,l[i]?=some (some (.val ag b))→∃os,(da l x)[i]?=some (some (.val ag os)))
 | [],k,x,u,r,he=>by intro i;simp
 |none::l,k,x,u,r,he=>by
  intro i
  cases i with
  |zero=>exact ⟨fun _ _ h=>by simp at h,fun _ h=>by simp at h,fun _=>rfl,fun _ _ h=>by simp at h⟩
  |succ i=>
   have:=vG h l (k+1) he i;rw [show k+1+i=k+(i+1) by omega] at this;exact this
 |some p::l,k,x,u,r,he=>by
  intro i;unfold nJ at he
  cases h1:nJ st (k+1) l with
  |none=>simp [h1] at he
  |some q1=>
   obtain ⟨y,us,rs⟩:=q1;simp only [h1] at he
   cases h2:Ad st k p (aE l) (cC st k) y with
   |none=>simp [h2] at he
   |some q2=>
    obtain ⟨x1,u1,r1⟩:=q2;simp only [h2] at he;injection he with he;injection he with e1 e2;subst e1
    cases i with
    |succ i=>
     have hh:=vG h l (k+1) h1 i;rw [show k+1+i=k+(i+1) by omega] at hh;have e:(p.av (aE l) x1).2=y:=(yc h k (h.ey k) h2).1;have e2:(da (some p::l) x1)[i+1]?=(da l y)[i]?:=by
      show (da l (p.av (aE l) x1).2)[i]?=_;rw [e]
     rw [e2];exact hh
    |zero=>
     have e2:(da (some p::l) x1)[0]?=some (some (p.av (aE l) x1).1):=rfl;rw [e2];simp only [List.getElem?_cons_zero,Option.some.injEq,Nat.add_zero];refine ⟨fun rr dd e => ?_,fun qs e => ?_,(fun e=>by cases e),fun ag b e => ?_⟩
     ·subst e;obtain ⟨A,hA,hc⟩:=N2 h2;obtain ⟨er,MG⟩:=bH hc;refine ⟨_,A,rfl,hA,by show rr.width=_;rw [←er],?_⟩;show List.length (x1.1:List (ar rr))=_;rw [MG]
      cases er
      rfl
     ·subst e;obtain ⟨q1,q2⟩:=Ln h2;exact ⟨q2,q1⟩
     ·subst e;exact ⟨_,rfl⟩
end Go.TM
namespace Go.TM
open Go Go.RowKit
theorem SK {w0:World} {mu:Mu} {c:Cz} {st:St} {a:Act} {w:World} (h:Rel w0 mu c st a w) {ps:List AP} (hs:mW ps mu) {hp:List (Option AP)} (rj:iF ps hp=true) {x:ar (aE hp)} (hx:Rb st hp=some x):∃c',Rel w0 mu c' (p8 hp x) a w:=by
 obtain ⟨q,hq,KO⟩:=Option.bind_eq_some_iff.1 hx;obtain ⟨sA,Ev⟩:=aJ KO;injection Ev with Ev;obtain ⟨x0,u,r⟩:=q;subst Ev;rw [Bool.and_eq_true] at sA;obtain ⟨zZ,tb,NA,WJ,hold⟩:=vF h hp 0 hq;have Rc:=vG h hp 0 hq;have Eu:=pk _ zZ sA.1;have CI:∀p∈r,Lb.sp p.1 p.2∉u:=by
  intro p hp hm;have h1:=List.all_eq_true.1 sA.2 p hp;have h2:=List.all_eq_true.1 h1 _ hm;rw [(Lb.xU rfl).2 rfl] at h2
  cases h2
 have oz:=Classical.propDecidable
 let ρ:Lb→Option Lb:=fun l=>match look tb l with | some y=>some y | none=>if l=.out then some .out else none
 have hρt:∀p∈tb,ρ p.1=some p.2:=by
  intro p hp;have:=xV tb (by rw [NA];exact Eu) hp;show (match look tb p.1 with | some y=>some y | none=>_)=_;rw [this]
 have x5:∀ {l y},look tb l=some y→l∈u:=by
  intro l y hl;have:=wj tb hl;rw [←NA];exact List.mem_map.2 ⟨_,this,rfl⟩
 have hρr:∀p∈r,ρ (.sp p.1 p.2)=none:=by
  intro p hp;show (match look tb (.sp p.1 p.2) with | some y=>some y | none=>if Lb.sp p.1 p.2=.out then some Lb.out else none)=none
  cases hl:look tb (.sp p.1 p.2) with
  |some y=>exact absurd (x5 hl) (CI p hp)
  |none=>simp
 have hρo:ρ .out=some .out:=by
  show (match look tb Lb.out with | some y=>some y | none=>if Lb.out=Lb.out then some Lb.out else none)=_
  cases hl:look tb Lb.out with
  |some y=>have:=zZ _ (x5 hl);cases this
  |none=>simp
 have CS:K0 w0 mu (c.map ρ) w:=by
  refine ⟨fun b l hb => ?_,fun b hb hn => ?_,h.kept,h.old,fun b l hb => ?_⟩
  ·obtain ⟨k,hk,e⟩:=Cz.map_some hb;obtain ⟨g1,g2⟩:=h.owned b k hk;refine ⟨g1,g2.imp (fun e2 => ?_) id⟩;subst e2;rw [hρo] at e
   cases e;rfl
  ·cases hk:c.own b with
   |none=>exact h.free b hb hk
   |some k=>
    have e:ρ k=none:=(Cz.kX (ρ:=ρ) hk).symm.trans hn;rcases (h.owned b k hk).2 with g | g | g
    ·subst g;rw [hρo] at e;cases e
    ·exact absurd g (Nat.not_le_of_lt hb)
    ·exact .inl g
  ·obtain ⟨k,hk,_⟩:=Cz.se hb;exact h.mT b k hk
 refine Rel.JH CS h.plain (hold ρ hρt hρr) (fun p hpm => ?_);have Qg:=h.dF p hpm;have hlen:∀(i:Nat) (o:Option AP),hp[i]?=some o→i<(da hp x0).length:=fun i o ho=>by rw [qE];exact (List.getElem?_eq_some_iff.1 ho).1
 rcases hs p hpm with ⟨i,rr,W,n,l,rfl,dd,Sj⟩ | ⟨i,oq,b,qs,rfl,Sj⟩ | ⟨i,j,W,n,l,qs,rfl,Sj⟩
 ·obtain ⟨o,ho,W9⟩:=tY ps hp rj i _ Sj;refine ⟨rfl,hlen i o ho,fun av Gs=>.inl ?_⟩;rcases W9 with rfl | ⟨r2,d2,rfl⟩
  ·rw [(Rc i).2.2.1 ho] at Gs;cases Gs
  ·obtain ⟨B,A,e1,e2,e3,e4⟩:=(Rc i).1 r2 d2 ho;rw [e1] at Gs;simp only [Option.some.injEq] at Gs;rw [Nat.zero_add] at e2;obtain ⟨f1,f2,f3⟩:=Qg.2 A e2;exact ⟨B,Gs.symm,fun _=>⟨e3.trans f1,e4.trans f2,f3⟩⟩
 ·obtain ⟨o,ho,W9⟩:=tY ps hp rj i _ Sj;refine ⟨rfl,hlen i o ho,fun os ri => ?_⟩;rcases W9 with rfl | ⟨a1,b1,rfl⟩ | ⟨b1,rfl⟩
  ·rw [(Rc i).2.2.1 ho] at ri;cases ri
  ·obtain ⟨xT,e⟩:=(Rc i).2.2.2 a1 b1 ho;rw [e] at ri;cases ri
  ·obtain ⟨⟨cs,uZ⟩,hv⟩:=(Rc i).2.1 b1 ho;rw [Nat.zero_add] at uZ hv;have s7:=h.ey i;rw [hv] at s7;rw [s7.2.2 cs uZ,Qg.2 cs uZ]
 ·obtain ⟨o,ho,W9⟩:=tY ps hp rj i _ Sj;exact W9.elim
def JL:List OP→List CV→List (Nat×Nat)
 |.own _ .lz::ps,.ref a j _ _::cs=>(a,j)::JL ps cs
 |_::ps,_::cs=>JL ps cs
 |_,_=>[]
def BW (st:St):(k:Nat)→List (Option AP)→List (Nat×Nat)
 |_,[]=>[]
 |k,some (.box _ qs)::l=>(match cC st k with | .one (.ptr b g _)=>(match dH st b g with | some cs=>JL qs cs | none=>[]) | _=>[])++BW st (k+1) l
 |k,some (.val _ qs)::l=>JL qs (cC st k).cells++BW st (k+1) l
 |k,_::l=>BW st (k+1) l
def GI (st:St) (hp:List (Option AP)):Option (ar (aE hp)):=Rb (C8 st (BW st 0 hp)) hp
theorem AU {w0:World} {mu:Mu} {c:Cz} {st:St} {a:Act} {w:World} (h:Rel w0 mu c st a w) {ps:List AP} (hs:mW ps mu) {hp:List (Option AP)} (rj:iF ps hp=true) {x:ar (aE hp)} (hx:GI st hp=some x):∃c',Rel w0 mu c' (p8 hp x) a w:=by
 obtain ⟨c1,h1,_⟩:=BP (BW st 0 hp) h;exact SK h1 hs rj hx
def zi (id:Nat) (hp e0 e1:List (Option AP)):Ex→St→Option (Sum (ar (aE hp)) (Sum (ar (aE e0)) (ar (aE e1))))
 |.normal,st=>(GI st hp).map .inl
 |.exit m,st=>bif Nat.beq m id then (GI st e0).map fun y=>.inr (.inl y) else none
 |.ret,st=>(GI st e1).map fun y=>.inr (.inr y)
noncomputable def zj {R:Type} (hp e0 e1:List (Option AP)) (round:ar (aE hp)→Option (Sum (ar (aE hp)) (Sum (ar (aE e0)) (ar (aE e1))))) (st:St) (k:Ex→St→Option R):Option R:=
 (GI st hp).bind fun x=>(aG round x).bind fun z=>match z with
  |.inl y=>k .normal (p8 e0 y)
  |.inr y=>k .ret (p8 e1 y)
theorem Qh {R:Type} {P:Program} {T:lf} {S:lO} {D:nq} {n id:Nat} {w0:World} {mu:Mu} {ps:List AP} {hp e0 e1:List (Option AP)} {b:Code} {r:R} {L:qt R} {Ra:Nat→Array Oper→Prop}
  {L':qt (Sum (ar (aE hp)) (Sum (ar (aE e0)) (ar (aE e1))))} {round:ar (aE hp)→Option (Sum (ar (aE hp)) (Sum (ar (aE e0)) (ar (aE e1))))}
  (FI:tT P T S w0 mu n) (hD:s4 (Sum (ar (aE hp)) (Sum (ar (aE e0)) (ar (aE e1)))) P T S D w0 mu n Ra) (hs:mW ps mu) (hf:(iF ps hp&&(iF ps e0&&iF ps e1))=true) (rW:jt n b=true) (W5:fS Ra b)
  (zR:∀z,fG (oP P w0 mu n L' z) b) (Ig:∀x,gq T S D L' b (p8 hp x) (zi id hp e0 e1)=round x) (hL:∀st k,L id b st k=zj hp e0 e1 round st k):oP P w0 mu n L r id b:=by
 intro k Q hk c st a w h hn hv;rw [Bool.and_eq_true,Bool.and_eq_true] at hf;rw [hL] at hv;unfold zj at hv;obtain ⟨x,hx,hv⟩:=Option.bind_eq_some_iff.1 hv;obtain ⟨z,hz,hv⟩:=Option.bind_eq_some_iff.1 hv;obtain ⟨c1,h1⟩:=AU h hs hf.1 hx;obtain ⟨m,hm⟩:=tX hz;refine wp_block ?_;refine wp_loop_ghost (fun m a w=>∃x c,Rel w0 mu c (p8 hp x) a w∧a.tmps.size=n∧iter round m x=some z) m ⟨x,c1,h1,hn,hm⟩ ?_
 rintro m a w ⟨x,c,hR,hn,hi⟩
 cases m with
 |zero=>cases hi
 |succ m=>
  unfold iter at hi
  cases hr:round x with
  |none=>rw [hr] at hi;cases hi
  |some y=>
   rw [hr] at hi;refine Gi FI hD b rW (zR y) W5 (fun {e} {c2} {iz} {a2} {w2} g1 g2 g3 => ?_) hR hn ((Ig x).trans hr)
   cases e with
   |normal=>
    obtain ⟨x2,q1,rfl⟩:=Option.map_eq_some_iff.1 g3;obtain ⟨c3,g4⟩:=AU g1 hs hf.1 q1;exact ⟨m,Nat.lt_succ_self m,x2,c3,g4,g2,hi⟩
   |exit m'=>
    obtain ⟨hid,g5⟩:=aJ g3;have hid:=Nat.eq_of_beq_eq_true hid;subst hid;obtain ⟨x2,q1,rfl⟩:=Option.map_eq_some_iff.1 g5;injection hi with hi;subst hi;obtain ⟨c3,g4⟩:=AU g1 hs hf.2.1 q1;show (if m'=m' then Q .normal a2 w2 else Q (.exit m') a2 w2);rw [if_pos rfl];exact hk g4 g2 hv
   |ret=>
    obtain ⟨x2,q1,rfl⟩:=Option.map_eq_some_iff.1 g3;injection hi with hi;subst hi;obtain ⟨c3,g4⟩:=AU g1 hs hf.2.2 q1;exact hk g4 g2 hv
end Go.TM
namespace Go.TM
open Go Go.RowKit
section
variable {P:Program} {ops:Array Oper} {Q:Exit→Act→World→Prop} {md:Region.Mode} {ds:List Nat}
def sC (md:Region.Mode) (ops:Array Oper) (i:Nat):Nat→Nat→Bool
 |0,_=>false
 |fuel+1,d=>match ops[d]? with
  |some o=>o.after.any fun e=>Region.binds md e&&(e.on==i||sC md ops i fuel e.on)
  |none=>false
def sD (md:Region.Mode) (ops:Array Oper) (aU:Array Bool):Prop:=
 ∀j oj,ops[j]?=some oj→aU.getD j false=true→∀e∈oj.after,Region.binds md e=true→aU.getD e.on false=true
theorem sD.set {aU:Array Bool} {i:Nat} (h:sD md ops aU) (hi:i∈Region.ready md ops aU):sD md ops (aU.setIfInBounds i true):=by
 obtain ⟨_,oi,JM,ot⟩:=mem_ready.1 hi;intro j oj hj hl e he hb
 by_cases hij:i=j
 ·subst hij;have:oj=oi:=Option.some.inj (hj.symm.trans JM);subst this;exact getD_set_true (ot e he hb)
 ·rw [getD_set_ne false hij] at hl;exact getD_set_true (h j oj hj hl e he hb)
theorem sD.none (md:Region.Mode) (ops:Array Oper) (n:Nat):sD md ops (Array.replicate n false):=by
 intro j oj _ hl;simp [Array.getD_eq_getD_getElem?,Array.getElem?_replicate] at hl
 split at hl<;>simp at hl
theorem yh {aU:Array Bool} {i:Nat} (hc:sD md ops aU):∀(fuel d:Nat),sC md ops i fuel d=true→aU.getD d false=true→aU.getD i false=true
 |0,_,h,_=>by simp [sC] at h
 |fuel+1,d,h,hl=>by
  unfold sC at h
  cases ho:ops[d]? with
  |none=>rw [ho] at h;simp at h
  |some o=>
   rw [ho] at h;obtain ⟨e,he,h1⟩:=Array.any_eq_true'.1 h;simp only [Bool.and_eq_true,Bool.or_eq_true,beq_iff_eq] at h1;have hle:=hc d o ho hl e he h1.1;rcases h1.2 with h2 | h2
   ·rw [←h2];exact hle
   ·exact yh hc fuel e.on h2 hle
theorem Az {aU:Array Bool} {i d fuel:Nat} (hc:sD md ops aU) (hr:sC md ops i fuel d=true) (FJ:aU.getD i true=false):d∉Region.ready md ops aU:=by
 intro hd;obtain ⟨_,o,ho,ot⟩:=mem_ready.1 hd;have hi:aU.getD i false=true:=by
  cases fuel with
  |zero=>simp [sC] at hr
  |succ n=>
   unfold sC at hr;rw [ho] at hr;obtain ⟨e,he,h1⟩:=Array.any_eq_true'.1 hr;simp only [Bool.and_eq_true,Bool.or_eq_true,beq_iff_eq] at h1;have hle:=ot e he h1.1;rcases h1.2 with h2 | h2
   ·rw [←h2];exact hle
   ·exact yh hc n e.on h2 hle
 rcases Nat.lt_or_ge i aU.size with h' | h'
 ·simp [h'] at FJ hi;rw [FJ] at hi
  cases hi
 ·simp [Array.getElem?_eq_none h'] at FJ
def oU (P:Program) (md:Region.Mode) (ops:Array Oper) (Q:Exit→Act→World→Prop) (ds:List Nat):Nat→Array Bool→Act→World→Prop
 |0,aU,a,w=>Region.ready md ops aU=[]∧Q .normal a w
 |fuel+1,aU,a,w=>
  (Region.ready md ops aU=[]→Q .normal a w)∧
  ∀i∈Region.ready md ops aU,wpOp P ops Q i (fun a' w'=>(i∉ds→iM w w')∧oU P md ops Q ds fuel (aU.setIfInBounds i true) a' w') a w
theorem wT:∀(fuel:Nat) (aU:Array Bool) (a:Act) (w:World),oU P md ops Q ds fuel aU a w→wpAny P md ops Q fuel aU a w
 |0,_,_,_,h=>h
 |fuel+1,_,_,_,h=>⟨h.1,fun i hi=>wpOp_mono (fun a' w' h'=>wT fuel _ a' w' h'.2) (h.2 i hi)⟩
theorem EC {i:Nat} {oi:Oper} {v:Value} {w0:World} (hi:ops[i]?=some oi) (GJ:∀(j:Nat) (o:Oper) cs b,ops[j]?=some o→o.op≠.select cs b)
  (hQ:∀c a w,Q (.panic c) (a.put oi.dst v) w→Q (.panic c) a w) (n:Nat) :
  ∀(fuel:Nat) (aU:Array Bool) (a:Act) (w:World),
   (∀j oj,ops[j]?=some oj→j≠i→aU.getD j true=false→(∀e∈oj.after,Region.binds md e=true→e.on≠i)→oi.apart ops oj=true)→
   sD md ops aU→(∀d∈ds,aU.getD d true=false→sC md ops i n d=true)→
   i∈Region.ready md ops aU→YieldsIf P ops (iM w0) oi v a→iM w0 w→
   oU P md ops Q ds fuel (aU.setIfInBounds i true) (a.put oi.dst v) w→oU P md ops Q ds (fuel+1) aU a w:=by
 intro fuel
 induction fuel with
 |zero=>
  intro aU a w _ _ _ hr hy hS H;refine ⟨fun h=>(by rw [h] at hr;cases hr),fun j hj => ?_⟩
  by_cases ED:j=i
  ·subst ED;exact hy.wpOp hi hS ⟨fun _=>iM.refl w,H⟩
  ·have:=ready_mono hj ED;rw [H.1] at this
   cases this
 |succ fuel ih=>
  intro aU a w BA hc hd hr hy hS H;refine ⟨fun h=>(by rw [h] at hr;cases hr),fun j hj => ?_⟩
  by_cases ED:j=i
  ·subst ED;exact hy.wpOp hi hS ⟨fun _=>iM.refl w,H⟩
  ·have h1:=H.2 j (ready_mono hj ED);obtain ⟨Ih,oj,SL,ot⟩:=mem_ready.1 hj;have Lo:=(mem_ready.1 hr).1;have Ll:∀e∈oj.after,Region.binds md e=true→e.on≠i:=fun e he hb heq=>by
    have h1:=ot e he hb;rw [heq] at h1;rcases Nat.lt_or_ge i aU.size with h' | h'
    ·simp [h'] at Lo h1;rw [Lo] at h1;cases h1
    ·simp [Array.getElem?_eq_none h'] at h1
   have hjd:j∉ds:=fun hm=>Az hc (hd j hm Ih) Lo hj
   have h2:=wpOp_putIf SL (BA j oj SL ED Ih Ll) (fun cs b=>GJ i oi cs b hi) (fun cs b=>GJ j oj cs b SL) hQ hy h1;have Ii:∀k ok,ops[k]?=some ok→k≠i→(aU.setIfInBounds j true).getD k true=false→
     (∀e∈ok.after,Region.binds md e=true→e.on≠i)→oi.apart ops ok=true:=fun k ok hk hki FJ Jv=>by
    refine BA k ok hk hki ?_ Jv
    by_cases zk:j=k
    ·subst zk;exact Ih
    ·rw [getD_set_ne true zk] at FJ;exact FJ
   have Ib:∀d∈ds,(aU.setIfInBounds j true).getD d true=false→sC md ops i n d=true:=fun d hm FJ=>by
    refine hd d hm ?_
    by_cases zk:j=d
    ·subst zk;exact Ih
    ·rw [getD_set_ne true zk] at FJ;exact FJ
   refine wpOp_mono (fun a' w' h3=>⟨h3.2.1,ih (aU.setIfInBounds j true) a' w' Ii (hc.set hj) Ib (ready_mono hr (Ne.symm ED)) h3.1 (hS.trans (h3.2.1 hjd)) ?_⟩) h2;rw [Array.setIfInBounds_comm _ _ ED];exact h3.2.2
theorem Ij {i:Nat} {oi:Oper} {v:Value} (hi:ops[i]?=some oi) (GJ:∀(j:Nat) (o:Oper) cs b,ops[j]?=some o→o.op≠.select cs b)
  (hQ:∀c a w,Q (.panic c) (a.put oi.dst v) w→Q (.panic c) a w) :
  ∀(fuel:Nat) (aU:Array Bool) (a:Act) (w:World),
   (∀j oj,ops[j]?=some oj→j≠i→aU.getD j true=false→(∀e∈oj.after,Region.binds md e=true→e.on≠i)→oi.apart ops oj=true)→
   i∈Region.ready md ops aU→Yields P ops oi v a→
   oU P md ops Q ds fuel (aU.setIfInBounds i true) (a.put oi.dst v) w→oU P md ops Q ds (fuel+1) aU a w:=by
 intro fuel
 induction fuel with
 |zero=>
  intro aU a w _ hr hy H;refine ⟨fun h=>(by rw [h] at hr;cases hr),fun j hj => ?_⟩
  by_cases ED:j=i
  ·subst ED;exact (hy.yieldsIf (S:=fun _=>True)).wpOp hi trivial ⟨fun _=>iM.refl w,H⟩
  ·have:=ready_mono hj ED;rw [H.1] at this
   cases this
 |succ fuel ih=>
  intro aU a w BA hr hy H;refine ⟨fun h=>(by rw [h] at hr;cases hr),fun j hj => ?_⟩
  by_cases ED:j=i
  ·subst ED;exact (hy.yieldsIf (S:=fun _=>True)).wpOp hi trivial ⟨fun _=>iM.refl w,H⟩
  ·have h1:=H.2 j (ready_mono hj ED);obtain ⟨Ih,oj,SL,ot⟩:=mem_ready.1 hj;have Lo:=(mem_ready.1 hr).1;have Ll:∀e∈oj.after,Region.binds md e=true→e.on≠i:=fun e he hb heq=>by
    have h1:=ot e he hb;rw [heq] at h1;rcases Nat.lt_or_ge i aU.size with h' | h'
    ·simp [h'] at Lo h1;rw [Lo] at h1;cases h1
    ·simp [Array.getElem?_eq_none h'] at h1
   have h2:=wpOp_put SL (BA j oj SL ED Ih Ll) (fun cs b=>GJ i oi cs b hi) (fun cs b=>GJ j oj cs b SL) hQ hy h1;have Ii:∀k ok,ops[k]?=some ok→k≠i→(aU.setIfInBounds j true).getD k true=false→
     (∀e∈ok.after,Region.binds md e=true→e.on≠i)→oi.apart ops ok=true:=fun k ok hk hki FJ Jv=>by
    refine BA k ok hk hki ?_ Jv
    by_cases zk:j=k
    ·subst zk;exact Ih
    ·rw [getD_set_ne true zk] at FJ;exact FJ
   refine wpOp_mono (fun a' w' h3=>⟨h3.2.1,ih (aU.setIfInBounds j true) a' w' Ii (ready_mono hr (Ne.symm ED)) h3.1 ?_⟩) h2;rw [Array.setIfInBounds_comm _ _ ED];exact h3.2.2
end
end Go.TM
namespace Go.TM
open Go Go.RowKit
def xl (i:Nat):List Nat→Bool
 | []=>false
 |x::l=>Nat.beq x i||xl i l
def Re (ops:List Oper) (ls:List Nat) (j:Nat):Bool:=
 match nth ops j with
 |some o => !xl j ls&&o.after.toList.all fun e => !Region.binds .any e||xl e.on ls
 |none=>false
def JN (ops:Array Oper) (GK:List Oper) (n:Nat) (ls:List Nat) (i:Nat):Bool:=
 match nth GK i with
 |some oi=>(List.range n).all fun j=>Nat.beq j i||(xl j ls||match nth GK j with
  |some oj=>(oj.after.toList.any fun e=>Region.binds .any e&&Nat.beq e.on i)||oi.apart ops oj
  |none=>true)
 |none=>false
def EE (GK:List Oper) (n:Nat) (ls:List Nat) (i:Nat):Bool:=(List.range n).all fun j=>Nat.beq j i || !Re GK ls j
def Pl.da:Pl→List Nat
 |.nil=>[]
 |.op i _ _=>[i]
 |.alt p q=>p.da++q.da
def N3 (GK:List Oper) (n:Nat) (ls hs:List Nat):Bool:=(List.range n).all fun j => !Re GK ls j||xl j hs
def ll (ops:Array Oper) (GK:List Oper) (n:Nat) (ds:List Nat):Bool→List Nat→Pl→Bool
 |al,ls,.nil => !al&&(List.range n).all fun j => !Re GK ls j
 |al,ls,.op i kd r=>Re GK ls i&&((match kd with
   |.any => !al&&JN ops GK n ls i
   |.take => !al&&(JN ops GK n ls i&&ds.all fun d=>xl d ls||sC .any ops i n d)
   |.one=>al||EE GK n ls i
   |.last=>(al||EE GK n ls i)&&xl i ds)&&ll ops GK n ds false (i::ls) r)
 |al,ls,.alt p q=>(al||N3 GK n ls (p.da++q.da))&&(ll ops GK n ds true ls p&&ll ops GK n ds true ls q)
def DG:Pl→List Nat
 |.nil=>[]
 |.op i .last l=>i::DG l
 |.op _ _ l=>DG l
 |.alt p q=>DG p++DG q
def Pl.depth:Pl→Nat
 |.nil=>0
 |.op _ _ l=>l.depth+1
 |.alt p q=>Nat.max p.depth q.depth
def BX (ops:Array Oper) (l:Pl):Bool:=
 Region.noSelect ops&&(Nat.ble l.depth ops.size&&ll ops ops.toList ops.size (DG l) false [] l)
structure Py (n:Nat) (ls:List Nat) (aU:Array Bool):Prop where
 size:aU.size=n
 gf:∀j,aU.getD j false=xl j ls
 gt:∀j,aU.getD j true=(xl j ls||decide (n≤j))
theorem Py.push {n:Nat} {ls:List Nat} {aU:Array Bool} (h:Py n ls aU) {i:Nat} (hi:i<n):Py n (i::ls) (aU.setIfInBounds i true) where
 size:=by simp [h.size]
 gf:=fun j=>by
  unfold xl
  by_cases e:i=j
  ·subst e;have:Nat.beq i i=true:=Nat.beq_refl i;rw [this];simp [h.size,hi]
  ·rw [getD_set_ne false e,h.gf j];have:Nat.beq i j=false:=by
    cases hq:Nat.beq i j
    ·rfl
    ·exact absurd (Nat.eq_of_beq_eq_true hq) e
   simp [this]
 gt:=fun j=>by
  unfold xl
  by_cases e:i=j
  ·subst e;simp [h.size,hi]
  ·rw [getD_set_ne true e,h.gt j];have:Nat.beq i j=false:=by
    cases hq:Nat.beq i j
    ·rfl
    ·exact absurd (Nat.eq_of_beq_eq_true hq) e
   simp [this]
theorem Py.none (n:Nat):Py n [] (Array.replicate n false) where
 size:=by simp
 gf:=fun j=>by
  simp only [Array.getD_eq_getD_getElem?,Array.getElem?_replicate,xl]
  split<;>rfl
 gt:=fun j=>by
  simp only [Array.getD_eq_getD_getElem?,Array.getElem?_replicate,xl]
  split
  ·rename_i h;simp;omega
  ·rename_i h;simp;omega
theorem wo {ops:Array Oper} {ls:List Nat} {aU:Array Bool} (h:Py ops.size ls aU) (j:Nat):Re ops.toList ls j=true↔j∈Region.ready .any ops aU:=by
 rw [mem_ready];unfold Re;rw [gX,Array.getElem?_toList,h.gt j]
 cases ho:ops[j]? with
 |none=>simp
 |some o=>
  have dG:j<ops.size:=(Array.getElem?_eq_some_iff.1 ho).1;have hn:decide (ops.size≤j)=false:=by simp;omega
  simp only [hn,Bool.or_false,Bool.and_eq_true,Bool.not_eq_true',List.all_eq_true,Array.mem_toList_iff,Bool.or_eq_true,Option.some.injEq,exists_eq_left',h.gf]
  constructor
  ·rintro ⟨h0,h1⟩
   exact ⟨h0,fun e he hb=>(h1 e he).resolve_left (by simp [hb])⟩
  ·rintro ⟨h0,h1⟩
   refine ⟨h0,fun e he => ?_⟩
   cases hb:Region.binds .any e
   ·exact .inl rfl
   ·exact .inr (h1 e he hb)
theorem Lp {i j:Nat} (h:i≠j):Nat.beq i j=false:=by
 cases hq:Nat.beq i j
 ·rfl
 ·exact absurd (Nat.eq_of_beq_eq_true hq) h
theorem BY {ops:Array Oper} {ls:List Nat} {aU:Array Bool} (h:Py ops.size ls aU) {i:Nat} {oi:Oper} (hi:ops[i]?=some oi) (hf:JN ops ops.toList ops.size ls i=true) :
  ∀j oj,ops[j]?=some oj→j≠i→aU.getD j true=false→(∀e∈oj.after,Region.binds .any e=true→e.on≠i)→oi.apart ops oj=true:=by
 intro j oj hj ED FJ Jv;unfold JN at hf;rw [gX,Array.getElem?_toList,hi] at hf;have dG:j<ops.size:=(Array.getElem?_eq_some_iff.1 hj).1;have h1:=List.all_eq_true.1 hf j (List.mem_range.2 dG);rw [gX,Array.getElem?_toList,hj,Lp ED,Bool.false_or] at h1;rw [h.gt j,Bool.or_eq_false_iff] at FJ;rw [FJ.1,Bool.false_or,Bool.or_eq_true] at h1;rcases h1 with h1 | h1
 ·obtain ⟨e,he,h2⟩:=List.any_eq_true.1 h1;rw [Bool.and_eq_true] at h2;exact absurd (Nat.eq_of_beq_eq_true h2.2) (Jv e (Array.mem_toList_iff.1 he) h2.1)
 ·exact h1
theorem GL {ops:Array Oper} {ls:List Nat} {aU:Array Bool} (h:Py ops.size ls aU) {i:Nat} (hf:EE ops.toList ops.size ls i=true):∀j∈Region.ready .any ops aU,j=i:=by
 intro j hj;have dG:j<ops.size:=by
  obtain ⟨_,o,ho,_⟩:=mem_ready.1 hj;exact (Array.getElem?_eq_some_iff.1 ho).1
 have h1:=List.all_eq_true.1 hf j (List.mem_range.2 dG);rw [(wo h j).2 hj,Bool.not_true,Bool.or_false] at h1;exact Nat.eq_of_beq_eq_true h1
theorem yl {P:Program} {T:lf} {S:lO} {w0:World} {mu:Mu} {c:Cz} {st bd:St} {a:Act} {w:World} {ops:Array Oper} {o:Oper} {C:World→Prop} (h:Rel w0 mu c st a w)
  (hd:∀k,o.dst=some k→k<a.tmps.size) (hv:(yN T S ops.toList st o).val=some bd)
  (base:(Hz T S st o).val=some bd→∃v,(∀w':World,C w'→(execOp a.eval o).run P w'=.ok (.value v) w')∧Rel w0 mu c bd (a.put o.dst v) w) :
  ∃v,YieldsIf P ops C o v a∧Rel w0 mu c bd (a.put o.dst v) w:=by
 unfold yN at hv;unfold YieldsIf Region.wanted
 cases hg:o.guard with
 |none=>
  simp only [hg] at hv ⊢;obtain ⟨v,h1,h2⟩:=base hv;exact ⟨v,.inl ⟨trivial,h1⟩,h2⟩
 |some p=>
  obtain ⟨j,want⟩:=p;simp only [hg] at hv ⊢
  cases hj:(nth ops.toList j).bind (·.dst) with
  |none=>simp [hj,N.val] at hv
  |some d=>
   simp only [hj] at hv
   split at hv
   ·rename_i b No;obtain ⟨h1,h2⟩:=wg h No;rw [BC (ops:=ops) hj h1 h2];have yes:(Hz T S (TM.bn st (some d) (.one (.bool b))) o).val=some bd→∃v,(∀w':World,C w'→(execOp a.eval o).run P w'=.ok (.value v) w')∧Rel w0 mu c bd (a.put o.dst v) w:=fun e=>base (by rwa [wh st d No] at e)
    have no:(N.done (TM.bn (TM.bn st (some d) (.one (.bool b))) o.dst (.nC []))).val=some bd→Rel w0 mu c bd (a.put o.dst undef) w:=by
     intro e;simp only [N.val,Option.some.injEq] at e;subst e;rw [wh st d No];exact h.bn (wi _ _ _) hd
    rcases s3 hv with ⟨hb,wM⟩ | ⟨hb,wM⟩
    ·subst hb
     cases want
     ·exact ⟨undef,.inr ⟨rfl,rfl⟩,no wM⟩
     ·obtain ⟨v,h3,h4⟩:=yes wM;exact ⟨v,.inl ⟨rfl,h3⟩,h4⟩
    ·subst hb
     cases want
     ·obtain ⟨v,h3,h4⟩:=yes wM;exact ⟨v,.inl ⟨rfl,h3⟩,h4⟩
     ·exact ⟨undef,.inr ⟨rfl,rfl⟩,no wM⟩
   ·rename_i No;simp only [N.val,Option.some.injEq] at hv;subst hv;rw [wP (ops:=ops) hj (BD h No)];exact ⟨undef,.inr ⟨by cases want<;>rfl,rfl⟩,h.bn (wi _ _ _) hd⟩
   ·simp [N.val] at hv
theorem Qi {P:Program} {T:lf} (hT:fQ P T) {S:lO} {w0:World} {mu:Mu} {c:Cz} {st:St} {a:Act} {w:World} (h:Rel w0 mu c st a w) {o:Oper} (hk:kindOk S st o .take=true)
  {bd:St} (hv:(Hz T S st o).val=some bd) (hd:∀k,o.dst=some k→k<a.tmps.size):∃v,(∀w':World,iM w w'→(execOp a.eval o).run P w'=.ok (.value v) w')∧Rel w0 mu c bd (a.put o.dst v) w:=by
 unfold kindOk at hk;unfold Hz at hv
 cases ho:o.op with
 |load t x=>
  simp only [ho] at hv;obtain ⟨v,h1,h2⟩:=FO hT h (bW h x) hv hd;exact ⟨v,fun w' hw=>by simp only [execOp,ho];exact ru (h1 w' hw),h2⟩
 |_=>simp [ho] at hk
theorem ym {i:Nat}:(l:List Nat)→xl i l=true→i∈l
 | [],h=>by cases h
 |x::l,h=>by
  unfold xl at h;rw [Bool.or_eq_true] at h;rcases h with h | h
  ·rw [Nat.eq_of_beq_eq_true h];exact List.mem_cons_self
  ·exact List.mem_cons_of_mem _ (ym l h)
theorem vH {R:Type} {P:Program} {T:lf} (hT:fQ P T) (hE:xg P T) {S:lO} {w0:World} {mu:Mu} {n:Nat} (FI:tT P T S w0 mu n) {ops:Array Oper} {ds:List Nat} {Q:Exit→Act→World→Prop} (hQ:∀c a w,¬Q (.panic c) a w)
  {k:St→Option R} {r:R} (hk:Next w0 mu n r k (Q .normal)) (QZ:Region.noSelect ops=true) (rW:xh n ops.toList=true) :
  (l:Pl)→(ls:List Nat)→(aU:Array Bool)→(fuel:Nat)→{c:Cz}→{st:St}→{a:Act}→{w:World}→Py ops.size ls aU→sD .any ops aU→l.depth≤fuel→
   Rel w0 mu c st a w→a.tmps.size=n→sw T S ops.toList l st k=some r→
   (ll ops ops.toList ops.size ds false ls l=true→oU P .any ops Q ds fuel aU a w)∧
   (ll ops ops.toList ops.size ds true ls l=true→∃GM,fuel=GM+1∧∀i∈l.da,i∈Region.ready .any ops aU∧wpOp P ops Q i (fun a' w'=>(i∉ds→iM w w')∧oU P .any ops Q ds GM (aU.setIfInBounds i true) a' w') a w)
 |.nil,ls,aU,fuel,c,st,a,w,hl,_,_,h,hn,hv=>by
  refine ⟨fun hb => ?_,fun hb=>by simp [ll] at hb⟩;unfold ll at hb;rw [Bool.and_eq_true] at hb;have hr:Region.ready .any ops aU=[]:=by
   refine List.eq_nil_iff_forall_not_mem.2 fun j hj => ?_
   obtain ⟨_,o,ho,_⟩:=mem_ready.1 hj;have dG:j<ops.size:=(Array.getElem?_eq_some_iff.1 ho).1;have h1:=List.all_eq_true.1 hb.2 j (List.mem_range.2 dG);rw [(wo hl j).2 hj] at h1
   cases h1
  have hq:=hk h hn hv
  cases fuel with
  |zero=>exact ⟨hr,hq⟩
  |succ fuel=>exact ⟨fun _=>hq,fun i hi=>by rw [hr] at hi;cases hi⟩
 |.op i kd l,ls,aU,0,c,st,a,w,hl,_,hf,h,hn,hv=>absurd hf (by simp [Pl.depth])
 |.op i kd l,ls,aU,fuel+1,c,st,a,w,hl,hs,hf,h,hn,hv=>by
  have hf:l.depth≤fuel:=Nat.le_of_succ_le_succ hf;have first:∀al,ll ops ops.toList ops.size ds al ls (.op i kd l)=true→Re ops.toList ls i=true∧ll ops ops.toList ops.size ds false (i::ls) l=true:=by
   intro al hb;unfold ll at hb;rw [Bool.and_eq_true,Bool.and_eq_true] at hb;exact ⟨hb.1,hb.2.2⟩
  have step:Re ops.toList ls i=true→ll ops ops.toList ops.size ds false (i::ls) l=true→(kd=.one∨i∈ds)→wpOp P ops Q i (fun a' w'=>(i∉ds→iM w w')∧oU P .any ops Q ds fuel (aU.setIfInBounds i true) a' w') a w:=by
   intro Pv fh hds;have Rf:=(wo hl i).1 Pv;obtain ⟨_,o,JM,_⟩:=mem_ready.1 Rf;have dG:i<ops.size:=(Array.getElem?_eq_some_iff.1 JM).1;unfold sw at hv;rw [gX,Array.getElem?_toList,JM] at hv;obtain ⟨Pz,hv⟩:=aJ hv;rw [N.fold_eq] at hv;obtain ⟨bd,h1,h2⟩:=Option.bind_eq_some_iff.1 hv;have Ib:∀k,o.dst=some k→k<a.tmps.size:=fun k hk=>by rw [hn];exact yY rW (by rw [Array.mem_toList_iff];exact Array.mem_of_getElem? JM) k hk
   have next:∀ {c':Cz} {a':Act} {w':World},Rel w0 mu c' bd a' w'→a'.tmps.size=n→oU P .any ops Q ds fuel (aU.setIfInBounds i true) a' w':=fun hr KJ=>
    (vH hT hE FI hQ hk QZ rW l (i::ls) _ fuel (hl.push dG) (hs.set Rf) hf hr KJ h2).1 fh
   have hko:kd=.one→kindOk S st o .one=true:=fun e=>by rw [e] at Pz;exact Pz
   unfold wpOp;rw [JM];rcases Gh FI h hn (fun k hk=>by rw [←hn];exact Ib k hk) h1 with ⟨hw,re⟩ | ⟨hw,vA⟩
   ·simp only [hw,if_true];refine .inl (Oper.wp_mono (fun a' w' ⟨⟨c',hr,kg⟩,P6⟩=>⟨fun Eu => ?_,next hr (kg.trans hn)⟩) (re Q));rcases hds with e | e
    ·exact P6 (hko e)
    ·exact absurd e Eu
   ·simp only [hw,Bool.false_eq_true,if_false];exact ⟨fun _=>iM.refl w,next vA ((rp _ _ _).trans hn)⟩
  refine ⟨fun hb => ?_,fun hb=>⟨fuel,rfl,fun j hj => ?_⟩⟩
  ·obtain ⟨Pv,fh⟩:=first _ hb;have Rf:=(wo hl i).1 Pv;unfold ll at hb;rw [Bool.and_eq_true,Bool.and_eq_true] at hb;obtain ⟨_,JO,_⟩:=hb;have alone:EE ops.toList ops.size ls i=true→(kd=.one∨i∈ds)→oU P .any ops Q ds (fuel+1) aU a w:=by
    intro hal hds;refine ⟨fun e=>absurd Rf (by rw [e];exact List.not_mem_nil),fun j hj => ?_⟩;have:=GL hl hal j hj;subst this;exact step Pv fh hds
   obtain ⟨_,o,JM,_⟩:=mem_ready.1 Rf;have dG:i<ops.size:=(Array.getElem?_eq_some_iff.1 JM).1;unfold sw at hv;rw [gX,Array.getElem?_toList,JM] at hv;obtain ⟨Pz,hv⟩:=aJ hv;rw [N.fold_eq] at hv;obtain ⟨bd,h1,h2⟩:=Option.bind_eq_some_iff.1 hv;have Ib:∀k,o.dst=some k→k<a.tmps.size:=fun k hk=>by rw [hn];exact yY rW (by rw [Array.mem_toList_iff];exact Array.mem_of_getElem? JM) k hk
   have next:∀ {c':Cz} {a':Act} {w':World},Rel w0 mu c' bd a' w'→a'.tmps.size=n→oU P .any ops Q ds fuel (aU.setIfInBounds i true) a' w':=fun hr KJ=>
    (vH hT hE FI hQ hk QZ rW l (i::ls) _ fuel (hl.push dG) (hs.set Rf) hf hr KJ h2).1 fh
   have GJ:=Region.noSelect_spec QZ
   cases kd with
   |one=>exact alone (by simpa using JO) (.inl rfl)
   |last=>
    simp only [Bool.false_or,Bool.and_eq_true] at JO;exact alone JO.1 (.inr (ym ds JO.2))
   |any=>
    simp only [Bool.not_false,Bool.true_and] at JO;obtain ⟨v,hy,vA⟩:=yl (P:=P) (ops:=ops) (C:=fun _=>True) h Ib h1 (fun e=>by
     obtain ⟨v,g1,g2⟩:=Jy hT hE h Pz e Ib;exact ⟨v,fun w' _=>g1 w',g2⟩)
    refine Ij JM GJ (fun c a w hq=>absurd hq (hQ _ _ _)) fuel aU a w (BY hl JM JO) Rf ?_ (next vA ((rp _ _ _).trans hn));rcases hy with ⟨g1,g2⟩ | g
    ·exact .inl ⟨g1,fun w'=>g2 w' trivial⟩
    ·exact .inr g
   |take=>
    simp only [Bool.not_false,Bool.true_and,Bool.and_eq_true] at JO;obtain ⟨v,hy,vA⟩:=yl (P:=P) (ops:=ops) (C:=iM w) h Ib h1 (fun e=>Qi hT h Pz e Ib);refine EC JM GJ (fun c a w hq=>absurd hq (hQ _ _ _)) ops.size fuel aU a w (BY hl JM JO.1) hs (fun d hm FJ => ?_) Rf hy (iM.refl w) (next vA ((rp _ _ _).trans hn));have h3:=List.all_eq_true.1 JO.2 d hm;rw [hl.gt d,Bool.or_eq_false_iff] at FJ;rw [FJ.1,Bool.false_or] at h3;exact h3
  ·have hj:j=i:=by simpa [Pl.da] using hj
   subst hj;obtain ⟨Pv,fh⟩:=first _ hb;refine ⟨(wo hl j).1 Pv,step Pv fh ?_⟩;unfold ll at hb;rw [Bool.and_eq_true,Bool.and_eq_true] at hb;obtain ⟨_,JO,_⟩:=hb
   cases kd with
   |one=>exact .inl rfl
   |last=>
    simp only [Bool.true_or,Bool.true_and] at JO;exact .inr (ym ds JO)
   |any=>simp at JO
   |take=>simp at JO
 |.alt p q,ls,aU,fuel,c,st,a,w,hl,hs,hf,h,hn,hv=>by
  have hv:both (sw T S ops.toList p st k) (sw T S ops.toList q st k)=some r:=hv;obtain ⟨wM,Li⟩:=Kz hv;have hf:Nat.max p.depth q.depth≤fuel:=hf;have hp:=(vH (ds:=ds) hT hE FI hQ hk QZ rW p ls aU fuel hl hs (Nat.le_trans (Nat.le_max_left _ _) hf) h hn wM).2;have hq:=(vH (ds:=ds) hT hE FI hQ hk QZ rW q ls aU fuel hl hs (Nat.le_trans (Nat.le_max_right _ _) hf) h hn Li).2;have da:ll ops ops.toList ops.size ds true ls p=true→ll ops ops.toList ops.size ds true ls q=true→∃GM,fuel=GM+1∧∀i∈p.da++q.da,i∈Region.ready .any ops aU∧wpOp P ops Q i (fun a' w'=>(i∉ds→iM w w')∧oU P .any ops Q ds GM (aU.setIfInBounds i true) a' w') a w:=by
   intro h1 h2;obtain ⟨f1,e1,g1⟩:=hp h1;obtain ⟨f2,e2,g2⟩:=hq h2;have:f1=f2:=by omega
   subst this;exact ⟨f1,e1,fun i hi=>(List.mem_append.1 hi).elim (g1 i) (g2 i)⟩
  have parts:∀al,ll ops ops.toList ops.size ds al ls (.alt p q)=true→(al||N3 ops.toList ops.size ls (p.da++q.da))=true∧ll ops ops.toList ops.size ds true ls p=true∧ll ops ops.toList ops.size ds true ls q=true:=by
   intro al hb;unfold ll at hb;rw [Bool.and_eq_true,Bool.and_eq_true] at hb;exact hb
  refine ⟨fun hb => ?_,fun hb => ?_⟩
  ·obtain ⟨hc,h1,h2⟩:=parts _ hb;obtain ⟨f,rfl,g⟩:=da h1 h2;have adp:∀j∈Region.ready .any ops aU,j∈p.da++q.da:=by
    intro j hj;have dG:j<ops.size:=by
     obtain ⟨_,o,ho,_⟩:=mem_ready.1 hj;exact (Array.getElem?_eq_some_iff.1 ho).1
    rw [Bool.false_or] at hc;have h1:=List.all_eq_true.1 hc j (List.mem_range.2 dG);rw [(wo hl j).2 hj,Bool.not_true,Bool.false_or] at h1;exact ym _ h1
   refine ⟨fun e => ?_,fun j hj=>(g j (adp j hj)).2⟩;have gr:∃i,i∈p.da++q.da:=by
    have key:∀(l:Pl),ll ops ops.toList ops.size ds true ls l=true→∃i,i∈l.da:=by
     intro l
     induction l with
     |nil=>intro h;simp [ll] at h
     |op i _ _ _=>intro _;exact ⟨i,by simp [Pl.da]⟩
     |alt p q ih _=>
      intro h;unfold ll at h;rw [Bool.and_eq_true,Bool.and_eq_true] at h;obtain ⟨i,hi⟩:=ih h.2.1;exact ⟨i,List.mem_append_left _ hi⟩
    obtain ⟨i,hi⟩:=key p h1;exact ⟨i,List.mem_append_left _ hi⟩
   obtain ⟨i,hi⟩:=gr;have:=(g i hi).1;rw [e] at this
   cases this
  ·obtain ⟨_,h1,h2⟩:=parts _ hb;exact da h1 h2
theorem zl {R:Type} {P:Program} {T:lf} (hT:fQ P T) (hE:xg P T) (hm:P.follows .mixedOrders=true) {S:lO} {D:nq} {w0:World} {mu:Mu} {n:Nat} (FI:tT P T S w0 mu n) :
  s4 R P T S D w0 mu n (fun id ops=>BX ops (D id)=true):=by
 intro id ops Q k r gP rW hk c st a w h hn hv;unfold BX at gP;rw [Bool.and_eq_true,Bool.and_eq_true] at gP;obtain ⟨QZ,hlen,hb⟩:=gP
 let Q':Exit→Act→World→Prop:=fun e a w=>e=.normal∧Q .normal a w
 have key:(Code.region id ops true).wp P Q' a w:=by
  refine wp_region_any hm (wT _ _ _ _ ((vH hT hE FI (ds:=DG (D id)) (Q:=Q') (fun c a w hq=>by cases hq.1) (fun {c st a w} g1 g2 g3=>⟨rfl,hk g1 g2 g3⟩) QZ rW (D id) [] _ ops.size (Py.none _) (sD.none _ _ _) (Nat.le_of_ble_eq_true hlen) h.drew hn hv).1 hb))
 exact Code.wp_mono (fun e a w hq=>by obtain ⟨rfl,hq⟩:=hq;exact hq) key
end Go.TM
namespace Go.TM
open Go Go.RowKit
abbrev Rg:RT→Type→Type
 |.nil,R=>R
 |.cons t r,R=>den t→Rg r R
abbrev wq {R:Type}:(r:RT)→Rg r R→ar r→R
 |.nil,f,_=>f
 |.cons _ r,f,x=>wq r (f x.1) x.2
def gR:nq:=fun _=>.nil
def U5 {R:Type}:qt R:=fun _ _ _ _=>none
def N4 (f:Func):Code:=match f.body with | some c=>c | none=>.skip
def nn:Nat→List (Option AP)
 |0=>[]
 |n+1=>none::nn n
structure Rec where
 size:Nat
 agg:Bool
 cD:List (Nat×Nat)
 row:Option RT
 elem:Option (RT×Nat)
 kind:Option Ty
 jq:List Nat
 eq:Bool
 dp:Bool:=false
 cap:Bool:=false
 lz:List Nat:=[]
inductive Tr where
 |leaf
 |node (l:Tr) (k:Nat) (v:Rec) (r:Tr)
def Tr.flat:Tr→Tr
 |.leaf=>.leaf
 |.node l k v r=>.node l.flat k { v with dp:=false } r.flat
def Tr.lzb (m:List Nat):Tr→Tr
 |.leaf=>.leaf
 |.node l k v r=>.node (l.lzb m) k { v with lz:=bif v.dp then m else [] } (r.lzb m)
def Tr.wF (l:List Nat):Tr→Tr
 |.leaf=>.leaf
 |.node a k v b=>.node (a.wF l) k { v with cap:=l.any (Nat.beq k) } (b.wF l)
def Tr.find:Tr→Nat→Option Rec
 |.leaf,_=>none
 |.node l k v r,t=>bif Nat.beq t k then some v else bif Nat.blt t k then l.find t else r.find t
def Tr.all (p:Nat→Rec→Bool):Tr→Bool
 |.leaf=>true
 |.node l k v r=>l.all p&&(p k v&&r.all p)
theorem Tr.yn {p:Nat→Rec→Bool}:(tr:Tr)→tr.all p=true→∀ {t v},tr.find t=some v→p t v=true
 |.leaf,_,_,_,h=>by cases h
 |.node l k v r,h,t,u,hf=>by
  unfold Tr.all at h;rw [Bool.and_eq_true,Bool.and_eq_true] at h;unfold Tr.find at hf
  cases hb:Nat.beq t k with
  |true=>
   rw [hb] at hf;injection hf with hf;subst hf;rw [Nat.eq_of_beq_eq_true hb];exact h.2.1
  |false=>
   rw [hb] at hf
   cases hl:Nat.blt t k with
   |true=>rw [hl] at hf;exact Tr.yn l h.1 hf
   |false=>rw [hl] at hf;exact Tr.yn r h.2.2 hf
def oB (tr:Tr):lf where
 cells t:=(tr.find t).map (·.size)
 agg t:=match tr.find t with | some r=>r.agg | none=>false
 off t f:=match tr.find t with | some r=>(nth r.cD f).map (·.1) | none=>none
 V6 t f:=match tr.find t with | some r=>(nth r.cD f).map (·.2) | none=>none
 row t:=match tr.find t with | some r=>r.row | none=>none
 elem t:=match tr.find t with | some r=>r.elem | none=>none
 nC _:=none
 kind t:=match tr.find t with | some r=>r.kind | none=>none
 one t f:=match tr.find t with | some r=>r.jq.any (Nat.beq f) | none=>false
 eq t:=match tr.find t with | some r=>r.eq | none=>false
 dp t:=match tr.find t with | some r=>r.dp | none=>false
 cap t:=match tr.find t with | some r=>r.cap | none=>false
 lz t d:=match tr.find t,d with | some r,some d=>r.lz.any (Nat.beq d) | _,_=>false
def nv:RT→List Value→Bool
 |.nil,[]=>true
 |.cons (.int k) r,.int l n::vs=>decide (k=l)&&decide (n=0)&&nv r vs
 |.cons .bool r,.bool b::vs => !b&&nv r vs
 |.cons .str r,.string s::vs=>(match s.data.toList with | []=>true | _=>false)&&nv r vs
 |.cons (.sl _) r,.slice none 0 0::vs=>nv r vs
 |_,_=>false
theorem tg:(r:RT)→(vs:List Value)→nv r vs=true→iU r vs
 |.nil,[],_=>rfl
 |.nil,_::_,h=>by simp [nv] at h
 |.cons t r,[],h=>by cases t<;>simp [nv] at h
 |.cons t r,v::vs,h=>by
  cases t with
  |int k=>
   cases v<;>try (simp [nv] at h;done)
   rename_i l n;simp only [nv,Bool.and_eq_true,decide_eq_true_eq] at h;obtain ⟨⟨rfl,rfl⟩,h⟩:=h;exact ⟨vs,rfl,tg r vs h⟩
  |bool=>
   cases v<;>try (simp [nv] at h;done)
   rename_i b;simp only [nv,Bool.and_eq_true,Bool.not_eq_true'] at h;obtain ⟨rfl,h⟩:=h;exact ⟨vs,rfl,tg r vs h⟩
  |str=>
   cases v<;>try (simp [nv] at h;done)
   rename_i s;simp only [nv,Bool.and_eq_true] at h;obtain ⟨h1,h⟩:=h;refine ⟨vs,?_,tg r vs h⟩;obtain ⟨d⟩:=s;obtain ⟨d⟩:=d
   cases d with
   |nil=>rfl
   |cons _ _=>simp at h1
  |sl q=>
   cases v<;>try (simp [nv] at h;done)
   rename_i a n m
   cases a with
   |some _=>simp [nv] at h
   |none=>cases n with
    |succ _=>simp [nv] at h
    |zero=>cases m with
     |succ _=>simp [nv] at h
     |zero=>
      have h:nv r vs=true:=h;exact ⟨vs,rfl,tg r vs h⟩
def sf {α:Type} (o:Option α) (p:α→Bool):Bool:=match o with | some x=>p x | none=>false
theorem fU {α:Type} {o:Option α} {p:α→Bool} (h:sf o p=true):∃x,o=some x∧p x=true:=by
 cases o with
 |none=>cases h
 |some x=>exact ⟨x,rfl,h⟩
def tZ (P:Program):List Field→List (Nat×Nat)→Bool
 | [],[]=>true
 |f::fs,(o,s)::ps=>Nat.beq f.offset o&&(sf (P.info? f.type) (fun i=>Nat.beq i.size s)&&(Nat.blt 0 s&&tZ P fs ps))
 |_,_=>false
theorem xm {P:Program}:(fs:List Field)→(ps:List (Nat×Nat))→tZ P fs ps=true→
  fs.mapM (fun f=>(P.info? f.type).map fun i=>(f.offset,i.size))=some ps∧∀(k:Nat) p,ps[k]?=some p→∃Db n,fs[k]?=some Db∧Db.offset=p.1∧(P.info? Db.type).map (·.size)=some (n+1)
 | [],[],_=>⟨rfl,fun k p h=>by simp at h⟩
 | [],_::_,h=>by simp [tZ] at h
 |_::_,[],h=>by simp [tZ] at h
 |f::fs,(o,s)::ps,h=>by
  unfold tZ at h;rw [Bool.and_eq_true,Bool.and_eq_true,Bool.and_eq_true] at h;obtain ⟨h1,h2,h3,h4⟩:=h;obtain ⟨i,hi,his⟩:=fU h2;have h1:=Nat.eq_of_beq_eq_true h1;have his:=Nat.eq_of_beq_eq_true his;obtain ⟨g1,g2⟩:=xm fs ps h4;refine ⟨by simp [List.mapM_cons,hi,g1,h1,his],fun k p hp => ?_⟩
  cases k with
  |zero=>
   simp at hp;subst hp;have h3:0<s:=Nat.le_of_ble_eq_true h3;exact ⟨f,s-1,rfl,h1,by rw [hi];simp [his];omega⟩
  |succ k=>exact g2 k p (by simpa using hp)
def GN (P:Program) (t:Nat):Ty→Bool
 |.int k=>sf (P.underlying t) fun | .int l=>decide (k=l) | _=>false
 |.bool=>sf (P.underlying t) fun | .bool=>true | _=>false
 |.str=>sf (P.underlying t) fun | .string=>true | _=>false
 |.sl _=>false
def EF (P:Program) (t:Nat) (r:Rec):Bool:=
 sf (P.info? t) (fun i=>Nat.beq i.size r.size&&(match r.row with | some q=>sf i.zero (fun z=>nv q z.cells.toList) | none=>true)) &&
 (sf (P.underlying t) (fun d=>(d.isRow==r.agg)&&(bif r.agg then true else Nat.beq r.size 1)&&(match d with | .struct fs=>bif r.agg then tZ P fs.toList r.cD else Nat.beq r.cD.length 0 | _ => !r.agg&&Nat.beq r.cD.length 0)
   && (match r.elem with | some (q,b)=>(match d with | .slice e=>sf (P.info? e) (fun i=>Nat.beq i.size q.width&&(Nat.blt 0 q.width&&(Nat.beq i.bytes b&&(Nat.blt 0 b&&sf i.zero (fun z=>nv q z.cells.toList))))) | _=>false) | none=>true)) &&
 ((match r.kind with | some k=>GN P t k | none=>true)&&(match r.elem with | some (.cons (.int .u8) .nil,_)=>sf (P.underlying t) (fun d=>match d with | .slice e=>GN P e (.int .u8) | _=>false) | _=>true)))
def Rh (P:Program) (t:Nat) (l:List Nat):Bool:=l.all fun f=>sf (P.underlying t) fun d=>match d with | .struct fs=>sf fs[f]? (fun Db=>sf (P.underlying Db.type) fun e => !e.isRow) | _=>false
def yo (P:Program) (t:Nat) (r:Rec):Bool:=EF P t r&&Rh P t r.jq
theorem sE {P:Program} {tr:Tr} (h:tr.all (yo P)=true):fQ P (oB tr):=by
 have Xa:∀ {t r},tr.find t=some r→yo P t r=true:=fun hf=>Tr.yn tr h hf
 have get:∀ {t r},tr.find t=some r→EF P t r=true:=fun hf=>(Bool.and_eq_true _ _▸Xa hf).1
 have base:∀ {t r},tr.find t=some r→(∃i,P.info? t=some i∧i.size=r.size∧∀q,r.row=some q→∃z,i.zero=some z∧iU q z.cells.toList)∧
   (∃d,P.underlying t=some d∧d.isRow=r.agg∧(r.agg=false→r.size=1)∧(r.cD≠[]∨r.agg=true→∃fs,d=.struct fs∧tZ P fs.toList r.cD=true)∧
    ∀q b,r.elem=some (q,b)→∃e i z,d=.slice e∧P.info? e=some i∧i.size=q.width∧0<q.width∧i.bytes=b∧0<b∧i.zero=some z∧iU q z.cells.toList)∧
   ∀k,r.kind=some k→GN P t k=true:=by
  intro t r hf;have h1:=get hf;unfold EF at h1;rw [Bool.and_eq_true,Bool.and_eq_true,Bool.and_eq_true] at h1;obtain ⟨h1,h2,h3,_⟩:=h1;obtain ⟨i,hi,h4⟩:=fU h1;rw [Bool.and_eq_true] at h4;obtain ⟨d,hd,h5⟩:=fU h2;rw [Bool.and_eq_true,Bool.and_eq_true,Bool.and_eq_true] at h5;obtain ⟨⟨⟨g1,g2⟩,g3⟩,g4⟩:=h5;refine ⟨⟨i,hi,Nat.eq_of_beq_eq_true h4.1,fun q hq => ?_⟩,⟨d,hd,by simpa using g1,fun JI => ?_,fun gr => ?_,fun q b he => ?_⟩,fun k hk => ?_⟩
  ·have h6:=h4.2;rw [hq] at h6;obtain ⟨z,hz,h7⟩:=fU h6;exact ⟨z,hz,tg q _ h7⟩
  ·rw [JI] at g2;exact Nat.eq_of_beq_eq_true g2
  ·cases JI:r.agg with
   |true=>
    rw [JI] at g3
    cases d with
    |struct fs=>exact ⟨fs,rfl,g3⟩
    |_=>simp at g3
   |false=>
    rw [JI] at g3;rcases gr with gr | gr
    ·have:Nat.beq r.cD.length 0=true:=by
      cases d with
      |struct fs=>exact g3
      |_=>simpa using g3
     exact absurd (List.length_eq_zero_iff.1 (Nat.eq_of_beq_eq_true this)) gr
    ·rw [JI] at gr;cases gr
  ·rw [he] at g4
   cases d with
   |slice e=>
    obtain ⟨i,h6,h7⟩:=fU g4;rw [Bool.and_eq_true,Bool.and_eq_true,Bool.and_eq_true,Bool.and_eq_true] at h7;obtain ⟨k1,k2,k3,k4,k5⟩:=h7;obtain ⟨z,hz,h8⟩:=fU k5;exact ⟨e,i,z,rfl,h6,Nat.eq_of_beq_eq_true k1,Nat.le_of_ble_eq_true k2,Nat.eq_of_beq_eq_true k3,Nat.le_of_ble_eq_true k4,hz,tg q _ h8⟩
   |_=>cases g4
  ·rw [hk] at h3;exact h3
 have look:∀ {α:Type} {t:Nat} {g:Rec→Option α} {x:α},(match tr.find t with | some r=>g r | none=>none)=some x→∃r,tr.find t=some r∧g r=some x:=by
  intro α t g x hx
  cases hf:tr.find t with
  |none=>rw [hf] at hx;cases hx
  |some r=>rw [hf] at hx;exact ⟨r,rfl,hx⟩
 have Xb:∀ {t:Nat} {g:Rec→Bool},(match tr.find t with | some r=>g r | none=>false)=true→∃r,tr.find t=some r∧g r=true:=by
  intro t g hx
  cases hf:tr.find t with
  |none=>rw [hf] at hx;cases hx
  |some r=>rw [hf] at hx;exact ⟨r,rfl,hx⟩
 exact {
  cells:=fun t n ht=>by
   obtain ⟨r,hf,rfl⟩:=Option.map_eq_some_iff.1 ht;obtain ⟨⟨i,hi,hs,_⟩,_⟩:=base hf;rw [hi];simp [hs]
  agg:=fun t n ht=>by
   obtain ⟨r,hf,rfl⟩:=Option.map_eq_some_iff.1 ht;obtain ⟨_,⟨d,hd,h1,h2,_⟩,_⟩:=base hf;have e:(oB tr).agg t=r.agg:=by show (match tr.find t with | some r=>r.agg | none=>false)=_;rw [hf]
   exact ⟨d,hd,h1.trans e.symm,fun h=>h2 (e▸h)⟩
  off:=fun t f k ht=>by
   obtain ⟨r,hf,hk⟩:=look ht;obtain ⟨p,hp,rfl⟩:=Option.map_eq_some_iff.1 hk;obtain ⟨_,⟨d,hd,_,_,h3,_⟩,_⟩:=base hf;rw [gX] at hp;obtain ⟨fs,rfl,hfs⟩:=h3 (.inl (by intro e;rw [e] at hp;simp at hp));obtain ⟨Db,n,g1,g2,g3⟩:=(xm fs.toList r.cD hfs).2 f p hp;exact ⟨fs,Db,n,hd,by simpa using g1,g2,g3⟩
  bld:=fun t ht=>by
   obtain ⟨r,hf,JI⟩:=Xb (g:=fun r=>r.agg) ht;obtain ⟨_,⟨d,hd,_,_,h3,_⟩,_⟩:=base hf;obtain ⟨fs,rfl,hfs⟩:=h3 (.inr JI);refine ⟨fs,r.cD,hd,(xm fs.toList r.cD hfs).1,fun f o s ho hs => ?_⟩;have ho:(match tr.find t with | some r=>(nth r.cD f).map (·.1) | none=>none)=some o:=ho;have hs:(match tr.find t with | some r=>(nth r.cD f).map (·.2) | none=>none)=some s:=hs;rw [hf] at ho hs;obtain ⟨p,hp,rfl⟩:=Option.map_eq_some_iff.1 ho;obtain ⟨p',nB,rfl⟩:=Option.map_eq_some_iff.1 hs;rw [hp] at nB;injection nB with e;subst e;rw [gX] at hp;exact hp
  row:=fun t q ht=>by
   obtain ⟨r,hf,hk⟩:=look (g:=fun r=>r.row) ht;obtain ⟨⟨i,hi,_,h1⟩,_⟩:=base hf;obtain ⟨z,hz,FV⟩:=h1 q hk;exact ⟨i,z,hi,hz,FV⟩
  elem:=fun t q b ht=>by
   obtain ⟨r,hf,hk⟩:=look (g:=fun r=>r.elem) ht;obtain ⟨_,⟨d,hd,_,_,_,h4⟩,_⟩:=base hf;obtain ⟨e,i,z,rfl,h5⟩:=h4 q b hk;exact ⟨e,i,z,hd,h5⟩
  u8:=fun t e b ht hu=>by
   obtain ⟨r,hf,hk⟩:=look (g:=fun r=>r.elem) ht;have h1:=get hf;unfold EF at h1;rw [Bool.and_eq_true,Bool.and_eq_true,Bool.and_eq_true] at h1;have h2:=h1.2.2.2;rw [hk] at h2;obtain ⟨d,hd,h3⟩:=fU h2;rw [hu] at hd;injection hd with hd;subst hd;obtain ⟨d2,hd2,h4⟩:=fU h3;rw [hd2]
   cases d2<;>simp at h4
   rw [←h4]
  one:=fun t f ht=>by
   have ht:(match tr.find t with | some r=>r.jq.any (Nat.beq f) | none=>false)=true:=ht
   cases hf:tr.find t with
   |none=>rw [hf] at ht;cases ht
   |some r=>
    rw [hf] at ht;have h2:Rh P t r.jq=true:=(Bool.and_eq_true _ _▸Xa hf).2;obtain ⟨g,hg,hb⟩:=List.any_eq_true.1 ht;have hb:=Nat.eq_of_beq_eq_true hb;subst hb;have h3:=List.all_eq_true.1 h2 f hg;obtain ⟨d,hd,h4⟩:=fU h3
    cases d with
    |struct fs=>
     obtain ⟨Db,ads,h5⟩:=fU h4;obtain ⟨e,he,h6⟩:=fU h5;exact ⟨fs,Db,e,hd,ads,he,by simpa using h6⟩
    |_=>cases h4
  kind:=fun t y ht=>by
   obtain ⟨r,hf,hk⟩:=look (g:=fun r=>r.kind) ht;have h1:=(base hf).2.2 y hk
   cases y with
   |int k=>
    obtain ⟨d,hd,h2⟩:=fU h1;refine ⟨d,hd,?_⟩
    cases d<;>simp at h2
    rw [h2];rfl
   |bool=>
    obtain ⟨d,hd,h2⟩:=fU h1;refine ⟨d,hd,?_⟩
    cases d<;>simp at h2
    rfl
   |str=>
    obtain ⟨d,hd,h2⟩:=fU h1;refine ⟨d,hd,?_⟩
    cases d<;>simp at h2
    rfl
   |sl _=>cases h1 }
end Go.TM
namespace Go.TM
open Go Go.RowKit
def ee:Code→List (Nat×Code)
 |.seq a b=>ee a++ee b
 |.cond _ a b=>ee a++ee b
 |.block id (.loop b)=>[(id,b)]
 |.block _ a=>ee a
 |_=>[]
theorem ua {ok:Nat→Code→Prop}:(c:Code)→(∀p∈ee c,ok p.1 p.2)→fG ok c:=by
 intro c
 induction c with
 |seq a b SM SN=>
  intro h;unfold ee at h;exact ⟨SM fun p hp=>h p (List.mem_append_left _ hp),SN fun p hp=>h p (List.mem_append_right _ hp)⟩
 |cond x a b SM SN=>
  intro h;unfold ee at h;exact ⟨SM fun p hp=>h p (List.mem_append_left _ hp),SN fun p hp=>h p (List.mem_append_right _ hp)⟩
 |block id a ih=>
  intro h
  by_cases hb:∃b',a=.loop b'
  ·obtain ⟨b',rfl⟩:=hb;exact h (id,b') (by unfold ee;exact List.mem_cons_self)
  ·cases a with
   |loop b'=>exact absurd ⟨b',rfl⟩ hb
   |_=>unfold ee at h;unfold fG;exact ih h
 |_=>intro _;unfold fG;trivial
def EG (c:Code) (i:Nat):Code:=match nth (ee c) i with | some p=>p.2 | none=>.skip
def jB (D:nq):Code→Bool
 |.region id ops true=>BX ops (D id)
 |.seq a b=>jB D a&&jB D b
 |.cond _ a b=>jB D a&&jB D b
 |.block _ (.loop _)=>true
 |.block _ a=>jB D a
 |_=>true
theorem vI {D:nq}:(c:Code)→jB D c=true→fS (fun id ops=>BX ops (D id)=true) c:=by
 intro c
 induction c with
 |region id ops dr=>
  intro h
  cases dr with
  |true=>exact h
  |false=>unfold fS;trivial
 |seq a b SM SN=>
  intro h;unfold jB at h;rw [Bool.and_eq_true] at h;exact ⟨SM h.1,SN h.2⟩
 |cond x a b SM SN=>
  intro h;unfold jB at h;rw [Bool.and_eq_true] at h;exact ⟨SM h.1,SN h.2⟩
 |block id a ih=>
  intro h
  by_cases hb:∃b',a=.loop b'
  ·obtain ⟨b',rfl⟩:=hb;unfold fS;trivial
  ·cases a with
   |loop b'=>exact absurd ⟨b',rfl⟩ hb
   |_=>unfold jB at h;unfold fS;exact ih h
 |_=>intro _;unfold fS;trivial
def Src.same:Src→Src→Bool
 |.tmp a,.tmp b=>Nat.beq a b
 |.cell a,.cell b=>Nat.beq a b
 |.ptr a,.ptr b=>Nat.beq a b
 |_,_=>false
theorem Src.yp:{a b:Src}→a.same b=true→a=b
 |.tmp _,.tmp _,h=>congrArg Src.tmp (Nat.eq_of_beq_eq_true h)
 |.cell _,.cell _,h=>congrArg Src.cell (Nat.eq_of_beq_eq_true h)
 |.ptr _,.ptr _,h=>congrArg Src.ptr (Nat.eq_of_beq_eq_true h)
 |.tmp _,.cell _,h=>by cases h
 |.tmp _,.ptr _,h=>by cases h
 |.cell _,.tmp _,h=>by cases h
 |.cell _,.ptr _,h=>by cases h
 |.ptr _,.tmp _,h=>by cases h
 |.ptr _,.cell _,h=>by cases h
def GO (T:lf):List ResultVar→List RP→Bool
 | [],[]=>true
 |.tmp t::vs,r::rs=>(r.src.same (.tmp t)||r.src.same (.ptr t))&&GO T vs rs
 |.cell t ty::vs,r::rs=>r.src.same (.cell t)&&((match T.cells ty with | some n=>Nat.beq n r.ps.length | none=>false)&&((T.agg ty==r.agg)&&GO T vs rs))
 |_,_=>false
theorem AW {T:lf} (tm:Array Value):(vs:List ResultVar)→(rs:List RP)→GO T vs rs=true→xk T tm vs rs
 | [],[],_=>trivial
 | [],_::_,h=>by simp [GO] at h
 |v::_,[],h=>by cases v<;>simp [GO] at h
 |.tmp t::vs,r::rs,h=>by
  unfold GO at h;rw [Bool.and_eq_true,Bool.or_eq_true] at h;exact ⟨h.1.imp Src.yp Src.yp,AW tm vs rs h.2⟩
 |.cell t ty::vs,r::rs,h=>by
  unfold GO at h;rw [Bool.and_eq_true,Bool.and_eq_true,Bool.and_eq_true] at h;obtain ⟨h1,h2,h3,h4⟩:=h;refine ⟨⟨Src.yp h1,?_,by simpa using h3⟩,AW tm vs rs h4⟩
  cases hc:T.cells ty with
  |none=>rw [hc] at h2;cases h2
  |some n=>rw [hc] at h2;rw [Nat.eq_of_beq_eq_true h2]
abbrev SO:=List (Nat×(Pm×Pm×Pm×wE))
def xn:SO→lO
 | [],_=>none
 |(g,s)::l,f=>bif Nat.beq f g then some s else xn l f
structure th (P:Program) (f:FuncId) (xE:wE):Prop where
 ok:FnOk P f xE
 fn:∃fn,P.funcs[f]?=some fn∧(fn.name == "runtime.NumGoroutine")=false∧fn.body.isNone=false
theorem N5 {P:Program}:oS P (xn []):=fun f a b c xE h=>by cases h
theorem Lq {P:Program} {g:Nat} {a b c:Pm} {xE:wE} {l:SO} (hk:th P g xE) (hl:oS P (xn l)):oS P (xn ((g,(a,b,c,xE))::l)):=by
 intro f a' b' c' Qj h;unfold xn at h
 cases hb:Nat.beq f g with
 |true=>
  rw [hb] at h;injection h with h;injection h with _ h;injection h with _ h;injection h with _ h;subst h;rw [Nat.eq_of_beq_eq_true hb];exact ⟨hk.ok,hk.fn⟩
 |false=>rw [hb] at h;exact hl f a' b' c' Qj h
def Va (T:lf) (D:nq) (fn:Func) (code:Code) (n:Nat) (ps:List AP) (rs:List RP):Bool:=
 Nat.beq fn.ntmps n&&(Nat.ble ps.length n&&(jt n code&&(GO T fn.results.toList rs&&jB D code)))
theorem Qk {P:Program} {tr:Tr} (hT:tr.all (yo P)=true) (hE:xg P (oB tr)) (hm:P.follows .mixedOrders=true) {S:lO} (hS:oS P S) {D:nq} {f:FuncId} {fn:Func} {code:Code} {n:Nat} {ps:List AP} {rs:List RP}
  {L:qt (ar (dq rs (ck ps)))} {t:ar (aE (ps.map some))→Option (ar (dq rs (ck ps)))}
  (hf:P.funcs[f]?=some fn) (hb:fn.body=some code) (sA:Va (oB tr) D fn code n ps rs=true) (N6:(fn.name == "runtime.NumGoroutine")=false)
  (hL:∀(w0:World) (mu:Mu) (y:ar (dq rs (ck ps))),mW ps mu→∀p∈ee code,oP P w0 mu n L y p.1 p.2)
  (N1:∀x,gq (oB tr) S D L code (start n ps x) (Ie rs ps)=t x):th P f (qw ps rs t):=by
 unfold Va at sA;rw [Bool.and_eq_true,Bool.and_eq_true,Bool.and_eq_true,Bool.and_eq_true] at sA;obtain ⟨h1,h2,h3,h4,h5⟩:=sA;refine ⟨W8 (sE hT) hE hS hf hb (Nat.eq_of_beq_eq_true h1) (Nat.le_of_ble_eq_true h2) h3 (fun tm=>AW tm _ _ h4) (fun w0 mu y hs=>ua code (hL w0 mu y hs))
  (fun w0 mu=>zl (sE hT) hE hm (x9 (sE hT) hE hS w0 mu n)) (vI code h5) N1,fn,hf,N6,by rw [hb];rfl⟩
def DH (D:nq) (ps:List AP) (hp e0 e1:List (Option AP)) (n:Nat) (b:Code):Bool:=
 (iF ps hp&&(iF ps e0&&iF ps e1))&&(jt n b&&jB D b)
theorem Lr {R:Type} {P:Program} {tr:Tr} (hT:tr.all (yo P)=true) (hE:xg P (oB tr)) (hm:P.follows .mixedOrders=true) {S:lO} (hS:oS P S) {D:nq} {n id:Nat} {w0:World} {mu:Mu} {ps:List AP} {hp e0 e1:List (Option AP)} {b:Code} {r:R} {L:qt R}
  {L':qt (Sum (ar (aE hp)) (Sum (ar (aE e0)) (ar (aE e1))))} {round:ar (aE hp)→Option (Sum (ar (aE hp)) (Sum (ar (aE e0)) (ar (aE e1))))}
  (hs:mW ps mu) (sA:DH D ps hp e0 e1 n b=true)
  (zR:∀z,∀p∈ee b,oP P w0 mu n L' z p.1 p.2) (Ig:∀x,gq (oB tr) S D L' b (p8 hp x) (zi id hp e0 e1)=round x) (hL:∀st k,L id b st k=zj hp e0 e1 round st k):oP P w0 mu n L r id b:=by
 unfold DH at sA;rw [Bool.and_eq_true,Bool.and_eq_true (jt n b)] at sA;exact Qh (x9 (sE hT) hE hS w0 mu n) (zl (sE hT) hE hm (x9 (sE hT) hE hS w0 mu n)) hs sA.1 sA.2.1 (vI b sA.2.2) (fun z=>ua b (zR z)) Ig hL
def cT {A B C:Type} (o:Option (Sum A B)) (f:A→Option C) (g:B→Option C):Option C:=
 o.bind fun z=>match z with
  |.inl y=>f y
  |.inr y=>g y
end Go.TM
namespace Go.TM
open Go Go.RowKit Go.ChangeShapes
def RT.app:RT→RT→RT
 |.nil,s=>s
 |.cons t r,s=>.cons t (r.app s)
def Ql:(r s:RT)→ar r→ar s→ar (r.app s)
 |.nil,_,_,y=>y
 |.cons _ r,s,x,y=>(x.1,Ql r s x.2 y)
mutual
def yr:(t:Ty)→den t→Prop
 |.int k,n=>(Lit.int k n).wf=true
 |.bool,_=>True
 |.str,s=>ByteArray.size s≤maxLen
 |.sl r,xs=>(Jp xs).length≤maxLen∧∀x∈Jp xs,yt r x
def yt:(r:RT)→ar r→Prop
 |.nil,_=>True
 |.cons t r,x=>yr t x.1∧yt r x.2
end
theorem BZ (x:ar .nil):yt .nil x:=yt.eq_1 x▸trivial
theorem aa {t:Ty} {r:RT} {x:ar (.cons t r)}:yt (.cons t r) x↔yr t x.1∧yt r x.2:=yt.eq_2 t r x▸Iff.rfl
theorem Ri {k:IntKind} {n:Int}:yr (.int k) n↔(Lit.int k n).wf=true:=yr.eq_1 k n▸Iff.rfl
theorem SP {b:Bool}:yr .bool b:=yr.eq_2 b▸trivial
theorem Rj {s:ByteArray}:yr .str s↔ByteArray.size s≤maxLen:=yr.eq_3 s▸Iff.rfl
theorem Qm {r:RT} {xs:List (ar r)}:yr (.sl r) xs↔(xs.length≤maxLen∧∀x∈xs,yt r x):=yr.eq_4 r xs▸Iff.rfl
theorem RT.zm:(r s:RT)→(r.app s).width=r.width+s.width
 |.nil,s=>by simp [RT.app,RT.width]
 |.cons t r,s=>by simp [RT.app,RT.width,RT.zm r s];omega
theorem dj.cat {w:World} {ok:Nat→Prop}:(r s:RT)→(l m:List Value)→(x:ar r)→(y:ar s)→dj w ok r l x→dj w ok s m y→dj w ok (r.app s) (l++m) (Ql r s x y)
 |.nil,s,l,m,x,y,h,h'=>by
  have:l=[]:=h;subst this;exact h'
 |.cons t r,s,l,m,x,y,h,h'=>by
  obtain ⟨v,l',rfl,h1,h2⟩:=h;exact ⟨v,l'++m,rfl,h1,dj.cat r s l' m x.2 y h2 h'⟩
theorem yt.cat:(r s:RT)→(x:ar r)→(y:ar s)→yt r x→yt s y→yt (r.app s) (Ql r s x y)
 |.nil,_,_,_,_,h'=>h'
 |.cons t r,s,x,y,h,h'=>by
  exact aa.2 ⟨(aa.1 h).1,yt.cat r s x.2 y (aa.1 h).2 h'⟩
def B3 (P:Program) (row:TypeId→Option RT):Nat→List Field→Option RT
 |_,[]=>some .nil
 |off,f::fs=>match row f.type with
  |some q=>(match B3 P row (off+q.width) fs with
   |some r=>bif Nat.beq f.offset off&&Nat.beq (P.cellsOf f.type) q.width then some (q.app r) else none
   |none=>none)
  |none=>none
def B4 (P:Program):Nat→TypeId→Option RT
 |0,_=>none
 |n+1,t=>match P.underlying t with
  |some .bool=>some (.cons .bool .nil)
  |some (.int k)=>some (.cons (.int k) .nil)
  |some .string=>some (.cons .str .nil)
  |some (.slice e)=>(match B4 P n e with
   |some q=>bif Nat.beq (P.cellsOf e) q.width&&Nat.blt 0 q.width then some (.cons (.sl q) .nil) else none
   |none=>none)
  |some (.struct fs)=>(match B3 P (B4 P n) 0 fs.toList with
   |some r=>bif Nat.beq (P.cellsOf t) r.width then some r else none
   |none=>none)
  |_=>none
theorem JP {α:Type} {Pr:Nat→α→Prop}:(n:Nat)→(∀i,i<n→∃x,Pr i x)→∃xs:List α,xs.length=n∧∀(i:Nat) x,xs[i]?=some x→Pr i x
 |0,_=>⟨[],rfl,fun i x h=>by simp at h⟩
 |n+1,h=>by
  obtain ⟨xs,h1,h2⟩:=JP n (fun i hi=>h i (by omega));obtain ⟨x,hx⟩:=h n (by omega);refine ⟨xs++[x],by simp [h1],fun i y hy => ?_⟩
  by_cases hi:i<n
  ·rw [List.getElem?_append_left (by omega)] at hy;exact h2 i y hy
  ·rw [List.getElem?_append_right (by omega)] at hy;have zR:i=n:=by
    have:=(List.getElem?_eq_some_iff.1 hy).1;simp at this;omega
   subst zR;rw [h1,Nat.sub_self] at hy;simp at hy;rw [←hy];exact hx
theorem DI {w:World} {a:Addr} {v:Value} (h:w.cell? a=some v):a.spot=none:=by
 unfold World.cell? at h
 split at h
 ·split at h
  ·cases h
  ·rename_i hs;simpa using hs
 ·cases h
theorem GP {α β:Type} {f:α→Option β}:(l:List α)→{m:List β}→l.mapM f=some m→m.length=l.length∧∀(i:Nat) a,l[i]?=some a→f a=m[i]?
 | [],m,h=>by
  simp at h;subst h;exact ⟨rfl,fun i a ha=>by simp at ha⟩
 |a::l,m,h=>by
  rw [List.mapM_cons] at h
  cases ha:f a with
  |none=>simp [ha] at h
  |some b=>
   cases hl:l.mapM f with
   |none=>simp [ha,hl] at h
   |some m'=>
    simp [ha,hl] at h;subst h;obtain ⟨h1,h2⟩:=GP l hl;refine ⟨by simp [h1],fun i x hx => ?_⟩
    cases i with
    |zero=>simp at hx;subst hx;simpa using ha
    |succ i=>simpa using h2 i x (by simpa using hx)
theorem Ag {w:World} {base n:Nat} {a:Addr} {vs:List Value} (h:w.cells? base a n=some vs):vs.length=n∧w.rangeAt a.block a.off vs∧(0<n→a.spot=none):=by
 unfold World.cells? at h
 split at h
 ·obtain ⟨h1,h2⟩:=GP _ h;simp at h1;have each:∀j v,vs[j]?=some v→w.cell? (a.add j)=some v:=by
   intro j v hv;have hj:j<n:=by
    have:=(List.getElem?_eq_some_iff.1 hv).1;omega
   rw [h2 j j (by simp [hj]),hv]
  refine ⟨h1,fun j v hv => ?_,fun hn => ?_⟩
  ·have:=each j v hv;have hs:=DI this;have e:a.add j=⟨a.block,a.off+j,none⟩:=by
    unfold Addr.add at hs ⊢
    split
    ·rename_i h0;subst h0;rw [if_pos rfl] at hs;obtain ⟨b,o,s⟩:=a;simp at hs;subst hs;rfl
    ·rfl
   rw [←e];exact this
  ·have dG:0<vs.length:=by omega
   have:=each 0 vs[0] (by simp [dG]);have hs:=DI this;simpa [Addr.add] using hs
 ·cases h
theorem DJ {P:Program} {w:World} {cs:List Value} {row:TypeId→Option RT}:(fs:List Field)→(off:Nat)→(r:RT)→B3 P row off fs=some r→
  (∀f∈fs,∀q,row f.type=some q→∃x:ar q,dj w (fun _=>True) q ((cs.drop f.offset).take (P.cellsOf f.type)) x∧yt q x)→off+r.width≤cs.length→
  ∃x:ar r,dj w (fun _=>True) r ((cs.drop off).take r.width) x∧yt r x
 | [],off,r,h,_,_=>by
  simp only [B3,Option.some.injEq] at h;subst h;exact ⟨(),by simp [RT.width,dj],BZ _⟩
 |f::fs,off,r,h,hf,hl=>by
  unfold B3 at h
  cases hq:row f.type with
  |none=>simp [hq] at h
  |some q=>
   simp only [hq] at h
   cases hr:B3 P row (off+q.width) fs with
   |none=>simp [hr] at h
   |some r'=>
    simp only [hr] at h;obtain ⟨h1,h2⟩:=aJ h;injection h2 with h2;subst h2;rw [Bool.and_eq_true] at h1;have ho:=Nat.eq_of_beq_eq_true h1.1;have hc:=Nat.eq_of_beq_eq_true h1.2;rw [RT.zm] at hl;obtain ⟨x,KO,Ev⟩:=hf f List.mem_cons_self q hq;obtain ⟨y,hy1,hy2⟩:=DJ fs (off+q.width) r' hr (fun g hg=>hf g (List.mem_cons_of_mem _ hg)) (by omega);refine ⟨Ql q r' x y,?_,yt.cat q r' x y Ev hy2⟩;rw [RT.zm,List.take_add,List.drop_drop];rw [ho,hc] at KO;exact dj.cat q r' _ _ x y KO hy1
theorem EH {H:Type} {enc:TypeId×Value→H} {P:Program} {w:World} {base:Nat} {spare:Nat→Bool} {held:Bool}:(n:Nat)→∀ {t:TypeId} {r:RT} {fuel:Nat} {cs:List Value} {y:DataW H×List MemPlace},B4 P n t=some r→
  DataW.trod enc P w base spare held fuel t cs=some y→∃x:ar r,dj w (fun _=>True) r cs x∧yt r x
 |0,_,_,_,_,_,h,_=>by cases h
 |n+1,t,r,fuel,cs,y,h,hd=>by
  unfold B4 at h
  cases hu:P.underlying t with
  |none=>simp [hu] at h
  |some d=>
   cases d with
   |bool=>
    simp only [hu,Option.some.injEq] at h;subst h;obtain ⟨b,rfl,_⟩:=DataW.trod_bool hu hd;exact ⟨((b:Bool),()),⟨_,_,rfl,rX.2 rfl,rfl⟩,aa.2 ⟨SP,BZ _⟩⟩
   |int k=>
    simp only [hu,Option.some.injEq] at h;subst h;obtain ⟨m,rfl,_,hw⟩:=DataW.trod_int hu hd;exact ⟨((m:Int),()),⟨_,_,rfl,tL.2 rfl,rfl⟩,aa.2 ⟨Ri.2 hw,BZ _⟩⟩
   |string=>
    simp only [hu,Option.some.injEq] at h;subst h;obtain ⟨s,rfl,_,hw⟩:=DataW.trod_string hu hd;exact ⟨((s:ByteArray),()),⟨_,_,rfl,vh.2 rfl,rfl⟩,aa.2 ⟨Rj.2 hw,BZ _⟩⟩
   |slice e=>
    simp only [hu] at h
    cases hq:B4 P n e with
    |none=>simp [hq] at h
    |some q=>
     simp only [hq] at h;obtain ⟨h1,h2⟩:=aJ h;injection h2 with h2;subst h2;rw [Bool.and_eq_true] at h1;have hw:=Nat.eq_of_beq_eq_true h1.1;have Sy:0<q.width:=Nat.le_of_ble_eq_true h1.2;rcases DataW.trod_slice hu hd with ⟨rfl,_⟩ | ⟨a,len,cap,elems,rest,m,_,rfl,_,hb,hl,hm,hlen,Ls,_,_⟩
     ·exact ⟨(([]:List (ar q)),()),⟨_,_,rfl,(nI _ _ _ _ _).2 (.inl ⟨rfl,rfl⟩),rfl⟩,aa.2 ⟨Qm.2 ⟨Nat.zero_le _,fun x hx=>by cases hx⟩,BZ _⟩⟩
     ·have each:∀i,i<len→∃x:ar q,(dE w (fun _=>True) q a.block (a.off+i*q.width) x∧yt q x)∧a.spot=none∧a.block<w.heap.size:=by
       intro i hi;have h3:=Ls i hi;rw [List.getElem?_eq_getElem (by omega),Option.bind_eq_some_iff] at h3;obtain ⟨vs,vm,hy⟩:=h3;obtain ⟨x,hx,hs⟩:=EH n hq hy;obtain ⟨g1,g2,g3⟩:=Ag vm;have U1:(a.add (i*P.cellsOf e)).block=a.block:=by unfold Addr.add;split<;>rfl
       have hof:(a.add (i*P.cellsOf e)).off=a.off+i*q.width:=by
        unfold Addr.add;rw [hw]
        split
        ·rename_i h0;rw [h0];rfl
        ·rfl
       rw [U1,hof] at g2;refine ⟨x,⟨(ke q _ _ x).2 ⟨vs,g2,hx⟩,hs⟩,?_,?_⟩
       ·have h4:=Ls 0 (by omega);rw [List.getElem?_eq_getElem (by omega),Option.bind_eq_some_iff] at h4;obtain ⟨vs0,adu,_⟩:=h4;have:=(Ag adu).2.2 (by omega);simpa [Addr.add] using this
       ·have dG:0<vs.length:=by omega
        have h5:=Jq (g2 0 vs[0] (by simp [dG]));exact h5
      obtain ⟨xs,KO,Ev⟩:=JP len each;refine ⟨((xs:List (ar q)),()),⟨_,_,rfl,(nI _ _ _ _ _).2 (.inr ⟨a,cap,by rw [KO],by rw [KO];exact hl,fun gr => ?_,fun i x hi=>(Ev i x hi).1.1⟩),rfl⟩,?_⟩
      ·have dG:0<xs.length:=List.length_pos_iff.2 gr;have:=(Ev 0 xs[0] (by simp [dG])).2;exact ⟨this.1,this.2,trivial⟩
      ·refine aa.2 ⟨Qm.2 ⟨by show xs.length≤maxLen;omega,fun x hx => ?_⟩,BZ _⟩;obtain ⟨i,hi⟩:=List.getElem?_of_mem hx;exact (Ev i x hi).1.2
   |struct fs=>
    simp only [hu] at h
    cases hq:B3 P (B4 P n) 0 fs.toList with
    |none=>simp [hq] at h
    |some q=>
     simp only [hq] at h;obtain ⟨h1,h2⟩:=aJ h;injection h2 with h2;subst h2;have hw:=Nat.eq_of_beq_eq_true h1;obtain ⟨xs,m,_,_,hlen,Q7,Ls⟩:=DataW.trod_struct hu hd;obtain ⟨x,g1,g2⟩:=DJ (w:=w) (cs:=cs) fs.toList 0 q hq (fun f hf p hp=>by
      obtain ⟨i,hi⟩:=List.getElem?_of_mem hf;rw [Array.getElem?_toList] at hi;have h3:=Ls i f hi;have dG:i<fs.size:=(Array.getElem?_eq_some_iff.1 hi).1;rw [List.getElem?_eq_getElem (by omega)] at h3;exact EH n hp h3) (by omega)
     refine ⟨x,?_,g2⟩;have:(cs.drop 0).take q.width=cs:=by rw [List.drop_zero,List.take_of_length_le (by omega)]
     rwa [this] at g1
   |_=>simp [hu] at h
end Go.TM
namespace Go.TM
open Go Go.RowKit Go.ChangeShapes
mutual
theorem Ty.vJ:(t:Ty)→Ty.eq? t t=some ⟨rfl⟩
 |.int k=>by simp [Ty.eq?]
 |.bool=>rfl
 |.str=>rfl
 |.sl r=>by simp [Ty.eq?,RT.vJ r]
theorem RT.vJ:(r:RT)→RT.eq? r r=some ⟨rfl⟩
 |.nil=>rfl
 |.cons t r=>by simp [RT.eq?,Ty.vJ t,RT.vJ r]
end
theorem Ik (r:RT) (xs:List (ar r)):cn r xs=some xs:=by
 unfold cn;rw [RT.vJ]
theorem sg {p:OP} {ps:List OP} {t:RT} {o:OV} {os:List OV} {y:ar t} {x:den p.ty} {z:ar (mH ps t)} (h1:s9 p o=some x) (h2:dQ ps t os y=some z):dQ (p::ps) t (o::os) y=some ((x,z):ar (mH (p::ps) t)):=by
 unfold dQ;rw [h1,h2];rfl
theorem Lt {k:IntKind} {n:Int}:s9 (.int k) (.int k n)=some n:=if_pos rfl
def nK:RT→List OP
 |.nil=>[]
 |.cons (.int k) r=>.int k::nK r
 |.cons .bool r=>.bool::nK r
 |.cons .str r=>.str::nK r
 |.cons (.sl q) r=>.shr q::nK r
def Cz.free:Cz:={ bx:=fun _=>0,lc:=fun _ _=>.nil,own:=fun _=>none }
theorem GQ {w:World} {f:Nat→Lb}:(r:RT)→(t:RT)→(j:Nat)→(vs:List Value)→(x:ar r)→(y:ar t)→dj w (fun _=>True) r vs x→yt r x→
  ∃z:ar (mH (nK r) t),bo Cz.free w f j (dW (nK r) t z).1 vs∧dQ (nK r) t (dW (nK r) t z).1 y=some z∧(yt t y→yt (mH (nK r) t) z)
 |.nil,t,j,vs,x,y,h,_=>by
  have:vs=[]:=h;subst this;exact ⟨y,rfl,rfl,id⟩
 |.cons ty r,t,j,vs,x,y,h,hs=>by
  obtain ⟨v,l,rfl,h1,h2⟩:=h;obtain ⟨s1,s2⟩:=aa.1 hs;obtain ⟨z,g1,g2,g3⟩:=GQ (f:=f) r t (j+1) l x.2 y h2 s2
  cases ty with
  |int k=>
   refine ⟨(x.1,z),⟨l,by rw [tL.1 h1],g1⟩,?_,fun hy=>aa.2 ⟨s1,g3 hy⟩⟩;exact sg (p:=.int k) (o:=.int k x.1) (Lt) g2
  |bool=>
   refine ⟨(x.1,z),⟨l,by rw [rX.1 h1],g1⟩,?_,fun hy=>aa.2 ⟨s1,g3 hy⟩⟩;exact sg (p:=.bool) (o:=.bool x.1) (rfl) g2
  |str=>
   refine ⟨(x.1,z),⟨l,by rw [vh.1 h1],g1⟩,?_,fun hy=>aa.2 ⟨s1,g3 hy⟩⟩;exact sg (p:=.str) (o:=.str x.1) (rfl) g2
  |sl q=>
   refine ⟨(x.1,z),⟨v,l,rfl,cE.stays ⟨Nat.le_refl _,fun _ _ _=>rfl,fun _ _ _=>rfl⟩ _ _ _ h1,g1⟩,?_,fun hy=>aa.2 ⟨s1,g3 hy⟩⟩;exact sg (p:=.shr q) (o:=.shr q x.1) (Ik q x.1) g2
def OP.same:OP→OP→Bool
 |.int k,.int l=>decide (k=l)
 |.bool,.bool=>true
 |.str,.str=>true
 |.shr r,.shr s=>(RT.eq? r s).isSome
 |_,_=>false
theorem OP.yp {p q:OP} (h:p.same q=true):p=q:=by
 cases p<;>cases q<;>simp [OP.same] at h
 ·rw [h]
 ·rfl
 ·rfl
 ·rename_i r s;obtain ⟨⟨e⟩,_⟩:=Option.isSome_iff_exists.1 h;rw [e]
def wu:List OP→List OP→Bool
 | [],[]=>true
 |p::l,q::m=>p.same q&&wu l m
 |_,_=>false
theorem B5:(l m:List OP)→wu l m=true→l=m
 | [],[],_=>rfl
 |p::l,q::m,h=>by
  unfold wu at h;rw [Bool.and_eq_true] at h;rw [OP.yp h.1,B5 l m h.2]
 | [],_::_,h=>by simp [wu] at h
 |_::_,[],h=>by simp [wu] at h
def HC (P:Program):List TypeId→List AP→Bool
 | [],[]=>true
 |t::ts,.val agg os::ps=>(match B4 P 30 t with
   |some r=>wu (nK r) os
   |none=>false)&&((match P.underlying t with | some (.struct _)=>agg | _ => !agg)&&(P.readableRec t&&(Nat.blt t P.types.size&&HC P ts ps)))
 |_,_=>false
theorem one_cell {P:Program} {w:World} {r:Reach} {b:Nat} {t:TypeId} {v:Value} {rt:RT} (hn:B4 P 30 t=some rt) (hs:∀fs,P.underlying t≠some (.struct fs)) (h:Value.okWide P w r b t v):v.cells.toList=[v]:=by
 cases hu:P.underlying t with
 |none=>simp [B4,hu] at hn
 |some d=>
  cases v<;>try rfl
  rename_i cs
  exfalso
  cases d<;>first | exact hs _ hu | (simp [B4,hu] at hn;done) | (simp [Value.okWide,hu,Cell.okWide,Cell.ok] at h)
theorem DK {H:Type} {enc:TypeId×Value→H} {P:Program} {w:World} {lc:Nat→Nat→Loc}:(ts:List TypeId)→(ps:List AP)→HC P ts ps=true→(i:Nat)→(vs:List Value)→(ds:List (DataW H))→(p:List MemPlace)→
  (∀(j:Nat) t v,ts[j]?=some t→vs[j]?=some v→∃b,Value.okWide P w .any b t v)→DataW.TrodAll enc P w 0 (fun _=>true) true ts vs ds p→
  ∃(x:ar (aE (ps.map some))) (dL:List AV),eR ps dL=some x∧oQ Cz.free w lc i dL vs∧yt (aE (ps.map some)) x
 | [],[],_,i,vs,ds,p,_,hA=>by
  obtain ⟨rfl,_,_⟩:=trodAll_nil hA;exact ⟨(),[],rfl,rfl,BZ _⟩
 | [],_::_,hb,_,_,_,_,_,_=>by simp [HC] at hb
 |t::ts,[],hb,_,_,_,_,_,_=>by simp [HC] at hb
 |t::ts,.io _ _::_,hb,_,_,_,_,_,_=>by simp [HC] at hb
 |t::ts,.box _ _::_,hb,_,_,_,_,_,_=>by simp [HC] at hb
 |t::ts,.cz _::_,hb,_,_,_,_,_,_=>by simp [HC] at hb
 |t::ts,.val agg os::ps,hb,i,vs,ds,p,p7,hA=>by
  obtain ⟨v,Xc,d,ds',p',q',rfl,rfl,rfl,h1,h2⟩:=trodAll_cons hA;unfold HC at hb;rw [Bool.and_eq_true,Bool.and_eq_true,Bool.and_eq_true,Bool.and_eq_true] at hb;obtain ⟨b1,b2,_,_,b5⟩:=hb;obtain ⟨y,dL,g1,g2,g3⟩:=DK (lc:=lc) ts ps b5 (i+1) Xc ds' q' (fun j t v ht hv=>p7 (j+1) t v (by simpa using ht) (by simpa using hv)) h2;obtain ⟨b0,gP⟩:=p7 0 t v rfl rfl
  cases hr:B4 P 30 t with
  |none=>rw [hr] at b1;cases b1
  |some r=>
   rw [hr] at b1;have ri:=B5 _ _ b1;subst ri;obtain ⟨fuel,hd⟩:=h1;obtain ⟨x,KO,Ev⟩:=EH 30 hr hd;obtain ⟨z,k1,k2,k3⟩:=GQ (f:=.cH i) r (aE (ps.map some)) 0 v.cells.toList x y KO Ev
   cases agg with
   |false=>
    have hs:∀fs,P.underlying t≠some (.struct fs):=by
     intro fs e;rw [e] at b2
     cases b2
    rw [one_cell hr hs gP] at k1;refine ⟨z,.val false (dW (nK r) (aE (ps.map some)) z).1::dL,?_,⟨v,Xc,rfl,k1,g2⟩,k3 g3⟩;show (match eR ps dL with | some y=>JG (.val false (nK r)) (aE (ps.map some)) (.val false _) y | none=>none)=_;rw [g1];exact k2
   |true=>
    obtain ⟨fs,hu⟩:∃fs,P.underlying t=some (.struct fs):=by
     cases hu:P.underlying t with
     |none=>rw [hu] at b2;cases b2
     |some d=>
      rw [hu] at b2
      cases d<;>first | exact ⟨_,rfl⟩ | cases b2
    obtain ⟨cs,rfl,_⟩:∃cs,v=.agg cs∧True:=by
     unfold Value.okWide at gP;rw [hu] at gP;obtain ⟨cs,e,_⟩:=gP;exact ⟨cs,e,trivial⟩
    refine ⟨z,.val true (dW (nK r) (aE (ps.map some)) z).1::dL,?_,⟨.agg cs,Xc,rfl,⟨cs,rfl,k1⟩,g2⟩,k3 g3⟩;show (match eR ps dL with | some y=>JG (.val true (nK r)) (aE (ps.map some)) (.val true _) y | none=>none)=_;rw [g1];exact k2
theorem DL {H:Type} {enc:TypeId×Value→H} {P:Program} (hl:laidOutB P=true) {W W':World} (hb:Below W.heap.size W W'):(ts:List TypeId)→(ps:List AP)→HC P ts ps=true→(vs:List Value)→(ds:List (DataW H))→(p:List MemPlace)→(∀x∈p,x.block<W.heap.size)→
  DataW.TrodAll enc P W 0 (fun _=>true) true ts vs ds p→DataW.TrodAll enc P W' 0 (fun b=>decide (b<W.heap.size)) true ts vs ds p
 | [],[],_,vs,ds,p,_,hA=>by
  obtain ⟨rfl,rfl,rfl⟩:=trodAll_nil hA;exact trodAll_mk0
 | [],_::_,hb,_,_,_,_,_=>by simp [HC] at hb
 |t::ts,[],hb,_,_,_,_,_=>by simp [HC] at hb
 |t::ts,.io _ _::_,hb,_,_,_,_,_=>by simp [HC] at hb
 |t::ts,.box _ _::_,hb,_,_,_,_,_=>by simp [HC] at hb
 |t::ts,.cz _::_,hb,_,_,_,_,_=>by simp [HC] at hb
 |t::ts,.val agg os::ps,hp,vs,ds,p,dG,hA=>by
  obtain ⟨v,Xc,d,ds',p',q',rfl,rfl,rfl,h1,h2⟩:=trodAll_cons hA;unfold HC at hp;rw [Bool.and_eq_true,Bool.and_eq_true,Bool.and_eq_true,Bool.and_eq_true] at hp;obtain ⟨_,_,b3,b4,b5⟩:=hp;exact trodAll_cons_mk (Below.trod hl b3 (Nat.le_of_ble_eq_true b4) h1 hb (fun x hx=>dG x (List.mem_append_left _ hx))) (DL hl hb ts ps b5 Xc ds' q' (fun x hx=>dG x (List.mem_append_right _ hx)) h2)
theorem Lu {H:Type} {enc:TypeId×Value→H} {P:Program} (hl:laidOutB P=true) {f:FuncId} {ps:List AP} {s:Nat} {t:ar (aE (ps.map some))→Option (ar (dq [{ src:=.tmp s,agg:=false,ps:=[.bool] }] (ck ps)))}
  (hk:th P f (qw ps [{ src:=.tmp s,agg:=false,ps:=[.bool] }] t)) {ts:List TypeId} (Nh:HC P ts ps=true) (adw:∀x,yt (aE (ps.map some)) x→∃y,t x=some y∧y.1=true)
  {W:World} {base:Nat} {args:Array Value} {ds:List (DataW H)} {p:List MemPlace} (p7:∀(j:Nat) t v,ts[j]?=some t→args[j]?=some v→Value.okWide P W .any base t v)
  (hA:DataW.TrodAll enc P W 0 (fun _=>true) true ts args.toList ds p) (dG:∀x∈p,x.block<W.heap.size) :
  Calls P f args W fun e W'=>e=.returned (.bool true)∧Below W.heap.size W W'∧DataW.TrodAll enc P W' 0 (fun b=>decide (b<W.heap.size)) true ts args.toList ds p:=by
 obtain ⟨x,dL,h1,h2,h3⟩:=DK (lc:=fun _ _=>.nil) ts ps Nh 0 args.toList ds p (fun j t v ht hv=>⟨base,p7 j t v ht (by rwa [Array.getElem?_toList] at hv)⟩) hA;obtain ⟨y,hy,hy1⟩:=adw x h3
 let μ:Mu:={ m:=fun _=>False,ok:=fun _=>True,an:=[],rs:=fun _=>False }
 have hH:Handed Cz.free W μ:={
  m:=fun b=>⟨fun h=>h.elim,fun ⟨l,h,_⟩=>by cases h⟩
  ok:=fun b=>⟨fun _=>rfl,fun _=>trivial⟩
  lt:=fun b l h=>by cases h
  lb:=fun b l h=>by cases h
  rs:=fun b l h=>by cases h }
 have hs:qw ps [{ src:=.tmp s,agg:=false,ps:=[.bool] }] t dL=some { r:=dq [{ src:=.tmp s,agg:=false,ps:=[.bool] }] (ck ps),o:=t x,res:=fun y=>{ outs:=(fT [{ src:=.tmp s,agg:=false,ps:=[.bool] }] (ck ps) y).1,exts:=nc ps (fT [{ src:=.tmp s,agg:=false,ps:=[.bool] }] (ck ps) y).2 } }:=by
  unfold qw;rw [h1]
 refine (hk.ok Cz.free W μ (fun _ _=>.nil) dL args _ y hH h2 hs hy).mono fun e W' ⟨v,he,c',hb,hV,_⟩ => ?_
 have Xd:Below W.heap.size W W':=⟨hb.kept.1,hb.kept.2.1,hb.kept.2.2.1,hb.kept.2.2.2,fun k hk=>hb.old k hk (fun h=>h.elim)⟩;have hv:v=.bool true:=by
  have hV:sd c' W' [.one (.bool y.1)] v:=hV;rcases hV with ⟨r,e1,g⟩ | ⟨g,_⟩
  ·simp only [List.cons.injEq,and_true] at e1;subst e1;obtain ⟨v',l,e2,g2,_⟩:=g;simp only [List.cons.injEq] at e2;obtain ⟨e2,_⟩:=e2;obtain ⟨l',g3,_⟩:=g2;simp only [List.cons.injEq] at g3;rw [e2,g3.1,hy1]
  ·simp at g
 exact ⟨by rw [he,hv],Xd,DL hl Xd ts ps Nh args.toList ds p dG hA⟩
theorem ef {a:Int} (h1 : -9223372036854775808≤a) (h2:a<9223372036854775808):IntKind.i64.wrap a=a:=by
 rw [IntKind.wrap_i64];omega
theorem wf_i64 {n:Int} (h:(Lit.int .i64 n).wf=true) : -9223372036854775808≤n∧n<9223372036854775808:=by
 simp only [Lit.wf,Bool.and_eq_true,decide_eq_true_eq] at h;have h1:IntKind.i64.min = -9223372036854775808:=rfl;have h2:IntKind.i64.max=9223372036854775807:=rfl;omega
theorem pP {X E:Type} {round:X→Option (Sum X E)} {n:Nat} (st:Nat→X) (g:Nat→Option E) (EI:∃e,round (st n)=some (.inr e)∧g n=some e)
  (uP:∀k,k<n→(∃e,round (st k)=some (.inr e)∧g k=some e)∨(round (st k)=some (.inl (st (k+1)))∧g k=g (k+1))):∀k,k≤n→aG round (st k)=g k:=by
 have key:∀d k,k+d=n→aG round (st k)=g k:=by
  intro d
  induction d with
  |zero=>
   intro k hk;have:k=n:=by omega
   subst this;obtain ⟨e,h1,h2⟩:=EI;rw [jA,h1,h2]
  |succ d ih=>
   intro k hk;rcases uP k (by omega) with ⟨e,h1,h2⟩ | ⟨h1,h2⟩
   ·rw [jA,h1,h2]
   ·rw [jA,h1,h2];exact ih (k+1) (by omega)
 intro k hk;exact key (n-k) k (by omega)
theorem bT {X E:Type} {round:X→Option (Sum X E)} (n:Nat) (st:Nat→X) {e:E} (EI:round (st n)=some (.inr e))
  (uP:∀k,k<n→round (st k)=some (.inl (st (k+1)))):aG round (st 0)=some e:=
 pP st (fun _=>some e) ⟨e,EI,rfl⟩ (fun k hk=>.inr ⟨uP k hk,rfl⟩) 0 (Nat.zero_le _)
theorem fV {X E:Type} {round:X→Option (Sum X E)} (n:Nat) (I:Nat→X→Prop) (Q:E→Prop) (EI:∀x,I n x→∃e,round x=some (.inr e)∧Q e)
  (uP:∀k x,k<n→I k x→(∃e,round x=some (.inr e)∧Q e)∨(∃y,round x=some (.inl y)∧I (k+1) y)) {x:X} (h:I 0 x):∃e,aG round x=some e∧Q e:=by
 have key:∀d k x,k+d=n→I k x→∃e,aG round x=some e∧Q e:=by
  intro d
  induction d with
  |zero=>
   intro k x hk hI;have:k=n:=by omega
   subst this;obtain ⟨e,h1,h2⟩:=EI x hI;exact ⟨e,by rw [jA,h1],h2⟩
  |succ d ih=>
   intro k x hk hI;rcases uP k x (by omega) hI with ⟨e,h1,h2⟩ | ⟨y,h1,h2⟩
   ·exact ⟨e,by rw [jA,h1],h2⟩
   ·obtain ⟨e,h3,h4⟩:=ih (k+1) y (by omega) h2;exact ⟨e,by rw [jA,h1];exact h3,h4⟩
 exact key n 0 x (by omega) h
theorem iW {A B C:Type} {a:A} {f:A→Option C} {g:B→Option C}:cT (some (.inl a)) f g=f a:=rfl
theorem ak {p:Prop} [Decidable p] (h:p):decide p=true:=decide_eq_true h
theorem aq {p:Prop} [Decidable p] (h:¬p):decide p=false:=decide_eq_false h
theorem aC (k:Nat):Int.toNat ((k:Nat):Int)=k:=rfl
theorem fW {a b:Nat} (h:a<b):Nat.blt a b=true:=Nat.ble_eq_true_of_le h
theorem bh {a b:Nat} (h:a≤b):Nat.ble a b=true:=Nat.ble_eq_true_of_le h
theorem au (k:Nat):decide ((0:Int)≤((k:Nat):Int))=true:=ak (by omega)
theorem az {k n:Nat} (h:k<n):decide (((k:Nat):Int)<((n:Nat):Int))=true:=ak (by omega)
theorem aA (n:Nat):decide (((n:Nat):Int)<((n:Nat):Int))=false:=aq (by omega)
theorem aF {k:Nat} (h:k<4611686018427387904):IntKind.i64.wrap (((k:Nat):Int)+(1:Int))=(((k+1:Nat)):Int):=by
 rw [ef]<;>omega
theorem B6 (bs:ByteArray):∀(d i:Nat) (r:List UInt8),bs.size-i=d→ByteArray.toList.loop bs i r=r.reverse++bs.data.toList.drop i
 |0,i,r,h=>by
  unfold ByteArray.toList.loop;rw [if_neg (by omega)];have:bs.data.toList.drop i=[]:=List.drop_of_length_le (by
   have:bs.data.toList.length=bs.size:=Array.length_toList;omega)
  rw [this,List.append_nil]
 |d+1,i,r,h=>by
  unfold ByteArray.toList.loop;have dG:i<bs.size:=by omega
  rw [if_pos dG,B6 bs d (i+1) _ (by omega)];have adx:i<bs.data.toList.length:=by
   have:bs.data.toList.length=bs.size:=Array.length_toList;omega
  rw [List.reverse_cons,List.append_assoc,List.drop_eq_getElem_cons adx]
  congr 2
  simp [ByteArray.get!,dG]
theorem B7 (bs:ByteArray):bs.toList=bs.data.toList:=by
 unfold ByteArray.toList;rw [B6 bs _ 0 [] rfl];simp
theorem Lv {a b:ByteArray}:pJ a b=true↔a=b:=by
 unfold pJ;rw [beq_iff_eq]
 constructor
 ·intro h;rw [B7,B7] at h;obtain ⟨⟨x⟩⟩:=a;obtain ⟨⟨y⟩⟩:=b;exact congrArg (fun l=>ByteArray.mk ⟨l⟩) h
 ·intro h;rw [h]
theorem dB (a:ByteArray):pJ a a=true:=Lv.2 rfl
theorem vK {α:Type} (a:List α) (z:α) {k:Nat} (hk:k<a.length):List.set (a.take k++List.replicate (a.length-k) z) k a[k]=a.take (k+1)++List.replicate (a.length-(k+1)) z:=by
 have h1:(a.take k).length=k:=by simp;omega
 have h2:a.length-k=(a.length-(k+1))+1:=by omega
 rw [List.set_append,if_neg (by omega),h1,Nat.sub_self,h2,List.replicate_succ,List.set_cons_zero,List.take_succ_eq_append_getElem hk,List.append_assoc];rfl
def wl {α:Type} (f:α→Nat) (xs:List α):Nat:=xs.foldr (fun x n=>f x+n) 0
theorem vL {α:Type} (f:α→Nat):wl f []=0:=rfl
theorem mX {α:Type} (f:α→Nat) (x:α) (xs:List α):wl f (x::xs)=f x+wl f xs:=rfl
theorem B8 {α:Type} (f:α→Nat) (xs ys:List α):wl f (xs++ys)=wl f xs+wl f ys:=by
 induction xs with
 |nil=>simp [wl]
 |cons x xs ih=>
  show f x+wl f (xs++ys)=f x+wl f xs+wl f ys;rw [ih];omega
theorem ub {α:Type} (f:α→Nat) (xs:List α) {k:Nat} (hk:k<xs.length):wl f (xs.take (k+1))=wl f (xs.take k)+f xs[k]:=by
 rw [List.take_succ_eq_append_getElem hk,B8];rfl
theorem p9 {α:Type} (f:α→Nat) (xs:List α):∀x∈xs,f x≤wl f xs:=by
 induction xs with
 |nil=>intro x h;cases h
 |cons y xs ih=>
  intro x h;show f x≤f y+wl f xs;rcases List.mem_cons.1 h with rfl | h
  ·omega
  ·have:=ih x h;omega
theorem qF {α:Type} (f:α→Nat) (h:∀x,f x=0) (xs:List α):wl f xs=0:=by
 induction xs with
 |nil=>rfl
 |cons y xs ih=>show f y+wl f xs=0;rw [h,ih]
theorem qa {r:RT} {xs:List (ar r)} (h:yr (.sl r) xs):xs.length≤9223372036854775807:=(Qm.1 h).1
theorem uQ {r:RT} {xs:List (ar r)} (h:yr (.sl r) xs):∀x∈xs,yt r x:=(Qm.1 h).2
theorem Il {s:ByteArray} (h:yr .str s):ByteArray.size s≤9223372036854775807:=Rj.1 h
theorem fm {n:Int} (h:yr (.int .i64) n) : -9223372036854775808≤n∧n<9223372036854775808:=wf_i64 (Ri.1 h)
def Left (o:Option (Int×Unit)) (wt:Nat) (left:Int):Prop:=∃m,o=some (m,()) ∧ -1≤m∧(0≤m→(wt:Int)+m≤left)
theorem ti {X Y E F:Type} {r1:X→Option (Sum X E)} {r2:Y→Option (Sum Y F)} (n:Nat) (R:Nat→X→Y→Prop) (Q:E→F→Prop)
  (uP:∀k x y,k≤n→R k x y→(∃e f,r1 x=some (.inr e)∧r2 y=some (.inr f)∧Q e f)∨(k<n∧∃x' y',r1 x=some (.inl x')∧r2 y=some (.inl y')∧R (k+1) x' y')) {x:X} {y:Y} (h:R 0 x y) :
  ∃e f,aG r1 x=some e∧aG r2 y=some f∧Q e f:=by
 have key:∀d k x y,k+d=n→R k x y→∃e f,aG r1 x=some e∧aG r2 y=some f∧Q e f:=by
  intro d
  induction d with
  |zero=>
   intro k x y hk hR;rcases uP k x y (by omega) hR with ⟨e,f,h1,h2,h3⟩ | ⟨dG,_⟩
   ·exact ⟨e,f,by rw [jA,h1],by rw [jA,h2],h3⟩
   ·omega
  |succ d ih=>
   intro k x y hk hR;rcases uP k x y (by omega) hR with ⟨e,f,h1,h2,h3⟩ | ⟨_,x',y',h1,h2,h3⟩
   ·exact ⟨e,f,by rw [jA,h1],by rw [jA,h2],h3⟩
   ·obtain ⟨e,f,g1,g2,g3⟩:=ih (k+1) x' y' (by omega) h3;exact ⟨e,f,by rw [jA,h1];exact g1,by rw [jA,h2];exact g2,g3⟩
 exact key n 0 x y (by omega) h
end Go.TM
namespace Go.TM
open Go Go.RowKit
def qV (P:Program):Nat→RT→List Field→Bool
 |_,.nil,[]=>true
 |off,.cons t r,f::fs=>Nat.beq f.offset off&&((f.name != "_")&&(P.plainKey f.type&&(GN P f.type t&&qV P (off+1) r fs)))
 |_,_,_=>false
def zn (P:Program) (t:TypeId) (r:RT):Bool:=
 match P.underlying t with
 |some (.struct fs) => !P.stoodInHeld t&&(!P.eqGuardType P.depth t&&qV P 0 r fs.toList)
 |_=>false
def Rk (P:Program) (t:Nat) (r:Rec):Bool := !r.eq||(match r.row with | some q=>zn P t q | none=>false)
theorem Im {P:Program} {c:Cz} {st:St} {w w':World} {t:TypeId} {ty:Ty} {d:Nat} {a b:CV} {x y:Value} {r:Bool} {q:RT} {l:List CV} (hk:GN P t ty=true) (hf:q8 (.cons ty q) (a::l)=true) (h:tF a b=some r) (hx:jv c st w a x) (hy:jv c st w b y) :
  (Op.equalIn (d+1) t x y).run P w'=.ok r w'∧q8 q l=true:=by
 cases ty with
 |sl _=>cases a<;>simp [q8] at hf
 |int k=>
  obtain ⟨e,he,h2⟩:=fU hk
  cases a<;>try (simp [q8] at hf;done)
  rename_i k1 n;simp only [q8,Bool.and_eq_true,decide_eq_true_eq] at hf
  cases b<;>try (simp [tF] at h;done)
  rename_i k2 m;simp only [tF] at h
  split at h
  ·rename_i Pz;subst Pz
   cases h
   cases e<;>simp at h2
   have hx:x=.int k1 n:=hx;have hy:y=.int k1 m:=hy;subst hx hy;refine ⟨?_,hf.2⟩;rw [run_equalIn_int w' d t k1 _ n m he]
   congr 1
  ·cases h
 |bool=>
  obtain ⟨e,he,h2⟩:=fU hk
  cases a<;>try (simp [q8] at hf;done)
  cases b<;>try (simp [tF] at h;done)
  rename_i p q';simp only [tF,Option.some.injEq] at h;subst h
  cases e<;>simp at h2
  have hx:x=.bool p:=hx;have hy:y=.bool q':=hy;subst hx hy;exact ⟨run_equalIn_bool' w' d t p q' he,hf⟩
 |str=>
  obtain ⟨e,he,h2⟩:=fU hk
  cases a<;>try (simp [q8] at hf;done)
  cases b<;>try (simp [tF] at h;done)
  rename_i p q';simp only [tF,Option.some.injEq] at h;subst h
  cases e<;>simp at h2
  have hx:x=.string p:=hx;have hy:y=.string q':=hy;subst hx hy;exact ⟨run_equalIn_string w' d t p q' he,hf⟩
theorem yu {P:Program} {c:Cz} {st:St} {w w':World} {d:Nat} {us vs:Array Value}:(fs:List Field)→(off:Nat)→(q:RT)→(l m:List CV)→{b:Bool}→qV P off q fs=true→q8 q l=true→nE l m=some b→
  fF c st w l (us.toList.drop off)→fF c st w m (vs.toList.drop off)→(Op.eqFields (d+1) us vs fs).run P w'=.ok b w'
 | [],off,q,l,m,b,hf,rj,hc,hl,hm=>by
  cases q with
  |cons t r=>cases t<;>simp [qV] at hf
  |nil=>
   cases l with
   |cons _ _=>simp [q8] at rj
   |nil=>cases m with
    |cons _ _=>simp [nE] at hc
    |nil=>
     simp only [nE,Option.some.injEq] at hc;subst hc;simp [Op.eqFields]
 |f::fs,off,q,l,m,b,hf,rj,hc,hl,hm=>by
  cases q with
  |nil=>simp [qV] at hf
  |cons t r=>
   unfold qV at hf;rw [Bool.and_eq_true,Bool.and_eq_true,Bool.and_eq_true,Bool.and_eq_true] at hf;obtain ⟨h1,h2,h3,h4,h5⟩:=hf;have h1:=Nat.eq_of_beq_eq_true h1
   cases l with
   |nil=>cases t<;>simp [q8] at rj
   |cons x l=>cases m with
    |nil=>simp [nE] at hc
    |cons y m=>
     simp only [nE] at hc
     cases he:tF x y with
     |none=>simp [he] at hc
     |some b1=>
      cases hes:nE l m with
      |none=>simp [he,hes] at hc
      |some b2=>
       simp only [he,hes,Option.some.injEq] at hc;subst hc;have CP:off<us.size:=by
        have:=hl.1;simp at this;omega
       have u7:off<vs.size:=by
        have:=hm.1;simp at this;omega
       have hdu:us.toList.drop off=us[off]::us.toList.drop (off+1):=by
        have:off<us.toList.length:=by simpa using CP
        rw [List.drop_eq_getElem_cons this];simp
       have Wx:vs.toList.drop off=vs[off]::vs.toList.drop (off+1):=by
        have:off<vs.toList.length:=by simpa using u7
        rw [List.drop_eq_getElem_cons this];simp
       rw [hdu] at hl;rw [Wx] at hm;have rx:=hl.2 0 x us[off] rfl rfl;have ry:=hm.2 0 y vs[off] rfl rfl;obtain ⟨k1,k2⟩:=Im (w':=w') (d:=d) h4 rj he rx ry;have rl:fF c st w l (us.toList.drop (off+1)):=⟨by have:=hl.1;simpa using this,fun i a v ha hv=>hl.2 (i+1) a v (by simpa using ha) (by simpa using hv)⟩;have rm:fF c st w m (vs.toList.drop (off+1)):=⟨by have:=hm.1;simpa using this,fun i a v ha hv=>hm.2 (i+1) a v (by simpa using ha) (by simpa using hv)⟩;have ih:=yu (w':=w') (d:=d) fs (off+1) r l m h5 k2 hes rl rm;unfold Op.eqFields;rw [if_pos (by simpa using h2)];have p1:(part f.type us f.offset).run P w'=.ok us[off] w':=run_part_plain w' h3 (by rw [h1];exact Array.getElem?_eq_getElem CP);have p2:(part f.type vs f.offset).run P w'=.ok vs[off] w':=run_part_plain w' h3 (by rw [h1];exact Array.getElem?_eq_getElem u7);simp only [Sem.run_bind,p1,p2,k1,Result.andThen_ok]
       cases b1
       ·simp
       ·simp [ih]
theorem Io {P:Program} {tr:Tr} (h:tr.all (Rk P)=true):xg P (oB tr):=by
 intro t ht c st w l m us vs b op ox oy rj hc hl hm w';have ht:(match tr.find t with | some r=>r.eq | none=>false)=true:=ht
 cases hf:tr.find t with
 |none=>rw [hf] at ht;cases ht
 |some r=>
  rw [hf] at ht;have ht:r.eq=true:=ht;have h1:=Tr.yn tr h hf;unfold Rk at h1;rw [ht,Bool.not_true,Bool.false_or] at h1;unfold lf.fits at rj;have dK:(oB tr).row t=r.row:=by show (match tr.find t with | some r=>r.row | none=>none)=_;rw [hf]
  rw [dK] at rj
  cases hq:r.row with
  |none=>rw [hq] at h1;cases h1
  |some q=>
   rw [hq] at h1 rj;have h1:zn P t q=true:=h1;have rj:q8 q l=true:=rj;unfold zn at h1
   split at h1
   ·rename_i fs hu;rw [Bool.and_eq_true,Bool.and_eq_true,Bool.not_eq_true',Bool.not_eq_true'] at h1;have hfo:P.fieldsOf t=fs:=by unfold Program.fieldsOf;rw [hu]
    refine ⟨run_eqGuard_agg w' op t ox oy us vs h1.2.1,?_⟩;show (Op.equalIn (9999+1) t (.agg us) (.agg vs)).run P w'=.ok b w';rw [run_equalIn_struct w' 9999 t us vs (by rw [hfo];exact hu) h1.1,hfo];exact yu (d:=9998) fs.toList 0 q l m h1.2.2 rj hc (by simpa using hl) (by simpa using hm)
   ·cases h1
end Go.TM
namespace Go.TM
open Go Go.RowKit
def GR (n:Nat) (ps:List AP) (x:ar (aE (ps.map some))):St:=bn (start n ps x) (some 0) (.one .dY)
def JQ (n:Nat) (r:RT) (xs:List (ar r)) (ps:List AP) (x:ar (aE (ps.map some))):St:=bn (start n ps x) (some 0) (.one (.nn r xs))
theorem GS {P:Program} {tr:Tr} (hT:tr.all (yo P)=true) (hE:xg P (oB tr)) (hm:P.follows .mixedOrders=true) {S:lO} (hS:oS P S) {D:nq} {f:FuncId} {fn:Func} {code:Code} {n:Nat} {r:RT} {qs:List AP} {rs:List RP}
  {L:qt (ar (dq rs (ck (.val false [.shr r]::qs))))} {t:ar (aE ((AP.val false [.shr r]::qs).map some))→Option (ar (dq rs (ck (.val false [.shr r]::qs))))}
  (hf:P.funcs[f]?=some fn) (hb:fn.body=some code) (sA:Va (oB tr) D fn code n (.val false [.shr r]::qs) rs=true) (N6:(fn.name == "runtime.NumGoroutine")=false)
  (hL:∀(w0:World) (mu:Mu) (y:ar (dq rs (ck (.val false [.shr r]::qs)))),mW (.val false [.shr r]::qs) mu→∀p∈ee code,oP P w0 mu n L y p.1 p.2)
  (N7:∀z,gq (oB tr) S D L code (GR n (.val false [.shr r]::qs) (([]:List (ar r)),z)) (Ie rs (.val false [.shr r]::qs))=t (([]:List (ar r)),z))
  (hnn:∀x,gq (oB tr) S D L code (JQ n r x.1 (.val false [.shr r]::qs) x) (Ie rs (.val false [.shr r]::qs))=t x):th P f (qw (.val false [.shr r]::qs) rs t):=by
 unfold Va at sA;rw [Bool.and_eq_true,Bool.and_eq_true,Bool.and_eq_true,Bool.and_eq_true] at sA;obtain ⟨h1,h2,h3,h4,h5⟩:=sA;refine ⟨GH (sE hT) hE hS hf hb (Nat.eq_of_beq_eq_true h1) (Nat.le_of_ble_eq_true h2) h3 (fun tm=>AW tm _ _ h4) (fun w0 mu y hs=>ua code (hL w0 mu y hs))
  (fun w0 mu=>zl (sE hT) hE hm (x9 (sE hT) hE hS w0 mu n)) (vI code h5) (fun w0 mu c a w x hR hn => ?_),fn,hf,N6,by rw [hb];rfl⟩
 have Sy:0<n:=by
  have:=Nat.le_of_ble_eq_true h2;simp at this;omega
 have s7:=hR.ey 0;have hg:cC (start n (.val false [.shr r]::qs) x) 0=.one (.shr r x.1):=rfl;rw [hg] at s7;have Bn:cE w c.ok (.sl r) (a.eval (.tmp 0)) x.1:=s7;have h0:0<a.tmps.size:=by omega
 by_cases hv:a.eval (.tmp 0)=.slice none 0 0
 ·refine ⟨c,GR n (.val false [.shr r]::qs) x,?_,?_⟩
  ·have:=hR.bn (d:=some 0) (v:=.one .dY) (u:=a.eval (.tmp 0)) hv (fun k e=>by cases e;exact h0)
   rwa [BB a 0 _ h0 rfl] at this
  ·have hx:x.1=([]:List (ar r)):=by
    rcases (nI _ _ _ _ _).1 Bn with ⟨_,h⟩ | ⟨_,_,h,_⟩
    ·exact h
    ·rw [hv] at h;cases h
   obtain ⟨x1,z⟩:=x;simp only at hx;subst hx;exact N7 z
 ·refine ⟨c,JQ n r x.1 (.val false [.shr r]::qs) x,?_,hnn x⟩;have:=hR.bn (d:=some 0) (v:=.one (.nn r x.1)) (u:=a.eval (.tmp 0)) ⟨Bn,hv⟩ (fun k e=>by cases e;exact h0)
  rwa [BB a 0 _ h0 rfl] at this
end Go.TM
namespace Go.TM
open Go Go.RowKit
section
variable {R:Type} (T:lf) (S:lO) (D:nq) (L:qt R)
end
def Xe {R:Type} (P:Program) (w0:World) (mu:Mu) (n:Nat) (k:Ex→St→Option R) (r:R) (b:Code) (hp:List (Option AP)) (g:ar (aE hp)→Option R):Prop:=
 ∀x,g x=some r→∀ {Q:Exit→Act→World→Prop},Np w0 mu n r k Q→∀ {c:Cz} {a:Act} {w:World},Rel w0 mu c (p8 hp x) a w→a.tmps.size=n→b.wp P Q a w
structure Seg (tr:Tr) (S:lO) (D:nq) (n:Nat) (ps:List AP) {R:Type} (L:qt R) (k:Ex→St→Option R) (P:Program) (b:Code) (hp:List (Option AP)) (g:ar (aE hp)→Option R):Prop where
 ok:∀(w0:World) (mu:Mu) (r:R),mW ps mu→jt n b=true→fS (fun id ops=>BX ops (D id)=true) b→fG (oP P w0 mu n L r) b→Xe P w0 mu n k r b hp g
end Go.TM
namespace Go.TM
open Go Go.RowKit
noncomputable section
structure TK (P:Program) where
 tr:Tr
 hT:tr.all (yo P)=true
 hE:xg P (oB tr)
 hm:P.follows .mixedOrders=true
structure KF (P:Program) where
 f:FuncId
 m:Pm×Pm×Pm
 xE:wE
 ok:th P f xE
def KF.sl {P:Program} (k:KF P):Nat×(Pm×Pm×Pm×wE):=(k.f,(k.m.1,k.m.2.1,k.m.2.2,k.xE))
def SQ {P:Program}:List (KF P)→SO
 | []=>[]
 |k::l=>k.sl::SQ l
theorem JR {P:Program}:(l:List (KF P))→oS P (xn (SQ l))
 | []=>N5
 |k::l=>Lq k.ok (JR l)
def kw {P:Program} {f:FuncId} {s:wE} (h:th P f s):KF P:=⟨f,(.shr,.shr,.shr),s,h⟩
def kv {P:Program} (m:Pm×Pm×Pm) {f:FuncId} {s:wE} (h:th P f s):KF P:=⟨f,m,s,h⟩
structure LD where
 i:Nat
 b:Code
 hp:List (Option AP)
 e:List (Option AP)
 q:List (Option AP)
 r:ar (aE hp)→Option (Sum (ar (aE hp)) (Sum (ar (aE e)) (ar (aE q))))
def LD.Ok (l:LD) (P:Program) (n:Nat) (ps:List AP):Prop:=
 ∀ {R:Type} (L:qt R) (y:R) (w0:World) (mu:Mu),(∀st k,L l.i l.b st k=zj l.hp l.e l.q l.r st k)→mW ps mu→oP P w0 mu n L y l.i l.b
structure SR (P:Program) (n:Nat) (ps:List AP) where
 d:LD
 ok:d.Ok P n ps
def vM {P:Program} {n:Nat} {ps:List AP} {R:Type}:List (SR P n ps)→qt R
 | []=>U5
 |l::ls=>fun id b st k=>bif Nat.beq id l.d.i then zj l.d.hp l.d.e l.d.q l.d.r st k else vM ls id b st k
def DM {P:Program} {n:Nat} {ps:List AP}:List (SR P n ps)→List (Nat×Code)
 | []=>[]
 |l::ls=>(l.d.i,l.d.b)::DM ls
def Ip {P:Program} {n:Nat} {ps:List AP}:List (SR P n ps)→Bool
 | []=>true
 |l::ls=>ls.all (fun m => !Nat.beq m.d.i l.d.i)&&Ip ls
theorem N8 {P:Program} {n:Nat} {ps:List AP} {R:Type}:(ls:List (SR P n ps))→Ip ls=true→∀l∈ls,∀st (k:Ex→St→Option R),vM ls l.d.i l.d.b st k=zj l.d.hp l.d.e l.d.q l.d.r st k
 | [],_,l,h=>by cases h
 |m::ls,hb,l,h=>by
  intro st k;unfold Ip at hb;rw [Bool.and_eq_true] at hb;rcases List.mem_cons.1 h with rfl | h
  ·show (bif Nat.beq l.d.i l.d.i then _ else _)=_;rw [Nat.beq_refl];rfl
  ·show (bif Nat.beq l.d.i m.d.i then _ else vM ls l.d.i l.d.b st k)=_;have:=List.all_eq_true.1 hb.1 l h;rw [Bool.not_eq_true'] at this;rw [this];exact N8 ls hb.2 l h st k
theorem JS {P:Program} {n:Nat} {ps:List AP}:(ls:List (SR P n ps))→∀p∈DM ls,∃l∈ls,p=(l.d.i,l.d.b)
 | [],p,h=>by cases h
 |m::ls,p,h=>by
  rcases List.mem_cons.1 h with rfl | h
  ·exact ⟨m,List.mem_cons_self,rfl⟩
  ·obtain ⟨l,h1,h2⟩:=JS ls p h;exact ⟨l,List.mem_cons_of_mem _ h1,h2⟩
theorem Iq {P:Program} {n:Nat} {ps:List AP} {R:Type} {ls:List (SR P n ps)} (hb:Ip ls=true) {c:Code} (hc:ee c=DM ls) (y:R) (w0:World) (mu:Mu) (hs:mW ps mu):∀p∈ee c,oP P w0 mu n (vM ls) y p.1 p.2:=by
 rw [hc];intro p hp;obtain ⟨l,hl,rfl⟩:=JS ls p hp;exact l.ok (vM ls) y w0 mu (N8 ls hb l hl) hs
structure FC (P:Program) where
 t:TK P
 l:List (KF P)
 D:nq
 fn:Func
 ps:List AP
abbrev FC.code {P:Program} (F:FC P):Code:=N4 F.fn
abbrev FC.S {P:Program} (F:FC P):lO:=xn (SQ F.l)
abbrev FC.T {P:Program} (F:FC P):lf:=oB F.t.tr
abbrev FC.KL {P:Program} (F:FC P):Type:=SR P F.fn.ntmps F.ps
abbrev FC.Ok {P:Program} (F:FC P) (l:LD):Prop:=l.Ok P F.fn.ntmps F.ps
abbrev FC.fin {P:Program} (F:FC P) (rs:List RP):Ex→St→Option (ar (dq rs (ck F.ps))):=Ie rs F.ps
def FC.lp {P:Program} (F:FC P) (j:Nat):Code:=EG F.code j
theorem FC.kl {P:Program} (F:FC P) {l:LD} (ls:List F.KL) (h1:(DH F.D F.ps l.hp l.e l.q F.fn.ntmps l.b&&Ip ls)=true) (h2:ee l.b=DM ls)
  (ht:∀x,gq F.T F.S F.D (vM ls) l.b (p8 l.hp x) (zi l.i l.hp l.e l.q)=l.r x):F.Ok l:=by
 rw [Bool.and_eq_true] at h1;exact fun _ _ w0 mu hL hs=>Lr F.t.hT F.t.hE F.t.hm (JR F.l) hs h1.1 (fun z=>Iq h1.2 h2 z w0 mu hs) ht hL
theorem FC.mY {P:Program} (F:FC P) {l:LD} (h:∀x,(DH F.D F.ps l.hp l.e l.q F.fn.ntmps l.b&&(ee l.b).isEmpty,gq F.T F.S F.D U5 l.b (p8 l.hp x) (zi l.i l.hp l.e l.q))=(true,l.r x)):F.Ok l:=by
 have h1:=congrArg Prod.fst (h (qn _));have h1:(DH F.D F.ps l.hp l.e l.q F.fn.ntmps l.b&&(ee l.b).isEmpty)=true:=h1;rw [Bool.and_eq_true] at h1;have ht:∀x,gq F.T F.S F.D U5 l.b (p8 l.hp x) (zi l.i l.hp l.e l.q)=l.r x:=fun x=>congrArg Prod.snd (h x)
 have g:F.Ok l:=F.kl [] (by rw [h1.1];rfl) (List.isEmpty_iff.1 h1.2) ht;exact @g
abbrev FC.adz {P:Program} (F:FC P) (rs:List RP) (t:Rg (aE (F.ps.map some)) (Option (ar (dq rs (ck F.ps))))):wE:=qw F.ps rs (wq (aE (F.ps.map some)) t)
abbrev FC.Kn {P:Program} (F:FC P) (rs:List RP) (f:FuncId) (t:Rg (aE (F.ps.map some)) (Option (ar (dq rs (ck F.ps))))):Prop:=th P f (F.adz rs t)
def FC.SS {P:Program} (F:FC P) (rs:List RP):Bool:=F.fn.body.isSome&&(Va F.T F.D F.fn F.code F.fn.ntmps F.ps rs && !(F.fn.name == "runtime.NumGoroutine"))
theorem FC.N9 {P:Program} {F:FC P} {rs:List RP} (h:F.SS rs=true):F.fn.body=some F.code∧Va F.T F.D F.fn F.code F.fn.ntmps F.ps rs=true∧(F.fn.name == "runtime.NumGoroutine")=false:=by
 unfold FC.SS at h;rw [Bool.and_eq_true,Bool.and_eq_true,Bool.not_eq_true'] at h;obtain ⟨h1,h2,h3⟩:=h;refine ⟨?_,h2,h3⟩;obtain ⟨c,hc⟩:=Option.isSome_iff_exists.1 h1;unfold FC.code N4;rw [hc]
theorem FC.kf {P:Program} (F:FC P) {rs:List RP} {f:FuncId} {t:Rg (aE (F.ps.map some)) (Option (ar (dq rs (ck F.ps))))} (ls:List F.KL) (hf:P.funcs[f]?=some F.fn) (h1:(F.SS rs&&Ip ls)=true) (h2:ee F.code=DM ls)
  (ht:∀x,gq F.T F.S F.D (vM ls) F.code (start F.fn.ntmps F.ps x) (F.fin rs)=wq (aE (F.ps.map some)) t x):F.Kn rs f t:=by
 rw [Bool.and_eq_true] at h1;obtain ⟨hb,hc,hn⟩:=F.N9 h1.1;exact Qk F.t.hT F.t.hE F.t.hm (JR F.l) (D:=F.D) (L:=vM ls) hf hb hc hn (fun w0 mu y hs=>Iq h1.2 h2 y w0 mu hs) ht
theorem FC.nL {P:Program} (F:FC P) {rs:List RP} {f:FuncId} {t:Rg (aE (F.ps.map some)) (Option (ar (dq rs (ck F.ps))))} (hf:P.funcs[f]?=some F.fn)
  (h:∀x,(F.SS rs&&(ee F.code).isEmpty,gq F.T F.S F.D U5 F.code (start F.fn.ntmps F.ps x) (F.fin rs))=(true,wq (aE (F.ps.map some)) t x)):F.Kn rs f t:=by
 have h1:=congrArg Prod.fst (h (qn _));have h1:(F.SS rs&&(ee F.code).isEmpty)=true:=h1;rw [Bool.and_eq_true] at h1;exact F.kf [] hf (by rw [h1.1];rfl) (List.isEmpty_iff.1 h1.2) fun x=>congrArg Prod.snd (h x)
theorem FC.kf1 {P:Program} (F:FC P) {rs:List RP} {f:FuncId} {t:Rg (aE (F.ps.map some)) (Option (ar (dq rs (ck F.ps))))} (hf:P.funcs[f]?=some F.fn) (h1:(F.SS rs&&(ee F.code).isEmpty)=true)
  (ht:∀x,gq F.T F.S F.D U5 F.code (start F.fn.ntmps F.ps x) (F.fin rs)=wq (aE (F.ps.map some)) t x):F.Kn rs f t:=by
 rw [Bool.and_eq_true] at h1;exact F.kf [] hf (by rw [h1.1];rfl) (List.isEmpty_iff.1 h1.2) ht
theorem FC.kl1 {P:Program} (F:FC P) {l:LD} (h1:(DH F.D F.ps l.hp l.e l.q F.fn.ntmps l.b&&(ee l.b).isEmpty)=true)
  (ht:∀x,gq F.T F.S F.D U5 l.b (p8 l.hp x) (zi l.i l.hp l.e l.q)=l.r x):F.Ok l:=by
 rw [Bool.and_eq_true] at h1;have g:F.Ok l:=F.kl [] (by rw [h1.1];rfl) (List.isEmpty_iff.1 h1.2) ht;exact @g
theorem FC.kfn {P:Program} (F:FC P) {rs:List RP} {f:FuncId} {t:Rg (aE (F.ps.map some)) (Option (ar (dq rs (ck F.ps))))} (ls:List F.KL) (hf:P.funcs[f]?=some F.fn) (r:RT) (qs:List AP) (hq:F.ps=.val false [.shr r]::qs) (h1:(F.SS rs&&Ip ls)=true) (h2:ee F.code=DM ls)
  (h4:∀x,gq F.T F.S F.D (vM ls) F.code (bn (start F.fn.ntmps F.ps (hq▸(([]:List (ar r)),x))) (some 0) (.one .dY)) (F.fin rs)=wq (aE (F.ps.map some)) t (hq▸(([]:List (ar r)),x)))
  (h5:∀x,gq F.T F.S F.D (vM ls) F.code (bn (start F.fn.ntmps F.ps (hq▸x)) (some 0) (.one (.nn r x.1))) (F.fin rs)=wq (aE (F.ps.map some)) t (hq▸x)):F.Kn rs f t:=by
 rw [Bool.and_eq_true] at h1;obtain ⟨hb,hc,hn⟩:=F.N9 h1.1;obtain ⟨tt,l,D,fn,ps⟩:=F;simp only at hq;subst hq;exact GS tt.hT tt.hE tt.hm (JR l) (D:=D) (L:=vM ls) hf hb hc hn (fun w0 mu y hs=>Iq h1.2 h2 y w0 mu hs) h4 h5
def sp:List (Nat×AP)→Nat→List (Option AP)
 | [],k=>nn k
 |(g,p)::l,k=>nn g++some p::sp l k
abbrev vl (l:List OP):AP:=.val false l
abbrev va (l:List OP):AP:=.val true l
abbrev Pl.a (i:Nat) (p:Pl):Pl:=.op i .any p
abbrev Pl.t (i:Nat) (p:Pl):Pl:=.op i .take p
abbrev Pl.o (i:Nat) (p:Pl):Pl:=.op i .one p
abbrev Pl.l (i:Nat) (p:Pl):Pl:=.op i .last p
def dr (i:Nat) (p:Pl) (D:nq:=gR):nq:=fun id=>bif Nat.beq id i then p else D id
end
end Go.TM
namespace Go.TM
open Go Go.RowKit
noncomputable section
end
end Go.TM
namespace Go.TM
open Go Go.RowKit
def gM.hv (A:gM):gM:=bif A.md.is .lz then { A with md:=.dp } else A
def OV.hv:OV→OV
 |.own A=>.own A.hv
 |o=>o
def RV.hv:RV→RV
 |.one o=>.one o.hv
 |.agg os=>.agg (os.map OV.hv)
 |.ptr os=>.ptr (os.map OV.hv)
def OP.DN:OP→Bool
 |.own _ _=>false
 |_=>true
def AP.vals:AP→Bool
 |.val _ qs=>qs.all OP.DN
 |_=>false
def OV.DN:OV→Bool
 |.own _=>false
 |_=>true
def AV.vals:AV→Bool
 |.val _ os=>os.all OV.DN
 |_=>false
theorem yv:(ps:List OP)→(t:RT)→(os:List OV)→(y:ar t)→{x:ar (mH ps t)}→dQ ps t os y=some x→ps.all OP.DN=true→os.all OV.DN=true
 | [],_,[],_,_,_,_=>rfl
 | [],_,_::_,_,_,h,_=>by simp [dQ] at h
 |_::_,_,[],_,_,h,_=>by simp [dQ] at h
 |p::ps,t,o::os,y,x,h,hn=>by
  unfold dQ at h;rw [List.all_cons,Bool.and_eq_true] at hn
  cases h1:s9 p o with
  |none=>simp [h1] at h
  |some a=>
   cases h2:dQ ps t os y with
   |none=>simp [h1,h2] at h
   |some z=>
    rw [List.all_cons,yv ps t os y h2 hn.2,Bool.and_true]
    cases p with
    |own _ _=>cases hn.1
    |_=>cases o<;>first | rfl | cases h1
theorem Ah:(ps:List AP)→(dL:List AV)→{x:ar (aE (ps.map some))}→eR ps dL=some x→ps.all AP.vals=true→dL.all AV.vals=true
 | [],[],_,_,_=>rfl
 | [],_::_,_,h,_=>by simp [eR] at h
 |_::_,[],_,h,_=>by simp [eR] at h
 |p::ps,a::as,x,h,hn=>by
  rw [List.all_cons,Bool.and_eq_true] at hn;unfold eR at h
  cases hy:eR ps as with
  |none=>simp [hy] at h
  |some y=>
   simp only [hy] at h;rw [List.all_cons,Ah ps as hy hn.2,Bool.and_true]
   cases p with
   |val ag qs=>cases a with
    |val ag' os=>
     cases ag<;>cases ag'<;>first | exact yv _ _ _ _ h hn.1 | cases h
    |_=>cases ag<;>cases h
   |_=>cases hn.1
theorem bo.AA {c c0:Cz} (hc:c0.own=c.own) {w:World} {f:Nat→Lb}:(os:List OV)→(j:Nat)→(vs:List Value)→os.all OV.DN=true→bo c w f j os vs→bo c0 w f j os vs
 | [],_,_,_,h=>h
 |o::os,j,vs,hn,h=>by
  rw [List.all_cons,Bool.and_eq_true] at hn;have ok:∀b,c.ok b→c0.ok b:=fun b h=>by unfold Cz.ok at *;rw [hc];exact h
  have st:iH w w c.ok c0.ok:=⟨Nat.le_refl _,fun _ _ _=>rfl,fun b _ h=>ok b h⟩
  cases o with
  |int k n=>obtain ⟨l,h1,h2⟩:=h;exact ⟨l,h1,bo.AA hc os _ _ hn.2 h2⟩
  |bool b=>obtain ⟨l,h1,h2⟩:=h;exact ⟨l,h1,bo.AA hc os _ _ hn.2 h2⟩
  |str b=>obtain ⟨l,h1,h2⟩:=h;exact ⟨l,h1,bo.AA hc os _ _ hn.2 h2⟩
  |dY=>obtain ⟨l,h1,h2⟩:=h;exact ⟨l,h1,bo.AA hc os _ _ hn.2 h2⟩
  |shr r xs=>obtain ⟨v,l,h1,h2,h3⟩:=h;exact ⟨v,l,h1,cE.stays st _ _ _ h2,bo.AA hc os _ _ hn.2 h3⟩
  |me r xs=>obtain ⟨v,l,h1,h2,h3⟩:=h;exact ⟨v,l,h1,h2.stays st,bo.AA hc os _ _ hn.2 h3⟩
  |fn g rs xs=>obtain ⟨v,l,h1,h2,h3⟩:=h;exact ⟨v,l,h1,h2.stays st,bo.AA hc os _ _ hn.2 h3⟩
  |own A=>cases hn.1
theorem oQ.AA {c c0:Cz} (hc:c0.own=c.own) {w:World} {lc:Nat→Nat→Loc}:(dL:List AV)→(i:Nat)→(vs:List Value)→dL.all AV.vals=true→oQ c w lc i dL vs→oQ c0 w lc i dL vs
 | [],_,_,_,h=>h
 |a::as,i,vs,hn,h=>by
  rw [List.all_cons,Bool.and_eq_true] at hn;obtain ⟨v,l,h1,h2,h3⟩:=h;refine ⟨v,l,h1,?_,oQ.AA hc as _ _ hn.2 h3⟩
  cases a with
  |val ag os=>
   cases ag
   ·exact bo.AA hc os 0 _ hn.1 h2
   ·obtain ⟨us,e,h4⟩:=h2;exact ⟨us,e,bo.AA hc os 0 _ hn.1 h4⟩
  |_=>cases hn.1
theorem iI.vals {c c0:Cz} {w:World} {lc:Nat→Nat→Loc}:(dL:List AV)→(i:Nat)→(vs:List Value)→(xs:List XV)→dL.all AV.vals=true→iI c w lc i dL vs xs→iI c0 w lc i dL vs xs
 | [],_,_,_,_,h=>h
 |_::_,_,[],_,_,h=>h.elim
 |a::as,i,v::vs,xs,hn,h=>by
  rw [List.all_cons,Bool.and_eq_true] at hn
  cases a with
  |val ag os=>exact iI.vals as (i+1) vs xs hn.2 h
  |_=>cases hn.1
noncomputable def Cz.hv (c:Cz):Cz:=
 { bx:=c.bx,lc:=c.lc,own:=fun k=>have:=Classical.propDecidable (c.own k=none∧∃j,c.rs k=some (.gO j));if c.own k=none∧∃j,c.rs k=some (.gO j) then c.rs k else c.own k }
theorem Cz.B9 {c:Cz} {k:Nat} {l:Lb} (h:c.own k=some l):c.hv.own k=some l:=by
 unfold Cz.hv;simp only;rw [if_neg (by rw [h];simp)];exact h
theorem Cz.Rl {c:Cz} {k j:Nat} (h:c.own k=none) (hr:c.rs k=some (.gO j)):c.hv.own k=some (.gO j):=by
 unfold Cz.hv;simp only;rw [if_pos ⟨h,j,hr⟩];exact hr
theorem OwnAt.hv {c:Cz} {w:World} {j:Nat} {lc:Loc} {A:gM} {v:Value} (hp:(!A.r.dS||(A.md.is .dp||A.md.is .lz))=true) (h:OwnAt c w (.gO j) lc A v):OwnAt c.hv w (.gO j) lc A.hv v:=by
 unfold gM.hv
 cases hz:A.md.is .lz with
 |false=>
  show OwnAt c.hv w (.gO j) lc A v;unfold OwnAt at h ⊢;obtain ⟨h1,h2,h3,h4⟩:=h;refine ⟨h1,h2,h3,?_⟩
  cases lc with
  |nil=>exact h4
  |«at» b off cap=>
   obtain ⟨g1,g2,g3,g4⟩:=h4;refine ⟨Cz.B9 g1,g2,g3,?_⟩
   by_cases FH:A.md=.sh
   ·have Sx:A.r.dS=false:=by
     rw [FH] at hp;simpa [Md.is] using hp
    exact (bF.sh FH).2 fun i x hx=>dE.plain _ _ _ _ Sx ((bF.sh FH).1 g4 i x hx)
   ·exact g4.go (fun hm=>absurd hm FH) rfl (fun _ k hk=>⟨rfl,Cz.B9 hk⟩) (fun hm=>by rw [hm] at hz;cases hz)
 |true=>
  have hm:=Md.j1.1 hz;show OwnAt c.hv w (.gO j) lc { A with md:=.dp } v;unfold OwnAt at h ⊢;obtain ⟨h1,h2,h3,h4⟩:=h;refine ⟨h1,h2,h3,?_⟩
  cases lc with
  |nil=>exact h4
  |«at» b off cap=>
   obtain ⟨g1,g2,g3,g4⟩:=h4;refine ⟨Cz.B9 g1,g2,g3,?_⟩;unfold bF at g4 ⊢;rw [hm] at g4;obtain ⟨g,g4⟩:=g4;refine ⟨fun k=>if k=b then [] else g k,by simp,fun i x hx=>fl.go _ [i] [i] (fun q k hk=>⟨rfl,Cz.Rl hk.1.1 hk.1.2.1,?_⟩) _ _ _ x rfl (g4 i x hx)⟩;have SU:k≠b:=by
    rintro rfl
    have:=hk.1.1;rw [g1] at this
    cases this
   show (if k=b then [] else g k)=_;rw [if_neg SU];exact hk.2
theorem bo.hv {c:Cz} {w:World}:(os:List OV)→os.all OV.plain=true→(j:Nat)→(vs:List Value)→bo c w .gO j os vs→bo c.hv w .gO j (os.map OV.hv) vs
 | [],_,_,_,h=>h
 |.int k n::os,ho,j,vs,h=>by
  rw [List.all_cons,Bool.and_eq_true] at ho;obtain ⟨l,h1,h2⟩:=h;exact ⟨l,h1,bo.hv os ho.2 (j+1) l h2⟩
 |.bool k::os,ho,j,vs,h=>by
  rw [List.all_cons,Bool.and_eq_true] at ho;obtain ⟨l,h1,h2⟩:=h;exact ⟨l,h1,bo.hv os ho.2 (j+1) l h2⟩
 |.str k::os,ho,j,vs,h=>by
  rw [List.all_cons,Bool.and_eq_true] at ho;obtain ⟨l,h1,h2⟩:=h;exact ⟨l,h1,bo.hv os ho.2 (j+1) l h2⟩
 |.dY::os,ho,j,vs,h=>by
  rw [List.all_cons,Bool.and_eq_true] at ho;obtain ⟨l,h1,h2⟩:=h;exact ⟨l,h1,bo.hv os ho.2 (j+1) l h2⟩
 |.shr r xs::os,ho,j,vs,h=>by
  rw [List.all_cons,Bool.and_eq_true] at ho
  cases ho.1
 |.me r xs::os,ho,j,vs,h=>by
  rw [List.all_cons,Bool.and_eq_true] at ho
  cases ho.1
 |.fn g rs xs::os,ho,j,vs,h=>by
  rw [List.all_cons,Bool.and_eq_true] at ho
  cases ho.1
 |.own A::os,ho,j,vs,h=>by
  rw [List.all_cons,Bool.and_eq_true] at ho;obtain ⟨v,l,h1,⟨lc,h2⟩,h3⟩:=h;exact ⟨v,l,h1,⟨lc,h2.hv ho.1⟩,bo.hv os ho.2 (j+1) l h3⟩
theorem iJ.hv {c:Cz} {w:World}:(rs:List RV)→rs.all (fun o=>o.sS.all OV.plain)=true→(j:Nat)→(vs:List Value)→iJ c w j rs vs→iJ c.hv w j (rs.map RV.hv) vs
 | [],_,_,_,h=>h
 |.one o::rs,ho,j,vs,h=>by
  rw [List.all_cons,Bool.and_eq_true] at ho;obtain ⟨v,l,h1,h2,h3⟩:=h;exact ⟨v,l,h1,bo.hv [o] ho.1 _ _ h2,iJ.hv rs ho.2 _ _ h3⟩
 |.agg os::rs,ho,j,vs,h=>by
  rw [List.all_cons,Bool.and_eq_true] at ho;obtain ⟨v,l,h1,h2,h3⟩:=h;refine ⟨v,l,h1,bo.hv os ho.1 _ _ h2,?_⟩;rw [List.length_map];exact iJ.hv rs ho.2 _ _ h3
 |.ptr os::rs,ho,j,vs,h=>by
  rw [List.all_cons,Bool.and_eq_true] at ho;obtain ⟨v,l,h1,⟨oq,us,ty,g1,g2,g3,g4⟩,h3⟩:=h;have ho1:=ho.1;simp only [RV.sS,List.all_cons,Bool.and_eq_true] at ho1;refine ⟨v,l,h1,⟨oq,us,ty,g1,Cz.B9 g2,g3,bo.hv os ho1.2 _ _ g4⟩,?_⟩;rw [List.length_map];exact iJ.hv rs ho.2 _ _ h3
theorem sd.hv {c:Cz} {w:World} {rs:List RV} (ho:rs.all (fun o=>o.sS.all OV.plain)=true) {v:Value} (h:sd c w rs v):sd c.hv w (rs.map RV.hv) v:=by
 rcases h with ⟨r,h1,h2⟩ | ⟨h1,vs,h2,h3⟩
 ·subst h1;exact .inl ⟨r.hv,rfl,iJ.hv _ ho _ _ h2⟩
 ·refine .inr ⟨by rw [List.length_map];exact h1,vs,h2,iJ.hv _ ho _ _ h3⟩
def R2.hv (A:R2):R2:={ r:=A.r,o:=A.o,res:=fun x=>{ outs:=(A.res x).outs.map RV.hv,exts:=(A.res x).exts } }
theorem Qn {P:Program} {f:FuncId} {xE Qj:wE} (h:FnOk P f xE) (hs:∀dL A,Qj dL=some A→dL.all AV.vals=true∧∃B,xE dL=some B∧A=B.hv∧∀x,(B.res x).outs.all (fun o=>o.sS.all OV.plain)=true):FnOk P f Qj:=by
 intro c w mu lc dL args A x hh ha hA hx;obtain ⟨hv,B,hB,rfl,FH⟩:=hs dL A hA
 let c0:Cz:={ bx:=c.bx,lc:=c.lc,own:=c.own }
 let mu0:Mu:={ m:=mu.m,ok:=mu.ok,an:=mu.an }
 have ha':oQ c0 w lc 0 dL args.toList:=oQ.AA (c:=c) (c0:=c0) rfl dL 0 _ hv ha;have hh':Handed c0 w mu0:=⟨hh.m,hh.ok,hh.lt,hh.lb,fun b l (e:none=some l)=>by cases e⟩;intro cs;obtain ⟨e,w',fr,hq,hcm⟩:=h c0 w mu0 lc dL args B x hh' ha' hB hx cs;refine ⟨e,w',fr,?_,hcm⟩;obtain ⟨v,h1,c',hb,hV,hX⟩:=hq;refine ⟨v,h1,c'.hv,⟨fun b l hl => ?_,fun b MF H6 => ?_,hb.kept,hb.old,fun b l hl=>by cases hl⟩,hV.hv (FH x),iI.vals dL 0 _ _ hv hX⟩
 ·by_cases hq:c'.own b=none∧∃j,c'.rs b=some (.gO j)
  ·obtain ⟨P5,j,Js⟩:=hq;rw [Cz.Rl P5 Js] at hl;obtain ⟨h2,h3⟩:=hb.mT b _ Js;refine ⟨h2,.inr ?_⟩;rcases h3 with h3 | h3 | h3
   ·exact .inl h3
   ·exact .inr h3
   ·exact h3.elim
  ·have e:c'.hv.own b=c'.own b:=by unfold Cz.hv;simp only;rw [if_neg hq]
   rw [e] at hl;exact hb.owned b l hl
 ·have:c'.own b=none:=by
   cases ho:c'.own b with
   |none=>rfl
   |some l=>rw [Cz.B9 ho] at H6;cases H6
  exact hb.free b MF this
theorem Oa {P:Program} {f:FuncId} {ps:List AP} {rs Xf:List RP} {t:ar (aE (ps.map some))→Option (ar (dq rs (ck ps)))} {t':ar (aE (ps.map some))→Option (ar (dq Xf (ck ps)))}
  (h:th P f (qw ps rs t)) (Nh:ps.all AP.vals=true) (FH:∀y,((fT rs (ck ps) y).1).all (fun o=>o.sS.all OV.plain)=true)
  (he:∀x,({ r:=dq Xf (ck ps),o:=t' x,res:=fun y=>{ outs:=(fT Xf (ck ps) y).1,exts:=nc ps (fT Xf (ck ps) y).2 } }:R2)=R2.hv { r:=dq rs (ck ps),o:=t x,res:=fun y=>{ outs:=(fT rs (ck ps) y).1,exts:=nc ps (fT rs (ck ps) y).2 } }):th P f (qw ps Xf t'):=by
 refine ⟨Qn h.ok fun dL A hA => ?_,h.fn⟩;unfold qw at hA ⊢
 cases hc:eR ps dL with
 |none=>rw [hc] at hA;cases hA
 |some x=>
  rw [hc] at hA;injection hA with hA;exact ⟨Ah ps dL hc Nh,_,rfl,hA▸he x,FH⟩
end Go.TM
