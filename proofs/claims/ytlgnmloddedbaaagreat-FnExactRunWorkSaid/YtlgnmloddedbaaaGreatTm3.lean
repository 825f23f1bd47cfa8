/- A machine over trees: an evaluator of the code, and that what it finds is so; part 3. -/
import Derived.Test.YtlgnmloddedbaaaGreatTm2
set_option linter.unusedSimpArgs false
set_option linter.unusedVariables false
namespace Go.TM
open Go Go.RowKit
def Lb.real:Lb→Bool
 |.box _=>true
 |.sp _ _=>true
 |_=>false
theorem Lb.Ao {x y:Lb} (hx:x.real=true):Lb.same x y=true↔x=y:=by
 cases x<;>cases y<;>simp [Lb.same,Lb.real] at hx ⊢
theorem oL:(l:List Lb)→(∀x∈l,x.real=true)→uk l=true→l.Nodup
 | [],_,_=>List.nodup_nil
 |x::l,hr,h=>by
  simp only [uk,Bool.and_eq_true,List.all_eq_true] at h;refine List.nodup_cons.2 ⟨fun hm => ?_,oL l (fun y hy=>hr y (List.mem_cons_of_mem _ hy)) h.2⟩;have:=h.1 x hm;rw [(Lb.Ao (hr x List.mem_cons_self)).2 rfl] at this
  cases this
noncomputable def look:List (Lb×Lb)→Lb→Option Lb
 | [],_=>none
 |(x,y)::t,l=>have:=Classical.propDecidable (x=l);if x=l then some y else look t l
theorem Ap:(t:List (Lb×Lb))→(t.map (·.1)).Nodup→{p:Lb×Lb}→p∈t→look t p.1=some p.2
 | [],_,_,h=>by simp at h
 |(x,y)::t,hn,p,h=>by
  unfold look;simp only [List.map_cons,List.nodup_cons] at hn
  by_cases e:x=p.1
  ·rw [if_pos e];rcases List.mem_cons.1 h with rfl | h
   ·rfl
   ·exact absurd (List.mem_map.2 ⟨p,h,e.symm⟩) hn.1
  ·rw [if_neg e];rcases List.mem_cons.1 h with rfl | h
   ·exact absurd rfl e
   ·exact Ap t hn.2 h
theorem xI:(t:List (Lb×Lb))→{l y:Lb}→look t l=some y→(l,y)∈t
 | [],_,_,h=>by simp [look] at h
 |(x,z)::t,l,y,h=>by
  unfold look at h
  by_cases e:x=l
  ·rw [if_pos e] at h
   cases h
   subst e;exact List.mem_cons_self
  ·rw [if_neg e] at h;exact List.mem_cons_of_mem _ (xI t h)
def Aq (f:Nat→Lb):(j:Nat)→List (Option Lb)→List (Lb×Lb)
 |_,[]=>[]
 |j,some l::ls=>(l,f j)::Aq f (j+1) ls
 |j,none::ls=>Aq f (j+1) ls
theorem Ar (f:Nat→Lb):(j:Nat)→(ls:List (Option Lb))→(Aq f j ls).map (·.1)=bR ls
 |_,[]=>rfl
 |j,some l::ls=>by simp [Aq,bR,Ar f (j+1) ls]
 |j,none::ls=>by simp [Aq,bR,Ar f (j+1) ls]
theorem D7 (f:Nat→Lb):(j:Nat)→(ls:List (Option Lb))→∀p∈Aq f j ls,∃k,p.2=f k
 |_,[],p,h=>by simp [Aq] at h
 |j,some l::ls,p,h=>by
  simp only [Aq,List.mem_cons] at h;rcases h with rfl | h
  ·exact ⟨j,rfl⟩
  ·exact D7 f (j+1) ls p h
 |j,none::ls,p,h=>D7 f (j+1) ls p h
theorem wM (f:Nat→Lb):(j:Nat)→(ls:List (Option Lb))→∀k l,nth ls k=some (some l)→(l,f (j+k))∈Aq f j ls
 |_,[],k,l,h=>by simp at h
 |j,x::ls,0,l,h=>by
  simp only [nth,Option.some.injEq] at h;subst h;exact List.mem_cons_self
 |j,x::ls,k+1,l,h=>by
  have:=wM f (j+1) ls k l h;rw [show j+(k+1)=j+1+k by omega]
  cases x with
  |none=>exact this
  |some x=>exact List.mem_cons_of_mem _ this
theorem gL {l:Lb}:{ls:List (Option Lb)}→l∈bR ls↔some l∈ls
 | []=>by simp [bR]
 |none::ls=>by simp [bR,gL (ls:=ls)]
 |some x::ls=>by simp [bR,gL (ls:=ls)]
def KY (c:Cz):Option CV→Loc
 |some (.ref a j _ _)=>c.lc a j
 |_=>.nil
def CG (c:Cz):V→Nat→Loc
 |.one (.ref a j _ _)=>fun _=>c.lc a j
 |.agg cs=>fun k=>KY c cs[k]?
 |_=>fun _=>.nil
theorem MN {st:St} {own:Bool}:(cs:List CV)→{os:List OV}→{u:List (Option Lb)}→{r:List (Nat×Nat)}→eY st own cs=some (os,u,r)→∀(k:Nat) (o:OV),os[k]?=some o→∃x u' r',cs[k]?=some x∧eS st own x=some (o,u',r')∧nth u k=some u'
 | [],_,_,_,h=>by
  simp only [eY,Option.some.injEq,Prod.mk.injEq] at h;obtain ⟨rfl,rfl,_⟩:=h;intro k o hk;simp at hk
 |x::cs,os,u,r,h=>by
  unfold eY at h
  cases hc:eS st own x with
  |none=>simp [hc] at h
  |some p=>
   obtain ⟨o,u1,r1⟩:=p
   cases hq:eY st own cs with
   |none=>simp [hc,hq] at h
   |some q=>
    obtain ⟨An,us,rs⟩:=q;simp only [hc,hq,Option.some.injEq,Prod.mk.injEq] at h;obtain ⟨rfl,rfl,_⟩:=h;intro k o' hk
    cases k with
    |zero=>
     simp only [List.getElem?_cons_zero,Option.some.injEq] at hk;subst hk;exact ⟨x,u1,r1,rfl,hc,rfl⟩
    |succ k=>
     obtain ⟨y,u',r',h1,h2,h3⟩:=MN cs hq k o' (by simpa using hk);exact ⟨y,u',r',by simpa using h1,h2,h3⟩
theorem Qy {st:St} {own:Bool} {x:CV} {A:fT} {u:Option Lb} {r:List (Nat×Nat)} (h:eS st own x=some (.own A,u,r)):∃a j g w B,x=.ref a j g w∧aT st a j g=some B∧A={ B with xs:=w.app B.xs }∧u=some (.sp a j)∧B.own=true:=by
 cases x with
 |ref a j g w=>
  unfold eS at h;simp only at h
  cases hA:aT st a j g with
  |none=>simp [hA] at h
  |some B=>
   simp only [hA] at h
   cases hm:B.md.Ft with
   |true=>simp [hm] at h
   |false=>
   simp only [hm,cond_false] at h
   cases hb:(own&&B.own&&(B.md.is .sh||(B.md.is .lz||w.isFull))) with
   |false=>simp [hb] at h
   |true=>
    simp only [hb,cond_true,Option.some.injEq,Prod.mk.injEq] at h;obtain ⟨h1,rfl,_⟩:=h;injection h1 with h1;rw [Bool.and_eq_true,Bool.and_eq_true] at hb;exact ⟨a,j,g,w,B,rfl,hA,h1.symm,rfl,hb.1.2⟩
 |KC a j g e i k q ys=>
  unfold eS at h;simp only at h
  cases hA:aT st a j g with
  |none=>simp [hA] at h
  |some B=>
   simp only [hA] at h;obtain ⟨_,h⟩:=aI h;simp at h
 |o8 a j g e i k q ys=>
  unfold eS at h;simp only at h
  cases hA:aT st a j g with
  |none=>simp [hA] at h
  |some B=>
   simp only [hA] at h;obtain ⟨_,h⟩:=aI h;simp at h
 |lC q y off=>exact absurd (wL h).1 (by simp)
 |s8 q y off=>exact absurd (tI h).1 (by simp)
 |_=>simp [eS] at h
theorem NX {st:St} {own:Bool} {x:CV} {u:Option Lb} {r:List (Nat×Nat)} (h:eS st own x=some (.dN,u,r)):x=.dN:=by
 cases x with
 |ref a j g w=>
  unfold eS at h;simp only at h
  cases hA:aT st a j g with
  |none=>simp [hA] at h
  |some B=>
   simp only [hA] at h
   cases hm:B.md.Ft with
   |true=>simp [hm] at h
   |false=>
   simp only [hm,cond_false] at h
   cases hb:(own&&B.own&&(B.md.is .sh||(B.md.is .lz||w.isFull)))<;>simp [hb] at h
 |KC a j g e i k q ys=>
  unfold eS at h;simp only at h
  cases hA:aT st a j g with
  |none=>simp [hA] at h
  |some B=>
   simp only [hA] at h;obtain ⟨_,h⟩:=aI h;simp at h
 |o8 a j g e i k q ys=>
  unfold eS at h;simp only at h
  cases hA:aT st a j g with
  |none=>simp [hA] at h
  |some B=>
   simp only [hA] at h;obtain ⟨_,h⟩:=aI h;simp at h
 |dN=>rfl
 |lC q y off=>exact absurd (wL h).1 (by simp)
 |s8 q y off=>exact absurd (tI h).1 (by simp)
 |_=>simp [eS] at h
theorem Gh {st:St} {own:Bool} {x:CV} {o:OV} {u:Option Lb} {r:List (Nat×Nat)} (h:eS st own x=some (o,u,r)):∀l,u=some l→∃s j,l=.sp s j:=by
 cases x with
 |ref a j g w=>
  unfold eS at h;simp only at h
  cases hA:aT st a j g with
  |none=>simp [hA] at h
  |some A=>
   simp only [hA] at h
   cases hm:A.md.Ft with
   |true=>simp [hm] at h
   |false=>
   simp only [hm,cond_false] at h
   cases hb:(own&&A.own&&(A.md.is .sh||(A.md.is .lz||w.isFull)))<;>simp only [hb,cond_true,cond_false,Option.some.injEq,Prod.mk.injEq] at h<;>obtain ⟨_,rfl,_⟩:=h<;>simp
 |KC a j g e i k q ys=>
  unfold eS at h;simp only at h
  cases hA:aT st a j g with
  |none=>simp [hA] at h
  |some B=>
   simp only [hA] at h;obtain ⟨_,h⟩:=aI h;simp only [Option.some.injEq,Prod.mk.injEq] at h;obtain ⟨_,rfl,_⟩:=h;simp
 |o8 a j g e i k q ys=>
  unfold eS at h;simp only at h
  cases hA:aT st a j g with
  |none=>simp [hA] at h
  |some B=>
   simp only [hA] at h;obtain ⟨_,h⟩:=aI h;simp only [Option.some.injEq,Prod.mk.injEq] at h;obtain ⟨_,rfl,_⟩:=h;simp
 |lC q y off=>obtain ⟨_,rfl,_⟩:=wL h;simp
 |s8 q y off=>obtain ⟨_,rfl,_⟩:=tI h;simp
 |_=>simp [eS] at h<;>(try (obtain ⟨_,rfl,_⟩:=h;simp))
theorem xJ {st:St} {own:Bool}:(cs:List CV)→{os:List OV}→{u:List (Option Lb)}→{r:List (Nat×Nat)}→eY st own cs=some (os,u,r)→∀l∈bR u,∃s j,l=.sp s j
 | [],_,_,_,h=>by
  simp only [eY,Option.some.injEq,Prod.mk.injEq] at h;obtain ⟨_,rfl,_⟩:=h;simp [bR]
 |x::cs,os,u,r,h=>by
  unfold eY at h
  cases hc:eS st own x with
  |none=>simp [hc] at h
  |some p=>
   obtain ⟨o,u1,r1⟩:=p
   cases hq:eY st own cs with
   |none=>simp [hc,hq] at h
   |some q=>
    obtain ⟨An,us,rs⟩:=q;simp only [hc,hq,Option.some.injEq,Prod.mk.injEq] at h;obtain ⟨_,rfl,_⟩:=h;intro l hl;rw [gL] at hl;rcases List.mem_cons.1 hl with hl | hl
    ·exact Gh hc l hl.symm
    ·exact xJ cs hq l (gL.2 hl)
theorem NY {st:St} {own:Bool} (cs:List CV) {os:List OV} {u:List (Option Lb)} {r:List (Nat×Nat)} (h:eY st own cs=some (os,u,r)):∀l∈bR u,l.real=true:=by
 intro l hl;obtain ⟨s,j,rfl⟩:=xJ cs h l hl;rfl
def jT (i:Nat) (av:AV) (bx:List Lb) (u:List (Option Lb)):List (Lb×Lb):=
 bx.map (fun l=>(l,.su i))++Aq (.bK i) 0 u
theorem mC (i:Nat) (av:AV) (bx:List Lb) (u:List (Option Lb)):(jT i av bx u).map (·.1)=bx++bR u:=by
 unfold jT;rw [List.map_append,Ar,List.map_map]
 congr 1
 exact List.map_id bx
theorem mD (i:Nat) (av:AV) (bx:List Lb) (u:List (Option Lb)):∀p∈jT i av bx u,p.2.kI=true:=by
 intro p hp;unfold jT at hp;rcases List.mem_append.1 hp with hp | hp
 ·obtain ⟨l,_,rfl⟩:=List.mem_map.1 hp;rfl
 ·obtain ⟨k,e⟩:=D7 _ _ _ p hp;rw [e];rfl
theorem NZ {w0:World} {mu:Mu} {c:Cz} {st:St} {a:Act} {w:World} (h:Rel w0 mu c st a w) {m:Pm} {v:V} {x:Value} (hx:eD c st w v x) {av:AV} {u q:List Lb} {r:List (Nat×Nat)} (he:eG st m v=some (av,u,q,r)) (i:Nat) :
  (∀l∈u,l.real=true)∧(∀l∈q,l∈u)∧∃tb:List (Lb×Lb),tb.map (·.1)=u∧(∀p∈tb,p.2.kI=true)∧∀ρ:Lb→Option Lb,(∀p∈tb,ρ p.1=some p.2)→(∀p∈r,ρ (.sp p.1 p.2)=none)→sJ (c.map ρ) w i (CG c v) av x:=by
 have vals:∀(own:Bool) (cs:List CV) (os:List OV) (us:List (Option Lb)) (rs:List (Nat×Nat)) (vs:List Value),fo c st w cs vs→eY st own cs=some (os,us,rs)→(∀l∈bR us,l.real=true)∧
   ∀ρ:Lb→Option Lb,(∀p∈Aq (.bK i) 0 us,ρ p.1=some p.2)→(∀p∈rs,ρ (.sp p.1 p.2)=none)→a7 (c.map ρ) w (.bK i) 0 os vs:=by
  intro own cs os us rs vs hl hq;refine ⟨NY cs hq,fun ρ hp hr=>MM h cs vs 0 hl hq (fun k l hk => ?_) hr⟩;have:=hp _ (wM (.bK i) 0 us k l hk);simpa using this
 have single:∀(own:Bool) (cx:CV) (os:List OV) (us:List (Option Lb)) (rs:List (Nat×Nat)),iI c st w cx x→eY st own [cx]=some (os,us,rs)→(∀l∈bR us,l.real=true)∧(∀l∈bR us,l∈bR us)∧
   ∃tb:List (Lb×Lb),tb.map (·.1)=bR us∧(∀p∈tb,p.2.kI=true)∧∀ρ:Lb→Option Lb,(∀p∈tb,ρ p.1=some p.2)→(∀p∈rs,ρ (.sp p.1 p.2)=none)→sJ (c.map ρ) w i (CG c (.one cx)) (.val false os) x:=by
  intro own cx os us rs hl hq;obtain ⟨g1,g2⟩:=vals own [cx] os us rs [x] ⟨rfl,fun k y z hy hz=>by
   cases k with
   |zero=>simp at hy hz;subst hy hz;exact hl
   |succ k=>simp at hy⟩ hq
  exact ⟨g1,fun _ h=>h,jT i (.val false os) [] us,mC _ _ _ _,mD _ _ _ _,fun ρ hp hr=>g2 ρ (fun p mA=>hp p (by simpa [jT] using mA)) hr⟩
 cases v with
 |m9 _=>simp [eG] at he
 |agg cs=>
  obtain ⟨vs,rfl,hl⟩:=hx;have other:(match eY st m.nf cs with | some (os,u,r)=>some (AV.val true os,bR u,bR u,r) | none=>none)=some (av,u,q,r)→(∀l∈u,l.real=true)∧(∀l∈q,l∈u)∧
    ∃tb:List (Lb×Lb),tb.map (·.1)=u∧(∀p∈tb,p.2.kI=true)∧∀ρ:Lb→Option Lb,(∀p∈tb,ρ p.1=some p.2)→(∀p∈r,ρ (.sp p.1 p.2)=none)→sJ (c.map ρ) w i (CG c (.agg cs)) av (.agg vs):=by
   intro he
   cases hq:eY st m.nf cs with
   |none=>simp [hq] at he
   |some p=>
    obtain ⟨os,us,rs⟩:=p;simp only [hq,Option.some.injEq,Prod.mk.injEq] at he;obtain ⟨rfl,rfl,rfl,rfl⟩:=he;obtain ⟨g1,g2⟩:=vals _ _ _ _ _ _ hl hq;exact ⟨g1,fun _ h=>h,jT i (.val true os) [] us,mC _ _ _ _,mD _ _ _ _,fun ρ hp hr=>⟨vs,rfl,g2 ρ (fun p mA=>hp p (by simpa [jT] using mA)) hr⟩⟩
  unfold eG at he
  cases m with
  |shr=>exact other he
  |own=>exact other he
  |pick _=>exact other he
  |soft _=>exact other he
  |io=>exact other he
  |bL=>
   simp only at he
   cases hq:eY st true cs with
   |none=>simp [hq] at he
   |some p=>
    obtain ⟨os,us,rs⟩:=p;simp only [hq] at he;obtain ⟨pF,x7⟩:=aI he;simp only [Option.some.injEq,Prod.mk.injEq] at x7;obtain ⟨rfl,rfl,rfl,rfl⟩:=x7;obtain ⟨g1,g2⟩:=vals _ _ _ _ _ _ hl hq;refine ⟨g1,by simp,jT i (.val true os) [] us,mC _ _ _ _,mD _ _ _ _,fun ρ hp hr=>⟨vs,rfl,g2 ρ (fun p mA=>hp p (by simpa [jT] using mA)) hr,fun j o x ho hxj => ?_⟩⟩;obtain ⟨cx,u',r',k1,k2,k3⟩:=MN cs hq j o ho;show Qt (c.map ρ) w i (fun k=>KY c cs[k]?) j o x
    cases o with
    |dN=>
     have:=NX k2;subst this;show KY c cs[j]?=.nil;rw [k1];rfl
    |own A=>
     obtain ⟨s,k,g,vw,B,rfl,hA,rfl,rfl,hB⟩:=Qy k2;have x6:CV.ref s k g vw∈cs:=List.mem_of_getElem? k1;have BG:=List.all_eq_true.1 pF _ x6;have Qz:vw=.full:=by
      unfold P1 at BG;rw [Bool.and_eq_true] at BG
      cases vw with
      |full=>rfl
      |«from» _=>cases BG.1
      |sub _ _=>cases BG.1
     subst Qz;have hxr:=hl.2 j _ _ k1 hxj;have hs:=hxr.2.2 B hA;have ha:=uF h hA;have hρ:ρ (.sp s k)=some (.bK i j):=hp (.sp s k,.bK i j) (by
      have:=wM (.bK i) 0 us j (.sp s k) k3;simpa [jT] using this)
     have ag0:(fun k=>KY c cs[k]?) j=c.lc s k:=by
      show KY c cs[j]?=_;rw [k1];rfl
     show OwnAt (c.map ρ) w (.bK i j) ((fun k=>KY c cs[k]?) j) { B with xs:=View.full.app B.xs } x;rw [ag0];refine ⟨hxr.1,hs,hB,?_⟩;show match c.lc s k with
      |.nil=>B.xs=[]
      |.at b off cap=>_
     unfold bF at ha
     cases gH:c.lc s k with
     |nil=>rw [gH] at ha;exact ha
     |«at» b off cap=>
      rw [gH] at ha;obtain ⟨h0,h2,h3,h4⟩:=ha;rw [hB] at h0;exact ⟨(Cz.kN h0).trans hρ,h2,h3,h4.map hρ⟩
    |_=>trivial
 |one cx=>
  cases cx with
  |ptr b g off=>
   unfold eG at he;simp only at he
   cases hb:cW st b g with
   |none=>simp [hb] at he
   |some cs=>
    simp only [hb] at he
    cases hq:eY st true cs with
    |none=>simp [hq] at he
    |some p=>
     obtain ⟨os,us,rs⟩:=p;simp only [hq] at he;obtain ⟨ho,x7⟩:=aI he;have ho1:=Nat.eq_of_beq_eq_true ho;simp only [Option.some.injEq,Prod.mk.injEq] at x7;obtain ⟨rfl,rfl,rfl,rfl⟩:=x7;subst ho1;obtain ⟨sl,k1,k2,k3⟩:=ir hb;obtain ⟨h1,vs,ty,h2,h3⟩:=h.boxes b sl cs k1 k3;obtain ⟨g1,g2⟩:=vals _ _ _ _ _ _ h3 hq;refine ⟨fun l hl => ?_,fun l hl=>List.mem_cons_of_mem _ hl,jT i (.box os) [.box b] us,by rw [mC];rfl,mD _ _ _ _,fun ρ hp hr=>⟨c.bx b,vs,ty,hx.2.2 cs hb,?_,h2,g2 ρ (fun p mA=>hp p (List.mem_append_right _ mA)) hr⟩⟩
     ·rcases List.mem_cons.1 hl with rfl | hl
      ·rfl
      ·exact g1 l hl
     ·exact (Cz.kN h1).trans (hp (.box b,.su i) (by simp [jT]))
  |ref s j g vw=>
   unfold eG at he;have other:(match eY st m.nf [.ref s j g vw] with | some (os,u,r)=>some (AV.val false os,bR u,bR u,r) | none=>none)=some (av,u,q,r)→(∀l∈u,l.real=true)∧(∀l∈q,l∈u)∧
     ∃tb:List (Lb×Lb),tb.map (·.1)=u∧(∀p∈tb,p.2.kI=true)∧∀ρ:Lb→Option Lb,(∀p∈tb,ρ p.1=some p.2)→(∀p∈r,ρ (.sp p.1 p.2)=none)→sJ (c.map ρ) w i (CG c (.one (.ref s j g vw))) av x:=by
    intro he
    cases hq:eY st m.nf [.ref s j g vw] with
    |none=>simp [hq] at he
    |some p=>
     obtain ⟨os,us,rs⟩:=p;simp only [hq,Option.some.injEq,Prod.mk.injEq] at he;obtain ⟨rfl,rfl,rfl,rfl⟩:=he;exact single _ _ _ _ _ hx hq
   cases m with
   |shr=>exact other he
   |own=>exact other he
   |pick _=>exact other he
   |soft _=>exact other he
   |bL=>exact other he
   |io=>
    cases vw with
    |full=>
     cases hA:aT st s j g with
     |none=>simp [hA] at he
     |some A=>
      simp only [hA] at he;obtain ⟨ho,x7⟩:=aI he;rw [Bool.and_eq_true] at ho;have ho:=ho.1;simp only [Option.some.injEq,Prod.mk.injEq] at x7;obtain ⟨rfl,rfl,rfl,rfl⟩:=x7;refine ⟨by simp [Lb.real],by simp,[(.sp s j,.bK i 0)],rfl,by simp [Lb.kI],fun ρ hp _ => ?_⟩;have ha:=uF h hA;have hs:=hx.2.2 A hA;have hρ:ρ (.sp s j)=some (.bK i 0):=hp (.sp s j,.bK i 0) (by simp);refine ⟨hx.1,hs,ho,?_⟩;show match c.lc s j with
       |.nil=>A.xs=[]
       |.at b off cap=>_
      unfold bF at ha
      cases gH:c.lc s j with
      |nil=>rw [gH] at ha;exact ha
      |«at» b off cap=>
       rw [gH] at ha;obtain ⟨h0,h2,h3,h4⟩:=ha;rw [ho] at h0;exact ⟨(Cz.kN h0).trans hρ,h2,h3,h4.map hρ⟩
    |«from» _=>simp at he
    |sub _ _=>simp at he
  |_=>
   unfold eG at he;simp only at he
   split at he
   ·rename_i os us rs hq;simp only [Option.some.injEq,Prod.mk.injEq] at he;obtain ⟨rfl,rfl,rfl,rfl⟩:=he;exact single _ _ _ _ _ hx hq
   ·cases he
theorem Gi {w0:World} {mu:Mu} {c:Cz} {st:St} {a:Act} {w:World} (h:Rel w0 mu c st a w):(ms:List (Pm×V))→(i:Nat)→(xs:List Value)→ms.length=xs.length→(∀(k:Nat) (m:Pm×V) (x:Value),ms[k]?=some m→xs[k]?=some x→eD c st w m.2 x)→
  {da:List AV}→{u q:List Lb}→{r:List (Nat×Nat)}→iY st ms=some (da,u,q,r)→
  (∀l∈u,l.real=true)∧(∀l∈q,l∈u)∧∃tb:List (Lb×Lb),tb.map (·.1)=u∧(∀p∈tb,p.2.kI=true)∧da.length=ms.length∧
   ∀(ρ:Lb→Option Lb) (lc:Nat→Nat→Loc),(∀(k:Nat) (m:Pm×V),ms[k]?=some m→lc (i+k)=CG c m.2)→(∀p∈tb,ρ p.1=some p.2)→(∀p∈r,ρ (.sp p.1 p.2)=none)→ob (c.map ρ) w lc i da xs
 | [],i,xs,hl,hx,da,u,q,r,he=>by
  simp only [iY,Option.some.injEq,Prod.mk.injEq] at he;obtain ⟨rfl,rfl,rfl,rfl⟩:=he;simp at hl;exact ⟨by simp,by simp,[],rfl,by simp,rfl,fun ρ lc _ _ _=>List.length_eq_zero_iff.1 hl.symm⟩
 |(m,v)::ms,i,xs,hl,hx,da,u,q,r,he=>by
  cases xs with
  |nil=>simp at hl
  |cons x xs=>
   unfold iY at he
   cases h1:eG st m v with
   |none=>simp [h1] at he
   |some p1=>
    obtain ⟨av,u1,q1,r1⟩:=p1
    cases h2:iY st ms with
    |none=>simp [h1,h2] at he
    |some p2=>
     obtain ⟨Tf,u2,q2,r2⟩:=p2;simp only [h1,h2,Option.some.injEq,Prod.mk.injEq] at he;obtain ⟨rfl,rfl,rfl,rfl⟩:=he;obtain ⟨a1,a2,ta,a4,a5,a3⟩:=NZ h (hx 0 (m,v) x rfl rfl) h1 i;obtain ⟨b1,b2,tb,b3,b4,b6,b5⟩:=Gi h ms (i+1) xs (by simpa using hl) (fun k m x hm py=>hx (k+1) m x (by simpa using hm) (by simpa using py)) h2;refine ⟨fun l hl => ?_,fun l hl => ?_,ta++tb,by simp [a4,b3],fun p hp => ?_,by simp [b6],fun ρ lc gH hp hr => ?_⟩
     ·rcases List.mem_append.1 hl with hl | hl
      ·exact a1 l hl
      ·exact b1 l hl
     ·rcases List.mem_append.1 hl with hl | hl
      ·exact List.mem_append_left _ (a2 l hl)
      ·exact List.mem_append_right _ (b2 l hl)
     ·rcases List.mem_append.1 hp with hp | hp
      ·exact a5 p hp
      ·exact b4 p hp
     ·refine ⟨x,xs,rfl,?_,b5 ρ lc (fun k m hm => ?_) (fun p mA=>hp p (List.mem_append_right _ mA)) (fun p mA=>hr p (List.mem_append_right _ mA))⟩
      ·have:=gH 0 (m,v) rfl;simp only [Nat.add_zero] at this;rw [this];exact a3 ρ (fun p mA=>hp p (List.mem_append_left _ mA)) (fun p mA=>hr p (List.mem_append_left _ mA))
      ·have:=gH (k+1) m (by simpa using hm)
       rwa [show i+(k+1)=i+1+k by omega] at this
end Go.TM
namespace Go.TM
open Go Go.RowKit
structure kW (X:Lb→Prop) (w0:World) (mu:Mu) (c:Cz) (st:St) (a:Act) (w:World):Prop where
 dO:∀t,eD c st w (bI st t) (a.eval (.tmp t))
 boxes:∀s sl cs,¬X (.box s)→nth st s=some sl→sl.box=some cs→tz c st w s cs
 aN:∀s j sl A,¬X (.sp s j)→nth st s=some sl→nth sl.aN j=some (some A)→bF c w s j A
 owned:∀b l,c.own b=some l→b<w.heap.size∧(l=.out∨w0.heap.size≤b∨mu.m b)
 free:∀b,b<w0.heap.size→c.own b=none→mu.m b∨mu.ok b
 kept:w.os=w0.os∧w.tape=w0.tape∧w.output=w0.output∧w0.heap.size≤w.heap.size
 old:∀k,k<w0.heap.size→¬mu.m k→w.heap[k]?=w0.heap[k]?
 plain:a.defers=[]
 cR:∀p∈mu.an,SY c st p
 lS:∀b l,c.rs b=some l→b<w.heap.size∧(w0.heap.size≤b∨mu.m b∨mu.rs b)
theorem kW.rel {w0:World} {mu:Mu} {c:Cz} {st:St} {a:Act} {w:World} (h:kW (fun _=>False) w0 mu c st a w):Rel w0 mu c st a w:=
 ⟨h.dO,fun s sl cs=>h.boxes s sl cs id,fun s j sl A=>h.aN s j sl A id,h.owned,h.free,h.kept,h.old,h.plain,h.cR,h.lS⟩
structure CH (ρ:Lb→Lb):Prop where
 other:∀l,(l=.out∨l.real=true)→ρ l=l
def Cz.dP (c:Cz) (ρ:Lb→Lb) (bx:Nat→Nat) (lc:Nat→Nat→Loc):Cz:={ bx:=bx,lc:=lc,own:=fun b=>(c.own b).map ρ,rs:=fun b=>(c.rs b).map ρ }
theorem Cz.jU {c:Cz} {ρ:Lb→Lb} {bx:Nat→Nat} {lc:Nat→Nat→Loc} {b:Nat}:(c.dP ρ bx lc).ok b↔c.ok b:=by
 unfold Cz.ok Cz.dP;simp
theorem oc (c:Cz) (w:World) (ρ:Lb→Lb) (bx:Nat→Nat) (lc:Nat→Nat→Loc):ij w w c.ok (c.dP ρ bx lc).ok:=⟨Nat.le_refl _,fun _ _ _=>rfl,fun _ _ h=>Cz.jU.2 h⟩
theorem kW.dP {X X':Lb→Prop} {w0:World} {mu:Mu} {c:Cz} {st aY:St} {a:Act} {w:World} (h:kW X w0 mu c st a w) {ρ:Lb→Lb} {bx:Nat→Nat} {lc:Nat→Nat→Loc} (hρ:CH ρ)
  (fH:Fw c st w (c.dP ρ bx lc) aY w) (aby:∀t,eD (c.dP ρ bx lc) aY w (bI aY t) (a.eval (.tmp t)))
  (ag1:∀s sl cs,¬X' (.box s)→nth aY s=some sl→sl.box=some cs→tz (c.dP ρ bx lc) aY w s cs)
  (BI:∀s j sl A,¬X' (.sp s j)→nth aY s=some sl→nth sl.aN j=some (some A)→bF (c.dP ρ bx lc) w s j A):kW X' w0 mu (c.dP ρ bx lc) aY a w where
 dO:=aby
 boxes:=ag1
 aN:=BI
 owned b l hb:=by
  unfold Cz.dP at hb;simp only [Option.map_eq_some_iff] at hb;obtain ⟨k,hk,e⟩:=hb;obtain ⟨h1,h2⟩:=h.owned b k hk;refine ⟨h1,h2.imp (fun e2 => ?_) id⟩;subst e2;rw [←e];exact hρ.other _ (.inl rfl)
 free b hb h1:=h.free b hb (by unfold Cz.dP at h1;simpa using h1)
 kept:=h.kept
 old:=h.old
 plain:=h.plain
 cR p hp:=fH.cR (h.cR p hp)
 lS b l hb:=by
  unfold Cz.dP at hb;simp only [Option.map_eq_some_iff] at hb;obtain ⟨k,hk,e⟩:=hb;exact h.lS b k hk
theorem gY (st:St) (s j:Nat) (A:Option fT) (k:Nat):∃f:Sl→Sl,(∀x,(f x).v=x.v∧(f x).box=x.box∧(f x).bg=x.bg∧(f x).ag=x.ag∧
   (∀i,nth (f x).aN i=if k=s∧i=j then (nth x.aN i).map (fun _=>A) else nth x.aN i)∧(f x).ep=if k=s then x.ep+1 else x.ep)∧nth (bj st s j A) k=(nth st k).map f:=by
 unfold bj
 by_cases e:k=s
 ·subst e;refine ⟨fun s=>{ s with aN:=lZ (fun _=>A) s.aN j,ep:=s.ep+1 },fun x=>⟨rfl,rfl,rfl,rfl,fun i => ?_,by simp⟩,gu _ _ _⟩;simp only [dj,true_and]
 ·refine ⟨id,fun x=>⟨rfl,rfl,rfl,rfl,fun i => ?_,by simp [e]⟩,by rw [k9 _ _ e];simp⟩;simp [e]
theorem D8 (st:St) (s j:Nat) (A:Option fT) (t:Nat):j5 st t≤j5 (bj st s j A) t∧(j5 (bj st s j A) t=j5 st t→t≠s∨nth st t=none):=by
 obtain ⟨f,hf,hk⟩:=gY st s j A t;unfold j5;rw [hk]
 cases nth st t with
 |none=>simp
 |some x=>
  simp only [Option.map_some];rw [(hf x).2.2.2.2.2]
  by_cases e:t=s
  ·rw [if_pos e];exact ⟨by omega,fun h=>by omega⟩
  ·rw [if_neg e];exact ⟨Nat.le_refl _,fun _=>.inl e⟩
theorem wN (st:St) (s j:Nat) (A:Option fT) (t:Nat):bI (bj st s j A) t=bI st t:=by
 obtain ⟨f,hf,hk⟩:=gY st s j A t;unfold bI;rw [hk]
 cases nth st t with
 |none=>rfl
 |some x=>exact (hf x).1
theorem D9 (st:St) (s j:Nat) (A:Option fT) (t:Nat):cO (bj st s j A) t=cO st t∧fF (bj st s j A) t=fF st t:=by
 obtain ⟨f,hf,hk⟩:=gY st s j A t;unfold cO fF;rw [hk]
 cases nth st t with
 |none=>exact ⟨rfl,rfl⟩
 |some x=>exact ⟨(hf x).2.2.2.1,(hf x).2.2.1⟩
theorem I9 (st:St) (s j:Nat) (A:Option fT) (b g:Nat):cW (bj st s j A) b g=cW st b g:=by
 obtain ⟨f,hf,hk⟩:=gY st s j A b;unfold cW;rw [hk]
 cases nth st b with
 |none=>rfl
 |some x=>simp [(hf x).2.1,(hf x).2.2.1]
theorem oM {st:St} {a j g:Nat} {sl:Sl} {A:fT} (h1:nth st a=some sl) (h2:sl.ag=g) (h3:nth sl.aN j=some (some A)):aT st a j g=some A:=by
 unfold aT;rw [h1];simp [h2,h3]
theorem BJ {c:Cz} {st:St} {w:World} {s j g:Nat} {A:Option fT} {A0:fT} (h0:aT st s j g=some A0∨A=none) (hA:∀B,A=some B→B.r.width=A0.r.width∧B.xs.length=A0.xs.length) (ρ:Lb→Lb) :
  Fw c st w (c.dP ρ c.bx c.lc) (bj st s j A) w where
 stays:=oc c w ρ _ _
 refs a' j' g' A' hg ek:=by
  obtain ⟨sl,k1,k2,k3⟩:=ba ek;obtain ⟨f,hf,hk⟩:=gY st s j A a';rw [hk] at k1
  cases hx:nth st a' with
  |none=>rw [hx] at k1;simp at k1
  |some x=>
   rw [hx] at k1;simp at k1;subst k1;rw [(hf x).2.2.2.1] at k2;rw [(hf x).2.2.2.2.1 j'] at k3
   by_cases e:a'=s∧j'=j
   ·rw [if_pos e] at k3;obtain ⟨rfl,rfl⟩:=e
    cases hq:nth x.aN j' with
    |none=>simp [hq] at k3
    |some A1=>
     simp only [hq,Option.map_some,Option.some.injEq] at k3;rcases h0 with h0 | h0
     ·obtain ⟨sl,k1',k2',k3'⟩:=ba h0;rw [hx] at k1';cases k1';obtain ⟨e1,e2⟩:=hA A' k3;refine ⟨A0,oM hx k2 k3',e1,e2,rfl,fun he => ?_⟩;rcases (D8 st a' j' A a').2 he with h | h
      ·exact absurd rfl h
      ·rw [hx] at h;cases h
     ·rw [h0] at k3;cases k3
   ·rw [if_neg e] at k3;exact ⟨A',oM hx k2 k3,rfl,rfl,rfl,fun _=>⟨rfl,fun _ _ _ _=>rfl⟩⟩
 Bw b g' cs _ h:=⟨⟨cs,by rwa [I9] at h⟩,rfl⟩
 gA a':=by rw [(D9 st s j A a').1];exact Nat.le_refl _
 gB a':=by rw [(D9 st s j A a').2];exact Nat.le_refl _
 gE a':=(D8 st s j A a').1
theorem tz.dP {c:Cz} {st aY:St} {w:World} {ρ:Lb→Lb} {bx:Nat→Nat} {lc:Nat→Nat→Loc} (hρ:CH ρ) (fH:Fw c st w (c.dP ρ bx lc) aY w) {s:Nat} {cs:List CV} (h:tz c st w s cs) (hb:bx s=c.bx s):tz (c.dP ρ bx lc) aY w s cs:=by
 refine h.go fH hb ?_ rfl;unfold Cz.dP;simp only;rw [h.1];simp [hρ.other (.box s) (.inr rfl)]
theorem bF.dP {c:Cz} {w:World} {ρ:Lb→Lb} {bx:Nat→Nat} {lc:Nat→Nat→Loc} (hρ:CH ρ) {s j:Nat} {A:fT} (h:bF c w s j A) (hl:lc s j=c.lc s j):bF (c.dP ρ bx lc) w s j A:=by
 refine h.go (oc c w ρ bx lc) hl (fun b h0=>⟨rfl,?_⟩) (fun b _ _ h0 => ?_)
 ·unfold Cz.dP;simp only;rw [h0];simp [hρ.other (.sp s j) (.inr rfl)]
 ·unfold Cz.dP;simp only;rw [h0];simp [hρ.other (.sp s j) (.inr rfl)]
theorem rE:CH id:=⟨fun _ _=>rfl⟩
theorem kW.kill {X:Lb→Prop} {w0:World} {mu:Mu} {c:Cz} {st:St} {a:Act} {w:World} (h:kW X w0 mu c st a w) (s j:Nat):kW (fun l=>X l∧l≠.sp s j) w0 mu (c.dP id c.bx c.lc) (bj st s j none) a w∧Fw c st w (c.dP id c.bx c.lc) (bj st s j none) w:=by
 have fH:Fw c st w (c.dP id c.bx c.lc) (bj st s j none) w:=BJ (g:=0) (A0:={ r:=.nil,own:=false,xs:=[] }) (.inr rfl) (fun _ e=>by cases e) id;refine ⟨h.dP rE fH (fun t=>by rw [wN];exact fH.j6 (h.dO t)) (fun k sl cs hX hs hb => ?_) (fun k i sl A hX hs hA => ?_),fH⟩
 ·obtain ⟨f,hf,hk⟩:=gY st s j none k;rw [hk] at hs
  cases hx:nth st k with
  |none=>rw [hx] at hs;simp at hs
  |some x=>
   rw [hx] at hs;simp at hs;subst hs;rw [(hf x).2.1] at hb;exact (h.boxes k x cs (fun N0=>hX ⟨N0,by simp⟩) hx hb).dP rE fH rfl
 ·obtain ⟨f,hf,hk⟩:=gY st s j none k;rw [hk] at hs
  cases hx:nth st k with
  |none=>rw [hx] at hs;simp at hs
  |some x=>
   rw [hx] at hs;simp at hs;subst hs;rw [(hf x).2.2.2.2.1 i] at hA
   by_cases e:k=s∧i=j
   ·rw [if_pos e] at hA
    cases hq:nth x.aN i<;>simp [hq] at hA
   ·rw [if_neg e] at hA;exact (h.aN k i x A (fun N0=>hX ⟨N0,by rintro e';injection e' with e1 e2;exact e ⟨e1,e2⟩⟩) hx hA).dP rE rfl
theorem kW.mono {X X':Lb→Prop} {w0:World} {mu:Mu} {c:Cz} {st:St} {a:Act} {w:World} (h:kW X w0 mu c st a w) (hX:∀l,X l→X' l):kW X' w0 mu c st a w:=
 ⟨h.dO,fun s sl cs hn=>h.boxes s sl cs (fun h=>hn (hX _ h)),fun s j sl A hn=>h.aN s j sl A (fun h=>hn (hX _ h)),h.owned,h.free,h.kept,h.old,h.plain,h.cR,h.lS⟩
def pG (i z s j:Nat):Lb→Lb
 |.bK x y=>if x=i∧y=z then .sp s j else .bK x y
 |l=>l
def ml (i b:Nat):Lb→Lb
 |.bK x y=>if x=i then .sp b y else .bK x y
 |.su x=>if x=i then .box b else .su x
 |l=>l
theorem HB (i z s j:Nat):CH (pG i z s j):=⟨fun l h=>by cases l<;>simp [pG,Lb.real] at h ⊢⟩
theorem FA (i b:Nat):CH (ml i b):=⟨fun l h=>by cases l<;>simp [ml,Lb.real] at h ⊢⟩
theorem OwnAt.arr {c:Cz} {w:World} {l:Lb} {lc':Loc} {A:fT} {v:Value} (h:OwnAt c w l lc' A v) {ρ:Lb→Lb} {bx:Nat→Nat} {lc:Nat→Nat→Loc} {s j:Nat} (hl:lc s j=lc') (hρ:ρ l=.sp s j):bF (c.dP ρ bx lc) w s j A:=by
 obtain ⟨_,_,h3,h4⟩:=h;unfold bF;show match lc s j with | .nil=>_ | .at b off cap=>_
 rw [hl]
 cases lc' with
 |nil=>exact h4
 |«at» b off cap=>
  obtain ⟨g1,g2,g3,g4⟩:=h4;rw [h3];have hq:∀k,c.own k=some l→(c.dP ρ bx lc).own k=some (.sp s j):=by
   intro k hk;show (c.own k).map ρ=_;rw [hk];simp [hρ]
  exact ⟨hq b g1,g2,g3,g4.go (fun _=>oc c w ρ bx lc) rfl (fun _ k hk=>⟨rfl,hq k hk⟩) (fun _ k hk=>⟨rfl,Cz.jU.2 hk.1,by
   show (c.rs k).map ρ=_;rw [hk.2.1];simp [hρ],hk.2.2⟩)⟩
theorem kW.io {X:Lb→Prop} {w0:World} {mu:Mu} {c:Cz} {st:St} {a:Act} {w:World} (h:kW X w0 mu c st a w) {s j g i z:Nat} {A B:fT} {v:Value} (hA:aT st s j g=some A) (hw:B.r.width=A.r.width) (hn:B.xs.length=A.xs.length)
  (hB:OwnAt c w (.bK i z) (c.lc s j) B v):kW (fun l=>X l∧l≠.sp s j) w0 mu (c.dP (pG i z s j) c.bx c.lc) (bj st s j (some B)) a w∧Fw c st w (c.dP (pG i z s j) c.bx c.lc) (bj st s j (some B)) w:=by
 have fH:Fw c st w (c.dP (pG i z s j) c.bx c.lc) (bj st s j (some B)) w:=BJ (.inl hA) (fun _ e=>by cases e;exact ⟨hw,hn⟩) _;have ht:=HB i z s j;refine ⟨h.dP ht fH (fun t=>by rw [wN];exact fH.j6 (h.dO t)) (fun k sl cs hX hs hb => ?_) (fun k q sl A' hX hs ek => ?_),fH⟩
 ·obtain ⟨f,hf,hk⟩:=gY st s j (some B) k;rw [hk] at hs
  cases hx:nth st k with
  |none=>rw [hx] at hs;simp at hs
  |some x=>
   rw [hx] at hs;simp at hs;subst hs;rw [(hf x).2.1] at hb;exact (h.boxes k x cs (fun N0=>hX ⟨N0,by simp⟩) hx hb).dP ht fH rfl
 ·obtain ⟨f,hf,hk⟩:=gY st s j (some B) k;rw [hk] at hs
  cases hx:nth st k with
  |none=>rw [hx] at hs;simp at hs
  |some x=>
   rw [hx] at hs;simp at hs;subst hs;rw [(hf x).2.2.2.2.1 q] at ek
   by_cases e:k=s∧q=j
   ·rw [if_pos e] at ek;obtain ⟨rfl,rfl⟩:=e
    cases hq:nth x.aN q with
    |none=>simp [hq] at ek
    |some A1=>
     simp only [hq,Option.map_some,Option.some.injEq] at ek;subst ek;exact hB.arr rfl (by simp [pG])
   ·rw [if_neg e] at ek;exact (h.aN k q x A' (fun N0=>hX ⟨N0,by rintro e';injection e' with e1 e2;exact e ⟨e1,e2⟩⟩) hx ek).dP ht rfl
theorem a7.cells {c:Cz} {w:World} {f:Nat→Lb}:(os:List OV)→(j:Nat)→(vs:List Value)→a7 c w f j os vs→
  ∃lcs:Nat→Loc,(∀k A,nth (bl os) k=some (some A)→∃v,OwnAt c w (f (j+k)) (lcs (j+k)) A v)∧
   ∀(c2:Cz) (fB:St) (d g:Nat),(∀b,c.ok b→c2.ok b)→(∀k,k<os.length→c2.lc d (j+k)=lcs (j+k))→(∀k A,k<os.length→aT fB d (j+k) g=some A→nth (bl os) k=some (some A))→g≤cO fB d→fo c2 fB w (bc d g j os) vs
 | [],j,vs,h=>by
  subst h;exact ⟨fun _=>.nil,fun k A hA=>by simp [bl] at hA,fun _ _ _ _ _ _ _ _=>⟨rfl,fun i x v hx=>by simp [bc] at hx⟩⟩
 |o::os,j,vs,h=>by
  obtain ⟨v,l,rfl,hh,ql⟩:∃v l,vs=v::l∧a7 c w f (j+1) os l∧∃lc,(∀A,o.arr=some A→OwnAt c w (f j) lc A v)∧∀(c2:Cz) (fB:St) (d g:Nat),(∀b,c.ok b→c2.ok b)→c2.lc d j=lc→(∀A,aT fB d j g=some A→o.arr=some A)→g≤cO fB d→
    ∃x,bc d g j (o::os)=x::bc d g (j+1) os∧iI c2 fB w x v:=by
   cases o with
   |int k n=>obtain ⟨l,h1,h2⟩:=h;exact ⟨_,l,h1,h2,.nil,(fun _ e=>by cases e),fun c2 fB d g _ _ _ _=>⟨_,rfl,rfl⟩⟩
   |bool b=>obtain ⟨l,h1,h2⟩:=h;exact ⟨_,l,h1,h2,.nil,(fun _ e=>by cases e),fun c2 fB d g _ _ _ _=>⟨_,rfl,rfl⟩⟩
   |str b=>obtain ⟨l,h1,h2⟩:=h;exact ⟨_,l,h1,h2,.nil,(fun _ e=>by cases e),fun c2 fB d g _ _ _ _=>⟨_,rfl,rfl⟩⟩
   |dN=>obtain ⟨l,h1,h2⟩:=h;exact ⟨_,l,h1,h2,.nil,(fun _ e=>by cases e),fun c2 fB d g _ _ _ _=>⟨_,rfl,rfl⟩⟩
   |shr r xs=>
    obtain ⟨v,l,h1,h2,h3⟩:=h;exact ⟨v,l,h1,h3,.nil,(fun _ e=>by cases e),fun c2 fB d g fk _ _ _=>⟨.shr r xs,rfl,bN.stays ⟨Nat.le_refl _,fun _ _ _=>rfl,fun b _ hb=>fk b hb⟩ _ _ _ h2⟩⟩
   |lC r xs=>
    obtain ⟨v,l,h1,⟨b,o,e1,e2,e3,e4⟩,h3⟩:=h;exact ⟨v,l,h1,h3,.nil,(fun _ e=>by cases e),fun c2 fB d g fk _ _ _=>⟨.s8 r xs 0,rfl,b,o,e1,e2,fk b e3,fun x hx=>cI.stays ⟨Nat.le_refl _,fun _ _ _=>rfl,fun b _ hb=>fk b hb⟩ _ _ _ _ rfl (e4 x hx)⟩⟩
   |fn g rs xs=>
    obtain ⟨v,l,h1,h2,h3⟩:=h;exact ⟨v,l,h1,h3,.nil,(fun _ e=>by cases e),fun c2 fB d g' fk _ _ _=>⟨.fn g rs xs,rfl,h2.stays ⟨Nat.le_refl _,fun _ _ _=>rfl,fun b _ hb=>fk b hb⟩⟩⟩
   |own A=>
    obtain ⟨v,l,h1,⟨lc,h2⟩,h3⟩:=h;refine ⟨v,l,h1,h3,lc,(fun A' e=>by cases e;exact h2),fun c2 fB d g _ gH BI hg=>⟨.ref d j g .full,rfl,h2.1,hg,fun A' ek => ?_⟩⟩;have e:=BI A' ek
    cases e
    rw [gH];exact h2.2.1
  obtain ⟨lc,q1,q2⟩:=ql;obtain ⟨lcs,g1,g2⟩:=a7.cells os (j+1) l hh;refine ⟨fun k=>if k=j then lc else lcs k,fun k A' ek => ?_,fun c2 fB d g fk gH BI hg => ?_⟩
  ·cases k with
   |zero=>
    simp only [bl,nth,Option.some.injEq] at ek;exact ⟨v,by simpa using q1 A' ek⟩
   |succ k=>
    have:=g1 k A' ek;rw [show j+1+k=j+(k+1) by omega] at this;show ∃v,OwnAt c w (f (j+(k+1))) (if j+(k+1)=j then lc else lcs (j+(k+1))) A' v;rw [if_neg (by omega)];exact this
  ·have fC:=g2 c2 fB d g fk (fun k hk=>by
    have:c2.lc d (j+(k+1))=if j+(k+1)=j then lc else lcs (j+(k+1)):=gH (k+1) (by simp;exact hk)
    rw [if_neg (by omega)] at this;rw [show j+1+k=j+(k+1) by omega];exact this) (fun k A' hk ek=>by
     have:=BI (k+1) A' (by simp;exact hk) (by rw [show j+(k+1)=j+1+k by omega];exact ek);exact this) hg
   have h0:c2.lc d j=lc:=by
    have:=gH 0 (by simp);simpa using this
   obtain ⟨x,e1,e2⟩:=q2 c2 fB d g fk h0 (fun A hA=>by
    have:=BI 0 A (by simp) hA;simpa [bl,nth] using this) hg
   rw [e1];refine ⟨by simp [fC.1],fun k y z hy hz => ?_⟩
   cases k with
   |zero=>
    simp only [List.getElem?_cons_zero,Option.some.injEq] at hy hz;subst hy hz;exact e2
   |succ k=>exact fC.2 k y z (by simpa using hy) (by simpa using hz)
theorem kW.boxed {X:Lb→Prop} {w0:World} {mu:Mu} {c:Cz} {st:St} {a:Act} {w:World} (h:kW X w0 mu c st a w) {b g i:Nat} {s0:Sl} {Hk:List CV} {os:List OV} {v:Value} (gn:nth st b=some s0) (zV:cW st b g=some Hk) (hv:v=.pointer (some ⟨c.bx b,0,none⟩))
  (hB:Gg c w i os v):∃c',kW (fun l=>X l∧l≠.box b) w0 mu c' (lZ (fun s=>{ s with box:=some (bc b (s0.ag+1) 0 os),aN:=bl os,ag:=s0.ag+1 }) st b) a w∧
   Fw c st w c' (lZ (fun s=>{ s with box:=some (bc b (s0.ag+1) 0 os),aN:=bl os,ag:=s0.ag+1 }) st b) w∧Pass c c' (fun l=>(∀y,l≠.bK i y)∧l≠.su i):=by
 obtain ⟨mK,vs,ty,h1,h2,h3,h4⟩:=hB;obtain ⟨lcs,g1,g2⟩:=a7.cells os 0 _ h4;rw [hv] at h1;have e:c.bx b=mK:=by injection h1 with h1;injection h1 with h1;injection h1
 obtain ⟨_,abz,MB,Tg⟩:=ir zV;rw [gn] at abz;cases abz
 let c':=c.dP (ml i b) c.bx (fun s j=>if s=b then lcs j else c.lc s j)
 let aY:=lZ (fun s=>{ s with box:=some (bc b (s0.ag+1) 0 os),aN:=bl os,ag:=s0.ag+1 }) st b
 have hn:∀s,nth aY s=if s=b then some { s0 with box:=some (bc b (s0.ag+1) 0 os),aN:=bl os,ag:=s0.ag+1 } else nth st s:=by
  intro s;show nth (lZ _ st b) s=_;rw [dj]
  by_cases e:s=b
  ·subst e;simp [gn]
  ·simp [e]
 have BK:cO aY b=s0.ag+1:=by unfold cO;rw [hn];simp
 have Ja:cO st b=s0.ag:=by unfold cO;rw [gn]
 have ht:=FA i b;have fH:Fw c st w c' aY w:={
  stays:=oc c w _ _ _
  refs:=fun a' j' g' A' hg ek=>by
   obtain ⟨sl,k1,k2,k3⟩:=ba ek;rw [hn] at k1
   by_cases e:a'=b
   ·rw [if_pos e] at k1
    cases k1
    subst e;simp only at k2;omega
   ·rw [if_neg e] at k1;exact ⟨A',oM k1 k2 k3,rfl,rfl,by show (if a'=b then _ else _)=_;rw [if_neg e],fun _=>⟨rfl,fun _ _ _ _=>rfl⟩⟩
  Bw:=fun b' g' lQ hg KN=>by
   obtain ⟨sl,k1,k2,k3⟩:=ir KN;rw [hn] at k1
   by_cases e:b'=b
   ·rw [if_pos e] at k1
    cases k1
    subst e;exact ⟨⟨Hk,by unfold cW;rw [gn];simp at k2;simp [k2,Tg]⟩,rfl⟩
   ·rw [if_neg e] at k1;exact ⟨⟨lQ,by unfold cW;rw [k1];simp [k2,k3]⟩,rfl⟩
  gA:=fun a'=>by
   by_cases e:a'=b
   ·subst e;rw [BK,Ja];omega
   ·unfold cO;rw [hn,if_neg e];exact Nat.le_refl _
  gB:=fun a'=>by
   by_cases e:a'=b
   ·subst e;unfold fF;rw [hn,if_pos rfl,gn];exact Nat.le_refl _
   ·unfold fF;rw [hn,if_neg e];exact Nat.le_refl _
  gE:=fun a'=>by
   by_cases e:a'=b
   ·subst e;unfold j5;rw [hn,if_pos rfl,gn];exact Nat.le_refl _
   ·unfold j5;rw [hn,if_neg e];exact Nat.le_refl _ }
 have Jb:∀k A,aT aY b k (s0.ag+1)=some A→nth (bl os) k=some (some A):=by
  intro k A hA;obtain ⟨sl,k1,k2,k3⟩:=ba hA;rw [hn,if_pos rfl] at k1
  cases k1
  exact k3
 refine ⟨c',h.dP ht fH (fun t => ?_) (fun s sl cs hX hs hb => ?_) (fun s j sl A hX hs hA => ?_),fH,⟨fun k l hl hk => ?_,fun k hk=>Cz.jU.2 hk,fun k l hl hk => ?_⟩⟩
 ·have:bI aY t=bI st t:=by
   unfold bI;rw [hn]
   by_cases e:t=b
   ·subst e;rw [if_pos rfl,gn]
   ·rw [if_neg e]
  rw [this];exact fH.j6 (h.dO t)
 ·rw [hn] at hs
  by_cases e':s=b
  ·subst e';rw [if_pos rfl] at hs
   cases hs
   simp only [Option.some.injEq] at hb;subst hb;refine ⟨?_,vs,ty,by show w.heap[c.bx s]?=_;rw [e];exact h3,?_⟩
   ·show (c.own (c.bx s)).map (ml i s)=some (.box s);rw [e,h2];simp [ml]
   ·exact g2 c' aY s (s0.ag+1) (fun b hb=>Cz.jU.2 hb) (fun k _=>by show (if s=s then _ else _)=_;rw [if_pos rfl]) (fun k A _ hA=>Jb k A (by simpa using hA)) (by rw [BK];exact Nat.le_refl _)
  ·rw [if_neg e'] at hs;exact (h.boxes s sl cs (fun N0=>hX ⟨N0,by rintro e2;injection e2 with e2;exact e' e2⟩) hs hb).dP ht fH rfl
 ·rw [hn] at hs
  by_cases e':s=b
  ·subst e';rw [if_pos rfl] at hs
   cases hs
   obtain ⟨v',nW⟩:=g1 j A hA;exact nW.arr (by simp) (by simp [ml])
  ·rw [if_neg e'] at hs;exact (h.aN s j sl A (fun N0=>hX ⟨N0,by simp⟩) hs hA).dP ht (by simp [e'])
 ·show (c.own k).map (ml i b)=_;rw [hk];simp only [Option.map_some,Option.some.injEq]
  cases l with
  |bK x y=>simp only [ml];rw [if_neg];rintro rfl;exact hl.1 y rfl
  |su x=>simp only [ml];rw [if_neg];rintro rfl;exact hl.2 rfl
  |_=>rfl
 ·show (c.rs k).map (ml i b)=_;rw [hk];simp only [Option.map_some,Option.some.injEq]
  cases l with
  |bK x y=>simp only [ml];rw [if_neg];rintro rfl;exact hl.1 y rfl
  |su x=>simp only [ml];rw [if_neg];rintro rfl;exact hl.2 rfl
  |_=>rfl
end Go.TM
namespace Go.TM
open Go Go.RowKit
def Lb.Au:Lb→Option Lb
 |.bK i j=>some (.bK i j)
 |.su i=>some (.su i)
 |.eF j=>some (.eF j)
 |_=>none
noncomputable def Cz.merge (c c1:Cz) (n:Nat) (m r:Nat→Prop):Cz:=
 {
  bx:=c.bx,lc:=c.lc,own:=fun b=>have:=Classical.propDecidable (b<n∧¬m b);if b<n∧¬m b then c.own b else (c1.own b).bind Lb.Au,
  rs:=fun b=>have:=Classical.propDecidable (b<n∧¬m b∧¬r b);if b<n∧¬m b∧¬r b then c.rs b else (c1.rs b).bind Lb.Au }
theorem Cz.Av {c c1:Cz} {n:Nat} {m r:Nat→Prop} {b:Nat} (h:b<n∧¬m b∧¬r b):(c.merge c1 n m r).rs b=c.rs b:=by
 unfold Cz.merge;simp only;rw [if_pos h]
theorem Cz.Aw {c c1:Cz} {n:Nat} {m r:Nat→Prop} {b:Nat} (h:¬(b<n∧¬m b∧¬r b)):(c.merge c1 n m r).rs b=(c1.rs b).bind Lb.Au:=by
 unfold Cz.merge;simp only;rw [if_neg h]
theorem Cz.qT {c c1:Cz} {n:Nat} {m r:Nat→Prop} {b:Nat} (h:b<n∧¬m b):(c.merge c1 n m r).own b=c.own b:=by
 unfold Cz.merge;simp only;rw [if_pos h]
theorem Cz.xK {c c1:Cz} {n:Nat} {m r:Nat→Prop} {b:Nat} (h:¬(b<n∧¬m b)):(c.merge c1 n m r).own b=(c1.own b).bind Lb.Au:=by
 unfold Cz.merge;simp only;rw [if_neg h]
theorem N1 {u:List Lb} {a j:Nat} (h:Lb.sp a j∈u):ng u a=true:=by
 unfold ng;exact List.any_eq_true.2 ⟨_,h,by simp⟩
theorem Gj (u:List Lb):(st:St)→(a s:Nat)→nth (qj u a st) s=(nth st s).map fun x=>bif ng u (a+s) then { x with ep:=x.ep+1 } else x
 | [],_,_=>rfl
 |x::l,a,0=>rfl
 |x::l,a,s+1=>by
  show nth (qj u (a+1) l) s=_;rw [Gj u l (a+1) s,show a+1+s=a+(s+1) by omega];rfl
theorem rF (u:List Lb) (st:St) (s:Nat):nth (qj u 0 st) s=(nth st s).map fun x=>bif ng u s then { x with ep:=x.ep+1 } else x:=by
 rw [Gj,Nat.zero_add]
theorem N2 (u:List Lb) (st:St) (t:Nat):bI (qj u 0 st) t=bI st t:=by
 unfold bI;rw [rF]
 cases nth st t<;>cases ng u t<;>rfl
theorem N3 (u:List Lb) (st:St) (a j g:Nat):aT (qj u 0 st) a j g=aT st a j g:=by
 unfold aT;rw [rF]
 cases nth st a<;>cases ng u a<;>rfl
theorem N4 (u:List Lb) (st:St) (b g:Nat):cW (qj u 0 st) b g=cW st b g:=by
 unfold cW;rw [rF]
 cases nth st b<;>cases ng u b<;>rfl
theorem Jc (u:List Lb) (st:St) (a:Nat):cO (qj u 0 st) a=cO st a∧fF (qj u 0 st) a=fF st a:=by
 unfold cO fF;rw [rF]
 cases nth st a<;>cases ng u a<;>exact ⟨rfl,rfl⟩
theorem Jd (u:List Lb) (st:St) (a:Nat):j5 st a≤j5 (qj u 0 st) a∧(j5 (qj u 0 st) a=j5 st a→nth st a=none∨ng u a=false):=by
 unfold j5;rw [rF]
 cases nth st a<;>cases ng u a<;>simp
theorem Rel.abA {w0:World} {mu:Mu} {c:Cz} {st:St} {a:Act} {w:World} (h:Rel w0 mu c st a w) {μ:Mu} {c1:Cz} {w':World} (hb:CF w μ c1 w') {X:Lb→Prop} (hm:∀b,μ.m b→∃l,c.own b=some l∧X l) (hr:∀b,μ.rs b→∃l,c.rs b=some l∧X l) (hX:∀l,X l→l≠.out) {u:List Lb} (hu:∀a j,X (.sp a j)→ng u a=true) :
  kW X w0 mu (c.merge c1 w.heap.size μ.m μ.rs) (qj u 0 st) a w'∧Fw c st w (c.merge c1 w.heap.size μ.m μ.rs) (qj u 0 st) w'∧(∀b l,c.own b=some l→¬X l→w'.heap[b]?=w.heap[b]?∧(c.merge c1 w.heap.size μ.m μ.rs).own b=c.own b)∧(∀b l,l.Au=some l→c1.own b=some l→(c.merge c1 w.heap.size μ.m μ.rs).own b=some l)∧((∀b,μ.ok b→c.own b=none)→∀b,c1.ok b→(c.merge c1 w.heap.size μ.m μ.rs).ok b)∧(∀b l,l.Au=some l→c1.rs b=some l→(c.merge c1 w.heap.size μ.m μ.rs).rs b=some l):=by
 have jJ:w.heap.size≤w'.heap.size:=hb.kept.2.2.2;have pz:ij w w' c.ok (c.merge c1 w.heap.size μ.m μ.rs).ok:={
  size:=jJ
  block:=fun b bQ fk=>hb.old b bQ (fun zW=>by
   obtain ⟨l,hl,_⟩:=hm b zW;unfold Cz.ok at fk;rw [fk] at hl;cases hl)
  ok:=fun b bQ fk=>by
   unfold Cz.ok;rw [Cz.qT ⟨bQ,fun zW=>by
    obtain ⟨l,hl,_⟩:=hm b zW;unfold Cz.ok at fk;rw [fk] at hl;cases hl⟩]
   exact fk }
 have keep:∀b l,c.own b=some l→¬X l→w'.heap[b]?=w.heap[b]?∧(c.merge c1 w.heap.size μ.m μ.rs).own b=c.own b:=by
  intro b l hl hn;have bQ:=(h.owned b l hl).1;have zW:¬μ.m b:=fun zW=>by
   obtain ⟨l',uB,hx⟩:=hm b zW;rw [hl] at uB;cases uB;exact hn hx
  exact ⟨hb.old b bQ zW,Cz.qT ⟨bQ,zW⟩⟩
 have fH:Fw c st w (c.merge c1 w.heap.size μ.m μ.rs) (qj u 0 st) w':={
  stays:=pz
  refs:=fun a' j g A' _ hA=>by
   rw [N3] at hA;refine ⟨A',hA,rfl,rfl,rfl,fun he => ?_⟩;rcases (Jd u st a').2 he with e | e
   ·unfold aT at hA;rw [e] at hA
    cases hA
   ·have eQ:∀j,¬X (.sp a' j):=fun j hx=>by rw [hu a' j hx] at e;cases e
    obtain ⟨CE,gn,_,IJ⟩:=ba hA;have h0:=h.aN a' j CE A' gn IJ;refine ⟨rfl,fun b o cap gH => ?_⟩;unfold bF at h0;rw [gH] at h0;have h1:=h0.1
    cases ec:A'.own with
    |true=>
     rw [ec] at h1;exact (keep b _ h1 (eQ j)).1
    |false=>
     rw [ec] at h1;exact pz.block b (by obtain ⟨_,_,⟨cur,te,h3,_⟩,_⟩:=h0;exact (Array.getElem?_eq_some_iff.1 h3).1) h1
  Bw:=fun b g cs _ hc=>⟨⟨cs,by rwa [N4] at hc⟩,rfl⟩
  gA:=fun a'=>by rw [(Jc u st a').1];exact Nat.le_refl _
  gB:=fun a'=>by rw [(Jc u st a').2];exact Nat.le_refl _
  gE:=fun a'=>(Jd u st a').1 }
 refine ⟨⟨fun t=>by rw [N2];exact fH.j6 (h.dO t),fun s sl cs hn hs zV => ?_,fun s j sl A hn hs hA => ?_,fun b l hl => ?_,fun b bQ hl => ?_,?_,fun k hk hmu => ?_,h.plain,fun p hp=>fH.cR (h.cR p hp),fun b l hl => ?_⟩,fH,keep,fun b l hk hl => ?_,fun fk b h1 => ?_,fun b l hk hl => ?_⟩
 ·rw [rF] at hs;obtain ⟨CE,gn,rfl⟩:=Option.map_eq_some_iff.1 hs;have h0:=h.boxes s CE cs gn (by cases hq:ng u s<;>rw [hq] at zV<;>exact zV);obtain ⟨k1,k2⟩:=keep _ _ h0.1 hn;exact h0.go fH rfl k2 k1
 ·rw [rF] at hs;obtain ⟨CE,gn,rfl⟩:=Option.map_eq_some_iff.1 hs;have h0:=h.aN s j CE A gn (by cases hq:ng u s<;>rw [hq] at hA<;>exact hA);exact h0.go pz rfl (fun b g1=>keep b _ g1 hn) (fun b g1 g2 g3=>by
   have k1:¬μ.m b:=fun zW=>by
    obtain ⟨l,hl,_⟩:=hm b zW;rw [g1] at hl;cases hl
   have k2:¬μ.rs b:=fun VY=>by
    obtain ⟨l,hl,hx⟩:=hr b VY;rw [g3] at hl;cases hl;exact hn hx
   rw [Cz.Av ⟨g2,k1,k2⟩];exact g3)
 ·by_cases e:b<w.heap.size∧¬μ.m b
  ·rw [Cz.qT e] at hl;have:=h.owned b l hl;exact ⟨Nat.lt_of_lt_of_le this.1 jJ,this.2⟩
  ·rw [Cz.xK e] at hl;obtain ⟨k,hk,e2⟩:=Option.bind_eq_some_iff.1 hl;obtain ⟨g1,g2⟩:=hb.owned b k hk;refine ⟨g1,.inr ?_⟩;have ue:k≠.out:=by rintro rfl;simp [Lb.Au] at e2
   by_cases bQ:b<w.heap.size
   ·have zW:μ.m b:=Classical.not_not.1 (fun h=>e ⟨bQ,h⟩);obtain ⟨l',uB,hx⟩:=hm b zW;rcases (h.owned b l' uB).2 with q | q
    ·exact absurd q (hX l' hx)
    ·exact q
   ·have:=h.kept.2.2.2;exact .inl (by omega)
 ·by_cases e:b<w.heap.size∧¬μ.m b
  ·rw [Cz.qT e] at hl;exact h.free b bQ hl
  ·have Wf:b<w.heap.size:=Nat.lt_of_lt_of_le bQ h.kept.2.2.2;have zW:μ.m b:=Classical.not_not.1 (fun h=>e ⟨Wf,h⟩);obtain ⟨l',uB,hx⟩:=hm b zW;rcases (h.owned b l' uB).2 with q | q | q
   ·exact absurd q (hX l' hx)
   ·omega
   ·exact .inl q
 ·exact ⟨hb.kept.1.trans h.kept.1,hb.kept.2.1.trans h.kept.2.1,hb.kept.2.2.1.trans h.kept.2.2.1,Nat.le_trans h.kept.2.2.2 jJ⟩
 ·have Wf:k<w.heap.size:=Nat.lt_of_lt_of_le hk h.kept.2.2.2;rw [hb.old k Wf (fun zW => ?_)]
  ·exact h.old k hk hmu
  ·obtain ⟨l',uB,hx⟩:=hm k zW;rcases (h.owned k l' uB).2 with q | q | q
   ·exact hX l' hx q
   ·omega
   ·exact hmu q
 ·by_cases e:b<w.heap.size∧¬μ.m b∧¬μ.rs b
  ·rw [Cz.Av e] at hl;have:=h.lS b l hl;exact ⟨Nat.lt_of_lt_of_le this.1 jJ,this.2⟩
  ·rw [Cz.Aw e] at hl;obtain ⟨k,hk,_⟩:=Option.bind_eq_some_iff.1 hl;obtain ⟨g1,g2⟩:=hb.lS b k hk;refine ⟨g1,?_⟩;rcases g2 with q | q | q
   ·have:=h.kept.2.2.2;exact .inl (by omega)
   ·obtain ⟨l',uB,hx⟩:=hm b q;rcases (h.owned b l' uB).2 with q | q
    ·exact absurd q (hX l' hx)
    ·exact q.imp id .inl
   ·obtain ⟨l',uB,_⟩:=hr b q;exact (h.lS b l' uB).2
 ·rw [Cz.xK (fun e => ?_),hl]
  ·exact hk
  ·rcases (hb.owned b l hl).2 with q | q | q
   ·subst q;simp [Lb.Au] at hk
   ·omega
   ·exact e.2 q
 ·unfold Cz.ok at h1 ⊢
  by_cases e:b<w.heap.size∧¬μ.m b
  ·rw [Cz.qT e];rcases hb.free b e.1 h1 with q | q
   ·exact absurd q e.2
   ·exact fk b q
  ·rw [Cz.xK e,h1];rfl
 ·rw [Cz.Aw (fun e => ?_),hl]
  ·exact hk
  ·rcases (hb.lS b l hl).2 with q | q | q
   ·omega
   ·exact e.2.1 q
   ·exact e.2.2 q
theorem Cz.Je (c:Cz) (bx:Nat→Nat) (lc:Nat→Nat→Loc):(c.dP id bx lc).own=c.own:=by
 funext b
 unfold Cz.dP;simp
theorem yS {w0:World} {mu:Mu} {a:Act} {w:World}:(ks:List Lb)→{X:Lb→Prop}→{c:Cz}→{st:St}→kW X w0 mu c st a w→
  ∃c',kW (fun l=>X l∧∀s j,Lb.sp s j∈ks→l≠.sp s j) w0 mu c' (oI st ks) a w∧Fw c st w c' (oI st ks) w∧c'.own=c.own∧c'.rs=c.rs
 | [],X,c,st,h=>⟨c,h.mono (fun l hl=>⟨hl,by simp⟩),Fw.refl c st w,rfl,rfl⟩
 |k::ks,X,c,st,h=>by
  have skip:oI st (k::ks)=oI st ks→(∀s j,k≠.sp s j)→∃c',kW (fun l=>X l∧∀s j,Lb.sp s j∈k::ks→l≠.sp s j) w0 mu c' (oI st (k::ks)) a w∧Fw c st w c' (oI st (k::ks)) w∧c'.own=c.own∧c'.rs=c.rs:=by
   intro e hk;obtain ⟨c',h1,h2,h3⟩:=yS ks h;rw [e];refine ⟨c',h1.mono (fun l hl=>⟨hl.1,fun s j hm => ?_⟩),h2,h3⟩;rcases List.mem_cons.1 hm with e2 | hm
   ·exact absurd e2.symm (hk s j)
   ·exact hl.2 s j hm
  cases k with
  |sp s j=>
   obtain ⟨h1,h2⟩:=h.kill s j;obtain ⟨c',h3,h4,h5⟩:=yS ks h1;refine ⟨c',h3.mono (fun l hl=>⟨hl.1.1,fun s' j' hm => ?_⟩),h2.trans h4,h5.1.trans (Cz.Je _ _ _),h5.2.trans (by funext b;unfold Cz.dP;simp)⟩;rcases List.mem_cons.1 hm with e2 | hm
   ·cases e2;exact hl.1.2
   ·exact hl.2 s' j' hm
  |_=>exact skip rfl (by simp)
def BL (m:Pm):V→List Lb
 |.one (.ptr b _ _)=>[.box b]
 |.one (.ref a j _ _)=>match m with
  |.io=>[.sp a j]
  |_=>[]
 |.agg cs=>match m with
  |.bL=>cs.filterMap fun x=>match x with | .ref a j _ _=>some (.sp a j) | _=>none
  |_=>[]
 |_=>[]
def QA (st:St) (m:Pm×V) (av:AV):Prop:=∃u q r,eG st m.1 m.2=some (av,u,q,r)
theorem Jf {st:St} {own:Bool}:(cs:List CV)→{os:List OV}→{u:List (Option Lb)}→{r:List (Nat×Nat)}→eY st own cs=some (os,u,r)→∀(k:Nat) {a j g:Nat} ,cs[k]?=some (.ref a j g .full)→os[k]?=(aT st a j g).map fun A=>bif own&&A.own then .own A else .shr A.r A.xs
 | [],_,_,_,h=>by intro k a j g hk;simp at hk
 |x::cs,os,u,r,h=>by
  unfold eY at h
  cases hc:eS st own x with
  |none=>simp [hc] at h
  |some p=>
   obtain ⟨o,u1,r1⟩:=p
   cases hq:eY st own cs with
   |none=>simp [hc,hq] at h
   |some q=>
    obtain ⟨An,us,rs⟩:=q;simp only [hc,hq,Option.some.injEq,Prod.mk.injEq] at h;obtain ⟨rfl,rfl,_⟩:=h;intro k a j g hk
    cases k with
    |succ k=>simpa using Jf cs hq k (by simpa using hk)
    |zero=>
     simp only [List.getElem?_cons_zero,Option.some.injEq] at hk;subst hk;unfold eS at hc;simp only at hc
     cases hA:aT st a j g with
     |none=>simp [hA] at hc
     |some A=>
      simp only [hA] at hc
      cases hm:A.md.Ft with
      |true=>simp [hm] at hc
      |false=>
      simp only [hm,cond_false,View.isFull,Bool.or_true,Bool.and_true] at hc
      cases hb:(own&&A.own)<;>simp only [hb,cond_true,cond_false,Option.some.injEq,Prod.mk.injEq] at hc<;>obtain ⟨rfl,_⟩:=hc<;>simp [hb,View.app]
theorem Ea {w0 wb:World} {mu:Mu} {a:Act} {w:World} {c0:Cz} {wu:St} {i:Nat} {As:List (Option fT)}:(cs:List CV)→(j0:Nat)→(us:List Value)→{X:Lb→Prop}→{c:Cz}→{st aY:St}→kW X w0 mu c st a w→Fw c0 wu wb c st w→
  (∀(k:Nat) (x:CV) (v:Value),cs[k]?=some x→us[k]?=some v→iI c0 wu wb x v)→
  (∀(k s j g:Nat) (vw:View),cs[k]?=some (.ref s j g vw)→∃A B u,aT wu s j g=some A∧nth As (j0+k)=some (some B)∧us[k]?=some u∧B.r.width=A.r.width∧B.xs.length=A.xs.length∧OwnAt c w (.bK i (j0+k)) (c0.lc s j) B u)→
  DI st j0 cs As=some aY→
  ∃c',kW (fun l=>X l∧∀s j g vw,CV.ref s j g vw∈cs→l≠.sp s j) w0 mu c' aY a w∧Fw c0 wu wb c' aY w∧Pass c c' (fun l=>∀y,l≠.bK i y)
 | [],j0,us,X,c,st,aY,h,fH,_,_,hv=>by
  simp only [DI,Option.some.injEq] at hv;subst hv;exact ⟨c,h.mono (fun l hl=>⟨hl,by simp⟩),fH,⟨fun _ _ _ h=>h,fun _ h=>h,fun _ _ _ h=>h⟩⟩
 |x::cs,j0,us,X,c,st,aY,h,fH,hr,hB,hv=>by
  have skip:(∀s j g vw,x≠.ref s j g vw)→DI st (j0+1) cs As=some aY→∃c',kW (fun l=>X l∧∀s j g vw,CV.ref s j g vw∈x::cs→l≠.sp s j) w0 mu c' aY a w∧Fw c0 wu wb c' aY w∧Pass c c' (fun l=>∀y,l≠.bK i y):=by
   intro hx hv;obtain ⟨c',g1,g2,g3⟩:=Ea (i:=i) cs (j0+1) us.tail h fH (fun k y v hk hv=>hr (k+1) y v (by simpa using hk) (by simpa using hv)) (fun k s j g vw hk=>by
    obtain ⟨A,B,u,q1,q2,q3,q4,q5,q6⟩:=hB (k+1) s j g vw (by simpa using hk);refine ⟨A,B,u,q1,by rw [show j0+1+k=j0+(k+1) by omega];exact q2,by simpa using q3,q4,q5,by rw [show j0+1+k=j0+(k+1) by omega];exact q6⟩) hv
   refine ⟨c',g1.mono (fun l hl=>⟨hl.1,fun s j g vw hm => ?_⟩),g2,g3⟩;rcases List.mem_cons.1 hm with e | hm
   ·exact absurd e.symm (hx s j g vw)
   ·exact hl.2 s j g vw hm
  cases x with
  |ref s j g vw=>
   unfold DI at hv
   split at hv
   ·rename_i B A1 VZ Wa;obtain ⟨A,B',u,q1,q2,q3,q4,q5,q6⟩:=hB 0 s j g vw rfl;rw [Nat.add_zero] at q2 q6;rw [VZ] at q2;simp only [Option.some.injEq] at q2;subst q2;have hr0:=hr 0 _ u rfl q3;obtain ⟨A0',p1,p2,p3,p4,_⟩:=fH.refs s j g A1 hr0.2.1 Wa;rw [q1] at p1;cases p1;have hO':OwnAt c w (.bK i j0) (c.lc s j) B u:=by rw [p4];exact q6
    obtain ⟨g1,g2⟩:=h.io Wa (q4.trans p2.symm) (q5.trans p3.symm) hO';have hpq:∀l,l≠.bK i j0→pG i j0 s j l=l:=by
     intro l hl
     cases l with
     |bK x y=>simp only [pG];rw [if_neg];rintro ⟨rfl,rfl⟩;exact hl rfl
     |_=>rfl
    have CI:Pass c (c.dP (pG i j0 s j) c.bx c.lc) (fun l=>l≠.bK i j0):=⟨fun b l hl hb=>by
     show (c.own b).map _=_;rw [hb];simp [hpq l hl],fun b hb=>Cz.jU.2 hb,fun b l hl hb=>by
     show (c.rs b).map _=_;rw [hb];simp [hpq l hl]⟩
    obtain ⟨c',k1,k2,k3⟩:=Ea (i:=i) cs (j0+1) us.tail g1 (fH.trans g2) (fun k y v hk hv=>hr (k+1) y v (by simpa using hk) (by simpa using hv)) (fun k s' j' g' vw' hk=>by
     obtain ⟨A,B,u,q1,q2,q3,q4,q5,q6⟩:=hB (k+1) s' j' g' vw' (by simpa using hk);refine ⟨A,B,u,q1,by rw [show j0+1+k=j0+(k+1) by omega];exact q2,by simpa using q3,q4,q5,?_⟩;rw [show j0+1+k=j0+(k+1) by omega];exact q6.pass (fun b=>CI.keeps (by simp) b) (.inl fun b hb=>Cz.jU.2 hb)) hv
    refine ⟨c',k1.mono (fun l hl=>⟨hl.1.1,fun s' j' g' vw' hm => ?_⟩),k2,⟨fun b l hl hb=>k3.bK b l hl (CI.bK b l (hl j0) hb),fun b hb=>k3.ok b (Cz.jU.2 hb),fun b l hl hb=>k3.rz b l hl (CI.rz b l (hl j0) hb)⟩⟩;rcases List.mem_cons.1 hm with e | hm
    ·cases e;exact hl.1.2
    ·exact hl.2 s' j' g' vw' hm
   ·cases hv
  |_=>exact skip (by simp) hv
theorem tJ {l:Lb} (i:Nat) (h:(∃j,l=.eF j)∨l.real=true):∀y,l≠.bK i y:=by
 rcases h with ⟨j,rfl⟩ | h
 ·simp
 ·rintro y rfl;simp [Lb.real] at h
theorem Gk {l:Lb} (i:Nat) (h:(∃j,l=.eF j)∨l.real=true):(∀y,l≠.bK i y)∧l≠.su i:=by
 refine ⟨tJ i h,?_⟩;rcases h with ⟨j,rfl⟩ | h
 ·simp
 ·rintro rfl;simp [Lb.real] at h
theorem Eb {w0 wb:World} {mu:Mu} {a:Act} {w:World} {c0:Cz} {wu:St} {lc:Nat→Nat→Loc}:(ms:List (Pm×V))→(i:Nat)→(da:List AV)→(xs:List Value)→(es:List XV)→{X:Lb→Prop}→{c:Cz}→{st aY:St}→kW X w0 mu c st a w→Fw c0 wu wb c st w→
  (∀(k:Nat) (m:Pm×V) (x:Value),ms[k]?=some m→xs[k]?=some x→eD c0 wu wb m.2 x)→(∀(k:Nat) (m:Pm×V) (av:AV),ms[k]?=some m→da[k]?=some av→QA wu m av)→ms.length=da.length→ms.length=xs.length→(∀(k:Nat) (m:Pm×V),ms[k]?=some m→lc (i+k)=CG c0 m.2)→
  gI c w lc i da xs es→um st ms es=some aY→
  ∃c',kW (fun l=>X l∧∀m∈ms,l∉BL m.1 m.2) w0 mu c' aY a w∧Fw c0 wu wb c' aY w∧Pass c c' (fun l=>(∃j,l=.eF j)∨l.real=true)
 | [],i,da,xs,es,X,c,st,aY,h,fH,_,_,_,_,_,hx,hv=>by
  cases es with
  |nil=>
   simp only [um,Option.some.injEq] at hv;subst hv;exact ⟨c,h.mono (fun l hl=>⟨hl,by simp⟩),fH,⟨fun _ _ _ h=>h,fun _ h=>h,fun _ _ _ h=>h⟩⟩
  |cons _ _=>simp [um] at hv
 |(m,v)::ms,i,[],xs,es,X,c,st,aY,h,fH,hr,he,hn,hn2,gH,hx,hv=>by simp at hn
 |(m,v)::ms,i,av::da,[],es,X,c,st,aY,h,fH,hr,he,hn,hn2,gH,hx,hv=>by simp at hn2
 |(m,v)::ms,i,av::da,x::xs,es,X,c,st,aY,h,fH,hr,he,hn,hn2,gH,hx,hv=>by
  have hr0:=hr 0 (m,v) x rfl rfl;obtain ⟨u,q,r,qn⟩:=he 0 (m,v) av rfl rfl;have Qf:=gH 0 (m,v) rfl;simp only [Nat.add_zero] at Qf;have VY:∀(k:Nat) (m:Pm×V) (x:Value),ms[k]?=some m→xs[k]?=some x→eD c0 wu wb m.2 x:=fun k m' x' h1 h2=>hr (k+1) m' x' (by simpa using h1) (by simpa using h2)
  have SZ:∀(k:Nat) (m:Pm×V) (av:AV),ms[k]?=some m→da[k]?=some av→QA wu m av:=fun k m' x' h1 h2=>he (k+1) m' x' (by simpa using h1) (by simpa using h2)
  have NL:∀(k:Nat) (m:Pm×V),ms[k]?=some m→lc (i+1+k)=CG c0 m.2:=fun k m' h1=>by
   have:=gH (k+1) m' (by simpa using h1)
   rwa [show i+(k+1)=i+1+k by omega] at this
  have NI:ms.length=da.length:=by simpa using hn
  have ag5:ms.length=xs.length:=by simpa using hn2
  unfold um at hv
  cases hb:qi st m v es with
  |none=>simp [hb] at hv
  |some p=>
   obtain ⟨vQ,es1⟩:=p;simp only [hb] at hv;have go:∀ {X1:Lb→Prop} {c1:Cz},kW X1 w0 mu c1 vQ a w→Fw c0 wu wb c1 vQ w→(∀l,X1 l→X l∧l∉BL m v)→gI c1 w lc (i+1) da xs es1→Pass c c1 (fun l=>(∃j,l=.eF j)∨l.real=true)→
     ∃c',kW (fun l=>X l∧∀m'∈(m,v)::ms,l∉BL m'.1 m'.2) w0 mu c' aY a w∧Fw c0 wu wb c' aY w∧Pass c c' (fun l=>(∃j,l=.eF j)∨l.real=true):=by
    intro X1 c1 g1 g2 g3 g4 g5;obtain ⟨c',k1,k2,k3⟩:=Eb ms (i+1) da xs es1 g1 g2 VY SZ NI ag5 NL g4 hv;refine ⟨c',k1.mono (fun l hl=>⟨(g3 l hl.1).1,fun m' zW => ?_⟩),k2,⟨fun b l hl hb=>k3.bK b l hl (g5.bK b l hl hb),fun b hb=>k3.ok b (g5.ok b hb),fun b l hl hb=>k3.rz b l hl (g5.rz b l hl hb)⟩⟩;rcases List.mem_cons.1 zW with rfl | zW
    ·exact (g3 l hl.1).2
    ·exact hl.2 m' zW
   have js:BL m v=[]→vQ=st→es1=es→(∃ag os,av=.val ag os)→∃c',kW (fun l=>X l∧∀m'∈(m,v)::ms,l∉BL m'.1 m'.2) w0 mu c' aY a w∧Fw c0 wu wb c' aY w∧Pass c c' (fun l=>(∃j,l=.eF j)∨l.real=true):=by
    rintro e1 rfl rfl ⟨ag,os,rfl⟩
    exact go h fH (fun l hl=>⟨hl,by rw [e1];simp⟩) hx ⟨fun _ _ _ h=>h,fun _ h=>h,fun _ _ _ h=>h⟩
   cases v with
   |m9 us=>simp [eG] at qn
   |agg cs=>
    have pH:∀u q r,(match eY wu m.nf cs with | some (os,u,r)=>some (AV.val true os,bR u,bR u,r) | none=>none)=some (av,u,q,r)→∃ag os,av=.val ag os:=by
     intro u q r qn
     cases hq:eY wu m.nf cs with
     |none=>simp [hq] at qn
     |some p=>
      obtain ⟨os,us,rs⟩:=p;simp only [hq,Option.some.injEq,Prod.mk.injEq] at qn;exact ⟨_,_,qn.1.symm⟩
    unfold eG at qn
    cases m with
    |shr=>
     simp only [qi,Option.some.injEq,Prod.mk.injEq] at hb;exact js rfl hb.1.symm hb.2.symm (pH _ _ _ qn)
    |own=>
     simp only [qi,Option.some.injEq,Prod.mk.injEq] at hb;exact js rfl hb.1.symm hb.2.symm (pH _ _ _ qn)
    |pick _=>
     simp only [qi,Option.some.injEq,Prod.mk.injEq] at hb;exact js rfl hb.1.symm hb.2.symm (pH _ _ _ qn)
    |soft _=>
     simp only [qi,Option.some.injEq,Prod.mk.injEq] at hb;exact js rfl hb.1.symm hb.2.symm (pH _ _ _ qn)
    |io=>
     simp only [qi,Option.some.injEq,Prod.mk.injEq] at hb;exact js rfl hb.1.symm hb.2.symm (pH _ _ _ qn)
    |bL=>
     simp only at qn
     cases hq:eY wu true cs with
     |none=>simp [hq] at qn
     |some p=>
      obtain ⟨os,us,rs⟩:=p;simp only [hq] at qn;obtain ⟨pF,x7⟩:=aI qn;simp only [Option.some.injEq,Prod.mk.injEq] at x7;obtain ⟨rfl,_⟩:=x7;obtain ⟨As,l,rfl,⟨us',rfl,hX⟩,fC⟩:=hx;unfold qi at hb;obtain ⟨fB,Jg,e2⟩:=Option.map_eq_some_iff.1 hb;injection e2 with e2 e3;subst e2 e3;obtain ⟨vs0,e0,hl0⟩:=hr0;injection e0 with e0;subst e0;obtain ⟨c1,g1,g2,g3⟩:=Ea (i:=i) (As:=As) cs 0 us'.toList h fH (fun k x v hk hv=>hl0.2 k x v hk (by simpa using hv)) (fun k s j g vw hk=>by
       have x6:=List.mem_of_getElem? hk;have BG:=List.all_eq_true.1 pF _ x6;unfold P1 at BG;rw [Bool.and_eq_true] at BG
       cases hA:aT wu s j g with
       |none=>rw [hA] at BG;cases BG.2
       |some A=>
        have Qz:vw=.full:=by
         cases vw with
         |full=>rfl
         |«from» _=>cases BG.1
         |sub _ _=>cases BG.1
        subst Qz;rw [hA] at BG;have ho:os[k]?=some (.own A):=by
         have:=Jf cs hq k hk;rw [hA] at this;have Iy:A.own=true:=BG.2;simpa [Iy] using this
        obtain ⟨B,u,k1,k2,k3,k4,k5⟩:=hX k A ho;refine ⟨A,B,u,rfl,by rw [Nat.zero_add];exact k1,k2,k3,k4,?_⟩;have:lc i k=c0.lc s j:=by
         rw [Qf];show KY c0 cs[k]?=_;rw [hk];rfl
        rw [←this,Nat.zero_add];exact k5) Jg
      refine go g1 g2 (fun l hl=>⟨hl.1,fun hm => ?_⟩) ?_ ⟨fun b l hl=>g3.bK b l (tJ i hl),g3.ok,fun b l hl=>g3.rz b l (tJ i hl)⟩
      ·obtain ⟨x,KS,Aj⟩:=List.mem_filterMap.1 hm
       cases x with
       |ref s j g vw=>simp only [Option.some.injEq] at Aj;exact hl.2 s j g vw KS Aj.symm
       |_=>cases Aj
      ·exact gI.pass da (i+1) (fun b k hk hb=>g3.bK b _ (by simp) hb) (fun b k j hk=>g3.keeps (by intro y;simp;omega) b) xs _ (.inl g3.ok) fC
   |one cx=>
    cases cx with
    |ptr b g off=>
     unfold qi at hb
     cases es with
     |nil=>simp at hb
     |cons e es2=>cases e with
      |io _=>simp at hb
      |bL _=>simp at hb
      |box os=>
       simp only at hb
       split at hb
       ·rename_i s0 Hk gn Tg;simp only [Option.some.injEq,Prod.mk.injEq] at hb;obtain ⟨rfl,rfl⟩:=hb;have Jh:∃os0,av=.box os0:=by
         unfold eG at qn;simp only at qn
         cases hq:cW wu b g with
         |none=>simp [hq] at qn
         |some cs=>
          simp only [hq] at qn
          cases Iw:eY wu true cs with
          |none=>simp [Iw] at qn
          |some p=>
           obtain ⟨An,us,rs⟩:=p;simp only [Iw] at qn;obtain ⟨_,x7⟩:=aI qn;simp only [Option.some.injEq,Prod.mk.injEq] at x7;exact ⟨_,x7.1.symm⟩
        obtain ⟨os0,rfl⟩:=Jh;obtain ⟨os1,l,e1,hB,fC⟩:=hx
        cases e1
        have hp:=(fH.j6 (v:=x) hr0);have e2:=hp.2.2 Hk Tg;have e3:x=.pointer (some ⟨c.bx b,0,none⟩):=by
         obtain ⟨mK,vs,ty,q1,_⟩:=hB;rw [e2] at q1 ⊢;injection q1 with q1;injection q1 with q1;injection q1 with q1 q2;rw [q2]
        obtain ⟨c1,g1,g2,g3⟩:=h.boxed gn Tg e3 hB;refine go g1 (fH.trans g2) (fun l hl=>⟨hl.1,by simp [BL];exact hl.2⟩) ?_ ⟨fun b l hl=>g3.bK b l (Gk i hl),g3.ok,fun b l hl=>g3.rz b l (Gk i hl)⟩;exact gI.pass da (i+1) (fun b k hk hb=>g3.bK b _ (by constructor<;>simp;omega) hb) (fun b k j hk=>g3.keeps (by constructor<;>simp;omega) b) xs es2 (.inl g3.ok) fC
       ·cases hb
    |ref s j g vw=>
     have pH:m≠.io→∃ag os,av=.val ag os:=by
      intro hm;unfold eG at qn
      cases m with
      |io=>exact absurd rfl hm
      |shr=>
       cases hq:eY wu Pm.shr.nf [.ref s j g vw] with
       |none=>simp [hq] at qn
       |some p=>obtain ⟨os,us,rs⟩:=p;simp only [hq,Option.some.injEq,Prod.mk.injEq] at qn;exact ⟨_,_,qn.1.symm⟩
      |bL=>
       cases hq:eY wu Pm.bL.nf [.ref s j g vw] with
       |none=>simp [hq] at qn
       |some p=>obtain ⟨os,us,rs⟩:=p;simp only [hq,Option.some.injEq,Prod.mk.injEq] at qn;exact ⟨_,_,qn.1.symm⟩
      |own=>
       cases hq:eY wu Pm.own.nf [.ref s j g vw] with
       |none=>simp [hq] at qn
       |some p=>obtain ⟨os,us,rs⟩:=p;simp only [hq,Option.some.injEq,Prod.mk.injEq] at qn;exact ⟨_,_,qn.1.symm⟩
      |pick pl=>
       cases hq:eY wu (Pm.pick pl).nf [.ref s j g vw] with
       |none=>simp [hq] at qn
       |some p=>obtain ⟨os,us,rs⟩:=p;simp only [hq,Option.some.injEq,Prod.mk.injEq] at qn;exact ⟨_,_,qn.1.symm⟩
      |soft pl=>
       cases hq:eY wu (Pm.soft pl).nf [.ref s j g vw] with
       |none=>simp [hq] at qn
       |some p=>obtain ⟨os,us,rs⟩:=p;simp only [hq,Option.some.injEq,Prod.mk.injEq] at qn;exact ⟨_,_,qn.1.symm⟩
     cases m with
     |shr=>
      simp only [qi,Option.some.injEq,Prod.mk.injEq] at hb;exact js rfl hb.1.symm hb.2.symm (pH (by simp))
     |bL=>
      simp only [qi,Option.some.injEq,Prod.mk.injEq] at hb;exact js rfl hb.1.symm hb.2.symm (pH (by simp))
     |own=>
      simp only [qi,Option.some.injEq,Prod.mk.injEq] at hb;exact js rfl hb.1.symm hb.2.symm (pH (by simp))
     |pick _=>
      simp only [qi,Option.some.injEq,Prod.mk.injEq] at hb;exact js rfl hb.1.symm hb.2.symm (pH (by simp))
     |soft _=>
      simp only [qi,Option.some.injEq,Prod.mk.injEq] at hb;exact js rfl hb.1.symm hb.2.symm (pH (by simp))
     |io=>
      unfold qi at hb;simp only at hb
      split at hb
      ·rename_i B es2 A2 Iy;simp only [Option.some.injEq,Prod.mk.injEq] at hb;obtain ⟨rfl,rfl⟩:=hb;have Jh:∃A0,av=.io A0∧aT wu s j g=some A0:=by
        unfold eG at qn
        cases vw with
        |full=>
         cases hA:aT wu s j g with
         |none=>simp [hA] at qn
         |some A=>
          simp only [hA] at qn;obtain ⟨_,x7⟩:=aI qn;simp only [Option.some.injEq,Prod.mk.injEq] at x7;exact ⟨A,x7.1.symm,rfl⟩
        |«from» _=>simp at qn
        |sub _ _=>simp at qn
       obtain ⟨A0,rfl,F6⟩:=Jh;obtain ⟨B',l,e1,hw,hlen,hO,fC⟩:=hx
       cases e1
       obtain ⟨A0',q1,q2,q3,q4,_⟩:=fH.refs s j g A2 hr0.2.1 Iy;rw [F6] at q1;cases q1;have hO':OwnAt c w (.bK i 0) (c.lc s j) B x:=by
        rw [q4];have:lc i 0=c0.lc s j:=by rw [Qf];rfl
        rw [←this];exact hO
       obtain ⟨g1,g2⟩:=h.io Iy (hw.trans q2.symm) (hlen.trans q3.symm) hO';have hpq:∀l,(∀y,l≠.bK i y)→pG i 0 s j l=l:=by
        intro l hl
        cases l with
        |bK x y=>simp only [pG];rw [if_neg];rintro ⟨rfl,_⟩;exact hl y rfl
        |_=>rfl
       have CI:Pass c (c.dP (pG i 0 s j) c.bx c.lc) (fun l=>∀y,l≠.bK i y):=⟨fun b l hl hb=>by
        show (c.own b).map _=_;rw [hb];simp [hpq l hl],fun b hb=>Cz.jU.2 hb,fun b l hl hb=>by
        show (c.rs b).map _=_;rw [hb];simp [hpq l hl]⟩
       refine go g1 (fH.trans g2) (fun l hl=>⟨hl.1,by simp [BL];exact hl.2⟩) ?_ ⟨fun b l hl=>CI.bK b l (tJ i hl),fun b hb=>Cz.jU.2 hb,fun b l hl=>CI.rz b l (tJ i hl)⟩;exact gI.pass da (i+1) (fun b k hk hb=>CI.bK b _ (by simp) hb) (fun b k j hk=>CI.keeps (by intro y;simp;omega) b) xs es2 (.inl fun b hb=>Cz.jU.2 hb) fC
      ·cases hb
    |_=>
     simp only [qi,Option.some.injEq,Prod.mk.injEq] at hb;refine js rfl hb.1.symm hb.2.symm ?_;unfold eG at qn;simp only at qn
     split at qn
     ·simp only [Option.some.injEq,Prod.mk.injEq] at qn;exact ⟨_,_,qn.1.symm⟩
     ·cases qn
end Go.TM
namespace Go.TM
open Go Go.RowKit
def Ax (d:Nat):Lb→Lb
 |.eF j=>.sp d j
 |l=>l
theorem yu (d:Nat):CH (Ax d):=⟨fun l h=>by cases l<;>simp [Ax,Lb.real] at h ⊢⟩
theorem vT:(os ps:List OV)→bl (os++ps)=bl os++bl ps
 | [],ps=>rfl
 |o::os,ps=>by simp [bl,vT os ps]
theorem mm:(os:List OV)→(bl os).length=os.length
 | []=>rfl
 |o::os=>by simp [bl,mm os]
theorem QB (d g j:Nat) (o:OV):∃x,bc d g j [o]=[x]:=by
 cases o<;>exact ⟨_,rfl⟩
theorem ik.vals {c:Cz} {w:World}:(rs:List RV)→(j:Nat)→(vs:List Value)→ik c w j rs vs→
  ∃lcs:Nat→Loc,(∀k A,nth (bl (rs.flatMap RV.tv)) k=some (some A)→∃v,OwnAt c w (.eF (j+k)) (lcs (j+k)) A v)∧rs.length=vs.length∧(∀d g,(kL d g j rs).length=rs.length)∧
   ∀(c2:Cz) (fB:St) (d g:Nat),(∀b,c.ok b→c2.ok b)→(∀k,k<(rs.flatMap RV.tv).length→c2.lc d (j+k)=lcs (j+k))→(∀k A,k<(rs.flatMap RV.tv).length→aT fB d (j+k) g=some A→nth (bl (rs.flatMap RV.tv)) k=some (some A))→g≤cO fB d→
    ∀(k:Nat) (x:V) (v:Value),(kL d g j rs)[k]?=some x→vs[k]?=some v→z7 c2 fB w x v
 | [],j,vs,h=>by
  subst h;exact ⟨fun _=>.nil,fun k A hA=>by simp [bl] at hA,rfl,fun _ _=>rfl,fun _ _ _ _ _ _ _ _ k x v hx=>by simp [kL] at hx⟩
 |r::rs,j,vs,h=>by
  obtain ⟨v,l,us,rfl,hL,hR,hV⟩:∃(v:Value) (l us:List Value),vs=v::l∧a7 c w .eF j r.tv us∧ik c w (j+r.tv.length) rs l∧
    (∀(c2:Cz) (fB:St) (d g:Nat),fo c2 fB w (bc d g j r.tv) us→z7 c2 fB w (PU d g j r) v):=by
   cases r with
   |one o=>
    obtain ⟨v,l,h1,h2,h3⟩:=h;refine ⟨v,l,[v],h1,h2,h3,fun c2 fB d g hl => ?_⟩;unfold PU;obtain ⟨x,hx⟩:=QB d g j o;show z7 c2 fB w (match bc d g j [o] with | [c]=>.one c | _=>.one .bad) v;have hl:fo c2 fB w (bc d g j [o]) [v]:=hl;rw [hx] at hl ⊢;exact hl.2 0 x v rfl rfl
   |agg os=>
    obtain ⟨us,l,h1,h2,h3⟩:=h;exact ⟨.agg us,l,us.toList,h1,h2,h3,fun c2 fB d g hl=>⟨us,rfl,hl⟩⟩
   |ptr os=>
    obtain ⟨v,l,h1,⟨mK,us,ty,_,_,_,g4⟩,h3⟩:=h;exact ⟨v,l,.slice none 0 0::us.toList,h1,⟨_,rfl,g4⟩,h3,fun _ _ _ _ _=>trivial⟩
  obtain ⟨l1,a1,a2⟩:=a7.cells r.tv j us hL;obtain ⟨l2,b1,b2,b3,b4⟩:=ik.vals rs (j+r.tv.length) l hR;have UU:bl ((r::rs).flatMap RV.tv)=bl r.tv++bl (rs.flatMap RV.tv):=by
   rw [List.flatMap_cons,vT]
  refine ⟨fun k=>if k<j+r.tv.length then l1 k else l2 k,fun k A hA => ?_,by simp [b2],fun d g=>by simp [kL,b3],fun c2 fB d g fk gH BI hg k x v' hx nW => ?_⟩
  ·rw [UU,mB,mm] at hA
   by_cases e:k<r.tv.length
   ·rw [if_pos e] at hA;have:=a1 k A hA;show ∃v,OwnAt c w _ (if j+k<_ then _ else _) A v;rw [if_pos (by omega)];exact this
   ·rw [if_neg e] at hA;have:=b1 _ A hA;rw [show j+r.tv.length+(k-r.tv.length)=j+k by omega] at this;show ∃v,OwnAt c w _ (if j+k<_ then _ else _) A v;rw [if_neg (by omega)];exact this
  ·rw [UU] at BI;rw [List.flatMap_cons,List.length_append] at gH BI
   cases k with
   |zero=>
    simp only [kL,List.getElem?_cons_zero,Option.some.injEq] at hx nW;subst hx nW;refine hV c2 fB d g (a2 c2 fB d g fk (fun k hk => ?_) (fun k A hk hA => ?_) hg)
    ·have:c2.lc d (j+k)=if j+k<j+r.tv.length then l1 (j+k) else l2 (j+k):=gH k (by omega)
     rwa [if_pos (by omega)] at this
    ·have:=BI k A (by omega) hA
     rwa [mB,mm,if_pos hk] at this
   |succ k=>
    refine b4 c2 fB d g fk (fun k hk => ?_) (fun k A hk hA => ?_) hg k x v' (by simpa [kL] using hx) (by simpa using nW)
    ·have:c2.lc d (j+(r.tv.length+k))=if j+(r.tv.length+k)<j+r.tv.length then l1 (j+(r.tv.length+k)) else l2 (j+(r.tv.length+k)):=gH (r.tv.length+k) (by omega)
     rw [if_neg (by omega)] at this;rw [Nat.add_assoc];exact this
    ·rw [Nat.add_assoc] at hA;have:=BI (r.tv.length+k) A (by omega) hA
     rwa [mB,mm,if_neg (by omega),Nat.add_sub_cancel_left] at this
def uG (d:Nat):Lb→Lb
 |.eF 0=>.box d
 |.eF (j+1)=>.sp d (j+1)
 |l=>l
theorem yv (d:Nat):CH (uG d):=⟨fun l h=>by
 cases l with
 |eF j=>cases j<;>simp [uG,Lb.real] at h ⊢
 |_=>simp [uG,Lb.real] at h ⊢⟩
theorem kW.Th {X:Lb→Prop} {w0:World} {mu:Mu} {c:Cz} {st:St} {a:Act} {w:World} (h:kW X w0 mu c st a w) {d:Nat} {s0:Sl} {os:List OV} {v:Value} (gn:nth st d=some s0)
  (hv:∃mK us ty,v=.pointer (some ⟨mK,0,none⟩)∧c.own mK=some (.eF 0)∧w.heap[mK]?=some (.cells us ty (0,0))∧a7 c w .eF 1 os us.toList) (hd:d<a.tmps.size) :
  ∃c',kW X w0 mu c' (lZ (fun s=>{ s with v:=.one (.ptr d (s.bg+1) 0),box:=some (bc d (s.ag+1) 1 os),bg:=s.bg+1,aN:=none::bl os,ag:=s.ag+1 }) st d) (a.put (some d) v) w∧
   Fw c st w c' (lZ (fun s=>{ s with v:=.one (.ptr d (s.bg+1) 0),box:=some (bc d (s.ag+1) 1 os),bg:=s.bg+1,aN:=none::bl os,ag:=s.ag+1 }) st d) w∧∀b l,l.real=true→c.own b=some l→c'.own b=some l:=by
 obtain ⟨mK,us,ty,rfl,ec,QC,hL⟩:=hv;obtain ⟨lcs,g1,g2⟩:=a7.cells os 1 _ hL
 let c':=c.dP (uG d) (fun s=>if s=d then mK else c.bx s) (fun s j=>if s=d then lcs j else c.lc s j)
 let aY:=lZ (fun s=>{ s with v:=.one (.ptr d (s.bg+1) 0),box:=some (bc d (s.ag+1) 1 os),bg:=s.bg+1,aN:=none::bl os,ag:=s.ag+1 }) st d
 have hn:∀s,nth aY s=if s=d then some { s0 with v:=.one (.ptr d (s0.bg+1) 0),box:=some (bc d (s0.ag+1) 1 os),bg:=s0.bg+1,aN:=none::bl os,ag:=s0.ag+1 } else nth st s:=by
  intro s;show nth (lZ _ st d) s=_;rw [dj]
  by_cases e:s=d
  ·subst e;rw [if_pos rfl,if_pos rfl,gn];rfl
  ·rw [if_neg e,if_neg e]
 have BK:cO aY d=s0.ag+1:=by unfold cO;rw [hn];simp
 have Ja:cO st d=s0.ag:=by unfold cO;rw [gn]
 have UW:fF aY d=s0.bg+1:=by unfold fF;rw [hn];simp
 have Wg:fF st d=s0.bg:=by unfold fF;rw [gn]
 have ht:=yv d;have fH:Fw c st w c' aY w:={
  stays:=oc c w _ _ _
  refs:=fun a' j' g' A' hg ek=>by
   obtain ⟨sl,k1,k2,k3⟩:=ba ek;rw [hn] at k1
   by_cases e:a'=d
   ·rw [if_pos e] at k1
    cases k1
    subst e;simp only at k2;omega
   ·rw [if_neg e] at k1;exact ⟨A',oM k1 k2 k3,rfl,rfl,by show (if a'=d then _ else _)=_;rw [if_neg e],fun _=>⟨rfl,fun _ _ _ _=>rfl⟩⟩
  Bw:=fun b' g' lQ hg KN=>by
   obtain ⟨sl,k1,k2,k3⟩:=ir KN;rw [hn] at k1
   by_cases e:b'=d
   ·rw [if_pos e] at k1
    cases k1
    subst e;simp only at k2;omega
   ·rw [if_neg e] at k1;exact ⟨⟨lQ,by unfold cW;rw [k1];simp [k2,k3]⟩,by show (if b'=d then _ else _)=_;rw [if_neg e]⟩
  gA:=fun a'=>by
   by_cases e:a'=d
   ·subst e;rw [BK,Ja];omega
   ·unfold cO;rw [hn,if_neg e];exact Nat.le_refl _
  gB:=fun a'=>by
   by_cases e:a'=d
   ·subst e;rw [UW,Wg];omega
   ·unfold fF;rw [hn,if_neg e];exact Nat.le_refl _
  gE:=fun a'=>by
   by_cases e:a'=d
   ·subst e;unfold j5;rw [hn,if_pos rfl,gn];exact Nat.le_refl _
   ·unfold j5;rw [hn,if_neg e];exact Nat.le_refl _ }
 have Jb:∀k A,aT aY d (1+k) (s0.ag+1)=some A→nth (bl os) k=some (some A):=by
  intro k A hA;obtain ⟨sl,k1,k2,k3⟩:=ba hA;rw [hn,if_pos rfl] at k1
  cases k1
  rw [show 1+k=k+1 by omega] at k3;exact k3
 have tK:∀t,eD c' aY w (bI aY t) ((a.put (some d) (.pointer (some ⟨mK,0,none⟩))).eval (.tmp t)):=by
  intro t;rw [eval_put]
  by_cases e:t=d
  ·subst e;rw [if_pos ⟨rfl,hd⟩];have:bI aY t=.one (.ptr t (s0.bg+1) 0):=by unfold bI;rw [hn,if_pos rfl]
   rw [this];refine ⟨rfl,by rw [UW];exact Nat.le_refl _,fun cs _ => ?_⟩;show _=Value.pointer (some ⟨(if t=t then mK else c.bx t),0,none⟩);rw [if_pos rfl]
  ·rw [if_neg (by rintro ⟨e2,_⟩;exact e (Option.some.inj e2).symm)];have:bI aY t=bI st t:=by unfold bI;rw [hn,if_neg e]
   rw [this];exact fH.j6 (h.dO t)
 refine ⟨c',⟨tK,fun s sl cs hX hs hb => ?_,fun s j sl A hX hs hA => ?_,fun b l hb => ?_,fun b hb h1=>h.free b hb (by unfold Cz.ok at *;simpa [c',Cz.dP] using h1),h.kept,h.old,by simpa [Act.put] using h.plain,fun p hp=>fH.cR (h.cR p hp),fun b l hb=>by
   simp only [c',Cz.dP,Option.map_eq_some_iff] at hb;obtain ⟨k,hk,_⟩:=hb;exact h.lS b k hk⟩,fH,fun b l hl hb => ?_⟩
 case refine_4=>
  show (c.own b).map (uG d)=_;rw [hb];simp [(yv d).other l (.inr hl)]
 ·rw [hn] at hs
  by_cases e:s=d
  ·subst e;rw [if_pos rfl] at hs
   cases hs
   simp only [Option.some.injEq] at hb;subst hb;refine ⟨?_,us,ty,by show w.heap[if s=s then mK else c.bx s]?=_;rw [if_pos rfl];exact QC,?_⟩
   ·show (c.own (if s=s then mK else c.bx s)).map (uG s)=some (.box s);rw [if_pos rfl,ec];rfl
   ·exact g2 c' aY s (s0.ag+1) (fun b hb=>Cz.jU.2 hb) (fun k _=>by show (if s=s then _ else _)=_;rw [if_pos rfl]) (fun k A _ hA=>Jb k A hA) (by rw [BK];exact Nat.le_refl _)
  ·rw [if_neg e] at hs;exact (h.boxes s sl cs hX hs hb).dP ht fH (by show (if s=d then _ else _)=_;rw [if_neg e])
 ·rw [hn] at hs
  by_cases e:s=d
  ·subst e;rw [if_pos rfl] at hs
   cases hs
   cases j with
   |zero=>simp [nth] at hA
   |succ j=>
    obtain ⟨v',nW⟩:=g1 j A hA;rw [show 1+j=j+1 by omega] at nW;exact nW.arr (by simp) (by simp [uG])
  ·rw [if_neg e] at hs;exact (h.aN s j sl A hX hs hA).dP ht (by simp [e])
 ·simp only [c',Cz.dP,Option.map_eq_some_iff] at hb;obtain ⟨k,hk,e⟩:=hb;obtain ⟨h1,h2⟩:=h.owned b k hk;refine ⟨h1,h2.imp (fun e2 => ?_) id⟩;subst e2;rw [←e];rfl
theorem HC {st:St} {d:Nat} {outs:List RV} (h:∀os,outs≠[.ptr os]):wx st (some d) outs=match nth st d with
  |some s=>some (lZ (fun sl=>{ sl with v:=(match kL d (s.ag+1) 0 outs with | [v]=>v | vs=>.m9 vs),aN:=bl (outs.flatMap RV.tv),ag:=s.ag+1 }) st d)
  |none=>none:=by
 unfold wx;simp only
 cases nth st d with
 |none=>rfl
 |some s=>
  cases outs with
  |nil=>rfl
  |cons r l=>cases l with
   |cons _ _=>cases r<;>rfl
   |nil=>cases r with
    |one o=>rfl
    |agg os=>rfl
    |ptr os=>exact absurd rfl (h os)
theorem kW.laid {X:Lb→Prop} {w0:World} {mu:Mu} {c:Cz} {st:St} {a:Act} {w:World} (h:kW X w0 mu c st a w) {d:Option Nat} {outs:List RV} {v:Value} (hv:qm c w outs v) {aY:St} (hl:wx st d outs=some aY) (hd:∀k,d=some k→k<a.tmps.size) :
  ∃c',kW X w0 mu c' aY (a.put d v) w∧Fw c st w c' aY w∧∀b l,l.real=true→c.own b=some l→c'.own b=some l:=by
 cases d with
 |none=>
  cases outs with
  |nil=>
   simp only [wx,Option.some.injEq] at hl;subst hl;exact ⟨c,h,Fw.refl c st w,fun _ _ _ h=>h⟩
  |cons _ _=>simp [wx] at hl
 |some d=>
  by_cases hp:∃os,outs=[.ptr os]
  ·obtain ⟨os,rfl⟩:=hp;unfold wx at hl;simp only at hl
   cases gn:nth st d with
   |none=>simp [gn] at hl
   |some s0=>
    simp only [gn,Option.some.injEq] at hl;subst hl;refine h.Th gn ?_ (hd d rfl);rcases hv with ⟨r,h1,h2⟩ | ⟨h1,_⟩
    ·simp only [List.cons.injEq,and_true] at h1;subst h1;obtain ⟨v',l,e1,h3,_⟩:=h2;simp only [List.cons.injEq] at e1;rw [e1.1];exact h3
    ·exact absurd rfl h1
  rw [HC (fun os e=>hp ⟨os,e⟩)] at hl
  cases gn:nth st d with
  |none=>simp [gn] at hl
  |some s0=>
   simp only [gn,Option.some.injEq] at hl;obtain ⟨vs,hR,hVV⟩:∃vs,ik c w 0 outs vs∧∀(c2:Cz) (fB:St) (g:Nat),(kL d g 0 outs).length=vs.length→(∀(k:Nat) (x:V) (u:Value),(kL d g 0 outs)[k]?=some x→vs[k]?=some u→z7 c2 fB w x u)→
     eD c2 fB w (match kL d g 0 outs with | [v]=>v | vs=>.m9 vs) v:=by
    rcases hv with ⟨r,rfl,h2⟩ | ⟨h1,vs,rfl,h2⟩
    ·refine ⟨[v],h2,fun c2 fB g hlen wO => ?_⟩;exact I4 (wO 0 _ v rfl rfl)
    ·refine ⟨vs.toList,h2,fun c2 fB g hlen wO => ?_⟩;have Wh:eD c2 fB w (.m9 (kL d g 0 outs)) (.tuple vs):=⟨vs,rfl,by simpa using hlen,fun i x y hx hy=>wO i x y hx (by simpa using hy)⟩
     split
     ·rename_i x hx;obtain ⟨_,_,_,b3,_⟩:=ik.vals outs 0 vs.toList h2;have:=b3 d g;rw [hx] at this;exact absurd this.symm h1
     ·exact Wh
   obtain ⟨lcs,g1,g2,g3,g4⟩:=ik.vals outs 0 vs hR
   let c':=c.dP (Ax d) c.bx (fun s j=>if s=d then lcs j else c.lc s j)
   let V0:=(match kL d (s0.ag+1) 0 outs with | [v]=>v | vs=>.m9 vs)
   have hn:∀s,nth aY s=if s=d then some { s0 with v:=V0,aN:=bl (outs.flatMap RV.tv),ag:=s0.ag+1 } else nth st s:=by
    intro s;rw [←hl,dj]
    by_cases e:s=d
    ·subst e;rw [if_pos rfl,if_pos rfl,gn];rfl
    ·rw [if_neg e,if_neg e]
   have BK:cO aY d=s0.ag+1:=by unfold cO;rw [hn];simp
   have Ja:cO st d=s0.ag:=by unfold cO;rw [gn]
   have ht:=yu d;have fH:Fw c st w c' aY w:={
    stays:=oc c w _ _ _
    refs:=fun a' j' g' A' hg ek=>by
     obtain ⟨sl,k1,k2,k3⟩:=ba ek;rw [hn] at k1
     by_cases e:a'=d
     ·rw [if_pos e] at k1
      cases k1
      subst e;simp only at k2;omega
     ·rw [if_neg e] at k1;exact ⟨A',oM k1 k2 k3,rfl,rfl,by show (if a'=d then _ else _)=_;rw [if_neg e],fun _=>⟨rfl,fun _ _ _ _=>rfl⟩⟩
    Bw:=fun b' g' lQ hg KN=>by
     obtain ⟨sl,k1,k2,k3⟩:=ir KN;rw [hn] at k1
     by_cases e:b'=d
     ·rw [if_pos e] at k1
      cases k1
      subst e;exact ⟨⟨lQ,by unfold cW;rw [gn];simp at k2 k3;simp [k2,k3]⟩,rfl⟩
     ·rw [if_neg e] at k1;exact ⟨⟨lQ,by unfold cW;rw [k1];simp [k2,k3]⟩,rfl⟩
    gA:=fun a'=>by
     by_cases e:a'=d
     ·subst e;rw [BK,Ja];omega
     ·unfold cO;rw [hn,if_neg e];exact Nat.le_refl _
    gB:=fun a'=>by
     by_cases e:a'=d
     ·subst e;unfold fF;rw [hn,if_pos rfl,gn];exact Nat.le_refl _
     ·unfold fF;rw [hn,if_neg e];exact Nat.le_refl _
    gE:=fun a'=>by
     by_cases e:a'=d
     ·subst e;unfold j5;rw [hn,if_pos rfl,gn];exact Nat.le_refl _
     ·unfold j5;rw [hn,if_neg e];exact Nat.le_refl _ }
   have Jb:∀k A,aT aY d k (s0.ag+1)=some A→nth (bl (outs.flatMap RV.tv)) k=some (some A):=by
    intro k A hA;obtain ⟨sl,k1,k2,k3⟩:=ba hA;rw [hn,if_pos rfl] at k1
    cases k1
    exact k3
   have tK:∀t,eD c' aY w (bI aY t) ((a.put (some d) v).eval (.tmp t)):=by
    intro t;rw [eval_put]
    by_cases e:t=d
    ·subst e;rw [if_pos ⟨rfl,hd t rfl⟩];have:bI aY t=V0:=by unfold bI;rw [hn,if_pos rfl]
     rw [this];refine hVV c' aY (s0.ag+1) (by rw [g3,g2]) (g4 c' aY t (s0.ag+1) (fun b hb=>Cz.jU.2 hb) (fun k _ => ?_) (fun k A _ hA=>Jb k A (by simpa using hA)) (by rw [BK];exact Nat.le_refl _));show (if t=t then _ else _)=_;rw [if_pos rfl]
    ·rw [if_neg (by rintro ⟨e2,_⟩;exact e (Option.some.inj e2).symm)];have:bI aY t=bI st t:=by unfold bI;rw [hn,if_neg e]
     rw [this];exact fH.j6 (h.dO t)
   refine ⟨c',⟨tK,fun s sl cs hX hs hb => ?_,fun s j sl A hX hs hA => ?_,fun b l hb => ?_,fun b hb h1=>h.free b hb (by unfold Cz.ok at *;simpa [c',Cz.dP] using h1),h.kept,h.old,by simpa [Act.put] using h.plain,fun p hp=>fH.cR (h.cR p hp),fun b l hb=>by
   simp only [c',Cz.dP,Option.map_eq_some_iff] at hb;obtain ⟨k,hk,_⟩:=hb;exact h.lS b k hk⟩,fH,fun b l hl hb => ?_⟩
   case refine_4=>
    show (c.own b).map (Ax d)=_;rw [hb];simp [(yu d).other l (.inr hl)]
   ·rw [hn] at hs
    by_cases e:s=d
    ·subst e;rw [if_pos rfl] at hs
     cases hs
     exact (h.boxes s s0 cs hX gn hb).dP ht fH rfl
    ·rw [if_neg e] at hs;exact (h.boxes s sl cs hX hs hb).dP ht fH rfl
   ·rw [hn] at hs
    by_cases e:s=d
    ·subst e;rw [if_pos rfl] at hs
     cases hs
     obtain ⟨v',nW⟩:=g1 j A hA;exact nW.arr (by simp) (by simp [Ax])
    ·rw [if_neg e] at hs;exact (h.aN s j sl A hX hs hA).dP ht (by simp [e])
   ·simp only [c',Cz.dP,Option.map_eq_some_iff] at hb;obtain ⟨k,hk,e⟩:=hb;obtain ⟨h1,h2⟩:=h.owned b k hk;refine ⟨h1,h2.imp (fun e2 => ?_) id⟩;subst e2;rw [←e];rfl
end Go.TM
namespace Go.TM
open Go Go.RowKit
theorem Gl {st:St} {own:Bool}:(cs:List CV)→{os:List OV}→{u:List (Option Lb)}→{r:List (Nat×Nat)}→eY st own cs=some (os,u,r)→∀l∈bR u,l∈cs.filterMap fun x=>match x with | .ref a j _ _=>some (Lb.sp a j) | _=>none
 | [],_,_,_,h=>by
  simp only [eY,Option.some.injEq,Prod.mk.injEq] at h;obtain ⟨_,rfl,_⟩:=h;simp [bR]
 |x::cs,os,u,r,h=>by
  unfold eY at h
  cases hc:eS st own x with
  |none=>simp [hc] at h
  |some p=>
   obtain ⟨o,u1,r1⟩:=p
   cases hq:eY st own cs with
   |none=>simp [hc,hq] at h
   |some q=>
    obtain ⟨An,us,rs⟩:=q;simp only [hc,hq,Option.some.injEq,Prod.mk.injEq] at h;obtain ⟨_,rfl,_⟩:=h;intro l hl;rw [gL] at hl;rcases List.mem_cons.1 hl with hl | hl
    ·refine List.mem_filterMap.2 ⟨x,List.mem_cons_self,?_⟩
     cases x with
     |ref a j g w=>
      unfold eS at hc;simp only at hc
      cases hA:aT st a j g with
      |none=>simp [hA] at hc
      |some A=>
       simp only [hA] at hc
       cases hm:A.md.Ft with
       |true=>simp [hm] at hc
       |false=>
       simp only [hm,cond_false] at hc
       cases hb:(own&&A.own&&(A.md.is .sh||(A.md.is .lz||w.isFull)))<;>simp only [hb,cond_true,cond_false,Option.some.injEq,Prod.mk.injEq] at hc<;>obtain ⟨_,rfl,_⟩:=hc
       ·cases hl
       ·exact hl.symm
     |KC a j g e i k q ys=>
      unfold eS at hc;simp only at hc
      cases hA:aT st a j g with
      |none=>simp [hA] at hc
      |some A=>
       simp only [hA] at hc;obtain ⟨_,hc⟩:=aI hc;simp only [Option.some.injEq,Prod.mk.injEq] at hc;obtain ⟨_,rfl,_⟩:=hc
       cases hl
     |o8 a j g e i k q ys=>
      unfold eS at hc;simp only at hc
      cases hA:aT st a j g with
      |none=>simp [hA] at hc
      |some A=>
       simp only [hA] at hc;obtain ⟨_,hc⟩:=aI hc;simp only [Option.some.injEq,Prod.mk.injEq] at hc;obtain ⟨_,rfl,_⟩:=hc
       cases hl
     |lC q y off=>obtain ⟨_,rfl,_⟩:=wL hc;cases hl
     |s8 q y off=>obtain ⟨_,rfl,_⟩:=tI hc;cases hl
     |_=>
      simp only [eS,Option.some.injEq,Prod.mk.injEq,reduceCtorEq] at hc
      all_goals (obtain ⟨_,rfl,_⟩:=hc;cases hl)
    ·have:=Gl cs hq l (gL.2 hl);obtain ⟨y,h1,h2⟩:=List.mem_filterMap.1 this;exact List.mem_filterMap.2 ⟨y,List.mem_cons_of_mem _ h1,h2⟩
theorem KZ {st:St} {m:Pm} {v:V} {av:AV} {u q:List Lb} {r:List (Nat×Nat)} (h:eG st m v=some (av,u,q,r)):∀l∈u,(l∈q∧∃s j,l=.sp s j)∨l∈BL m v:=by
 have single:∀own cs,(match eY st own cs with | some (os,u,r)=>some (AV.val false os,bR u,bR u,r) | none=>none)=some (av,u,q,r)→∀l∈u,(l∈q∧∃s j,l=.sp s j)∨l∈BL m v:=by
  intro own cs h
  cases hq:eY st own cs with
  |none=>simp [hq] at h
  |some p=>
   obtain ⟨os,us,rs⟩:=p;simp only [hq,Option.some.injEq,Prod.mk.injEq] at h;obtain ⟨_,rfl,rfl,_⟩:=h;exact fun l hl=>.inl ⟨hl,xJ cs hq l hl⟩
 cases v with
 |m9 _=>simp [eG] at h
 |agg cs=>
  have other:(match eY st m.nf cs with | some (os,u,r)=>some (AV.val true os,bR u,bR u,r) | none=>none)=some (av,u,q,r)→∀l∈u,(l∈q∧∃s j,l=.sp s j)∨l∈BL m (.agg cs):=by
   intro h
   cases hq:eY st m.nf cs with
   |none=>simp [hq] at h
   |some p=>
    obtain ⟨os,us,rs⟩:=p;simp only [hq,Option.some.injEq,Prod.mk.injEq] at h;obtain ⟨_,rfl,rfl,_⟩:=h;exact fun l hl=>.inl ⟨hl,xJ cs hq l hl⟩
  unfold eG at h
  cases m with
  |shr=>exact other h
  |own=>exact other h
  |pick _=>exact other h
  |soft _=>exact other h
  |io=>exact other h
  |bL=>
   simp only at h
   cases hq:eY st true cs with
   |none=>simp [hq] at h
   |some p=>
    obtain ⟨os,us,rs⟩:=p;simp only [hq] at h;obtain ⟨_,h1⟩:=aI h;simp only [Option.some.injEq,Prod.mk.injEq] at h1;obtain ⟨_,rfl,_,_⟩:=h1;exact fun l hl=>.inr (Gl cs hq l hl)
 |one cx=>
  cases cx with
  |ptr b g off=>
   unfold eG at h;simp only at h
   cases hb:cW st b g with
   |none=>simp [hb] at h
   |some cs=>
    simp only [hb] at h
    cases hq:eY st true cs with
    |none=>simp [hq] at h
    |some p=>
     obtain ⟨os,us,rs⟩:=p;simp only [hq] at h;obtain ⟨_,h1⟩:=aI h;simp only [Option.some.injEq,Prod.mk.injEq] at h1;obtain ⟨_,rfl,rfl,_⟩:=h1;intro l hl;rcases List.mem_cons.1 hl with rfl | hl
     ·exact .inr (by simp [BL])
     ·exact .inl ⟨hl,xJ cs hq l hl⟩
  |ref s j g vw=>
   unfold eG at h
   cases m with
   |shr=>exact single _ _ h
   |own=>exact single _ _ h
   |pick _=>exact single _ _ h
   |soft _=>exact single _ _ h
   |bL=>exact single _ _ h
   |io=>
    cases vw with
    |full=>
     cases hA:aT st s j g with
     |none=>simp [hA] at h
     |some A=>
      simp only [hA] at h;obtain ⟨_,h1⟩:=aI h;simp only [Option.some.injEq,Prod.mk.injEq] at h1;obtain ⟨_,rfl,_,_⟩:=h1;exact fun l hl=>.inr (by simpa [BL] using hl)
    |«from» _=>simp at h
    |sub _ _=>simp at h
  |_=>
   unfold eG at h;simp only at h
   split at h
   ·rename_i os us rs hq;simp only [Option.some.injEq,Prod.mk.injEq] at h;obtain ⟨_,rfl,rfl,_⟩:=h;exact fun l hl=>.inl ⟨hl,xJ _ hq l hl⟩
   ·cases h
theorem Ec {st:St}:(ms:List (Pm×V))→{da:List AV}→{u q:List Lb}→{r:List (Nat×Nat)}→iY st ms=some (da,u,q,r)→∀l∈u,(l∈q∧∃s j,l=.sp s j)∨∃m∈ms,l∈BL m.1 m.2
 | [],_,_,_,_,h=>by
  simp only [iY,Option.some.injEq,Prod.mk.injEq] at h;obtain ⟨_,rfl,_⟩:=h;simp
 |(m,v)::ms,da,u,q,r,h=>by
  unfold iY at h
  cases h1:eG st m v with
  |none=>simp [h1] at h
  |some p1=>
   obtain ⟨av,u1,q1,r1⟩:=p1
   cases h2:iY st ms with
   |none=>simp [h1,h2] at h
   |some p2=>
    obtain ⟨Tf,u2,q2,r2⟩:=p2;simp only [h1,h2,Option.some.injEq,Prod.mk.injEq] at h;obtain ⟨rfl,rfl,rfl,rfl⟩:=h;intro l hl;rcases List.mem_append.1 hl with hl | hl
    ·rcases KZ h1 l hl with ⟨h3,h4⟩ | h3
     ·exact .inl ⟨List.mem_append_left _ h3,h4⟩
     ·exact .inr ⟨(m,v),List.mem_cons_self,h3⟩
    ·rcases Ec ms h2 l hl with ⟨h3,h4⟩ | ⟨m',h3,h4⟩
     ·exact .inl ⟨List.mem_append_right _ h3,h4⟩
     ·exact .inr ⟨m',List.mem_cons_of_mem _ h3,h4⟩
theorem CJ {st:St}:(ms:List (Pm×V))→{da:List AV}→{u q:List Lb}→{r:List (Nat×Nat)}→iY st ms=some (da,u,q,r)→∀(k:Nat) (m:Pm×V) (av:AV),ms[k]?=some m→da[k]?=some av→QA st m av
 | [],_,_,_,_,_=>by intro k m av hm;simp at hm
 |(m,v)::ms,da,u,q,r,h=>by
  unfold iY at h
  cases h1:eG st m v with
  |none=>simp [h1] at h
  |some p1=>
   obtain ⟨av,u1,q1,r1⟩:=p1
   cases h2:iY st ms with
   |none=>simp [h1,h2] at h
   |some p2=>
    obtain ⟨Tf,u2,q2,r2⟩:=p2;simp only [h1,h2,Option.some.injEq,Prod.mk.injEq] at h;obtain ⟨rfl,rfl,rfl,rfl⟩:=h;intro k m' MO hm Jh
    cases k with
    |zero=>simp at hm Jh;subst hm Jh;exact ⟨u1,q1,r1,h1⟩
    |succ k=>exact CJ ms h2 k m' MO (by simpa using hm) (by simpa using Jh)
theorem N5 (a b c:Pm) (l:List V):(vO a b c l).map (·.2)=l:=by
 rcases l with _ | ⟨x,_ | ⟨y,_ | ⟨z,l⟩⟩⟩<;>simp [vO,Function.comp_def]
theorem Cz.yT:(m:List (Nat×Nat))→(c:Cz)→{b:Nat}→{l:Lb}→c.own b=some l→(∀p∈m,l≠.sp p.1 p.2)→(c.drop m).own b=some l
 | [],_,_,_,h,_=>h
 |(s,j)::m,c,b,l,h,hm=>Cz.yT m (c.drop1 s j) (Cz.rj h (hm (s,j) List.mem_cons_self)) (fun p hp=>hm p (List.mem_cons_of_mem _ hp))
def od (P:Program) (S:kV):Prop:=
 ∀f a b c zY,S f=some (a,b,c,zY)→FnOk P f zY∧∃fn,P.funcs[f]?=some fn∧(fn.name == "runtime.NumGoroutine")=false∧fn.body.isNone=false
theorem Ji {P:Program} {w0:World} {mu:Mu} {c:Cz} {st aY:St} {a:Act} {w:World} (h:Rel w0 mu c st a w) {o:Oper} {f:FuncId} {vals:Array Value} (qz:(execOp a.eval o).run P w=.ok (.enter f vals) w)
  {zY:ug} (N6:FnOk P f zY) {ms:List (Pm×V)}
  (hlen:ms.length=vals.toList.length) (wO:∀(k:Nat) (m:Pm×V) (x:Value),ms[k]?=some m→vals.toList[k]?=some x→eD c st w m.2 x)
  {fin:St→N} (hv:(IG st o.dst zY ms fin).val=some aY) (hd:∀k,o.dst=some k→k<a.tmps.size) {kp:Bool} (Te:kp=true→KK st ms=true)
  (HE:∀(c5:Cz) (fB:St) (a2:Act) (w':World),Rel w0 mu c5 fB a2 w'→Fw c st w c5 fB w'→
   (∀da u q r,iY st ms=some (da,u,q,r)→∀b l,l.real=true→l∉u→(∀p∈r,l≠.sp p.1 p.2)→c.own b=some l→w'.heap[b]?=w.heap[b]?∧c5.own b=some l)→
   (fin fB).val=some aY→∃c6,Rel w0 mu c6 aY a2 w'):wK P w0 mu aY o a w kp:=by
  unfold IG at hv;unfold KK at Te
  cases he:iY st ms with
  |none=>simp [he,N.val] at hv
  |some p=>
   obtain ⟨da,u,q,r⟩:=p;simp only [he] at hv Te;obtain ⟨hc,hv⟩:=cY hv;rw [Bool.and_eq_true] at hc
   cases hs:zY da with
   |none=>simp [hs,N.val] at hv
   |some p=>
    simp only [hs] at hv
    cases hox:p.o with
    |none=>rw [hox] at hv;cases hv
    |some x=>
    rw [hox] at hv;have K0:=hv;clear hv;unfold N.val at K0;simp only at K0;generalize BA:p.res x=res at K0
    cases hbk:um (oI (qj u 0 (bif res.plain then st else freeze st r)) q) ms res.exts with
    |none=>simp [hbk,N.val] at K0
    |some vQ=>
     simp only [hbk] at K0
     cases hly:wx vQ o.dst res.outs with
     |none=>simp [hly,N.val] at K0
     |some fB=>
      simp only [hly] at K0;have K0:(fin fB).val=some aY:=K0;obtain ⟨CK,hqu,tb,QD,abD,Wi,hold⟩:=Gi h ms 0 _ hlen wO he;have Hv:=oL u CK hc.1;have Fp:∀p∈r,Lb.sp p.1 p.2∉u:=by
       intro p hp hm;have h1:=List.all_eq_true.1 hc.2 p hp;have h2:=List.all_eq_true.1 h1 _ hm;rw [(Lb.Ao rfl).2 rfl] at h2
       cases h2
      let lc:Nat→Nat→Loc:=fun k=>match ms[k]? with | some m=>CG c m.2 | none=>fun _=>.nil
      have l9:=Classical.propDecidable
      let ρ:Lb→Option Lb:=fun l=>match look tb l with | some y=>some y | none=>if (∃p∈r,l=.sp p.1 p.2) then none else some .out
      have Ay:∀ {l y},look tb l=some y→l∈u∧y.kI=true:=by
       intro l y hl;have:=xI tb hl;exact ⟨by rw [←QD];exact List.mem_map.2 ⟨_,this,rfl⟩,abD _ this⟩
      have hρr:∀p∈r,ρ (.sp p.1 p.2)=none:=by
       intro p hp;show (match look tb (.sp p.1 p.2) with | some y=>some y | none=>if (∃p'∈r,Lb.sp p.1 p.2=.sp p'.1 p'.2) then none else some .out)=none
       cases hl:look tb (.sp p.1 p.2) with
       |some y=>exact absurd (Ay hl).1 (Fp p hp)
       |none=>simp only;rw [if_pos ⟨p,hp,rfl⟩]
      have hρt:∀p∈tb,ρ p.1=some p.2:=by
       intro p hp;have:=Ap tb (by rw [QD];exact Hv) hp;show (match look tb p.1 with | some y=>some y | none=>_)=_;rw [this]
      have hρh:∀ {l y},ρ l=some y→y=.out∨(y.kI=true∧l∈u):=by
       intro l y hl;have hl:(match look tb l with | some y=>some y | none=>if (∃p∈r,l=.sp p.1 p.2) then none else some .out)=some y:=hl
       cases hk:look tb l with
       |some z=>
        rw [hk] at hl
        cases hl
        exact .inr ⟨(Ay hk).2,(Ay hk).1⟩
       |none=>
        rw [hk] at hl;simp only at hl
        split at hl
        ·cases hl
        ·cases hl;exact .inl rfl
      have hρn:∀ {l},ρ l=none→∃p∈r,l=.sp p.1 p.2:=by
       intro l hl;have hl:(match look tb l with | some y=>some y | none=>if (∃p∈r,l=.sp p.1 p.2) then none else some .out)=none:=hl
       cases hk:look tb l with
       |some z=>rw [hk] at hl;cases hl
       |none=>
        rw [hk] at hl;simp only at hl
        split at hl
        ·assumption
        ·cases hl
      let μ:Mu:={ m:=fun b=>∃l,(c.map ρ).own b=some l∧l.kI=true,ok:=fun b=>(c.map ρ).own b=none,an:=[],rs:=fun b=>(c.map ρ).rs b≠none }
      have hH:Handed (c.map ρ) w μ:={
       m:=fun b=>Iff.rfl
       ok:=fun b=>Iff.rfl
       lt:=fun b l hb=>by
        obtain ⟨k,hk,_⟩:=Cz.map_some hb;exact (h.owned b k hk).1
       lb:=fun b l hb=>by
        obtain ⟨k,hk,e⟩:=Cz.map_some hb;exact (hρh e).imp id (·.1)
       rs:=fun b l hb=>by
        obtain ⟨k,hk,_⟩:=Cz.sK hb;exact ⟨(h.lS b k hk).1,by show (c.map ρ).rs b≠none;rw [hb];simp⟩ }
      have P8:∀b,μ.rs b→c.own b=none∧∃l,c.rs b=some l∧l∈u:=by
       intro b hb;have hb:(c.map ρ).rs b≠none:=hb
       cases hq:(c.map ρ).rs b with
       |none=>exact absurd hq hb
       |some y=>
        obtain ⟨k,hk,e,ho,h0⟩:=Cz.sK hq;refine ⟨h0,k,hk,?_⟩;rcases hρh e with e2 | e2
        ·subst e2;cases ho
        ·exact e2.2
      have hA:=hold ρ lc (fun k m hm=>by simp only [Nat.zero_add,lc,hm]) hρt hρr;have la:=N6 (c.map ρ) w μ lc da vals p x hH hA hs hox;rw [BA] at la;intro Q;unfold Oper.wp;rw [qz,Oper.upon_enter];refine la.mono fun e w' QE => ?_
      obtain ⟨v,rfl,c1,Az,hV,hX⟩:=QE;obtain ⟨c2,s2,IJ,hR2,hF2,hm2,ahc,ahd,ahe,ahf⟩:∃(c2:Cz) (s2:St),(bif res.plain then st else freeze st r)=s2∧Rel w0 mu c2 s2 a w∧Fw c st w c2 s2 w∧(∀b,μ.m b→∃l,c2.own b=some l∧l∈u)∧(∀b,c.own b=none→c2.own b=none)∧c2.rs=c.rs∧(res.plain=true∨∀b,μ.ok b→c2.own b=none)∧
        (∀b l,(∀p∈r,l≠.sp p.1 p.2)→c.own b=some l→c2.own b=some l):=by
       have hm:∀b,μ.m b→∃l,c.own b=some l∧l∈u:=by
        rintro b ⟨l,hl,hh⟩
        obtain ⟨k,hk,e⟩:=Cz.map_some hl;rcases hρh e with e2 | e2
        ·subst e2;cases hh
        ·exact ⟨k,hk,e2.2⟩
       cases hp:res.plain with
       |true=>exact ⟨c,st,rfl,h,Fw.refl c st w,hm,fun _ h=>h,rfl,.inl rfl,fun _ _ _ h=>h⟩
       |false=>
        refine ⟨c.drop r,freeze st r,rfl,Rel.freeze r h,Fw.freeze w r c st,fun b hb => ?_,fun b hb=>Cz.uA r c b hb,Cz.Dt r c,.inr fun b hb => ?_,fun b l hl hb=>Cz.yT r c hb hl⟩
        ·obtain ⟨l,h1,h2⟩:=hm b hb;exact ⟨l,Cz.yT r c h1 (fun p hp e=>Fp p hp (e▸h2)),h2⟩
        ·have hb:(c.own b).bind ρ=none:=hb
         cases hk:c.own b with
         |none=>exact Cz.uA r c b hk
         |some l=>
          rw [hk] at hb;obtain ⟨p,hp,e⟩:=hρn hb;subst e;exact Cz.xD r c b hk hp
      rw [IJ] at hbk;obtain ⟨g1,g2,gfr,g3,g4,g5⟩:=hR2.abA Az (X:=fun l=>l∈u) hm2 (fun b hb=>by rw [ahd];exact (P8 b hb).2) (fun l hl e=>by subst e;cases CK _ hl) (u:=u) (fun a j h=>N1 h);have K1:(∀b,c1.ok b→(c2.merge c1 w.heap.size μ.m μ.rs).ok b)∨res.plain=true:=by
       rcases ahe with h1 | h1
       ·exact .inr h1
       ·exact .inl (g4 h1)
      have QF:res.plain=true→res.outs.all (fun o=>o.tv.all OV.plain)=true∧res.exts.all XV.plain=true:=by
       intro hp;unfold Res.plain at hp
       rwa [Bool.and_eq_true] at hp
      have F9:∀b l,l.Au=some l→c1.yt (c2.merge c1 w.heap.size μ.m μ.rs) l b:=fun b l hl=>⟨g3 b l hl,fun h1 h2=>⟨?_,g5 b l hl h2⟩⟩
      rotate_left
      ·by_cases e:b<w.heap.size∧¬μ.m b
       ·rw [Cz.qT e];rcases (Az.lS b l h2).2 with q | q | q
        ·exact absurd e.1 (Nat.not_lt.2 q)
        ·exact absurd q e.2
        ·exact ahc b (P8 b q).1
       ·rw [Cz.xK e,h1];rfl
      have hV':qm (c2.merge c1 w.heap.size μ.m μ.rs) w' res.outs v:=hV.pass (fun b j=>F9 b (.eF j) rfl) (K1.imp id fun hp=>(QF hp).1);have N0:gI (c2.merge c1 w.heap.size μ.m μ.rs) w' lc 0 da vals.toList res.exts:=gI.pass da 0 (fun b k _=>g3 b (.su k) rfl) (fun b k j _=>F9 b (.bK k j) rfl) _ _ (K1.imp id fun hp=>(QF hp).2) hX;obtain ⟨c3,k1,k2,k3,k4⟩:=yS q g1;have QG:∀b l,(c2.merge c1 w.heap.size μ.m μ.rs).yt c3 l b:=fun b l=>⟨fun h=>by rw [k3];exact h,fun h1 h2=>⟨by rw [k3];exact h1,by rw [k4];exact h2⟩⟩
      have abE:∀b,(c2.merge c1 w.heap.size μ.m μ.rs).ok b→c3.ok b:=fun b hb=>by unfold Cz.ok at *;rw [k3];exact hb
      have hV3:qm c3 w' res.outs v:=hV'.pass (fun b j=>QG b _) (.inl abE);have hX3:gI c3 w' lc 0 da vals.toList res.exts:=gI.pass da 0 (fun b k _ hb=>by rw [k3];exact hb) (fun b k j _=>QG b _) _ _ (.inl abE) N0;obtain ⟨c4,l1,l2,l3⟩:=Eb ms 0 da _ _ k1 ((hF2.trans g2).trans k2) wO (CJ ms he) Wi.symm hlen (fun k m hm=>by simp only [Nat.zero_add,lc,hm]) hX3 hbk;have hV4:qm c4 w' res.outs v:=hV3.pass (fun b j=>l3.keeps (.inl ⟨j,rfl⟩) b) (.inl l3.ok);obtain ⟨c5,n1,n2,n3⟩:=l1.laid hV4 hly hd;have abF:Rel w0 mu c5 fB (a.put o.dst v) w':=by
       refine (n1.mono (X':=fun _=>False) (fun l hl => ?_)).rel;obtain ⟨⟨MH,PL⟩,hl3⟩:=hl;rcases Ec ms he l MH with ⟨h1,s,j,e⟩ | ⟨m,h1,h2⟩
       ·subst e;exact PL s j h1 rfl
       ·exact hl3 m h1 h2
      obtain ⟨c6,hc6⟩:=HE c5 fB _ w' abF (l2.trans n2) (fun Tf u' q' r' SZ b l MH PL hl3 hb=>by
       rw [he] at SZ;simp only [Option.some.injEq,Prod.mk.injEq] at SZ;obtain ⟨rfl,rfl,rfl,rfl⟩:=SZ;have Jg:=ahf b l hl3 hb;obtain ⟨f1,f2⟩:=gfr b l Jg PL;refine ⟨f1,n3 b l MH (l3.bK b l (.inr MH) ?_)⟩;rw [k3,f2];exact Jg) K0
      refine ⟨⟨c6,hc6,rB _ _ _⟩,fun ahh=>⟨Az.kept.2.2.2,fun k hk=>Az.old k hk (fun hmu => ?_)⟩⟩;have hu0:u=[]:=by simpa using Te ahh
      obtain ⟨_,_,Dh⟩:=hm2 k hmu;rw [hu0] at Dh
      cases Dh
end Go.TM
namespace Go.TM
open Go Go.RowKit
def wP (st:St) (n:Nat×Nat):Prop:=∃g A,aT st n.1 n.2 g=some A∧A.md.Ft=false
theorem N7 {st:St} {own:Bool} {x:CV} {o:OV} {u:Option Lb} {r:List (Nat×Nat)} (h:eS st own x=some (o,u,r)):(∀s j,u=some (.sp s j)→wP st (s,j))∧∀p∈r,wP st p:=by
 cases x with
 |ref a j g w=>
  unfold eS at h;simp only at h
  cases hA:aT st a j g with
  |none=>simp [hA] at h
  |some A=>
   simp only [hA] at h
   cases hm:A.md.Ft with
   |true=>simp [hm] at h
   |false=>
   have sF:=hm;simp only [hm,cond_false] at h
   cases hb:(own&&A.own&&(A.md.is .sh||(A.md.is .lz||w.isFull)))<;>simp only [hb,cond_true,cond_false,Option.some.injEq,Prod.mk.injEq] at h<;>obtain ⟨_,rfl,rfl⟩:=h
   ·exact ⟨by simp,fun p hp=>by simp at hp;subst hp;exact ⟨g,A,hA,sF⟩⟩
   ·refine ⟨fun s k e => ?_,by simp⟩;simp only [Option.some.injEq,Lb.sp.injEq] at e;obtain ⟨rfl,rfl⟩:=e;exact ⟨g,A,hA,sF⟩
 |KC a j g e i k q ys=>
  unfold eS at h;simp only at h
  cases hA:aT st a j g with
  |none=>simp [hA] at h
  |some A=>
   simp only [hA] at h;obtain ⟨h1,h⟩:=aI h;rw [Bool.and_eq_true] at h1;have hm:=Md.iW.1 h1.1;simp only [Option.some.injEq,Prod.mk.injEq] at h;obtain ⟨_,rfl,rfl⟩:=h;exact ⟨by simp,fun p hp=>by simp at hp;subst hp;exact ⟨g,A,hA,by rw [hm];rfl⟩⟩
 |o8 a j g e i k q ys=>
  unfold eS at h;simp only at h
  cases hA:aT st a j g with
  |none=>simp [hA] at h
  |some A=>
   simp only [hA] at h;obtain ⟨h1,h⟩:=aI h;rw [Bool.and_eq_true] at h1;have hm:=Md.iW.1 h1.1;simp only [Option.some.injEq,Prod.mk.injEq] at h;obtain ⟨_,rfl,rfl⟩:=h;exact ⟨by simp,fun p hp=>by simp at hp;subst hp;exact ⟨g,A,hA,by rw [hm];rfl⟩⟩
 |lC q y off=>obtain ⟨_,rfl,rfl⟩:=wL h;simp
 |s8 q y off=>obtain ⟨_,rfl,rfl⟩:=tI h;simp
 |_=>simp [eS] at h<;>(try (obtain ⟨_,rfl,rfl⟩:=h;simp))
theorem tL {st:St} {own:Bool}:(cs:List CV)→{os:List OV}→{u:List (Option Lb)}→{r:List (Nat×Nat)}→eY st own cs=some (os,u,r)→(∀s j,.sp s j∈bR u→wP st (s,j))∧∀p∈r,wP st p
 | [],_,_,_,h=>by
  simp only [eY,Option.some.injEq,Prod.mk.injEq] at h;obtain ⟨_,rfl,rfl⟩:=h;simp [bR]
 |x::cs,os,u,r,h=>by
  unfold eY at h
  cases hc:eS st own x with
  |none=>simp [hc] at h
  |some p=>
   obtain ⟨o,u1,r1⟩:=p
   cases hq:eY st own cs with
   |none=>simp [hc,hq] at h
   |some q=>
    obtain ⟨An,us,rs⟩:=q;simp only [hc,hq,Option.some.injEq,Prod.mk.injEq] at h;obtain ⟨_,rfl,rfl⟩:=h;obtain ⟨a1,a2⟩:=N7 hc;obtain ⟨b1,b2⟩:=tL cs hq;refine ⟨fun s j hm => ?_,fun p hp => ?_⟩
    ·rw [gL] at hm;rcases List.mem_cons.1 hm with hm | hm
     ·exact a1 s j hm.symm
     ·exact b1 s j (gL.2 hm)
    ·rcases List.mem_append.1 hp with hp | hp
     ·exact a2 p hp
     ·exact b2 p hp
theorem Jj {st:St} {m:Pm} {v:V} {av:AV} {u q:List Lb} {r:List (Nat×Nat)} (h:eG st m v=some (av,u,q,r)):(∀s j,.sp s j∈u→wP st (s,j))∧∀p∈r,wP st p:=by
 have single:∀own cs ag,(match eY st own cs with | some (os,u,r)=>some (AV.val ag os,bR u,bR u,r) | none=>none)=some (av,u,q,r)→(∀s j,.sp s j∈u→wP st (s,j))∧∀p∈r,wP st p:=by
  intro own cs ag h
  cases hq:eY st own cs with
  |none=>simp [hq] at h
  |some p=>
   obtain ⟨os,us,rs⟩:=p;simp only [hq,Option.some.injEq,Prod.mk.injEq] at h;obtain ⟨_,rfl,rfl,rfl⟩:=h;exact tL cs hq
 cases v with
 |m9 _=>simp [eG] at h
 |agg cs=>
  unfold eG at h
  cases m with
  |shr=>exact single _ _ _ h
  |own=>exact single _ _ _ h
  |pick _=>exact single _ _ _ h
  |soft _=>exact single _ _ _ h
  |io=>exact single _ _ _ h
  |bL=>
   simp only at h
   cases hq:eY st true cs with
   |none=>simp [hq] at h
   |some p=>
    obtain ⟨os,us,rs⟩:=p;simp only [hq] at h;obtain ⟨_,h1⟩:=aI h;simp only [Option.some.injEq,Prod.mk.injEq] at h1;obtain ⟨_,rfl,_,rfl⟩:=h1;exact tL cs hq
 |one cx=>
  cases cx with
  |ptr b g off=>
   unfold eG at h;simp only at h
   cases hb:cW st b g with
   |none=>simp [hb] at h
   |some cs=>
    simp only [hb] at h
    cases hq:eY st true cs with
    |none=>simp [hq] at h
    |some p=>
     obtain ⟨os,us,rs⟩:=p;simp only [hq] at h;obtain ⟨_,h1⟩:=aI h;simp only [Option.some.injEq,Prod.mk.injEq] at h1;obtain ⟨_,rfl,rfl,rfl⟩:=h1;obtain ⟨a1,a2⟩:=tL cs hq;refine ⟨fun s j hm => ?_,a2⟩;rcases List.mem_cons.1 hm with hm | hm
     ·cases hm
     ·exact a1 s j hm
  |ref s j g vw=>
   unfold eG at h
   cases m with
   |shr=>exact single _ _ _ h
   |own=>exact single _ _ _ h
   |pick _=>exact single _ _ _ h
   |soft _=>exact single _ _ _ h
   |bL=>exact single _ _ _ h
   |io=>
    cases vw with
    |full=>
     cases hA:aT st s j g with
     |none=>simp [hA] at h
     |some A=>
      simp only [hA] at h;obtain ⟨hb,h1⟩:=aI h;simp only [Option.some.injEq,Prod.mk.injEq] at h1;obtain ⟨_,rfl,_,rfl⟩:=h1;refine ⟨fun s' j' hm => ?_,by simp⟩;simp at hm;obtain ⟨rfl,rfl⟩:=hm;rw [Bool.and_eq_true] at hb;exact ⟨g,A,hA,by cases hh:A.md.Ft<;>simp_all⟩
    |«from» _=>simp at h
    |sub _ _=>simp at h
  |_=>
   unfold eG at h;simp only at h
   split at h
   ·rename_i os us rs hq;simp only [Option.some.injEq,Prod.mk.injEq] at h;obtain ⟨_,rfl,_,rfl⟩:=h;exact tL _ hq
   ·cases h
theorem CL {st:St}:(ms:List (Pm×V))→{da:List AV}→{u q:List Lb}→{r:List (Nat×Nat)}→iY st ms=some (da,u,q,r)→(∀s j,.sp s j∈u→wP st (s,j))∧∀p∈r,wP st p
 | [],_,_,_,_,h=>by
  simp only [iY,Option.some.injEq,Prod.mk.injEq] at h;obtain ⟨_,rfl,_,rfl⟩:=h;simp
 |(m,v)::ms,da,u,q,r,h=>by
  unfold iY at h
  cases h1:eG st m v with
  |none=>simp [h1] at h
  |some p1=>
   obtain ⟨av,u1,q1,r1⟩:=p1
   cases h2:iY st ms with
   |none=>simp [h1,h2] at h
   |some p2=>
    obtain ⟨Tf,u2,q2,r2⟩:=p2;simp only [h1,h2,Option.some.injEq,Prod.mk.injEq] at h;obtain ⟨_,rfl,_,rfl⟩:=h;obtain ⟨a1,a2⟩:=Jj h1;obtain ⟨b1,b2⟩:=CL ms h2;refine ⟨fun s j hm => ?_,fun p hp => ?_⟩
    ·rcases List.mem_append.1 hm with hm | hm
     ·exact a1 s j hm
     ·exact b1 s j hm
    ·rcases List.mem_append.1 hp with hp | hp
     ·exact a2 p hp
     ·exact b2 p hp
theorem Dv:{l:List Nat}→Hl l=true→∀ {a b:Nat} {x y:Nat},l[a]?=some x→l[b]?=some y→a<b→x<y
 | [],_,a,b,x,y,h,_,_=>by simp at h
 | [z],_,a,b,x,y,h1,h2,hab=>by
  have:b=0:=by
   have:=(List.getElem?_eq_some_iff.1 h2).1;simpa using this
  omega
 |z::z'::l,h,a,b,x,y,h1,h2,hab=>by
  simp only [Hl,Bool.and_eq_true] at h;have hz:z<z':=by have:=h.1;simp [Nat.blt] at this;omega
  cases b with
  |zero=>omega
  |succ b=>
   cases a with
   |succ a=>exact Dv h.2 (by simpa using h1) (by simpa using h2) (by omega)
   |zero=>
    simp at h1;subst h1
    cases b with
    |zero=>simp at h2;omega
    |succ b=>
     have:=Dv (a:=0) (b:=b+1) h.2 rfl (by simpa using h2) (by omega);omega
theorem QH {l:List Nat} (h:Hl l=true) {a b x:Nat} (h1:l[a]?=some x) (h2:l[b]?=some x):a=b:=by
 rcases Nat.lt_trichotomy a b with h3 | h3 | h3
 ·have:=Dv h h1 h2 h3;omega
 ·exact h3
 ·have:=Dv h h2 h1 h3;omega
theorem Ed {k:Nat}:(n:Nat)→(l:List Dr)→(∃y∈l,y.k=k)→∃i y,posOf k n l=n+i∧l[i]?=some y∧y.k=k
 |n,[],h=>by obtain ⟨y,hy,_⟩:=h;cases hy
 |n,x::l,h=>by
  unfold posOf
  cases hb:Nat.beq x.k k with
  |true=>exact ⟨0,x,rfl,rfl,Nat.eq_of_beq_eq_true hb⟩
  |false=>
   have eQ:x.k≠k:=by intro e;rw [e,Nat.beq_refl] at hb;cases hb
   obtain ⟨y,hy,e⟩:=h;rcases List.mem_cons.1 hy with rfl | hy
   ·exact absurd e eQ
   ·obtain ⟨i,y',h1,h2,h3⟩:=Ed (n+1) l ⟨y,hy,e⟩;exact ⟨i+1,y',by rw [cond_false,h1];omega,by simpa using h2,h3⟩
theorem Jk {l:List Dr} (hi:Hl (l.map (·.k))=true) {i:Nat} {y:Dr} (h:l[i]?=some y):posOf y.k 0 l=i:=by
 obtain ⟨i',y',h1,h2,h3⟩:=Ed (k:=y.k) 0 l ⟨y,List.mem_of_getElem? h,rfl⟩;rw [h1,Nat.zero_add];exact QH hi (x:=y.k) (by rw [List.getElem?_map,h2];simp [h3]) (by rw [List.getElem?_map,h];rfl)
def Dr.cv (y:Dr):CV:=.o8 y.a y.j y.g y.e y.i y.k y.q y.ys
theorem uH {y:Dr}:{cs:List CV}→y∈yF cs→y.cv∈cs
 | [],h=>by simp [yF] at h
 |c::cs,h=>by
  cases c with
  |o8 a j g e i k q ys=>
   rcases List.mem_cons.1 h with rfl | h
   ·exact List.mem_cons_self
   ·exact List.mem_cons_of_mem _ (uH h)
  |_=>exact List.mem_cons_of_mem _ (uH h)
theorem Ee {a j g e i k:Nat} {q:RT} {ys:List (aw q)}:{cs:List CV}→CV.o8 a j g e i k q ys∈cs→(⟨a,j,g,e,i,k,q,ys⟩:Dr)∈yF cs
 | [],h=>by cases h
 |c::cs,h=>by
  rcases List.mem_cons.1 h with rfl | h
  ·exact List.mem_cons_self
  ·have:=Ee (cs:=cs) h
   cases c with
   |o8 _ _ _ _ _ _ _ _=>exact List.mem_cons_of_mem _ this
   |_=>exact this
theorem Ef {y:Dr}:{ms:List (Pm×V)}→y∈rf ms→∃m∈ms,(m=(.io,.one y.cv))∨∃cs,m=(.bL,.agg cs)∧y.cv∈cs
 | [],h=>by simp [rf] at h
 |(p,v)::ms,h=>by
  have rest:y∈rf ms→∃m∈(p,v)::ms,(m=(.io,.one y.cv))∨∃cs,m=(.bL,.agg cs)∧y.cv∈cs:=fun h=>by
   obtain ⟨m,hm,e⟩:=Ef h;exact ⟨m,List.mem_cons_of_mem _ hm,e⟩
  cases p with
  |io=>cases v with
   |one c=>
    rcases List.mem_append.1 h with h | h
    ·have:=uH h;simp at this;exact ⟨_,List.mem_cons_self,.inl (by rw [this])⟩
    ·exact rest h
   |_=>exact rest h
  |bL=>cases v with
   |agg cs=>
    rcases List.mem_append.1 h with h | h
    ·exact ⟨_,List.mem_cons_self,.inr ⟨cs,rfl,uH h⟩⟩
    ·exact rest h
   |_=>exact rest h
  |_=>exact rest (by cases v<;>exact h)
theorem Gm {a j g e i k:Nat} {q:RT} {ys:List (aw q)}:{ms:List (Pm×V)}→(.io,.one (.o8 a j g e i k q ys))∈ms→(⟨a,j,g,e,i,k,q,ys⟩:Dr)∈rf ms
 | [],h=>by cases h
 |(p,v)::ms,h=>by
  rcases List.mem_cons.1 h with h | h
  ·cases h
   exact List.mem_append_left _ List.mem_cons_self
  ·have:=Gm (ms:=ms) h
   cases p<;>cases v<;>first | exact this | exact List.mem_append_right _ this
theorem CM {a j g e i k:Nat} {q:RT} {ys:List (aw q)} {cs:List CV} (hc:CV.o8 a j g e i k q ys∈cs):{ms:List (Pm×V)}→(.bL,.agg cs)∈ms→(⟨a,j,g,e,i,k,q,ys⟩:Dr)∈rf ms
 | [],h=>by cases h
 |(p,v)::ms,h=>by
  rcases List.mem_cons.1 h with h | h
  ·cases h
   exact List.mem_append_left _ (Ee hc)
  ·have:=CM hc (ms:=ms) h
   cases p<;>cases v<;>first | exact this | exact List.mem_append_right _ this
theorem AA {st:St} {ms:List (Pm×V)} {x:Dr} {A:fT} {l:List Dr} (h:mi st ms=some (x,A,l)) :
  l=rf ms∧aT st x.a x.j x.g=some A∧A.own=true∧A.md=.dp∧j5 st x.a=x.e∧(∀y∈l,y.a=x.a∧y.j=x.j∧y.g=x.g∧y.e=x.e∧y.i=x.i)∧Hl (l.map (·.k))=true∧x.a≠st.length-1:=by
 unfold mi at h
 cases hd:rf ms with
 |nil=>rw [hd] at h;cases h
 |cons y l'=>
  rw [hd] at h;simp only at h
  cases hA:aT st y.a y.j y.g with
  |none=>rw [hA] at h;cases h
  |some B=>
   rw [hA] at h;simp only at h;obtain ⟨h1,h⟩:=aI h;simp only [Option.some.injEq,Prod.mk.injEq] at h;obtain ⟨rfl,rfl,rfl⟩:=h;simp only [Bool.and_eq_true] at h1;obtain ⟨⟨⟨⟨⟨h1,h2⟩,h3⟩,h4⟩,h5⟩,h6⟩:=h1;refine ⟨rfl,hA,h1,Md.iW.1 h2,(Nat.eq_of_beq_eq_true h3).symm,fun z hz => ?_,h5,fun e => ?_⟩
   ·rcases List.mem_cons.1 hz with rfl | hz
    ·exact ⟨rfl,rfl,rfl,rfl,rfl⟩
    ·have:=List.all_eq_true.1 h4 z hz;simp only [Bool.and_eq_true] at this;obtain ⟨⟨⟨⟨q1,q2⟩,q3⟩,q4⟩,q5⟩:=this;exact ⟨Nat.eq_of_beq_eq_true q1,Nat.eq_of_beq_eq_true q2,Nat.eq_of_beq_eq_true q3,Nat.eq_of_beq_eq_true q4,Nat.eq_of_beq_eq_true q5⟩
   ·rw [←e,Nat.beq_refl] at h6
    cases h6
theorem Jl:(r:RT)→(x:aw r)→(k:Nat)→{p:(q:RT)×List (aw q)}→kZ r x k=some p→k<r.width
 |.nil,_,_,_,h=>by simp [kZ] at h
 |.cons t r,x,0,_,_=>by simp [RT.width]
 |.cons t r,x,k+1,p,h=>by
  have h':kZ r x.2 k=some p:=by cases t<;>exact h
  have:=Jl r x.2 k h';simp [RT.width];omega
noncomputable def Cz.split (c:Cz) (a j i P:Nat) (gg:Nat→List Nat) (l:List Dr) (PM:Nat→Loc):Cz:=
 {
  bx:=c.bx,lc:=fun s k=>if s=P then PM k else c.lc s k,
  own:=fun k=>have:=Classical.propDecidable (c.own k=some (.sp a j)∧∃y q,y∈l∧gg k=i::y.k::q);if c.own k=some (.sp a j)∧∃y q,y∈l∧gg k=i::y.k::q then some (.sp P (posOf ((gg k).getD 1 0) 0 l)) else c.own k,rs:=c.rs }
theorem Cz.oe {c:Cz} {a j i P:Nat} {gg:Nat→List Nat} {l:List Dr} {PM:Nat→Loc} {k:Nat} (h:¬(c.own k=some (.sp a j)∧∃y q,y∈l∧gg k=i::y.k::q)):(c.split a j i P gg l PM).own k=c.own k:=by
 unfold Cz.split;simp only;rw [if_neg h]
theorem Cz.Jm {c:Cz} {a j i P:Nat} {gg:Nat→List Nat} {l:List Dr} {PM:Nat→Loc} (hi:Hl (l.map (·.k))=true) {k n:Nat} {y:Dr} {q:List Nat} (h:c.own k=some (.sp a j)) (hy:l[n]?=some y) (hg:gg k=i::y.k::q):(c.split a j i P gg l PM).own k=some (.sp P n):=by
 unfold Cz.split;simp only;rw [if_pos ⟨h,y,q,List.mem_of_getElem? hy,hg⟩,hg];have:(i::y.k::q).getD 1 0=y.k:=rfl;rw [this,Jk hi hy]
theorem Cz.wQ {c:Cz} {a j i P:Nat} {gg:Nat→List Nat} {l:List Dr} {PM:Nat→Loc} {k:Nat}:(c.split a j i P gg l PM).ok k↔c.ok k:=by
 unfold Cz.ok
 by_cases h:c.own k=some (.sp a j)∧∃y q,y∈l∧gg k=i::y.k::q
 ·have h0:=h.1;unfold Cz.split;simp only;rw [if_pos h,h0];simp
 ·rw [Cz.oe h]
theorem Cz.K2 {c:Cz} {a j i P:Nat} {gg:Nat→List Nat} {l:List Dr} {PM:Nat→Loc} {k:Nat} {lb:Lb} (h:(c.split a j i P gg l PM).own k=some lb):c.own k=some lb∨(c.own k=some (.sp a j)∧∃n,lb=.sp P n):=by
 by_cases h1:c.own k=some (.sp a j)∧∃y q,y∈l∧gg k=i::y.k::q
 ·unfold Cz.split at h;simp only at h;rw [if_pos h1] at h;exact .inr ⟨h1.1,_,(Option.some.inj h).symm⟩
 ·rw [Cz.oe h1] at h;exact .inl h
theorem wR {st:St} {x:Dr} {A:fT} {l:List Dr} (eQ:x.a≠st.length-1) (s:Nat):nth (eJ st x A l) s=if s=st.length-1 then (nth st s).map (fun z=>{ z with aN:=l.map (fun y=>some y.arr),ag:=z.ag+1,ep:=z.ep+1 }) else
  (if s=x.a then (nth st s).map (fun z=>{ z with aN:=lZ (fun _=>some { A with md:=.ho x.i }) z.aN x.j,ep:=z.ep+1 }) else nth st s):=by
 unfold eJ bj;rw [dj,dj]
 by_cases e:s=st.length-1
 ·rw [if_pos e,if_pos e,if_neg (show ¬(s=x.a) from fun e'=>eQ (e'.symm.trans e))]
 ·rw [if_neg e,if_neg e]
end Go.TM
namespace Go.TM
open Go Go.RowKit
structure UX (c c1:Cz) (st:St) (w:World) (x:Dr) (A:fT) (l:List Dr) (gg:Nat→List Nat) (b o cap:Nat):Prop where
 lc:c.lc x.a x.j=.at b o cap
 lc1:c1.lc x.a x.j=.at b o cap
 own:c.own b=some (.sp x.a x.j)
 g0:gg b=[]
 rows:∀(i:Nat) z,A.xs[i]?=some z→eZ w (fun p k=>c.own k=some (.sp x.a x.j)∧gg k=p) A.r [i] 0 b (o+i*A.r.width) z
 stay:∀k,c.own k=some (.sp x.a x.j)→(∀y∈l,∀q,gg k≠x.i::y.k::q)→c1.own k=some (.sp x.a x.j)
 out:∀n y,l[n]?=some y→∃v,w.cell? ⟨b,o+x.i*A.r.width+y.k,none⟩=some v∧v.oneCell'=true∧fm (c1.lc (st.length-1) n) y.q.width 0 y.ys.length v∧y.k<A.r.width
 len:x.i<A.xs.length
theorem wQ {w0:World} {mu:Mu} {c:Cz} {st:St} {a:Act} {w:World} (h:Rel w0 mu c st a w) {ms:List (Pm×V)} {x:Dr} {A:fT} {l:List Dr} (hs:mi st ms=some (x,A,l)) (wO:∀m∈ms,∃v,eD c st w m.2 v) :
  ∃(c1:Cz) (gg:Nat→List Nat) (b o cap:Nat),Rel w0 mu c1 (eJ st x A l) a w∧Fw c st w c1 (eJ st x A l) w∧UX c c1 st w x A l gg b o cap∧
   ∀m∈ms,∀v,eD c st w m.2 v→eD c1 (eJ st x A l) w (SW (st.length-1) (nY st (st.length-1)+1) l m).2 v:=by
 obtain ⟨hl,hA,ec,sF,hep,pF,N8,eQ⟩:=AA hs;have pH:∀y∈l,∃v,iI c st w y.cv v:=by
  intro y hy;rw [hl] at hy;obtain ⟨m,hm,e | ⟨cs,e,hc⟩⟩:=Ef hy
  ·obtain ⟨v,hv⟩:=wO m hm;rw [e] at hv;exact ⟨v,hv⟩
  ·obtain ⟨v,hv⟩:=wO m hm;rw [e] at hv;obtain ⟨vs,rfl,hL⟩:=hv;obtain ⟨k,hk⟩:=List.mem_iff_getElem?.1 hc;have bQ:k<vs.toList.length:=by rw [←hL.1];exact (List.getElem?_eq_some_iff.1 hk).1
   exact ⟨_,hL.2 k _ _ hk (List.getElem?_eq_getElem bQ)⟩
 have abG:∀y∈l,∀v,iI c st w y.cv v→∃(gg:Nat→List Nat) (b o cap:Nat),c.lc x.a x.j=.at b o cap∧A.md=.dp∧gg b=[]∧w.cell? ⟨b,o+x.i*A.r.width+y.k,none⟩=some v∧
   (∀(i:Nat) z,A.xs[i]?=some z→eZ w (fun p k=>c.own k=some (.sp x.a x.j)∧gg k=p) A.r [i] 0 b (o+i*A.r.width) z)∧(∃z,A.xs[x.i]?=some z∧kZ A.r z y.k=some ⟨y.q,y.ys⟩):=by
  intro y hy v hv;obtain ⟨e1,e2,e3,e4,e5⟩:=pF y hy;obtain ⟨ya,yj,yg,ye,yi,yk,yq,yys⟩:=y;simp only at e1 e2 e3 e4 e5;subst e1 e2 e3 e4 e5;obtain ⟨gg,b,o,cap,h1,h2,h3,h4,h5,h6,_⟩:=D6 hv hA hep (h.tC hA);exact ⟨gg,b,o,cap,h1,h2,h3,h4,h5,h6⟩
 have ek:=h.tC hA;obtain ⟨y0,hy0⟩:∃y,y∈l:=by
  cases PL:l with
  |cons y _=>exact ⟨y,List.mem_cons_self⟩
  |nil=>
   rw [PL] at hl;unfold mi at hs;rw [←hl] at hs
   cases hs
 obtain ⟨v0,hv0⟩:=pH y0 hy0;obtain ⟨gg,b,o,cap,gH,_,Kv,_,vR,Jn⟩:=abG y0 hy0 v0 hv0;have QI:∀y∈l,∀v,iI c st w y.cv v→w.cell? ⟨b,o+x.i*A.r.width+y.k,none⟩=some v∧(∃z,A.xs[x.i]?=some z∧kZ A.r z y.k=some ⟨y.q,y.ys⟩):=by
  intro y hy v hv;obtain ⟨_,b',o',DM,h1,_,_,h4,_,h6⟩:=abG y hy v hv;rw [gH] at h1;injection h1 with e1 e2 e3;subst e1 e2 e3;exact ⟨h4,h6⟩
 have QJ:∀n:Nat,∃lc:Loc,∀y,l[n]?=some y→∃v,w.cell? ⟨b,o+x.i*A.r.width+y.k,none⟩=some v∧v.oneCell'=true∧fm lc y.q.width 0 y.ys.length v∧
   ((lc=.nil∧y.ys=[])∨∃b' off DM,lc=.at b' off DM∧(c.own b'=some (.sp x.a x.j)∧gg b'=[x.i,y.k])∧y.ys.length≤DM∧(∃cur ty,w.heap[b']?=some (.cells cur ty (0,0))∧off+DM*y.q.width≤cur.size)∧
    ∀(i:Nat) z,y.ys[i]?=some z→eZ w (fun p k=>c.own k=some (.sp x.a x.j)∧gg k=p) y.q ([x.i,y.k]++[i]) 0 b' (off+i*y.q.width) z):=by
  intro n
  cases hn:l[n]? with
  |none=>exact ⟨.nil,fun y hy=>by cases hy⟩
  |some y=>
   have hy:=List.mem_of_getElem? hn;obtain ⟨v,hv⟩:=pH y hy;obtain ⟨h4,z,N9,Oa⟩:=QI y hy v hv;obtain ⟨v',q1,q2⟩:=BH A.r [x.i] 0 _ z y.k (vR x.i z N9) Oa;rw [h4] at q1
   cases q1
   obtain ⟨lc,r1,r2,r3⟩:=(wD _ _ _ _ _ _).1 q2;refine ⟨lc,fun y' PK => ?_⟩
   cases PK
   exact ⟨v,h4,r2,r1,by simpa using r3⟩
 obtain ⟨PM,Wj⟩:=Classical.axiomOfChoice QJ;have hb:c.own b=some (.sp x.a x.j):=by
  unfold bF at ek;rw [gH] at ek;have:=ek.1
  rwa [ec] at this
 let P:=st.length-1
 let c1:=c.split x.a x.j x.i P gg l PM
 have AB:=wR (A:=A) (l:=l) eQ;obtain ⟨sla,UY,ha2,ha3⟩:=ba hA;have Wk:P<st.length:=by
  have:=Hn UY;show st.length-1<st.length;omega
 obtain ⟨slP,hP⟩:∃s,nth st P=some s:=⟨st[P],by rw [gd];exact List.getElem?_eq_getElem Wk⟩;have hgP:nY st P=slP.ag:=by unfold nY;rw [hP]
 have Gn:∀s k,s≠P→c1.lc s k=c.lc s k:=fun s k e=>by show (if s=P then _ else _)=_;rw [if_neg e]
 have QK:∀k,c1.lc P k=PM k:=fun k=>by show (if P=P then _ else _)=_;rw [if_pos rfl]
 have BK:∀s,cO st s≤cO (eJ st x A l) s∧fF st s=fF (eJ st x A l) s∧j5 st s≤j5 (eJ st x A l) s∧(s=P∨s=x.a→nth st s≠none→j5 (eJ st x A l) s≠j5 st s):=by
  intro s;unfold cO fF j5;rw [AB]
  by_cases e:s=st.length-1
  ·rw [if_pos e]
   cases nth st s with
   |none=>simp
   |some z=>refine ⟨by simp,rfl,by simp,fun _ _=>by simp⟩
  ·rw [if_neg e]
   by_cases e2:s=x.a
   ·rw [if_pos e2]
    cases nth st s with
    |none=>simp
    |some z=>refine ⟨by simp,rfl,by simp,fun _ _=>by simp⟩
   ·rw [if_neg e2];exact ⟨Nat.le_refl _,rfl,Nat.le_refl _,fun h=>absurd h (by rintro (h | h);exact e h;exact e2 h)⟩
 have abJ:cO (eJ st x A l) P=slP.ag+1:=by
  unfold cO;rw [AB,if_pos rfl,hP];rfl
 have fH:Fw c st w c1 (eJ st x A l) w:={
  stays:=⟨Nat.le_refl _,fun _ _ _=>rfl,fun _ _ h=>Cz.wQ.2 h⟩
  refs:=fun a' j' g' A2 hg Iy=>by
   obtain ⟨sl,k1,k2,k3⟩:=ba Iy;rw [AB] at k1
   by_cases e:a'=st.length-1
   ·rw [if_pos e] at k1;obtain ⟨z,hz,rfl⟩:=Option.map_eq_some_iff.1 k1;unfold cO at hg;rw [hz] at hg;simp only at k2 hg;omega
   ·rw [if_neg e] at k1
    by_cases e2:a'=x.a
    ·rw [if_pos e2] at k1;obtain ⟨z,hz,rfl⟩:=Option.map_eq_some_iff.1 k1;have abK:=(BK a').2.2.2 (.inr e2) (by rw [hz];simp);simp only at k2 k3;rw [dj] at k3
     by_cases e3:j'=x.j
     ·rw [if_pos e3] at k3;subst e2 e3;rw [UY] at hz
      cases hz
      rw [ha3] at k3;simp only [Option.map_some,Option.some.injEq] at k3;subst k3;exact ⟨A,oM UY k2 ha3,rfl,rfl,Gn _ _ e,fun he=>absurd he abK⟩
     ·rw [if_neg e3] at k3;exact ⟨A2,oM hz k2 k3,rfl,rfl,Gn _ _ e,fun he=>absurd he abK⟩
    ·rw [if_neg e2] at k1;exact ⟨A2,oM k1 k2 k3,rfl,rfl,Gn _ _ e,fun _=>⟨rfl,fun _ _ _ _=>rfl⟩⟩
  Bw:=fun b' g' lQ _ mj=>by
   refine ⟨⟨lQ,?_⟩,rfl⟩;unfold cW at mj ⊢;rw [AB] at mj
   by_cases e:b'=st.length-1
   ·rw [if_pos e] at mj
    cases hz:nth st b' with
    |none=>rw [hz] at mj;cases mj
    |some z=>rw [hz] at mj;exact mj
   ·rw [if_neg e] at mj
    by_cases e2:b'=x.a
    ·rw [if_pos e2] at mj
     cases hz:nth st b' with
     |none=>rw [hz] at mj;cases mj
     |some z=>rw [hz] at mj;exact mj
    ·rw [if_neg e2] at mj;exact mj
  gA:=fun s=>(BK s).1
  gB:=fun s=>Nat.le_of_eq (BK s).2.1
  gE:=fun s=>(BK s).2.2.1 }
 have abL:∀t,bI (eJ st x A l) t=bI st t:=by
  intro t;unfold bI;rw [AB]
  by_cases e:t=st.length-1
  ·rw [if_pos e];cases nth st t<;>rfl
  ·rw [if_neg e]
   by_cases e2:t=x.a
   ·rw [if_pos e2];cases nth st t<;>rfl
   ·rw [if_neg e2]
 have other:∀s k B,bF c w s k B→¬(s=x.a∧k=x.j)→s≠P→bF c1 w s k B:=by
  intro s k B hB hn hsP;refine hB.go fH.stays (Gn s k hsP) (fun kb hk=>⟨rfl,Cz.oe ?_⟩)
  rintro ⟨h1,_⟩
  rw [hk] at h1;injection h1 with h1;injection h1 with e1 e2;exact hn ⟨e1,e2⟩
 have ahk:Rel w0 mu c1 (eJ st x A l) a w:={
  dO:=fun t=>by rw [abL];exact fH.j6 (h.dO t)
  boxes:=fun s sl cs hs mj=>by
   have:∃CE,nth st s=some CE∧CE.box=some cs:=by
    rw [AB] at hs
    by_cases e:s=st.length-1
    ·rw [if_pos e] at hs;obtain ⟨z,hz,rfl⟩:=Option.map_eq_some_iff.1 hs;exact ⟨z,hz,mj⟩
    ·rw [if_neg e] at hs
     by_cases e2:s=x.a
     ·rw [if_pos e2] at hs;obtain ⟨z,hz,rfl⟩:=Option.map_eq_some_iff.1 hs;exact ⟨z,hz,mj⟩
     ·rw [if_neg e2] at hs;exact ⟨sl,hs,mj⟩
   obtain ⟨CE,gn,VW⟩:=this;have zV:=h.boxes s CE cs gn VW;refine zV.go fH rfl (Cz.oe ?_) rfl
   rintro ⟨h1,_⟩
   rw [zV.1] at h1
   cases h1
  aN:=fun s k sl B hs hB=>by
   rw [AB] at hs
   by_cases e:s=st.length-1
   ·rw [if_pos e] at hs;obtain ⟨z,hz,rfl⟩:=Option.map_eq_some_iff.1 hs;simp only at hB;rw [gd,List.getElem?_map] at hB
    cases hy:l[k]? with
    |none=>rw [hy] at hB;cases hB
    |some y=>
     rw [hy] at hB;simp only [Option.map_some,Option.some.injEq] at hB;subst hB;obtain ⟨v,r1,r2,r3,r4⟩:=Wj k y hy;have es:s=P:=e;rw [es];unfold bF;rw [QK];rcases r4 with ⟨e4,e5⟩ | ⟨b',off,DM,e4,⟨q1,q2⟩,q3,q4,q5⟩
     ·rw [e4];exact e5
     ·rw [e4];refine ⟨Cz.Jm N8 q1 hy (q:=[]) q2,q3,q4,?_⟩;unfold bh;show match (bif y.q.dM then Md.dp else Md.sh) with | .sh=>_ | .dp=>_ | .ho _=>_ | .lz=>_
      cases Ob:y.q.dM with
      |false=>exact fun i z hz=>eZ.IL _ _ _ _ _ z Ob (q5 i z hz)
      |true=>
       refine ⟨fun k=>(gg k).drop 2,by show List.drop 2 (gg b')=[];rw [q2];rfl,fun i z hz=>eZ.go _ _ [i] (fun q kb hk=>⟨rfl,Cz.Jm N8 hk.1 hy (q:=[i]++q) (by rw [hk.2];simp),by show List.drop 2 (gg kb)=_;rw [hk.2];simp⟩) _ _ _ z rfl (q5 i z hz)⟩
   ·rw [if_neg e] at hs
    by_cases e2:s=x.a
    ·rw [if_pos e2] at hs;obtain ⟨z,hz,rfl⟩:=Option.map_eq_some_iff.1 hs;simp only at hB;rw [dj] at hB
     by_cases e3:k=x.j
     ·rw [if_pos e3] at hB;subst e2 e3;rw [UY] at hz
      cases hz
      rw [ha3] at hB;simp only [Option.map_some,Option.some.injEq] at hB;subst hB;unfold bF at ek ⊢;rw [Gn _ _ e,gH];rw [gH] at ek;obtain ⟨h0,h2,h3,_⟩:=ek;refine ⟨?_,h2,h3,fun _=>⟨gg,Kv,fun i' z hq hz=>eZ.go _ [i'] [i'] (fun q kb hk=>⟨rfl,(Cz.oe (by
       rintro ⟨_,y,q',_,hg⟩
       rw [hk.2] at hg;injection hg with e' _;exact hq e')).trans hk.1,hk.2⟩) _ _ _ z rfl (vR i' z hz)⟩⟩
      show match A.own with | true=>_ | false=>_
      rw [ec];show c1.own b=_;rw [Cz.oe]
      ·exact hb
      ·rintro ⟨_,y,q,_,hq⟩
       rw [Kv] at hq
       cases hq
     ·rw [if_neg e3] at hB;exact other s k B (h.aN s k z B hz hB) (fun hh=>e3 hh.2) e
    ·rw [if_neg e2] at hs;exact other s k B (h.aN s k sl B hs hB) (fun hh=>e2 hh.1) e
  owned:=fun kb lb hk=>by
   rcases Cz.K2 hk with h1 | ⟨h1,n,rfl⟩
   ·exact h.owned kb lb h1
   ·obtain ⟨g1,g2⟩:=h.owned kb _ h1;exact ⟨g1,.inr (g2.resolve_left (by simp))⟩
  free:=fun kb bQ hk=>h.free kb bQ (Cz.wQ.1 hk)
  kept:=h.kept
  old:=h.old
  plain:=h.plain
  cR:=fun p hp=>fH.cR (h.cR p hp)
  lS:=h.lS }
 refine ⟨c1,gg,b,o,cap,ahk,fH,⟨gH,by rw [Gn _ _ eQ];exact gH,hb,Kv,vR,fun k hk hq => ?_,fun n y hn => ?_,?_⟩,?_⟩
 ·show c1.own k=_;rw [Cz.oe]
  ·exact hk
  ·rintro ⟨_,y,q,hy,hq'⟩
   exact hq y hy q hq'
 ·obtain ⟨v,r1,r2,r3,_⟩:=Wj n y hn;refine ⟨v,r1,r2,by rw [QK];exact r3,?_⟩;obtain ⟨v',nW⟩:=pH y (List.mem_of_getElem? hn);obtain ⟨_,z,_,Oa⟩:=QI y (List.mem_of_getElem? hn) v' nW;exact Jl _ _ _ Oa
 ·obtain ⟨z,N9,_⟩:=Jn;exact (List.getElem?_eq_some_iff.1 N9).1
 ·-- IF values KB Z4 kI
  have cell:∀cv v,iI c st w cv v→(∀a j g e i k q ys,cv=.o8 a j g e i k q ys→(⟨a,j,g,e,i,k,q,ys⟩:Dr)∈l)→iI c1 (eJ st x A l) w (VV (st.length-1) (nY st (st.length-1)+1) l cv) v:=by
   intro cv v hv hm
   cases cv with
   |o8 a j g e i k q ys=>
    have hy:=hm _ _ _ _ _ _ _ _ rfl;obtain ⟨n,hn⟩:=List.mem_iff_getElem?.1 hy;have QL:posOf k 0 l=n:=Jk N8 hn;show iI c1 (eJ st x A l) w (.ref P (posOf k 0 l) (nY st P+1) .full) v;rw [QL];obtain ⟨v',r1,r2,r3,_⟩:=Wj n _ hn;have hvv:=(QI _ hy v hv).1;rw [r1] at hvv
    cases hvv
    refine ⟨r2,by rw [abJ,hgP];exact Nat.le_refl _,fun B hB => ?_⟩;obtain ⟨sl,k1,k2,k3⟩:=ba hB;rw [AB,if_pos rfl] at k1;obtain ⟨z,hz,rfl⟩:=Option.map_eq_some_iff.1 k1;simp only at k3;rw [gd,List.getElem?_map,hn] at k3;simp only [Option.map_some,Option.some.injEq] at k3;subst k3;rw [QK];exact r3
   |_=>exact fH.NA hv
  intro m hm v hv;obtain ⟨pm,mv⟩:=m
  cases pm with
  |io=>cases mv with
   |one cv=>
    exact cell cv v hv (fun a j g e i k q ys e1=>by rw [hl];subst e1;exact Gm hm)
   |_=>exact fH.j6 hv
  |bL=>cases mv with
   |agg cs=>
    obtain ⟨vs,rfl,hL⟩:=hv;refine ⟨vs,rfl,by rw [List.length_map];exact hL.1,fun i y u hy hu => ?_⟩;rw [List.getElem?_map] at hy;obtain ⟨y0,hy0,rfl⟩:=Option.map_eq_some_iff.1 hy;exact cell y0 u (hL.2 i y0 u hy0 hu) (fun a j g e i k q ys e1=>by rw [hl];subst e1;exact CM (List.mem_of_getElem? hy0) hm)
   |_=>exact fH.j6 hv
  |_=>cases mv<;>exact fH.j6 hv
end Go.TM
namespace Go.TM
open Go Go.RowKit
theorem Rel.clear {w0:World} {mu:Mu} {c:Cz} {st:St} {a:Act} {w:World} (h:Rel w0 mu c st a w) (P:Nat):Rel w0 mu c (lZ (fun s=>{ s with aN:=[],ep:=s.ep+1 }) st P) a w∧Fw c st w c (lZ (fun s=>{ s with aN:=[],ep:=s.ep+1 }) st P) w:=by
 have hn:∀s,nth (lZ (fun s=>{ s with aN:=[],ep:=s.ep+1 }) st P) s=if s=P then (nth st s).map (fun z=>{ z with aN:=[],ep:=z.ep+1 }) else nth st s:=fun s=>dj _ _ _ _
 generalize lZ (fun s=>{ s with aN:=[],ep:=s.ep+1 }) st P=aY at hn ⊢;have fH:Fw c st w c aY w:={
  stays:=ij.refl w _
  refs:=fun a' j' g' A' _ ek=>by
   obtain ⟨sl,k1,k2,k3⟩:=ba ek;rw [hn] at k1
   by_cases e:a'=P
   ·rw [if_pos e] at k1;obtain ⟨z,hz,rfl⟩:=Option.map_eq_some_iff.1 k1;simp [nth] at k3
   ·rw [if_neg e] at k1;exact ⟨A',oM k1 k2 k3,rfl,rfl,rfl,fun _=>⟨rfl,fun _ _ _ _=>rfl⟩⟩
  Bw:=fun b' g' lQ _ mj=>by
   refine ⟨⟨lQ,?_⟩,rfl⟩;unfold cW at mj ⊢;rw [hn] at mj
   by_cases e:b'=P
   ·rw [if_pos e] at mj
    cases hz:nth st b' with
    |none=>rw [hz] at mj;cases mj
    |some z=>rw [hz] at mj;exact mj
   ·rw [if_neg e] at mj;exact mj
  gA:=fun s=>by
   unfold cO;rw [hn]
   by_cases e:s=P
   ·rw [if_pos e];cases nth st s<;>simp
   ·rw [if_neg e];exact Nat.le_refl _
  gB:=fun s=>by
   unfold fF;rw [hn]
   by_cases e:s=P
   ·rw [if_pos e];cases nth st s<;>simp
   ·rw [if_neg e];exact Nat.le_refl _
  gE:=fun s=>by
   unfold j5;rw [hn]
   by_cases e:s=P
   ·rw [if_pos e];cases nth st s<;>simp
   ·rw [if_neg e];exact Nat.le_refl _ }
 refine ⟨{
  dO:=fun t=>by
   have:bI aY t=bI st t:=by
    unfold bI;rw [hn]
    by_cases e:t=P
    ·rw [if_pos e];cases nth st t<;>rfl
    ·rw [if_neg e]
   rw [this];exact fH.j6 (h.dO t)
  boxes:=fun s sl cs hs hb=>by
   rw [hn] at hs
   by_cases e:s=P
   ·rw [if_pos e] at hs;obtain ⟨z,hz,rfl⟩:=Option.map_eq_some_iff.1 hs;exact (h.boxes s z cs hz hb).go fH rfl rfl rfl
   ·rw [if_neg e] at hs;exact (h.boxes s sl cs hs hb).go fH rfl rfl rfl
  aN:=fun s j sl A hs hA=>by
   rw [hn] at hs
   by_cases e:s=P
   ·rw [if_pos e] at hs;obtain ⟨z,hz,rfl⟩:=Option.map_eq_some_iff.1 hs;simp [nth] at hA
   ·rw [if_neg e] at hs;exact h.aN s j sl A hs hA
  owned:=h.owned
  free:=h.free
  kept:=h.kept
  old:=h.old
  plain:=h.plain
  cR:=fun p hp=>fH.cR (h.cR p hp)
  lS:=h.lS },fH⟩
theorem Rel.swap {w0:World} {mu:Mu} {c:Cz} {st:St} {a:Act} {w:World} (h:Rel w0 mu c st a w) {s j g:Nat} {H B:fT} (hH:aT st s j g=some H) (hw:B.r.width=H.r.width) (hn:B.xs.length=H.xs.length) (hB:bF c w s j B) :
  Rel w0 mu (c.dP id c.bx c.lc) (bj st s j (some B)) a w:=by
 have fH:Fw c st w (c.dP id c.bx c.lc) (bj st s j (some B)) w:=BJ (.inl hH) (fun _ e=>by cases e;exact ⟨hw,hn⟩) id;have hX:kW (fun _=>False) w0 mu c st a w:=⟨h.dO,fun s sl cs _=>h.boxes s sl cs,fun s j sl A _=>h.aN s j sl A,h.owned,h.free,h.kept,h.old,h.plain,h.cR,h.lS⟩;refine (hX.dP rE fH (fun t=>by rw [wN];exact fH.j6 (h.dO t)) (fun k sl cs _ hs hb => ?_) (fun k i sl A _ hs hA => ?_)).rel
 ·obtain ⟨f,hf,hk⟩:=gY st s j (some B) k;rw [hk] at hs
  cases hx:nth st k with
  |none=>rw [hx] at hs;simp at hs
  |some x=>
   rw [hx] at hs;simp at hs;subst hs;rw [(hf x).2.1] at hb;exact (h.boxes k x cs hx hb).dP rE fH rfl
 ·obtain ⟨f,hf,hk⟩:=gY st s j (some B) k;rw [hk] at hs
  cases hx:nth st k with
  |none=>rw [hx] at hs;simp at hs
  |some x=>
   rw [hx] at hs;simp at hs;subst hs;rw [(hf x).2.2.2.2.1 i] at hA
   by_cases e:k=s∧i=j
   ·rw [if_pos e] at hA;obtain ⟨rfl,rfl⟩:=e
    cases hq:nth x.aN i with
    |none=>simp [hq] at hA
    |some A1=>
     simp only [hq,Option.map_some,Option.some.injEq] at hA;subst hA;exact hB.dP rE rfl
   ·rw [if_neg e] at hA;exact (h.aN k i x A hx hA).dP rE rfl
def iZ (w:World) (P:List Nat→Nat→Prop) (K:Nat→Prop):(r:RT)→(p:List Nat)→(k:Nat)→List Value→aw r→Prop
 |.nil,_,_,vs,_=>vs=[]
 |.cons t r,p,k,vs,x=>∃v l,vs=v::l∧(¬K k→dG w P t (p++[k]) v x.1)∧iZ w P K r p (k+1) l x.2
theorem iZ.of {w w':World} {P P':List Nat→Nat→Prop} {K:Nat→Prop}:(r:RT)→(p:List Nat)→(hP:∀k q b,¬K k→P (p++[k]++q) b→w'.heap[b]?=w.heap[b]?∧P' (p++[k]++q) b)→(k:Nat)→(vs:List Value)→(x:aw r)→bW w P r p k vs x→iZ w' P' K r p k vs x
 |.nil,_,_,_,_,_,h=>h
 |.cons t r,p,hP,k,vs,x,h=>by
  obtain ⟨v,l,e,h1,h2⟩:=h;exact ⟨v,l,e,fun hk=>dG.go t (p++[k]) (p++[k]) (fun q b hb=>hP k q b hk hb) v x.1 h1,iZ.of r p hP (k+1) l x.2 h2⟩
theorem iZ.full {w:World} {P:List Nat→Nat→Prop} {K:Nat→Prop} (hK:∀k,¬K k):(r:RT)→(p:List Nat)→(k:Nat)→(vs:List Value)→(x:aw r)→iZ w P K r p k vs x→bW w P r p k vs x
 |.nil,_,_,_,_,h=>h
 |.cons t r,p,k,vs,x,h=>by
  obtain ⟨v,l,e,h1,h2⟩:=h;exact ⟨v,l,e,h1 (hK k),iZ.full hK r p (k+1) l x.2 h2⟩
theorem iZ.mono {w:World} {P:List Nat→Nat→Prop} {K K':Nat→Prop}:(r:RT)→(p:List Nat)→(k:Nat)→(hK:∀c,k≤c→K c→K' c)→(vs:List Value)→(x:aw r)→iZ w P K r p k vs x→iZ w P K' r p k vs x
 |.nil,_,_,_,_,_,h=>h
 |.cons t r,p,k,hK,vs,x,h=>by
  obtain ⟨v,l,e,h1,h2⟩:=h;exact ⟨v,l,e,fun hk=>h1 fun h=>hk (hK k (Nat.le_refl _) h),iZ.mono r p (k+1) (fun c hc=>hK c (by omega)) l x.2 h2⟩
theorem iZ.set {w:World} {P:List Nat→Nat→Prop} {q:RT} {ys:List (aw q)} {v:Value}:{K:Nat→Prop}→(r:RT)→(p:List Nat)→(k0:Nat)→(vs:List Value)→(x:aw r)→(col:Nat)→{z:aw r}→iZ w P K r p k0 vs x→nb r x col q ys=some z→vs[col]?=some v→dG w P (.sl q) (p++[k0+col]) v ys→
  iZ w P (fun c=>K c∧c≠k0+col) r p k0 vs z
 |_,.nil,_,_,_,_,_,_,_,h,_,_=>by simp [nb] at h
 |K,.cons t r,p,k0,vs,x,0,z,hx,h,hv,hd=>by
  obtain ⟨v',l,rfl,h1,h2⟩:=hx
  cases t with
  |sl q'=>
   have h:(bw q' ys).map (fun zs=>((zs,x.2):aw (.cons (.sl q') r)))=some z:=h;obtain ⟨zs,Wl,hz⟩:=Option.map_eq_some_iff.1 h;obtain ⟨e,rfl⟩:=bd Wl;subst e;subst hz;simp only [List.getElem?_cons_zero,Option.some.injEq] at hv;subst hv;exact ⟨v',l,rfl,fun _=>hd,iZ.mono r p (k0+1) (fun c hc hK=>⟨hK,by omega⟩) l x.2 h2⟩
  |int _=>simp [nb] at h
  |bool=>simp [nb] at h
  |str=>simp [nb] at h
 |K,.cons t r,p,k0,vs,x,col+1,z,hx,h,hv,hd=>by
  obtain ⟨v',l,rfl,h1,h2⟩:=hx;have h':(nb r x.2 col q ys).map (fun z=>((x.1,z):aw (.cons t r)))=some z:=by cases t<;>exact h
  obtain ⟨z',hz',hz⟩:=Option.map_eq_some_iff.1 h';subst hz;have:=iZ.set r p (k0+1) l x.2 col h2 hz' (by simpa using hv) (by rw [show k0+1+col=k0+(col+1) by omega];exact hd);refine ⟨v',l,rfl,fun hk=>h1 fun h=>hk ⟨h,by omega⟩,?_⟩
  rwa [show k0+1+col=k0+(col+1) by omega] at this
theorem K3 {w:World} {P:List Nat→Nat→Prop} {p:List Nat} {v:Value} {r s:RT} {xs:List (aw r)} {ys:List (aw s)} (h:bw s xs=some ys) (hd:dG w P (.sl r) p v xs):dG w P (.sl s) p v ys:=by
 obtain ⟨e,rfl⟩:=bd h;subst e;exact hd
theorem Eg {st:St} {P g:Nat} {r:RT} {w:World} {PP:List Nat→Nat→Prop} {p:List Nat} {vs:List Value}:(n:Nat)→(l:List Dr)→(z:aw r)→{z':aw r}→uo st P g r n l z=some z'→
  (∀m y,l[m]?=some y→∀B,aT st P (n+m) g=some B→B.own=true→B.md=y.q.md→B.r=y.q→∃v,vs[y.k]?=some v∧dG w PP (.sl B.r) (p++[y.k]) v B.xs)→
  iZ w PP (fun c=>∃y∈l,y.k=c) r p 0 vs z→bW w PP r p 0 vs z'
 |n,[],z,z',h,_,hx=>by
  simp only [uo,Option.some.injEq] at h;subst h;exact iZ.full (by simp) _ _ _ _ _ hx
 |n,y::l,z,z',h,hy,hx=>by
  unfold uo at h
  cases hB:aT st P n g with
  |none=>rw [hB] at h;cases h
  |some B=>
   rw [hB] at h;obtain ⟨h1,h2⟩:=aI h;clear h;rw [Bool.and_eq_true] at h1
   cases hc:bw y.q B.xs with
   |none=>rw [hc] at h2;cases h2
   |some ys=>
    rw [hc] at h2;simp only at h2
    cases hr:nb r z y.k y.q ys with
    |none=>rw [hr] at h2;cases h2
    |some z1=>
     rw [hr] at h2;simp only at h2;obtain ⟨e,he⟩:=bd hc;obtain ⟨v,hv,hd⟩:=hy 0 y rfl B hB h1.1 (Md.iW.1 h1.2) e;have K4:dG w PP (.sl y.q) (p++[0+y.k]) v ys:=by
      rw [Nat.zero_add];exact K3 hc hd
     refine Eg (n+1) l z1 h2 (fun m y' hm B' Ds=>hy (m+1) y' (by simpa using hm) B' (by rw [show n+(m+1)=n+1+m by omega];exact Ds)) ?_;have:=iZ.set _ _ _ _ _ _ hx hr hv K4;refine iZ.mono _ _ _ (fun c _ hc => ?_) _ _ this;obtain ⟨⟨y',PK,e'⟩,eQ⟩:=hc;rcases List.mem_cons.1 PK with rfl | PK
     ·exact absurd e'.symm (by omega)
     ·exact ⟨y',PK,e'⟩
theorem QM {w0:World} {mu:Mu} {c c1 c5:Cz} {st fB aY:St} {a2:Act} {w w':World} {x:Dr} {A:fT} {l:List Dr} {gg:Nat→List Nat} {b o cap:Nat} (eQ:x.a≠st.length-1) (F6:aT st x.a x.j x.g=some A) (ec:A.own=true) (sF:A.md=.dp)
  (hA:bF c w x.a x.j A) (N8:Hl (l.map (·.k))=true) (Fp:UX c c1 st w x A l gg b o cap) (h5:Rel w0 mu c5 fB a2 w') (fH:Fw c1 (eJ st x A l) w c5 fB w')
  (Kw:∀k,c1.own k=some (.sp x.a x.j)→w'.heap[k]?=w.heap[k]?∧c5.own k=some (.sp x.a x.j))
  (hv:(KJ (st.length-1) (nY st (st.length-1)+1) x A l fB).val=some aY):∃c6,Rel w0 mu c6 aY a2 w':=by
 unfold KJ at hv
 cases hH:aT fB x.a x.j x.g with
 |none=>rw [hH] at hv;cases hv
 |some H=>
  rw [hH] at hv;simp only at hv;obtain ⟨_,hv⟩:=cY hv
  cases hz:A.xs[x.i]? with
  |none=>rw [hz] at hv;cases hv
  |some z=>
   rw [hz] at hv;have hv:(match uo fB (st.length-1) (nY st (st.length-1)+1) A.r 0 l z with
    |some z'=>N.done (bj (lZ (fun s=>{ s with aN:=[],ep:=s.ep+1 }) fB (st.length-1)) x.a x.j (some (A.put (A.xs.set x.i z'))))
    |none=>.fail).val=some aY:=hv
   cases hj:uo fB (st.length-1) (nY st (st.length-1)+1) A.r 0 l z with
   |none=>rw [hj] at hv;cases hv
   |some z'=>
    rw [hj] at hv;simp only [N.val,Option.some.injEq] at hv;subst hv;obtain ⟨P,hP⟩:∃P,P=st.length-1:=⟨_,rfl⟩;rw [←hP] at eQ hj ⊢;have IU:=eQ;rw [hP] at IU;have AB:=wR (A:=A) (l:=l) IU;rw [←hP] at AB;obtain ⟨sla,UY,ha2,ha3⟩:=ba F6;have hgA:x.g≤cO (eJ st x A l) x.a:=by
     unfold cO;rw [AB,if_neg eQ,if_pos rfl,UY];show x.g≤sla.ag;omega
    have hfa:∀B0,aT (eJ st x A l) x.a x.j x.g=some B0→B0.r.width=A.r.width∧B0.xs.length=A.xs.length:=by
     intro B0 hB0;obtain ⟨sl,k1,k2,k3⟩:=ba hB0;rw [AB,if_neg eQ,if_pos rfl,UY] at k1;simp only [Option.map_some,Option.some.injEq] at k1;subst k1;simp only at k3;rw [dj,if_pos rfl,ha3] at k3;simp only [Option.map_some,Option.some.injEq] at k3;subst k3;exact ⟨rfl,rfl⟩
    obtain ⟨B0,q1,q2,q3,q4,_⟩:=fH.refs x.a x.j x.g H hgA hH;obtain ⟨e1,e2⟩:=hfa B0 q1;have ahl:c5.lc x.a x.j=.at b o cap:=q4.trans Fp.lc1;have hPs:∀n B,aT fB P n (nY st P+1)=some B→∃y,l[n]?=some y∧B.xs.length=y.ys.length∧B.r.width=y.q.width∧c5.lc P n=c1.lc P n:=by
     intro n B hB;have hgP:nY st P+1≤cO (eJ st x A l) P:=by
      unfold cO;rw [AB,if_pos rfl];have Wk:P<st.length:=by have:=Hn UY;omega
      have:nth st P=some st[P]:=by rw [gd];exact List.getElem?_eq_getElem Wk
      rw [this];unfold nY;rw [this];exact Nat.le_refl _
     obtain ⟨B1,r1,r2,r3,r4,_⟩:=fH.refs P n _ B hgP hB;obtain ⟨sl,k1,k2,k3⟩:=ba r1;rw [AB,if_pos rfl] at k1;obtain ⟨zz,QN,rfl⟩:=Option.map_eq_some_iff.1 k1;simp only at k3;rw [gd,List.getElem?_map] at k3
     cases hy:l[n]? with
     |none=>rw [hy] at k3;cases k3
     |some y=>
      rw [hy] at k3;simp only [Option.map_some,Option.some.injEq] at k3;subst k3;exact ⟨y,rfl,r3,r2,r4⟩
    have hG:∃G:Nat→Nat→List Nat,∀n B y,aT fB P n (nY st P+1)=some B→B.own=true→B.md=B.r.md→l[n]?=some y→∀v,v.oneCell'=true→fm (c5.lc P n) B.r.width 0 B.xs.length v→
      ∀(PP:List Nat→Nat→Prop) (p:List Nat),(∀k,c5.own k=some (.sp P n)→PP (p++G n k) k)→dG w' PP (.sl B.r) p v B.xs:=by
     have:∀n,∃G:Nat→List Nat,∀B y,aT fB P n (nY st P+1)=some B→B.own=true→B.md=B.r.md→l[n]?=some y→∀v,v.oneCell'=true→fm (c5.lc P n) B.r.width 0 B.xs.length v→
      ∀(PP:List Nat→Nat→Prop) (p:List Nat),(∀k,c5.own k=some (.sp P n)→PP (p++G k) k)→dG w' PP (.sl B.r) p v B.xs:=by
      intro n
      by_cases e:∃B,aT fB P n (nY st P+1)=some B∧B.own=true∧B.md=B.r.md
      ·obtain ⟨B,hB,ho,hm⟩:=e
       by_cases e2:∃v:Value,v.oneCell'=true∧fm (c5.lc P n) B.r.width 0 B.xs.length v
       ·obtain ⟨v,yn,K0⟩:=e2;obtain ⟨g,hg⟩:=Qa (h5.tC hB) ho hm;refine ⟨g,fun B' y Ds _ _ _ v' h1 h2 PP p hP' => ?_⟩;rw [hB] at Ds
        cases Ds
        exact hg v' h1 h2 PP p hP'
       ·refine ⟨fun _=>[],fun B' y Ds _ _ _ v' h1 h2 => ?_⟩;rw [hB] at Ds
        cases Ds
        exact absurd ⟨v',h1,h2⟩ e2
      ·exact ⟨fun _=>[],fun B' y Ds h1 h2=>absurd ⟨B',Ds,h1,h2⟩ e⟩
     obtain ⟨G,hG⟩:=Classical.axiomOfChoice this;exact ⟨G,fun n=>hG n⟩
    obtain ⟨G,hG⟩:=hG;have Ti:∃g6:Nat→List Nat,(∀k,c5.own k=some (.sp x.a x.j)→g6 k=gg k)∧∀n y k,l[n]?=some y→c5.own k=some (.sp P n)→g6 k=[x.i]++[y.k]++G n k:=by
     have key:∀k,∃q:List Nat,(c5.own k=some (.sp x.a x.j)→q=gg k)∧∀n y,l[n]?=some y→c5.own k=some (.sp P n)→q=[x.i]++[y.k]++G n k:=by
      intro k
      by_cases e:∃n y,l[n]?=some y∧c5.own k=some (.sp P n)
      ·obtain ⟨n,y,f1,f2⟩:=e;refine ⟨[x.i]++[y.k]++G n k,fun h => ?_,fun n' y' h1 h2 => ?_⟩
       ·rw [f2] at h;injection h with h;injection h with h _;exact absurd h.symm eQ
       ·rw [f2] at h2;injection h2 with h2;injection h2 with _ h2;subst h2;rw [f1] at h1
        cases h1
        rfl
      ·exact ⟨gg k,fun _=>rfl,fun n y h1 h2=>absurd ⟨n,y,h1,h2⟩ e⟩
     obtain ⟨g6,h⟩:=Classical.axiomOfChoice key;exact ⟨g6,fun k=>(h k).1,fun n y k=>(h k).2 n y⟩
    obtain ⟨g6,Wm,ahm⟩:=Ti;obtain ⟨l9,an9⟩:=h5.clear P;have Qe:∀n∈(List.range l.length).map (fun n=>(P,n)),∀sl B,nth (lZ (fun s=>{ s with aN:=[],ep:=s.ep+1 }) fB P) n.1=some sl→nth sl.aN n.2≠some (some B):=by
     intro n hn sl B hs;obtain ⟨m,_,rfl⟩:=List.mem_map.1 hn;rw [dj,if_pos rfl] at hs;obtain ⟨zz,_,rfl⟩:=Option.map_eq_some_iff.1 hs;simp [nth]
    have hrl:=l9.gX Qe x.a x.j;have x6:∀n y,l[n]?=some y→(P,n)∈(List.range l.length).map (fun n=>(P,n)):=fun n y hn=>List.mem_map.2 ⟨n,List.mem_range.2 (List.getElem?_eq_some_iff.1 hn).1,rfl⟩
    have QO:∀k,c5.own k=some (.sp x.a x.j)→(c5.gX ((List.range l.length).map (fun n=>(P,n))) (.sp x.a x.j)).own k=some (.sp x.a x.j):=by
     intro k hk;rw [Cz.mM]
     ·exact hk
     ·intro n hn e;obtain ⟨m,_,rfl⟩:=List.mem_map.1 hn;rw [hk] at e;injection e with e;injection e with e _;exact eQ e
    have hH':aT (lZ (fun s=>{ s with aN:=[],ep:=s.ep+1 }) fB P) x.a x.j x.g=some H:=by
     obtain ⟨sl,k1,k2,k3⟩:=ba hH;exact oM (by rw [dj,if_neg eQ];exact k1) k2 k3
    have K5:c1.own b=some (.sp x.a x.j):=Fp.stay b Fp.own (fun y _ q e=>by rw [Fp.g0] at e;cases e);obtain ⟨hbw,hb5⟩:=Kw b K5;have Qd:∀(i:Nat) zz,(A.xs.set x.i z')[i]?=some zz→eZ w' (fun p k=>(c5.gX ((List.range l.length).map (fun n=>(P,n))) (.sp x.a x.j)).own k=some (.sp x.a x.j)∧g6 k=p) A.r [i] 0 b (o+i*A.r.width) zz:=by
     intro i zz QN;rw [List.getElem?_set] at QN
     by_cases e:x.i=i
     ·subst e;rw [if_pos rfl,if_pos Fp.len] at QN
      cases QN
      obtain ⟨vs,r1,r2⟩:=(gp _ _ _ _ _ _).1 (Fp.rows x.i z hz);have wq:=bW.length _ _ _ _ _ r2;refine (gp _ _ _ _ _ _).2 ⟨vs,fun k v hkv=>by rw [World.cell?_of_block (w:=w) hbw];exact r1 k v hkv,?_⟩;refine Eg 0 l z hj (fun m y hm B hB V9 UP hBr => ?_) ?_
      ·rw [Nat.zero_add] at hB;obtain ⟨v,u1,u2,u3,u4⟩:=Fp.out m y hm;obtain ⟨y',f1,f2,f3,f4⟩:=hPs m B hB;rw [hm] at f1
       cases f1
       have hk:y.k<vs.length:=by rw [wq];exact u4
       have hvk:vs[y.k]?=some vs[y.k]:=List.getElem?_eq_getElem hk;have:=r1 y.k _ hvk;rw [u1] at this;refine ⟨v,by rw [hvk,←Option.some.inj this],?_⟩;refine hG m B y hB V9 (by rw [UP,hBr]) hm v u2 (by rw [f4,f2,f3,hP];exact u3) _ _ (fun k hk=>⟨Cz.ma (x6 m y hm) hk,?_⟩);exact ahm m y k hm hk
      ·refine iZ.of _ [x.i] (fun k q kb hK hk => ?_) 0 vs z r2;have pz:=Fp.stay kb hk.1 (fun y hy q' e=>hK ⟨y,hy,by
        have h2:=hk.2;rw [e] at h2;simp at h2;exact h2.1⟩)
       obtain ⟨f1,f2⟩:=Kw kb pz;exact ⟨f1,QO kb f2,by rw [Wm kb f2];exact hk.2⟩
     ·rw [if_neg e] at QN;refine eZ.go _ [i] [i] (fun q kb hk => ?_) _ _ _ zz hbw (Fp.rows i zz QN);have pz:=Fp.stay kb hk.1 (fun y _ q' e'=>e (by
       have h2:=hk.2;rw [e'] at h2;simp at h2;exact h2.1))
      obtain ⟨f1,f2⟩:=Kw kb pz;exact ⟨f1,QO kb f2,by rw [Wm kb f2];exact hk.2⟩
    refine ⟨_,hrl.swap hH' (B:=A.put (A.xs.set x.i z')) (by rw [q2,e1];rfl) (by rw [q3,e2];show (A.xs.set x.i z').length=_;simp) ?_⟩;unfold bF at hA ⊢;show match c5.lc x.a x.j with | .nil=>_ | .at b off cap=>_
    rw [ahl];rw [Fp.lc] at hA;obtain ⟨_,g2,⟨cur,ty,g3,g4⟩,_⟩:=hA;refine ⟨?_,by show (A.xs.set x.i z').length≤cap;simpa using g2,⟨cur,ty,by rw [hbw];exact g3,g4⟩,?_⟩
    ·show match A.own with | true=>_ | false=>_
     rw [ec];exact QO b hb5
    ·unfold bh;show match A.md with | .sh=>_ | .dp=>_ | .ho _=>_ | .lz=>_
     rw [sF];exact ⟨g6,by rw [Wm b hb5];exact Fp.g0,Qd⟩
theorem MP {α β:Type} (f:α→β):(l:List α)→(n:Nat)→nth (l.map f) n=(nth l n).map f
 | [],_=>rfl
 |_::_,0=>rfl
 |_::l,n+1=>MP f l n
theorem pc (st:St) (s:Nat):nth (uq st) s=(nth st s).map (UN st):=MP _ _ _
theorem Gp (st:St) (a j g:Nat):aT (uq st) a j g=aT st a j g:=by
 unfold aT;rw [pc]
 cases nth st a<;>rfl
theorem Gq (st:St) (a:Nat):cO (uq st) a=cO st a:=by
 unfold cO;rw [pc]
 cases nth st a<;>rfl
theorem Gr (st:St) (a:Nat):fF (uq st) a=fF st a:=by
 unfold fF;rw [pc]
 cases nth st a<;>rfl
theorem QP (st:St) (a:Nat):j5 (uq st) a=j5 st a:=by
 unfold j5;rw [pc]
 cases nth st a<;>rfl
theorem Gs (st:St) (b g:Nat):cW (uq st) b g=(cW st b g).map fun cs=>cs.map (Cu st):=by
 unfold cW;rw [pc]
 cases nth st b with
 |none=>rfl
 |some x=>
  show (bif Nat.beq x.bg g then x.box.map _ else none)=_;simp only
  cases Nat.beq x.bg g<;>rfl
theorem Fw.uq (c:Cz) (st:St) (w:World):Fw c st w c (uq st) w where
 stays:=ij.refl w _
 refs a j g A' _ ek:=by
  rw [Gp] at ek;exact ⟨A',ek,rfl,rfl,rfl,fun _=>⟨rfl,fun _ _ _ _=>rfl⟩⟩
 Bw b g lQ _ h:=by
  rw [Gs] at h;obtain ⟨cs,h1,_⟩:=Option.map_eq_some_iff.1 h;exact ⟨⟨cs,h1⟩,rfl⟩
 gA a:=by rw [Gq];exact Nat.le_refl _
 gB a:=by rw [Gr];exact Nat.le_refl _
 gE a:=by rw [QP];exact Nat.le_refl _
theorem Jo {w0:World} {mu:Mu} {c:Cz} {st:St} {a:Act} {w:World} (h:Rel w0 mu c st a w) {x:CV} {v:Value} (hr:iI c st w x v):iI c st w (Cu st x) v:=by
 unfold Cu
 split
 ·split
  ·rename_i A hA
   cases ho:A.own with
   |true=>exact hr
   |false=>
    cases hm:A.md.is .sh with
    |false=>exact hr
    |true=>
     have hm:=Md.iW.1 hm;exact Aa (h.tC hA) (hr.2.2 A hA) (ok:=c.ok) (fun b h=>h) (fun b q=>by
      rcases q with q | q
      ·rw [ho] at q;cases q
      ·rw [hm] at q;cases q) (by rw [hm];rfl)
  ·exact hr
 ·exact hr
theorem Jp {w0:World} {mu:Mu} {c:Cz} {st:St} {a:Act} {w:World} (h:Rel w0 mu c st a w) {cs:List CV} {vs:List Value} (hr:fo c st w cs vs):fo c (uq st) w (cs.map (Cu st)) vs:=by
 refine ⟨by rw [List.length_map];exact hr.1,fun i x v h1 h2 => ?_⟩;rw [List.getElem?_map] at h1;obtain ⟨y,hy,rfl⟩:=Option.map_eq_some_iff.1 h1;exact (Fw.uq c st w).NA (Jo h (hr.2 i y v hy h2))
theorem QQ {w0:World} {mu:Mu} {c:Cz} {st:St} {a:Act} {w:World} (h:Rel w0 mu c st a w) {x:V} {v:Value} (hr:eD c st w x v):eD c (uq st) w (P2 st x) v:=by
 cases x with
 |one x=>exact (Fw.uq c st w).NA (Jo h hr)
 |agg cs=>
  obtain ⟨vs,h1,h2⟩:=hr;exact ⟨vs,h1,Jp h h2⟩
 |m9 us=>exact (Fw.uq c st w).j6 hr
theorem Rel.uq {w0:World} {mu:Mu} {c:Cz} {st:St} {a:Act} {w:World} (h:Rel w0 mu c st a w):Rel w0 mu c (uq st) a w where
 dO t:=by
  have e:bI (Go.TM.uq st) t=P2 st (bI st t):=by
   unfold bI;rw [pc]
   cases nth st t<;>rfl
  rw [e];exact QQ h (h.dO t)
 boxes s sl cs hs hb:=by
  rw [pc] at hs;obtain ⟨x,hx,rfl⟩:=Option.map_eq_some_iff.1 hs;have hb:x.box.map (fun cs=>cs.map (Cu st))=some cs:=hb;obtain ⟨Hk,hc,rfl⟩:=Option.map_eq_some_iff.1 hb;obtain ⟨k1,vs,ty,k2,k3⟩:=h.boxes s x Hk hx hc;exact ⟨k1,vs,ty,k2,Jp h k3⟩
 aN s j sl A hs hb:=by
  rw [pc] at hs;obtain ⟨x,hx,rfl⟩:=Option.map_eq_some_iff.1 hs;exact h.aN s j x A hx hb
 owned:=h.owned
 free:=h.free
 kept:=h.kept
 old:=h.old
 plain:=h.plain
 lS:=h.lS
 cR p hp:=by
  have h0:=h.cR p hp
  cases p with
  |arr a j g W n l=>
   refine ⟨by rw [Gq];exact h0.1,fun A hA => ?_⟩;rw [Gp] at hA;exact h0.2 A hA
  |box b g mK=>
   refine ⟨by rw [Gr];exact h0.1,fun cs ud => ?_⟩;rw [Gs] at ud;obtain ⟨Hk,hc,_⟩:=Option.map_eq_some_iff.1 ud;exact h0.2 Hk hc
theorem QR {w0:World} {mu:Mu} {c:Cz} {st:St} {a:Act} {w:World} (h:Rel w0 mu c st a w) (s j:Nat):∃c',Rel w0 mu c' (Mx st s j) a w∧Fw c st w c' (Mx st s j) w:=by
 unfold Mx
 cases hs:nth st s with
 |none=>exact ⟨c,h,Fw.refl c st w⟩
 |some sl=>
  simp only
  cases hj:nth sl.aN j with
  |none=>exact ⟨c,h,Fw.refl c st w⟩
  |some o=>cases o with
   |none=>exact ⟨c,h,Fw.refl c st w⟩
   |some A=>
    simp only
    cases hb:A.own&&A.md.is .dp with
    |false=>exact ⟨c,h,Fw.refl c st w⟩
    |true=>
     rw [Bool.and_eq_true] at hb;obtain ⟨h1,h2⟩:=h.soft hs hj hb.1 (Md.iW.1 hb.2);exact ⟨_,h1,h2⟩
theorem AD {w0:World} {mu:Mu} {a:Act} {w:World}:(l:List (Nat×Nat))→{c:Cz}→{st:St}→Rel w0 mu c st a w→∃c',Rel w0 mu c' (DK st l) a w∧Fw c st w c' (DK st l) w
 | [],c,st,h=>⟨c,h,Fw.refl c st w⟩
 |(s,j)::l,c,st,h=>by
  obtain ⟨c1,h1,h2⟩:=QR h s j;obtain ⟨c2,h3,h4⟩:=AD l h1;exact ⟨c2,h3,h2.trans h4⟩
theorem QS {w0:World} {mu:Mu} {c:Cz} {st:St} {a:Act} {w:World} (ms:List (Pm×V)) (h:Rel w0 mu c st a w):∃c',Rel w0 mu c' (Cv ms st) a w∧∀x v,eD c st w x v→eD c' (Cv ms st) w x v:=by
 unfold Cv;obtain ⟨c1,h1,h2⟩:=AD (DL st ms) h
 cases ms.any (fun m=>m.1.P3)
 ·exact ⟨c1,h1,fun _ _ hr=>h2.j6 hr⟩
 ·exact ⟨c1,h1.uq,fun _ _ hr=>(Fw.uq c1 _ w).j6 (h2.j6 hr)⟩
theorem Jq {P:Program} {S:kV} (hS:od P S) {w0:World} {mu:Mu} {c:Cz} {st aY:St} {a:Act} {w:World} (h:Rel w0 mu c st a w) {o:Oper} {f:FuncId} {vals:Array Value} {xs:List V}
  (qz:∀fn,P.funcs[f]?=some fn→fn.name ≠ "runtime.NumGoroutine" → fn.body≠none→(execOp a.eval o).run P w=.ok (.enter f vals) w)
  (F8:xs.length=vals.toList.length) (abN:∀(k:Nat) (m:V) (x:Value),xs[k]?=some m→vals.toList[k]?=some x→eD c st w m x)
  (hv:(F1 S st o.dst f xs).val=some aY) (hd:∀k,o.dst=some k→k<a.tmps.size):wK P w0 mu aY o a w (qS S st f xs):=by
 unfold qS;unfold F1 at hv
 cases hf:S f with
 |none=>simp [hf,N.val] at hv
 |some p=>
  obtain ⟨m1,m2,m3,zY⟩:=p;simp only [hf] at hv ⊢;obtain ⟨N6,fn,QT,ahn,abO⟩:=hS f m1 m2 m3 zY hf;have qz:=qz fn QT (by simpa using ahn) (by intro e;rw [e] at abO;cases abO);have Wn:=N5 m1 m2 m3 xs;generalize vO m1 m2 m3 xs=ms at hv Wn ⊢;have hlen:ms.length=vals.toList.length:=by
   have:=congrArg List.length Wn;rw [List.length_map] at this;omega
  have wO:∀(k:Nat) (m:Pm×V) (x:Value),ms[k]?=some m→vals.toList[k]?=some x→eD c st w m.2 x:=by
   intro k m x hm hx;have h1:(ms.map (·.2))[k]?=some m.2:=by rw [List.getElem?_map,hm];rfl
   rw [Wn] at h1;exact abN k m.2 x h1 hx
  have hR:=h.freeze (DJ st ms);have AE:∀(k:Nat) (m:Pm×V) (x:Value),ms[k]?=some m→vals.toList[k]?=some x→eD (c.drop (DJ st ms)) (freeze st (DJ st ms)) w m.2 x:=fun k m x h1 h2=>(Fw.freeze w _ c st).j6 (wO k m x h1 h2)
  generalize freeze st (DJ st ms)=abP at hv hR AE ⊢;generalize c.drop (DJ st ms)=c0 at hR AE;obtain ⟨c0',hR,hth⟩:=QS ms hR;have AE:∀(k:Nat) (m:Pm×V) (x:Value),ms[k]?=some m→vals.toList[k]?=some x→eD c0' (Cv ms abP) w m.2 x:=fun k m x h1 h2=>hth _ _ (AE k m x h1 h2)
  clear hth;generalize c0'=c0 at hR AE;generalize Cv ms abP=wu at hv hR AE ⊢;unfold UM at hv
  cases ru:mi wu ms with
  |none=>
   rw [ru] at hv;exact Ji hR qz N6 hlen AE hv hd (fun h=>h) (fun c5 fB a2 w' hr _ _ HE=>by
    simp only [N.val,Option.some.injEq] at HE;subst HE;exact ⟨c5,hr⟩)
  |some p=>
   obtain ⟨x,A,l⟩:=p;rw [ru] at hv;simp only at hv ⊢;have abQ:∀m∈ms,∃v,eD c0 wu w m.2 v:=by
    intro m hm;obtain ⟨k,hk⟩:=List.mem_iff_getElem?.1 hm;have bQ:k<vals.toList.length:=by rw [←hlen];exact (List.getElem?_eq_some_iff.1 hk).1
    exact ⟨_,AE k m _ hk (List.getElem?_eq_getElem bQ)⟩
   obtain ⟨c1,gg,b,oo,cap,hR1,hF1,Fp,Jr⟩:=wQ hR ru abQ;obtain ⟨hl,hA,ec,sF,hep,pF,N8,eQ⟩:=AA ru;refine Ji hR1 qz N6 (by rw [List.length_map];exact hlen) (fun k m v h1 h2 => ?_) hv hd (fun h=>by cases h) (fun c5 fB a2 w' hr hf Kw HE => ?_)
   ·rw [List.getElem?_map] at h1;obtain ⟨m0,hm0,rfl⟩:=Option.map_eq_some_iff.1 h1;exact Jr m0 (List.mem_of_getElem? hm0) v (AE k m0 v hm0 h2)
   ·refine QM eQ hA ec sF (hR.tC hA) N8 Fp hr hf (fun k hk => ?_) HE;have Oc:¬wP (eJ wu x A l) (x.a,x.j):=by
     rintro ⟨g',B,hB,UP⟩
     obtain ⟨sl,k1,k2,k3⟩:=ba hB;rw [wR eQ,if_neg eQ,if_pos rfl] at k1;obtain ⟨zz,QN,rfl⟩:=Option.map_eq_some_iff.1 k1;simp only at k3;rw [dj,if_pos rfl] at k3
     cases hq:nth zz.aN x.j with
     |none=>rw [hq] at k3;cases k3
     |some B2=>
      rw [hq] at k3;simp only [Option.map_some,Option.some.injEq] at k3;subst k3
      cases UP
    cases hex:iY (eJ wu x A l) (ms.map (SW (wu.length-1) (nY wu (wu.length-1)+1) l)) with
    |none=>
     unfold IG at hv;rw [hex] at hv
     cases hv
    |some pp=>
     obtain ⟨da,u,q,r⟩:=pp;obtain ⟨l1,l2⟩:=CL _ hex;exact Kw da u q r hex k _ rfl (fun hm=>Oc (l1 _ _ hm)) (fun p hp e=>by
      injection e with e1 e2;exact Oc (by rw [e1,e2];exact l2 p hp)) hk
theorem QU {P:Program} {S:kV} (hS:od P S) {w0:World} {mu:Mu} {c:Cz} {st aY:St} {a:Act} {w:World} (h:Rel w0 mu c st a w) {o:Oper} {f:FuncId} {args:Array Operand} {KX:Array TypeId} (ho:o.op=.call { callee:=.value (.func f),args:=args,argTypes:=KX })
  (hv:(F1 S st o.dst f (args.toList.map (l6 st))).val=some aY) (hd:∀k,o.dst=some k→k<a.tmps.size):wK P w0 mu aY o a w (kindOk S st o .one):=by
 have hq0:kindOk S st o .one=qS S st f (args.toList.map (l6 st)):=by unfold kindOk;simp only [ho]
 rw [hq0];refine Jq (vals:=args.map a.eval) hS h (fun fn QT q2 q3 => ?_) (by simp) (fun k m x hm hx => ?_) hv hd
 ·simp only [execOp,ho];simp [resolve,Act.eval,Deferred.ofValue,invoke,callFunc,Sem.run_bind,QT,q2,q3]
 ·rw [List.getElem?_map] at hm;rw [Array.toList_map,List.getElem?_map] at hx
  cases hy:args.toList[k]? with
  |none=>rw [hy] at hm;simp at hm
  |some y=>
   rw [hy] at hm hx;simp only [Option.map_some,Option.some.injEq] at hm hx;rw [←hm,←hx];exact bu h y
theorem QV {P:Program} {S:kV} (hS:od P S) {w0:World} {mu:Mu} {c:Cz} {st aY:St} {a:Act} {w:World} (h:Rel w0 mu c st a w) {o:Oper} {t g:Nat} {rs:RT} {xs:List (aw rs)} {x:aw rs} {args:Array Operand} {KX:Array TypeId} (ho:o.op=.call { callee:=.value (.tmp t),args:=args,argTypes:=KX })
  (ht:bI st t=.one (.fn g rs xs)) (NH:xs[0]?=some x) (hv:(F1 S st o.dst g (args.toList.map (l6 st)++vP rs x)).val=some aY) (hd:∀k,o.dst=some k→k<a.tmps.size):wK P w0 mu aY o a w (kindOk S st o .one):=by
 have hq0:kindOk S st o .one=qS S st g (args.toList.map (l6 st)++vP rs x):=by unfold kindOk;simp only [ho,ht,NH]
 rw [hq0];have N6:=h.dO t;rw [ht] at N6;obtain ⟨wA,e,abS⟩:=N6;obtain ⟨k1,k2⟩:=I2 (st:=st) rs wA.toList x (abS x NH);refine Jq (vals:=args.map a.eval++wA) hS h (fun fn QT q2 q3 => ?_) (by simp [k1]) (fun k m y hm hy => ?_) hv hd
 ·simp only [execOp,ho];simp [resolve,e,Deferred.ofValue,invoke,callFunc,Sem.run_bind,QT,q2,q3]
 ·rw [Array.toList_append] at hy
  by_cases hk:k<args.size
  ·rw [List.getElem?_append_left (by simpa using hk)] at hm hy;rw [List.getElem?_map] at hm;rw [Array.toList_map,List.getElem?_map] at hy
   cases hz:args.toList[k]? with
   |none=>rw [hz] at hm;simp at hm
   |some z=>
    rw [hz] at hm hy;simp only [Option.map_some,Option.some.injEq] at hm hy;rw [←hm,←hy];exact bu h z
  ·rw [List.getElem?_append_right (by simp;omega)] at hm hy;simp only [List.length_map,Array.length_toList,Array.toList_map] at hm hy;exact k2 _ m y hm hy
theorem K6 {P:Program} {T:kK} (hT:fG P T) {S:kV} {w0:World} {mu:Mu} {c:Cz} {st aY:St} {a:Act} {w:World} (h:Rel w0 mu c st a w) {o:Oper} (ru:IH st o=true)
  (hv:(Ku T S st o).val=some aY) (hd:∀k,o.dst=some k→k<a.tmps.size):wK P w0 mu aY o a w (kindOk S st o .one):=by
 unfold IH at ru
 cases ho:o.op with
 |call cl=>
  obtain ⟨callee,args,KX⟩:=cl;rw [ho] at ru
  cases callee with
  |builtin b=>
   cases b with
   |append=>
    unfold Ku at hv;simp only [ho] at hv ru
    split at hv
    ·contradiction
    ·rename_i x y t u _ ha ht;obtain ⟨We,yn⟩:=cY hv;have We:=Nat.eq_of_beq_eq_true We;subst We;have ha:args = #[x,y]:=by rw [←Array.toArray_toList (xs:=args),ha]
     have ht:KX = #[t,t]:=by rw [←Array.toArray_toList (xs:=KX),ht]
     subst ha ht;have ru:(mi st [(.io,l6 st x)]).isSome=true:=ru;obtain ⟨p,hp⟩:=Option.isSome_iff_exists.1 ru;obtain ⟨z,A,l⟩:=p;unfold Hm at yn;rw [hp] at yn;obtain ⟨c1,gg,b,oo,cap,hR1,hF1,Fp,Jr⟩:=wQ h hp (fun m hm=>by
      rw [List.mem_singleton] at hm;subst hm;exact ⟨_,bu h x⟩)
     have hx:=Jr _ (List.mem_singleton.2 rfl) _ (bu h x);have hy:=hF1.j6 (bu h y);obtain ⟨v,w',h1,c',h2⟩:=DX (ty:=o.type) hT hR1 hx hy yn hd;exact rC (c':=c') (by simp only [execOp,ho];simp [resolve,invoke,builtin,Sem.run_bind,h1]) h2 (fun hk=>by simp [kindOk,ho] at hk)
    all_goals (first | contradiction | (simp [N.val] at hv))
   |_=>simp at ru
  |_=>simp at ru
 |_=>rw [ho] at ru;simp at ru
theorem AF {P:Program} {T:kK} (hT:fG P T) (hE:yQ P T) {S:kV} (hS:od P S) (w0:World) (mu:Mu) (n:Nat):uE P T S w0 mu n:=by
 intro c st aY a w o h hn hd hv;have K4:∀k,o.dst=some k→k<a.tmps.size:=fun k hk=>by rw [hn];exact hd k hk
 by_cases hf:Op.KW o.op=true
 ·cases ho:o.op with
  |call cl=>
   obtain ⟨callee,args,KX⟩:=cl
   cases callee with
   |value x=>
    cases x with
    |func f=>
     unfold Ku at hv;simp only [ho] at hv;exact QU hS h ho hv K4
    |tmp t=>
     unfold Ku at hv;simp only [ho] at hv
     split at hv
     ·rename_i g rs xs ht
      cases NH:xs[0]? with
      |none=>simp [NH,N.val] at hv
      |some x=>
       simp only [NH] at hv;exact QV hS h ho ht NH hv K4
     ·simp [N.val] at hv
    |_=>rw [ho] at hf;simp [Op.KW] at hf
   |_=>rw [ho] at hf;simp [Op.KW] at hf
  |_=>rw [ho] at hf;simp [Op.KW] at hf
 ·cases ru:IH st o with
  |false=>exact Wd hT hE h (by simpa using hf) ru hv K4
  |true=>exact K6 hT h ru hv K4
end Go.TM
namespace Go.TM
open Go Go.RowKit
inductive OP where
 |int (k:IntKind)
 |bool
 |str
 |own (r:RT) (d:Md:=.sh)
 |shr (r:RT)
 |lC (r:RT)
 |fn (g:Nat) (rs:RT)
inductive AP where
 |val (agg:Bool) (ps:List OP)
 |io (r:RT) (d:Md:=.sh)
 |box (Fu:Bool) (ps:List OP)
 |bL (ps:List OP)
def OP.ty:OP→Ty
 |.int k=>.int k
 |.bool=>.bool
 |.str=>.str
 |.own r _=>.sl r
 |.shr r=>.sl r
 |.lC r=>.sl r
 |.fn _ rs=>.sl rs
def OP.nf:OP→Bool
 |.own _ _=>true
 |_=>false
def lR:List OP→RT→RT
 | [],t=>t
 |p::ps,t=>.cons p.ty (lR ps t)
def AP.rt:AP→RT→RT
 |.val _ ps,t=>lR ps t
 |.io r _,t=>.cons (.sl r) t
 |.box _ ps,t=>lR ps t
 |.bL ps,t=>lR ps t
def aK:List (Option AP)→RT
 | []=>.nil
 |none::l=>aK l
 |some p::l=>p.rt (aK l)
def OP.ov:(p:OP)→den p.ty→OV
 |.int k,n=>.int k n
 |.bool,b=>.bool b
 |.str,s=>.str s
 |.own r d,xs=>.own { r:=r,own:=true,xs:=xs,md:=d }
 |.shr r,xs=>.shr r xs
 |.lC r,xs=>.lC r xs
 |.fn g rs,xs=>.fn g rs xs
def dU:(ps:List OP)→(t:RT)→aw (lR ps t)→List OV×aw t
 | [],_,x=>([],x)
 |p::ps,t,x=>(p.ov x.1::(dU ps t x.2).1,(dU ps t x.2).2)
def AP.av:(p:AP)→(t:RT)→aw (p.rt t)→AV×aw t
 |.val agg ps,t,x=>(.val agg (dU ps t x).1,(dU ps t x).2)
 |.io r d,_,x=>(.io { r:=r,own:=true,xs:=x.1,md:=d },x.2)
 |.box _ ps,t,x=>(.box (dU ps t x).1,(dU ps t x).2)
 |.bL ps,t,x=>(.bL (dU ps t x).1,(dU ps t x).2)
def ck:(l:List (Option AP))→aw (aK l)→List (Option AV)
 | [],_=>[]
 |none::l,x=>none::ck l x
 |some p::l,x=>some (p.av (aK l) x).1::ck l (p.av (aK l) x).2
def qo:(p:OP)→OV→Option (den p.ty)
 |.int k,.int l n=>if k=l then some n else none
 |.bool,.bool b=>some b
 |.str,.str s=>some s
 |.own r d,.own A=>bif A.md.is d then bw r A.xs else none
 |.own _ _,.dN=>some ([]:List _)
 |.shr r,.shr _ xs=>bw r xs
 |.shr _,.dN=>some ([]:List _)
 |.lC r,.lC _ xs=>bw r xs
 |.fn g rs,.fn f _ xs=>bif Nat.beq f g then bw rs xs else none
 |_,_=>none
def cL:(ps:List OP)→(t:RT)→List OV→aw t→Option (aw (lR ps t))
 | [],_,[],y=>some y
 |p::ps,t,o::os,y=>match qo p o,cL ps t os y with
  |some x,some z=>some (x,z)
  |_,_=>none
 |_,_,_,_=>none
def Gt:(p:AP)→(t:RT)→AV→aw t→Option (aw (p.rt t))
 |.val true ps,t,.val true os,y=>cL ps t os y
 |.val false ps,t,.val false os,y=>cL ps t os y
 |.io r d,_,.io A,y=>bif A.md.is d then (match bw r A.xs with
  |some xs=>some (xs,y)
  |none=>none) else none
 |.box _ ps,t,.box os,y=>cL ps t os y
 |.bL ps,t,.bL os,y=>cL ps t os y
 |_,_,_,_=>none
def dY:(l:List AP)→List AV→Option (aw (aK (l.map some)))
 | [],[]=>some ()
 |p::l,a::as=>match dY l as with
  |some y=>Gt p (aK (l.map some)) a y
  |none=>none
 |_,_=>none
def ld (st:St):(ps:List OP)→(t:RT)→List CV→aw t→Option (aw (lR ps t)×List (Option Lb)×List (Nat×Nat))
 | [],_,[],y=>some (y,[],[])
 |p::ps,t,c::cs,y=>match eS st p.nf c,ld st ps t cs y with
  |some (o,u,r),some (z,us,rs)=>match qo p o with
   |some x=>some ((x,z),u::us,r++rs)
   |none=>none
  |_,_=>none
 |_,_,_,_=>none
def CN (st:St) (k:Nat):(p:AP)→(t:RT)→V→aw t→Option (aw (p.rt t)×List Lb×List (Nat×Nat))
 |.val agg ps,t,v,y=>
  match agg,v with
  |true,.agg cs=>(ld st ps t cs y).map fun q=>(q.1,bR q.2.1,q.2.2)
  |false,.one c=>(ld st ps t [c] y).map fun q=>(q.1,bR q.2.1,q.2.2)
  |_,_=>none
 |.io r d,_,v,y=>
  match v with
  |.one (.ref a j g .full)=>bif Nat.beq a k&&(Nat.beq j 0&&Nat.beq g 1) then ((aT st a j g).bind fun A=>bif A.own&&A.md.is d then (bw r A.xs).map fun xs=>((xs,y),[.sp a j],[]) else none) else none
  |_=>none
 |.box Fu ps,t,v,y=>
  match v with
  |.one (.ptr b g off)=>bif Nat.beq off 0&&(!Fu||(Nat.beq b k&&Nat.beq g 1)) then ((cW st b g).bind fun cs=>(ld st ps t cs y).map fun q=>(q.1,.box b::bR q.2.1,q.2.2)) else none
  |_=>none
 |.bL _,_,_,_=>none
def nm (st:St):(k:Nat)→(l:List (Option AP))→Option (aw (aK l)×List Lb×List (Nat×Nat))
 |_,[]=>some ((),[],[])
 |k,none::l=>nm st (k+1) l
 |k,some p::l=>match nm st (k+1) l with
  |some (y,us,rs)=>match CN st k p (aK l) (bI st k) y with
   |some (x,u,r)=>some (x,u++us,r++rs)
   |none=>none
  |none=>none
def Sl.blank:Sl:={ v:=.one .bad,box:=.none,bg:=1,aN:=[],ag:=1 }
def dq (k:Nat):Option AV→Sl
 |none=>Sl.blank
 |some (.bL os)=>{ v:=.agg (bc k 1 0 os),box:=none,bg:=1,aN:=bl os,ag:=1 }
 |some (.val true os)=>{ v:=.agg (bc k 1 0 os),box:=none,bg:=1,aN:=bl os,ag:=1 }
 |some (.val false os)=>{ v:=match bc k 1 0 os with | [c]=>.one c | _=>.one .bad,box:=none,bg:=1,aN:=bl os,ag:=1 }
 |some (.io A)=>{ v:=.one (.ref k 0 1 .full),box:=none,bg:=1,aN:=[some A],ag:=1 }
 |some (.box os)=>{ v:=.one (.ptr k 1 0),box:=some (bc k 1 0 os),bg:=1,aN:=bl os,ag:=1 }
def nZ:(k:Nat)→List (Option AV)→St
 |_,[]=>[]
 |k,a::l=>dq k a::nZ (k+1) l
theorem Gu:(l:List (Option AV))→(k i:Nat)→nth (nZ k l) i=(l[i]?).map (dq (k+i))
 | [],_,_=>by simp [nZ]
 |a::l,k,0=>by simp [nZ,nth]
 |a::l,k,i+1=>by
  simp only [nZ,nth,List.getElem?_cons_succ];rw [Gu l (k+1) i,show k+1+i=k+(i+1) by omega]
theorem Js {c:Cz} {w:World} {f:Nat→Lb} {j:Nat}:(p:OP)→(o:OV)→(x:den p.ty)→qo p o=some x→{os An:List OV}→{vs:List Value}→(∀l,a7 c w f (j+1) os l→a7 c w f (j+1) An l)→a7 c w f j (o::os) vs→a7 c w f j (p.ov x::An) vs
 |.int k,.int l n,x,hx,os,An,vs,rn,h=>by
  have hx:(if k=l then some (n:Int) else none)=some (x:Int):=hx
  by_cases e:k=l
  ·rw [if_pos e] at hx;have hx:n=x:=Option.some.inj hx;obtain ⟨l',h1,h2⟩:=h;exact ⟨l',by rw [h1,e,hx],rn _ h2⟩
  ·rw [if_neg e] at hx
   cases hx
 |.bool,.bool b,x,hx,os,An,vs,rn,h=>by
  have hx:b=x:=Option.some.inj hx;subst hx;obtain ⟨l',h1,h2⟩:=h;exact ⟨l',h1,rn _ h2⟩
 |.str,.str b,x,hx,os,An,vs,rn,h=>by
  have hx:b=x:=Option.some.inj hx;subst hx;obtain ⟨l',h1,h2⟩:=h;exact ⟨l',h1,rn _ h2⟩
 |.own r d,.own A,x,hx,os,An,vs,rn,h=>by
  obtain ⟨v,l',h1,⟨lc,h2⟩,h3⟩:=h;have hx:(bif A.md.is d then bw r A.xs else none)=some x:=hx;obtain ⟨hd,hx⟩:=aI hx;have hd:=Md.iW.1 hd;obtain ⟨e,rfl⟩:=bd hx;obtain ⟨r0,IT,pA,UQ⟩:=A;simp only at e hd;subst e hd;have ho:IT=true:=h2.2.2.1;subst ho;exact ⟨v,l',h1,⟨lc,h2⟩,rn _ h3⟩
 |.own r _,.dN,x,hx,os,An,vs,rn,h=>by
  have hx:([]:List (aw r))=x:=Option.some.inj hx;subst hx;obtain ⟨l',h1,h2⟩:=h;exact ⟨_,l',h1,⟨.nil,rfl,⟨rfl,rfl⟩,rfl,rfl⟩,rn _ h2⟩
 |.shr r,.shr q xs,x,hx,os,An,vs,rn,h=>by
  obtain ⟨v,l',h1,h2,h3⟩:=h;have hx:bw r xs=some x:=hx;obtain ⟨e,rfl⟩:=bd hx;subst e;exact ⟨v,l',h1,h2,rn _ h3⟩
 |.shr r,.dN,x,hx,os,An,vs,rn,h=>by
  have hx:([]:List (aw r))=x:=Option.some.inj hx;subst hx;obtain ⟨l',h1,h2⟩:=h;exact ⟨_,l',h1,(ni _ _ _ _ _).2 (.inl ⟨rfl,rfl⟩),rn _ h2⟩
 |.lC r,.lC q xs,x,hx,os,An,vs,rn,h=>by
  obtain ⟨v,l',h1,h2,h3⟩:=h;have hx:bw r xs=some x:=hx;obtain ⟨e,rfl⟩:=bd hx;subst e;exact ⟨v,l',h1,h2,rn _ h3⟩
 |.fn g r,.fn f q xs,x,hx,os,An,vs,rn,h=>by
  obtain ⟨v,l',h1,h2,h3⟩:=h;have hx:(bif Nat.beq f g then bw r xs else none)=some x:=hx;obtain ⟨hfg,hx⟩:=aI hx;have hfg:=Nat.eq_of_beq_eq_true hfg;subst hfg;obtain ⟨e,rfl⟩:=bd hx;subst e;exact ⟨v,l',h1,h2,rn _ h3⟩
 |.int _,.bool _,_,hx,_,_,_,_,_=>by cases hx
 |.int _,.str _,_,hx,_,_,_,_,_=>by cases hx
 |.int _,.own _,_,hx,_,_,_,_,_=>by cases hx
 |.int _,.shr _ _,_,hx,_,_,_,_,_=>by cases hx
 |.int _,.dN,_,hx,_,_,_,_,_=>by cases hx
 |.int _,.lC _ _,_,hx,_,_,_,_,_=>by cases hx
 |.int _,.fn _ _ _,_,hx,_,_,_,_,_=>by cases hx
 |.bool,.int _ _,_,hx,_,_,_,_,_=>by cases hx
 |.bool,.str _,_,hx,_,_,_,_,_=>by cases hx
 |.bool,.own _,_,hx,_,_,_,_,_=>by cases hx
 |.bool,.shr _ _,_,hx,_,_,_,_,_=>by cases hx
 |.bool,.dN,_,hx,_,_,_,_,_=>by cases hx
 |.bool,.lC _ _,_,hx,_,_,_,_,_=>by cases hx
 |.bool,.fn _ _ _,_,hx,_,_,_,_,_=>by cases hx
 |.str,.int _ _,_,hx,_,_,_,_,_=>by cases hx
 |.str,.bool _,_,hx,_,_,_,_,_=>by cases hx
 |.str,.own _,_,hx,_,_,_,_,_=>by cases hx
 |.str,.shr _ _,_,hx,_,_,_,_,_=>by cases hx
 |.str,.dN,_,hx,_,_,_,_,_=>by cases hx
 |.str,.lC _ _,_,hx,_,_,_,_,_=>by cases hx
 |.str,.fn _ _ _,_,hx,_,_,_,_,_=>by cases hx
 |.own _ _,.int _ _,_,hx,_,_,_,_,_=>by cases hx
 |.own _ _,.bool _,_,hx,_,_,_,_,_=>by cases hx
 |.own _ _,.str _,_,hx,_,_,_,_,_=>by cases hx
 |.own _ _,.shr _ _,_,hx,_,_,_,_,_=>by cases hx
 |.own _ _,.lC _ _,_,hx,_,_,_,_,_=>by cases hx
 |.own _ _,.fn _ _ _,_,hx,_,_,_,_,_=>by cases hx
 |.shr _,.int _ _,_,hx,_,_,_,_,_=>by cases hx
 |.shr _,.bool _,_,hx,_,_,_,_,_=>by cases hx
 |.shr _,.str _,_,hx,_,_,_,_,_=>by cases hx
 |.shr _,.own _,_,hx,_,_,_,_,_=>by cases hx
 |.shr _,.lC _ _,_,hx,_,_,_,_,_=>by cases hx
 |.shr _,.fn _ _ _,_,hx,_,_,_,_,_=>by cases hx
 |.lC _,.int _ _,_,hx,_,_,_,_,_=>by cases hx
 |.lC _,.bool _,_,hx,_,_,_,_,_=>by cases hx
 |.lC _,.str _,_,hx,_,_,_,_,_=>by cases hx
 |.lC _,.own _,_,hx,_,_,_,_,_=>by cases hx
 |.lC _,.shr _ _,_,hx,_,_,_,_,_=>by cases hx
 |.lC _,.dN,_,hx,_,_,_,_,_=>by cases hx
 |.lC _,.fn _ _ _,_,hx,_,_,_,_,_=>by cases hx
 |.fn _ _,.int _ _,_,hx,_,_,_,_,_=>by cases hx
 |.fn _ _,.bool _,_,hx,_,_,_,_,_=>by cases hx
 |.fn _ _,.str _,_,hx,_,_,_,_,_=>by cases hx
 |.fn _ _,.own _,_,hx,_,_,_,_,_=>by cases hx
 |.fn _ _,.shr _ _,_,hx,_,_,_,_,_=>by cases hx
 |.fn _ _,.dN,_,hx,_,_,_,_,_=>by cases hx
 |.fn _ _,.lC _ _,_,hx,_,_,_,_,_=>by cases hx
theorem tM {c:Cz} {w:World} {f:Nat→Lb}:(ps:List OP)→(t:RT)→(os:List OV)→(y:aw t)→{x:aw (lR ps t)}→cL ps t os y=some x→(dU ps t x).2=y∧∀(j:Nat) (vs:List Value),a7 c w f j os vs→a7 c w f j (dU ps t x).1 vs
 | [],t,[],y,x,h=>by
  have h:y=x:=Option.some.inj h;subst h;exact ⟨rfl,fun _ _ h=>h⟩
 | [],_,_::_,_,_,h=>by simp [cL] at h
 |_::_,_,[],_,_,h=>by simp [cL] at h
 |p::ps,t,o::os,y,x,h=>by
  unfold cL at h
  cases h1:qo p o with
  |none=>simp [h1] at h
  |some a=>
   cases h2:cL ps t os y with
   |none=>simp [h1,h2] at h
   |some z=>
    simp only [h1,h2] at h;have h:(a,z)=x:=Option.some.inj h;subst h;obtain ⟨g1,g2⟩:=tM (c:=c) (w:=w) (f:=f) ps t os y h2;exact ⟨g1,fun j vs hh=>Js p o a h1 (fun l=>g2 (j+1) l) hh⟩
theorem a7.QW {c:Cz} {w:World} {f:Nat→Lb}:(os:List OV)→(j:Nat)→(vs:List Value)→a7 c w f j os vs→vs.length=os.length∧∀(k:Nat) (o:OV) (u:Value),os[k]?=some o→vs[k]?=some u→a7 c w f (j+k) [o] [u]
 | [],j,vs,h=>by
  subst h;exact ⟨rfl,fun k o u h=>by simp at h⟩
 |o::os,j,vs,h=>by
  obtain ⟨v,l,rfl,h1,h2⟩:∃v l,vs=v::l∧a7 c w f j [o] [v]∧a7 c w f (j+1) os l:=by
   cases o with
   |int k n=>obtain ⟨l,h1,h2⟩:=h;exact ⟨_,l,h1,⟨[],rfl,rfl⟩,h2⟩
   |bool b=>obtain ⟨l,h1,h2⟩:=h;exact ⟨_,l,h1,⟨[],rfl,rfl⟩,h2⟩
   |str b=>obtain ⟨l,h1,h2⟩:=h;exact ⟨_,l,h1,⟨[],rfl,rfl⟩,h2⟩
   |dN=>obtain ⟨l,h1,h2⟩:=h;exact ⟨_,l,h1,⟨[],rfl,rfl⟩,h2⟩
   |shr r xs=>obtain ⟨v,l,h1,h2,h3⟩:=h;exact ⟨v,l,h1,⟨v,[],rfl,h2,rfl⟩,h3⟩
   |lC r xs=>obtain ⟨v,l,h1,h2,h3⟩:=h;exact ⟨v,l,h1,⟨v,[],rfl,h2,rfl⟩,h3⟩
   |fn g r xs=>obtain ⟨v,l,h1,h2,h3⟩:=h;exact ⟨v,l,h1,⟨v,[],rfl,h2,rfl⟩,h3⟩
   |own A=>obtain ⟨v,l,h1,h2,h3⟩:=h;exact ⟨v,l,h1,⟨v,[],rfl,h2,rfl⟩,h3⟩
  obtain ⟨g1,g2⟩:=a7.QW os (j+1) l h2;refine ⟨by simp [g1],fun k o' u ho hu => ?_⟩
  cases k with
  |zero=>
   simp only [List.getElem?_cons_zero,Option.some.injEq] at ho hu;subst ho hu;exact h1
  |succ k=>
   have:=g2 k o' u (by simpa using ho) (by simpa using hu)
   rwa [show j+1+k=j+(k+1) by omega] at this
theorem Gv:(ps:List OP)→(t:RT)→(os:List OV)→(y:aw t)→{x:aw (lR ps t)}→cL ps t os y=some x→∀(k:Nat) (o':OV),(dU ps t x).1[k]?=some o'→∃(p:OP) (o:OV) (z:den p.ty),os[k]?=some o∧qo p o=some z∧o'=p.ov z
 | [],t,[],y,x,h=>by
  intro k o' hk;simp [dU] at hk
 | [],_,_::_,_,_,h=>by simp [cL] at h
 |_::_,_,[],_,_,h=>by simp [cL] at h
 |p::ps,t,o::os,y,x,h=>by
  unfold cL at h
  cases h1:qo p o with
  |none=>simp [h1] at h
  |some a=>
   cases h2:cL ps t os y with
   |none=>simp [h1,h2] at h
   |some z=>
    simp only [h1,h2] at h;have h:(a,z)=x:=Option.some.inj h;subst h;intro k o' hk
    cases k with
    |zero=>
     have hk:some (p.ov a)=some o':=hk;simp only [Option.some.injEq] at hk;exact ⟨p,o,a,rfl,h1,hk.symm⟩
    |succ k=>
     have hk:(dU ps t z).1[k]?=some o':=hk;obtain ⟨p',o1,z',q1,q2,q3⟩:=Gv ps t os y h2 k o' hk;exact ⟨p',o1,z',by simpa using q1,q2,q3⟩
theorem Od {p:OP} {o:OV} {z:den p.ty} (h:qo p o=some z) {A:fT} (he:p.ov z=.own A):(∃B,o=.own B∧A.r=B.r∧A.own=true∧A.xs.length=B.xs.length∧(B.own=true→A=B))∨(o=.dN∧∃r d,A={ r:=r,own:=true,xs:=([]:List (aw r)),md:=d }):=by
 cases p with
 |own r d=>
  injection he with he;subst he
  cases o with
  |own B=>
   have h:(bif B.md.is d then bw r B.xs else none)=some z:=h;obtain ⟨hd,h⟩:=aI h;have hd:=Md.iW.1 hd;obtain ⟨e,rfl⟩:=bd h;obtain ⟨r0,IT,pA,UQ⟩:=B;simp only at e hd;subst e hd;exact .inl ⟨_,rfl,rfl,rfl,rfl,fun ho=>by simp only at ho;subst ho;rfl⟩
  |dN=>
   have h:([]:List (aw r))=z:=Option.some.inj h;subst h;exact .inr ⟨rfl,r,d,rfl⟩
  |_=>cases h
 |int _=>cases he
 |bool=>cases he
 |str=>cases he
 |shr _=>cases he
 |lC _=>cases he
 |fn _ _=>cases he
theorem Jt {p:OP} (z:den p.ty):p.ov z≠.dN:=by
 cases p<;>(intro h;cases h)
theorem Ju {c:Cz} {w:World} {i:Nat} {lc:Nat→Loc} {p:AP} {t:RT} {av:AV} {y:aw t} {x:aw (p.rt t)} (h:Gt p t av y=some x):(p.av t x).2=y∧∀v,sJ c w i lc av v→sJ c w i lc (p.av t x).1 v:=by
 cases p with
 |val agg ps=>
  cases agg with
  |true=>
   cases av with
   |val Tj os=>
    cases Tj with
    |true=>
     have h:cL ps t os y=some x:=h;obtain ⟨g1,g2⟩:=tM (c:=c) (w:=w) (f:=.bK i) ps t os y h;exact ⟨g1,fun v ⟨vs,hv,hl⟩=>⟨vs,hv,g2 0 _ hl⟩⟩
    |false=>cases h
   |_=>cases h
  |false=>
   cases av with
   |val Tj os=>
    cases Tj with
    |false=>
     have h:cL ps t os y=some x:=h;obtain ⟨g1,g2⟩:=tM (c:=c) (w:=w) (f:=.bK i) ps t os y h;exact ⟨g1,fun v hl=>g2 0 _ hl⟩
    |true=>cases h
   |_=>cases h
 |io r d=>
  cases av with
  |io A=>
   have h:(bif A.md.is d then (match bw r A.xs with | some xs=>some ((xs,y):aw (.cons (.sl r) t)) | none=>none) else none)=some x:=h;obtain ⟨hd,h⟩:=aI h;have hd:=Md.iW.1 hd
   cases hc:bw r A.xs with
   |none=>rw [hc] at h;cases h
   |some xs=>
    rw [hc] at h
    cases h
    refine ⟨rfl,fun v hl => ?_⟩;obtain ⟨e,rfl⟩:=bd hc;obtain ⟨r0,IT,pA,UQ⟩:=A;simp only at e hd;subst e hd;have ho:IT=true:=hl.2.2.1;subst ho;exact hl
  |_=>cases h
 |box Fu ps=>
  cases av with
  |box os=>
   have h:cL ps t os y=some x:=h;obtain ⟨g1,g2⟩:=tM (c:=c) (w:=w) (f:=.bK i) ps t os y h;exact ⟨g1,fun v ⟨mK,vs,ty,q1,q2,q3,q4⟩=>⟨mK,vs,ty,q1,q2,q3,g2 0 _ q4⟩⟩
  |_=>cases h
 |bL ps=>
  cases av with
  |bL os=>
   have h:cL ps t os y=some x:=h;obtain ⟨g1,g2⟩:=tM (c:=c) (w:=w) (f:=.bK i) ps t os y h;refine ⟨g1,fun v ⟨vs,q1,q2,q3⟩=>⟨vs,q1,g2 0 _ q2,fun j o u ho hu => ?_⟩⟩;obtain ⟨p,o0,z,k1,k2,rfl⟩:=Gv ps t os y h j o ho;have h0:=q3 j o0 u k1 hu;have hL:=(a7.QW os 0 _ q2).2 j o0 u k1 hu;unfold Qt at h0 ⊢
   cases he:p.ov z with
   |dN=>exact absurd he (Jt z)
   |own A=>
    rcases Od k2 he with ⟨B,rfl,e1,e2,e3,e4⟩ | ⟨rfl,r,d,rfl⟩
    ·have h0:OwnAt c w (.bK i j) (lc j) B u:=h0;have:=e4 h0.2.2.1;subst this;exact h0
    ·have h0:lc j=.nil:=h0;obtain ⟨l,hl,_⟩:=hL;injection hl with hl _;subst hl;show OwnAt c w (.bK i j) (lc j) _ _;rw [h0];exact ⟨rfl,⟨rfl,rfl⟩,rfl,rfl⟩
   |_=>trivial
  |_=>cases h
end Go.TM
namespace Go.TM
open Go Go.RowKit
theorem wS {w0:World} {mu:Mu} {c:Cz} {st:St} {a:Act} {w:World} (h:Rel w0 mu c st a w) {ρ:Lb→Option Lb} {f:Nat→Lb} (hf:∀j,(f j).Am=some (f j)):(ps:List OP)→(t:RT)→(cs:List CV)→(y:aw t)→(vs:List Value)→(j:Nat)→fo c st w cs vs→{x:aw (lR ps t)}→{u:List (Option Lb)}→{r:List (Nat×Nat)}→
  ld st ps t cs y=some (x,u,r)→(dU ps t x).2=y∧(∀l∈bR u,l.real=true)∧((∀k l,nth u k=some (some l)→ρ l=some (f (j+k)))→(∀p∈r,ρ (.sp p.1 p.2)=none)→a7 (c.map ρ) w f j (dU ps t x).1 vs)
 | [],t,[],y,vs,j,hl,x,u,r,he=>by
  have he:some (y,([]:List (Option Lb)),([]:List (Nat×Nat)))=some (x,u,r):=he;injection he with he;injection he with e1 e2;injection e2 with e2 e3;subst e1 e2 e3;have:=hl.1;simp at this;exact ⟨rfl,by simp [bR],fun _ _=>List.length_eq_zero_iff.1 this.symm⟩
 | [],t,_::_,y,vs,j,hl,x,u,r,he=>by simp [ld] at he
 |_::_,t,[],y,vs,j,hl,x,u,r,he=>by simp [ld] at he
 |p::ps,t,cx::cs,y,vs,j,hl,x,u,r,he=>by
  obtain ⟨v,l,rfl,hx,uB⟩:=hl.UT;unfold ld at he
  cases hc:eS st p.nf cx with
  |none=>simp [hc] at he
  |some q1=>
   obtain ⟨o,u1,r1⟩:=q1
   cases hq:ld st ps t cs y with
   |none=>simp [hc,hq] at he
   |some q2=>
    obtain ⟨z,us,rs⟩:=q2;simp only [hc,hq] at he
    cases ho:qo p o with
    |none=>simp [ho] at he
    |some a1=>
     simp only [ho] at he;injection he with he;injection he with e1 e2;injection e2 with e2 e3;subst e1 e2 e3;obtain ⟨g1,g2,g3⟩:=wS h (ρ:=ρ) (f:=f) hf ps t cs y l (j+1) uB hq;refine ⟨g1,fun l' hm => ?_,fun hu hr => ?_⟩
     ·rw [gL] at hm;rcases List.mem_cons.1 hm with hm | hm
      ·obtain ⟨s,k,rfl⟩:=Gh hc l' hm.symm;rfl
      ·exact g2 l' (gL.2 hm)
     ·have fC:=g3 (fun k' l' hk=>by
       have:=hu (k'+1) l' hk
       rwa [show j+(k'+1)=j+1+k' by omega] at this) (fun p hp=>hr p (List.mem_append_right _ hp))
      have h1:=ML h (f:=f) (j:=j) hx hc (fun l' uB=>hu 0 l' (by rw [uB];rfl)) (fun p hp=>hr p (List.mem_append_left _ hp)) fC hf;exact Js p o a1 ho (fun _ h=>h) h1
def BM (c:Cz) (w:World) (lc:Nat→Nat→Loc) (a:Act) (k:Nat) (l:List (Option AV)):Prop:=
 ∀i av,l[i]?=some (some av)→sJ c w (k+i) (lc (k+i)) av (a.eval (.tmp (k+i)))
theorem AG {w0:World} {mu:Mu} {c:Cz} {st:St} {a:Act} {w:World} (h:Rel w0 mu c st a w) (k:Nat) {p:AP} {t:RT} {V:V} {y:aw t} {v:Value} (hV:eD c st w V v) {x:aw (p.rt t)} {u:List Lb} {r:List (Nat×Nat)} (he:CN st k p t V y=some (x,u,r)) :
  (p.av t x).2=y∧(∀l∈u,l.real=true)∧∃tb:List (Lb×Lb),tb.map (·.1)=u∧(∀p∈tb,p.2.kI=true)∧∀ρ:Lb→Option Lb,(∀p∈tb,ρ p.1=some p.2)→(∀p∈r,ρ (.sp p.1 p.2)=none)→sJ (c.map ρ) w k (c.lc k) (p.av t x).1 v:=by
 have vals:∀(ps:List OP) (cs:List CV) (x:aw (lR ps t)) (us:List (Option Lb)) (rs:List (Nat×Nat)) (vs:List Value),fo c st w cs vs→ld st ps t cs y=some (x,us,rs)→(dU ps t x).2=y∧(∀l∈bR us,l.real=true)∧
   ∀ρ:Lb→Option Lb,(∀p∈Aq (.bK k) 0 us,ρ p.1=some p.2)→(∀p∈rs,ρ (.sp p.1 p.2)=none)→a7 (c.map ρ) w (.bK k) 0 (dU ps t x).1 vs:=by
  intro ps cs x us rs vs hl hq;refine ⟨(wS h (ρ:=fun _=>none) (f:=.bK k) (fun _=>rfl) ps t cs y vs 0 hl hq).1,(wS h (ρ:=fun _=>none) (f:=.bK k) (fun _=>rfl) ps t cs y vs 0 hl hq).2.1,fun ρ hp hr=>(wS h (ρ:=ρ) (f:=.bK k) (fun _=>rfl) ps t cs y vs 0 hl hq).2.2 (fun k' l hk => ?_) hr⟩;have:=hp _ (wM (.bK k) 0 us k' l hk);simpa using this
 cases p with
 |val agg ps=>
  cases agg with
  |true=>
   cases V with
   |agg cs=>
    have he:(ld st ps t cs y).map (fun q=>(q.1,bR q.2.1,q.2.2))=some (x,u,r):=he
    cases hq:ld st ps t cs y with
    |none=>rw [hq] at he;cases he
    |some q=>
     obtain ⟨z,us,rs⟩:=q;rw [hq] at he;injection he with he;injection he with e1 e2;injection e2 with e2 e3;subst e1 e2 e3;obtain ⟨vs,rfl,hl⟩:=hV;obtain ⟨g1,g2,g3⟩:=vals _ _ _ _ _ _ hl hq;exact ⟨g1,g2,jT k (.val true []) [] us,mC _ _ _ _,mD _ _ _ _,fun ρ hp hr=>⟨vs,rfl,g3 ρ (fun p mA=>hp p (by simpa [jT] using mA)) hr⟩⟩
   |one _=>cases he
   |m9 _=>cases he
  |false=>
   cases V with
   |one cx=>
    have he:(ld st ps t [cx] y).map (fun q=>(q.1,bR q.2.1,q.2.2))=some (x,u,r):=he
    cases hq:ld st ps t [cx] y with
    |none=>rw [hq] at he;cases he
    |some q=>
     obtain ⟨z,us,rs⟩:=q;rw [hq] at he;injection he with he;injection he with e1 e2;injection e2 with e2 e3;subst e1 e2 e3;obtain ⟨g1,g2,g3⟩:=vals _ _ _ _ _ [v] ⟨rfl,fun k y z hy hz=>by
      cases k with
      |zero=>simp at hy hz;subst hy hz;exact hV
      |succ k=>simp at hy⟩ hq
     exact ⟨g1,g2,jT k (.val true []) [] us,mC _ _ _ _,mD _ _ _ _,fun ρ hp hr=>g3 ρ (fun p mA=>hp p (by simpa [jT] using mA)) hr⟩
   |agg _=>cases he
   |m9 _=>cases he
 |io rr d=>
  cases V with
  |one cx=>
   cases cx with
   |ref s j g vw=>
    cases vw with
    |full=>
     have he:(bif Nat.beq s k&&(Nat.beq j 0&&Nat.beq g 1) then ((aT st s j g).bind fun A=>bif A.own&&A.md.is d then (bw rr A.xs).map fun xs=>((xs,y),[Lb.sp s j],([]:List (Nat×Nat))) else none) else none)=some (x,u,r):=he;obtain ⟨h1,x7⟩:=aI he;clear he;rw [Bool.and_eq_true,Bool.and_eq_true] at h1;have e1:=Nat.eq_of_beq_eq_true h1.1;have e2:=Nat.eq_of_beq_eq_true h1.2.1;subst e1 e2
     cases hA:aT st s 0 g with
     |none=>rw [hA] at x7;cases x7
     |some A=>
      rw [hA] at x7;obtain ⟨ho,he2⟩:=aI x7;rw [Bool.and_eq_true] at ho;have hd:=Md.iW.1 ho.2;have ho:=ho.1
      cases hc:bw rr A.xs with
      |none=>rw [hc] at he2;cases he2
      |some xs=>
       rw [hc] at he2;injection he2 with he2;injection he2 with e1 e2;injection e2 with e2 e3;subst e1 e2 e3;refine ⟨rfl,by simp [Lb.real],[(.sp s 0,.bK s 0)],rfl,by simp [Lb.kI],fun ρ hp _ => ?_⟩;have ha:=uF h hA;have hs:=hV.2.2 A hA;have hρ:ρ (.sp s 0)=some (.bK s 0):=hp (.sp s 0,.bK s 0) (by simp);obtain ⟨e,rfl⟩:=bd hc;obtain ⟨r0,IT,pA,UQ⟩:=A;simp only at e hd;subst e hd;have ho:IT=true:=by first | exact ho | exact ho.1
       subst ho;refine ⟨hV.1,hs,rfl,?_⟩;unfold bF at ha
       cases gH:c.lc s 0 with
       |nil=>rw [gH] at ha;exact ha
       |«at» b off cap=>
        rw [gH] at ha;obtain ⟨h0,h2,h3,h4⟩:=ha;exact ⟨(Cz.kN h0).trans hρ,h2,h3,h4.map hρ⟩
    |«from» _=>cases he
    |sub _ _=>cases he
   |_=>cases he
  |agg _=>cases he
  |m9 _=>cases he
 |box Fu ps=>
  cases V with
  |one cx=>
   cases cx with
   |ptr b g off=>
    have he:(bif Nat.beq off 0&&(!Fu||(Nat.beq b k&&Nat.beq g 1)) then ((cW st b g).bind fun cs=>(ld st ps t cs y).map fun q=>(q.1,Lb.box b::bR q.2.1,q.2.2)) else none)=some (x,u,r):=he;obtain ⟨h1,x7⟩:=aI he;clear he;rw [Bool.and_eq_true] at h1;have e1:=Nat.eq_of_beq_eq_true h1.1;subst e1
    cases hb:cW st b g with
    |none=>rw [hb] at x7;cases x7
    |some cs=>
     rw [hb] at x7;simp only [Option.bind_some] at x7
     cases hq:ld st ps t cs y with
     |none=>rw [hq] at x7;cases x7
     |some q=>
      obtain ⟨z,us,rs⟩:=q;rw [hq] at x7;injection x7 with x7;injection x7 with e1 e2;injection e2 with e2 e3;subst e1 e2 e3;obtain ⟨sl,k1,k2,k3⟩:=ir hb;obtain ⟨h1,vs,ty,h2,h3⟩:=h.boxes b sl cs k1 k3;obtain ⟨g1,g2,g3⟩:=vals _ _ _ _ _ _ h3 hq;refine ⟨g1,fun l hl => ?_,jT k (.box []) [.box b] us,by rw [mC];rfl,mD _ _ _ _,fun ρ hp hr=>⟨c.bx b,vs,ty,hV.2.2 cs hb,?_,h2,g3 ρ (fun p mA=>hp p (List.mem_append_right _ mA)) hr⟩⟩
      ·rcases List.mem_cons.1 hl with rfl | hl
       ·rfl
       ·exact g2 l hl
      ·exact (Cz.kN h1).trans (hp (.box b,.su k) (by simp [jT]))
   |_=>cases he
  |agg _=>cases he
  |m9 _=>cases he
 |bL ps=>cases he
theorem wT {w0:World} {mu:Mu} {c:Cz} {st:St} {a:Act} {w:World} (h:Rel w0 mu c st a w):(l:List (Option AP))→(k:Nat)→{x:aw (aK l)}→{u:List Lb}→{r:List (Nat×Nat)}→nm st k l=some (x,u,r)→
  (∀l∈u,l.real=true)∧∃tb:List (Lb×Lb),tb.map (·.1)=u∧(∀p∈tb,p.2.kI=true)∧∀ρ:Lb→Option Lb,(∀p∈tb,ρ p.1=some p.2)→(∀p∈r,ρ (.sp p.1 p.2)=none)→BM (c.map ρ) w c.lc a k (ck l x)
 | [],k,x,u,r,he=>by
  have he:some ((),([]:List Lb),([]:List (Nat×Nat)))=some (x,u,r):=he;injection he with he;injection he with _ e2;injection e2 with e2 e3;subst e2 e3;exact ⟨by simp,[],rfl,by simp,fun ρ _ _ i av hi=>by simp [ck] at hi⟩
 |none::l,k,x,u,r,he=>by
  obtain ⟨g1,tb,g2,g3,g4⟩:=wT h l (k+1) he;refine ⟨g1,tb,g2,g3,fun ρ hp hr i av hi => ?_⟩
  cases i with
  |zero=>simp [ck] at hi
  |succ i=>
   have:=g4 ρ hp hr i av (by simpa [ck] using hi)
   rwa [show k+1+i=k+(i+1) by omega] at this
 |some p::l,k,x,u,r,he=>by
  unfold nm at he
  cases h1:nm st (k+1) l with
  |none=>simp [h1] at he
  |some q1=>
   obtain ⟨y,us,rs⟩:=q1;simp only [h1] at he
   cases h2:CN st k p (aK l) (bI st k) y with
   |none=>simp [h2] at he
   |some q2=>
    obtain ⟨x1,u1,r1⟩:=q2;simp only [h2] at he;injection he with he;injection he with e1 e2;injection e2 with e2 e3;subst e1 e2 e3;obtain ⟨g1,tb,g2,g3,g4⟩:=wT h l (k+1) h1;obtain ⟨a1,a2,ta,a3,a4,a5⟩:=AG h k (h.dO k) h2;refine ⟨fun l' hl => ?_,ta++tb,by simp [a3,g2],fun p hp => ?_,fun ρ hp hr i av hi => ?_⟩
    ·rcases List.mem_append.1 hl with hl | hl
     ·exact a2 l' hl
     ·exact g1 l' hl
    ·rcases List.mem_append.1 hp with hp | hp
     ·exact a4 p hp
     ·exact g3 p hp
    ·cases i with
     |zero=>
      have hi:some (some (p.av (aK l) x1).1)=some (some av):=hi;simp only [Option.some.injEq] at hi;subst hi;exact a5 ρ (fun p mA=>hp p (List.mem_append_left _ mA)) (fun p mA=>hr p (List.mem_append_left _ mA))
     |succ i=>
      have hi:(ck l (p.av (aK l) x1).2)[i]?=some (some av):=hi;rw [a1] at hi;have:=g4 ρ (fun p mA=>hp p (List.mem_append_right _ mA)) (fun p mA=>hr p (List.mem_append_right _ mA)) i av hi
      rwa [show k+1+i=k+(i+1) by omega] at this
end Go.TM
namespace Go.TM
open Go Go.RowKit
def QX (L:List (Option AV)) (lc:Nat→Nat→Loc) (a:Act):Nz→Prop
 |.arr i j g W n l=>g=1∧i<L.length∧∀av,L[i]?=some (some av)→(∃A,av=.io A∧(j=0→A.r.width=W∧A.xs.length=n∧lc i 0=l))∨∃os,av=.bL os∧∀A,os[j]?=some (.own A)→A.r.width=W∧A.xs.length=n∧lc i j=l
 |.box i g mK=>g=1∧i<L.length∧∀os,L[i]?=some (some (.box os))→a.eval (.tmp i)=.pointer (some ⟨mK,0,none⟩)
def QY:Lb→Lb
 |.bK i j=>.sp i j
 |.su i=>.box i
 |l=>l
structure QZ (c:Cz) (w:World) (k:Nat) (av:Option AV) (u:Value) (lio:Nat→Loc) (mK:Nat) (lcs:Nat→Loc):Prop where
 arr:∀j A,nth (dq k av).aN j=some (some A)→∃v,OwnAt c w (.bK k j) (lcs j) A v
 reg:∀(c2:Cz) (fB:St),(∀b,c.ok b→c2.ok b)→c2.bx k=mK→c2.lc k=lcs→nth fB k=some (dq k av)→eD c2 fB w (dq k av).v u
 box:∀cs,(dq k av).box=some cs→u=.pointer (some ⟨mK,0,none⟩)∧c.own mK=some (.su k)∧∃vs ty,w.heap[mK]?=some (.cells vs ty (0,0))∧
  ∀(c2:Cz) (fB:St),(∀b,c.ok b→c2.ok b)→c2.lc k=lcs→nth fB k=some (dq k av)→fo c2 fB w cs vs.toList
 io:∀A,av=some (.io A)→lcs 0=lio 0
 bL:∀os,av=some (.bL os)→lcs=lio
theorem qU {st:St} {k j:Nat} {av:Option AV} {A:fT} (h:nth st k=some (dq k av)) (hA:aT st k j 1=some A):nth (dq k av).aN j=some (some A):=by
 obtain ⟨sl,h1,_,h3⟩:=ba hA;rw [h] at h1;cases h1;exact h3
theorem qV {st:St} {k:Nat} {av:Option AV} (h:nth st k=some (dq k av)):cO st k=1:=by
 unfold cO;rw [h]
 cases av with
 |none=>rfl
 |some av=>cases av with
  |val agg os=>cases agg<;>rfl
  |io A=>rfl
  |box os=>rfl
  |bL os=>rfl
theorem Gw {st:St} {k:Nat} {av:Option AV} (h:nth st k=some (dq k av)):fF st k=1:=by
 unfold fF;rw [h]
 cases av with
 |none=>rfl
 |some av=>cases av with
  |val agg os=>cases agg<;>rfl
  |io A=>rfl
  |box os=>rfl
  |bL os=>rfl
theorem AH:(os:List OV)→(j:Nat)→{A:fT}→nth (bl os) j=some (some A)→os[j]?=some (.own A)
 | [],_,_,h=>by simp [bl] at h
 |o::os,0,A,h=>by
  simp only [bl,nth,Option.some.injEq] at h
  cases o with
  |own B=>injection h with h;subst h;rfl
  |_=>cases h
 |o::os,j+1,A,h=>by
  have:=AH os j (A:=A) h;simpa using this
theorem Gx {d g:Nat}:(os:List OV)→(j k:Nat)→(o:OV)→os[k]?=some o→∃x,bc d g (j+k) [o]=[x]∧(bc d g j os)[k]?=some x
 | [],_,_,_,h=>by simp at h
 |o::os,j,0,o',h=>by
  simp only [List.getElem?_cons_zero,Option.some.injEq] at h;subst h
  cases o<;>exact ⟨_,rfl,rfl⟩
 |o::os,j,k+1,o',h=>by
  obtain ⟨x,h1,h2⟩:=Gx (d:=d) (g:=g) os (j+1) k o' (by simpa using h);rw [show j+1+k=j+(k+1) by omega] at h1;refine ⟨x,h1,?_⟩
  cases o<;>simpa [bc] using h2
theorem Eh {d g:Nat}:(os:List OV)→(j:Nat)→(bc d g j os).length=os.length
 | [],_=>rfl
 |o::os,j=>by cases o<;>simp [bc,Eh os (j+1)]
theorem a7.Q0 {c:Cz} {w:World} {f:Nat→Lb} {os:List OV} {vs:List Value} (h:a7 c w f 0 os vs) (lcs:Nat→Loc) (ho:∀k A u,os[k]?=some (.own A)→vs[k]?=some u→∃l,OwnAt c w l (lcs k) A u)
  (c2:Cz) (fB:St) (d g:Nat) (fk:∀b,c.ok b→c2.ok b) (gH:∀k,c2.lc d k=lcs k) (BI:∀k A,aT fB d k g=some A→os[k]?=some (.own A)) (hg:g≤cO fB d):fo c2 fB w (bc d g 0 os) vs:=by
 obtain ⟨h1,h2⟩:=a7.QW os 0 vs h;refine ⟨by rw [Eh,h1],fun k x v hx hv => ?_⟩;have bQ:k<os.length:=by rw [←h1];exact (List.getElem?_eq_some_iff.1 hv).1
 have K1:os[k]?=some os[k]:=List.getElem?_eq_getElem bQ;obtain ⟨y,q1,q2⟩:=Gx (d:=d) (g:=g) os 0 k _ K1;rw [q2] at hx
 cases hx
 have hL:=h2 k _ v K1 hv;rw [Nat.zero_add] at q1;generalize os[k]=o at *
 cases o with
 |own A=>
  simp only [bc,List.cons.injEq,and_true] at q1;subst q1;obtain ⟨l,hO⟩:=ho k A v K1 hv;refine ⟨hO.1,hg,fun A' ek => ?_⟩;have:=BI k A' ek;rw [K1] at this
  cases this
  rw [gH];exact hO.2.1
 |shr r xs=>
  simp only [bc,List.cons.injEq,and_true] at q1;subst q1;obtain ⟨v',l,e,h3,_⟩:=hL
  cases e
  exact bN.stays ⟨Nat.le_refl _,fun _ _ _=>rfl,fun b _ hb=>fk b hb⟩ _ _ _ h3
 |lC r xs=>
  simp only [bc,List.cons.injEq,and_true] at q1;subst q1;obtain ⟨v',l,e,⟨b,oo,e1,e2,e3,e4⟩,_⟩:=hL
  cases e
  exact ⟨b,oo,e1,e2,fk b e3,fun x hx=>cI.stays ⟨Nat.le_refl _,fun _ _ _=>rfl,fun b _ hb=>fk b hb⟩ _ _ _ _ rfl (e4 x hx)⟩
 |fn fg r xs=>
  simp only [bc,List.cons.injEq,and_true] at q1;subst q1;obtain ⟨v',l,e,h3,_⟩:=hL
  cases e
  exact h3.stays ⟨Nat.le_refl _,fun _ _ _=>rfl,fun b _ hb=>fk b hb⟩
 |_=>
  simp only [bc,List.cons.injEq,and_true] at q1;subst q1;obtain ⟨l,e,_⟩:=hL
  cases e
  rfl
theorem Tk {c:Cz} {w:World} {k:Nat} {lio:Nat→Loc} {av:Option AV} {u:Value} (h:∀v,av=some v→sJ c w k lio v u):∃mK lcs,QZ c w k av u lio mK lcs:=by
 cases av with
 |none=>exact ⟨0,fun _=>.nil,fun j A hA=>by simp [dq,Sl.blank] at hA,fun c2 fB _ _ _ _=>trivial,fun cs ud=>by simp [dq,Sl.blank] at ud,fun A hA=>(by cases hA),fun A hA=>(by cases hA)⟩
 |some av=>
  have h:=h av rfl
  cases av with
  |val agg os=>
   cases agg with
   |true=>
    obtain ⟨vs,rfl,hl⟩:=h;obtain ⟨lcs,g1,g2⟩:=a7.cells os 0 _ hl;simp only [Nat.zero_add] at g1 g2;refine ⟨0,lcs,fun j A hA=>g1 j A hA,fun c2 fB fk _ gH hn=>⟨vs,rfl,?_⟩,fun cs ud=>by simp [dq] at ud,fun A hA=>(by cases hA),fun A hA=>(by cases hA)⟩;exact g2 c2 fB k 1 fk (fun j _=>by rw [gH]) (fun j A _ hA=>qU hn hA) (by rw [qV hn];exact Nat.le_refl _)
   |false=>
    have hl:a7 c w (.bK k) 0 os [u]:=h;obtain ⟨lcs,g1,g2⟩:=a7.cells os 0 _ hl;simp only [Nat.zero_add] at g1 g2;refine ⟨0,lcs,fun j A hA=>g1 j A hA,fun c2 fB fk _ gH hn => ?_,fun cs ud=>by simp [dq] at ud,fun A hA=>(by cases hA),fun A hA=>(by cases hA)⟩;have hR:=g2 c2 fB k 1 fk (fun j _=>by rw [gH]) (fun j A _ hA=>qU hn hA) (by rw [qV hn];exact Nat.le_refl _);show eD c2 fB w (match bc k 1 0 os with | [c]=>.one c | _=>.one .bad) u;have h1:=hR.1
    cases hc:bc k 1 0 os with
    |nil=>trivial
    |cons x l=>cases l with
     |nil=>rw [hc] at hR;exact hR.2 0 x u rfl rfl
     |cons _ _=>trivial
  |io A=>
   have hO:OwnAt c w (.bK k 0) (lio 0) A u:=h;refine ⟨0,lio,fun j A' ek => ?_,fun c2 fB fk _ gH hn => ?_,fun cs ud=>by simp [dq] at ud,fun A hA=>rfl,fun A hA=>by cases hA⟩
   ·cases j with
    |zero=>simp [dq,nth] at ek;subst ek;exact ⟨u,hO⟩
    |succ j=>simp [dq,nth] at ek
   ·refine ⟨hO.1,by rw [qV hn];exact Nat.le_refl _,fun A' ek => ?_⟩;have:=qU hn ek;simp [dq,nth] at this;subst this;rw [gH];exact hO.2.1
  |bL os=>
   obtain ⟨vs,rfl,hl,QJ⟩:=h;have ec:∀j A u,os[j]?=some (.own A)→vs.toList[j]?=some u→OwnAt c w (.bK k j) (lio j) A u:=fun j A u h1 h2=>QJ j _ u h1 h2
   obtain ⟨n1,_⟩:=a7.QW os 0 _ hl;refine ⟨0,lio,fun j A' ek => ?_,fun c2 fB fk _ gH hn=>⟨vs,rfl,?_⟩,fun cs ud=>by simp [dq] at ud,fun A hA=>(by cases hA),fun An _=>rfl⟩
   ·have hj:=AH os j ek;have bQ:j<vs.toList.length:=by rw [n1];exact (List.getElem?_eq_some_iff.1 hj).1
    exact ⟨_,ec j A' _ hj (List.getElem?_eq_getElem bQ)⟩
   ·exact a7.Q0 hl lio (fun j A u h1 h2=>⟨_,ec j A u h1 h2⟩) c2 fB k 1 fk (fun j=>by rw [gH]) (fun j A hA=>AH os j (qU hn hA)) (by rw [qV hn];exact Nat.le_refl _)
  |box os=>
   obtain ⟨mK,vs,ty,h1,h2,h3,hl⟩:=h;obtain ⟨lcs,g1,g2⟩:=a7.cells os 0 _ hl;simp only [Nat.zero_add] at g1 g2;refine ⟨mK,lcs,fun j A hA=>g1 j A hA,fun c2 fB fk zV gH hn=>⟨by rw [h1];rfl,by rw [Gw hn];exact Nat.le_refl _,fun cs _=>by rw [zV];exact h1⟩,fun cs ud=>⟨h1,h2,vs,ty,h3,fun c2 fB fk gH hn => ?_⟩,fun A hA=>(by cases hA),fun A hA=>(by cases hA)⟩;simp only [dq,Option.some.injEq] at ud;subst ud;exact g2 c2 fB k 1 fk (fun j _=>by rw [gH]) (fun j A _ hA=>qU hn hA) (by rw [qV hn];exact Nat.le_refl _)
theorem Rel.MQ {w0:World} {mu:Mu} {c:Cz} {a:Act} {w:World} {L:List (Option AV)} {lc:Nat→Nat→Loc} (hb:CF w0 mu c w) (hd:a.defers=[]) (hL:BM c w lc a 0 L) (hA:∀p∈mu.an,QX L lc a p):∃c',Rel w0 mu c' (nZ 0 L) a w:=by
 have Ob:∀k,∃q:Nat×(Nat→Loc),QZ c w k ((L[k]?).getD none) (a.eval (.tmp k)) (lc k) q.1 q.2:=by
  intro k;obtain ⟨mK,lcs,h⟩:=Tk (c:=c) (w:=w) (k:=k) (lio:=lc k) (av:=(L[k]?).getD none) (u:=a.eval (.tmp k)) (fun v hv=>by
   have:=hL k v (by
    cases hq:L[k]? with
    |none=>rw [hq] at hv;cases hv
    |some o=>rw [hq] at hv;simp at hv;rw [hv])
   simpa using this)
  exact ⟨(mK,lcs),h⟩
 obtain ⟨q,hq⟩:=Classical.axiomOfChoice Ob;have hn:∀k,nth (nZ 0 L) k=(L[k]?).map (dq k):=fun k=>by have:=Gu L 0 k;simpa using this
 have NI:∀k sl,nth (nZ 0 L) k=some sl→∃o,L[k]?=some o∧sl=dq k o∧nth (nZ 0 L) k=some (dq k ((L[k]?).getD none))∧(L[k]?).getD none=o:=by
  intro k sl h;rw [hn] at h
  cases ho:L[k]? with
  |none=>rw [ho] at h;cases h
  |some o=>
   rw [ho] at h
   cases h
   refine ⟨o,rfl,rfl,?_,rfl⟩;rw [hn,ho];rfl
 let c':=c.dP QY (fun k=>(q k).1) (fun k=>(q k).2)
 have fk:∀b,c.ok b→c'.ok b:=fun b hb=>Cz.jU.2 hb
 refine ⟨c',fun t => ?_,fun s sl cs hs zV => ?_,fun s j sl A hs ek => ?_,fun b l hl => ?_,fun b bQ hl=>hb.free b bQ (by simpa [c',Cz.dP] using hl),hb.kept,hb.old,hd,fun p hp => ?_,fun b l hl=>by
  simp only [c',Cz.dP,Option.map_eq_some_iff] at hl;obtain ⟨k,hk,_⟩:=hl;exact hb.lS b k hk⟩
 ·cases hs:nth (nZ 0 L) t with
  |none=>
   have:bI (nZ 0 L) t=.one .bad:=by unfold bI;rw [hs]
   rw [this];trivial
  |some sl=>
   obtain ⟨o,h1,rfl,h3,h4⟩:=NI t sl hs;have:bI (nZ 0 L) t=(dq t ((L[t]?).getD none)).v:=by unfold bI;rw [h3]
   rw [this];exact (hq t).reg c' (nZ 0 L) fk rfl rfl h3
 ·obtain ⟨o,h1,rfl,h3,h4⟩:=NI s sl hs;rw [←h4] at zV;obtain ⟨g1,g2,vs,ty,g3,g4⟩:=(hq s).box cs zV;refine ⟨?_,vs,ty,g3,g4 c' (nZ 0 L) fk rfl h3⟩;show (c.own (q s).1).map QY=_;rw [g2];rfl
 ·obtain ⟨o,h1,rfl,h3,h4⟩:=NI s sl hs;rw [←h4] at ek;obtain ⟨v,hv⟩:=(hq s).arr j A ek;exact hv.arr rfl rfl
 ·simp only [c',Cz.dP,Option.map_eq_some_iff] at hl;obtain ⟨k,hk,e⟩:=hl;obtain ⟨h1,h2⟩:=hb.owned b k hk;refine ⟨h1,h2.imp (fun e2 => ?_) id⟩;subst e2;rw [←e];rfl
 ·have hf:=hA p hp
  cases p with
  |arr i j g W n l=>
   obtain ⟨rfl,hi,Jh⟩:=hf;have hs:nth (nZ 0 L) i=some (dq i ((L[i]?).getD none)):=by rw [hn];simp [List.getElem?_eq_getElem hi]
   refine ⟨by rw [qV hs];exact Nat.le_refl _,fun A ek => ?_⟩;have h3:=qU hs ek
   cases ho:L[i]? with
   |none=>rw [ho] at h3;simp [dq,Sl.blank] at h3
   |some o=>cases o with
    |none=>rw [ho] at h3;simp [dq,Sl.blank] at h3
    |some av=>
     rcases Jh av ho with ⟨A0,rfl,h5⟩ | ⟨os,rfl,h5⟩
     case inr=>
      rw [ho] at h3;obtain ⟨e1,e2,e3⟩:=h5 A (AH os j h3);refine ⟨e1,e2,?_⟩;rw [←e3];have:=(hq i).bL os (by rw [ho];rfl);show (q i).2 j=lc i j;rw [this]
     rw [ho] at h3
     cases j with
     |zero=>
      simp [dq,nth] at h3;subst h3;obtain ⟨e1,e2,e3⟩:=h5 rfl;exact ⟨e1,e2,((hq i).io A0 (by rw [ho];rfl)).trans e3⟩
     |succ j=>simp [dq,nth] at h3
  |box i g mK=>
   obtain ⟨rfl,hi,Jh⟩:=hf;have hs:nth (nZ 0 L) i=some (dq i ((L[i]?).getD none)):=by rw [hn];simp [List.getElem?_eq_getElem hi]
   refine ⟨by rw [Gw hs];exact Nat.le_refl _,fun cs ud => ?_⟩;obtain ⟨sl,k1,k2,k3⟩:=ir ud;rw [hs] at k1;cases k1;obtain ⟨g1,_⟩:=(hq i).box cs k3;have rn:∃os,L[i]?=some (some (.box os)):=by
    cases ho:L[i]? with
    |none=>rw [ho] at k3;simp [dq,Sl.blank] at k3
    |some o=>cases o with
     |none=>rw [ho] at k3;simp [dq,Sl.blank] at k3
     |some av=>cases av with
      |val agg os=>rw [ho] at k3;cases agg<;>simp [dq] at k3
      |io A=>rw [ho] at k3;simp [dq] at k3
      |bL os=>rw [ho] at k3;simp [dq] at k3
      |box os=>exact ⟨os,rfl⟩
   obtain ⟨os,rn⟩:=rn;have:=Jh os rn;rw [this] at g1;injection g1 with g1;injection g1 with g1;injection g1 with g1;exact g1.symm
end Go.TM
namespace Go.TM
open Go Go.RowKit
inductive Src where
 |tmp (t:Nat)
 |cell (t:Nat)
 |ptr (t:Nat)  -- IF struct behind a pointer,abc is kI back
structure RP where
 src:Src
 agg:Bool
 ps:List OP
def cN:List RP→RT→RT
 | [],t=>t
 |r::rs,t=>lR r.ps (cN rs t)
def rG:List OP→RT→RT
 | [],t=>t
 |.own r _::ps,t=>.cons (.sl r) (rG ps t)
 |.int _::ps,t=>rG ps t
 |.bool::ps,t=>rG ps t
 |.str::ps,t=>rG ps t
 |.shr _::ps,t=>rG ps t
 |.lC _::ps,t=>rG ps t
 |.fn _ _::ps,t=>rG ps t
def bC:List AP→RT
 | []=>.nil
 |.val _ _::l=>bC l
 |.io r _::l=>.cons (.sl r) (bC l)
 |.box _ ps::l=>lR ps (bC l)
 |.bL ps::l=>rG ps (bC l)
def RP.cells (st:St) (r:RP):Option (List CV):=
 match r.src with
 |.tmp t=>match bI st t with
  |.agg cs=>bif r.agg then some cs else none
  |.one c=>bif r.agg then none else some [c]
  |.m9 _=>none
 |.cell t=>match bI st t with
  |.one (.ptr b g off)=>bif Nat.beq off 0 then cW st b g else none
  |_=>none
 |.ptr t=>match bI st t with
  |.one (.ptr b g off)=>bif Nat.beq off 0 then cW st b g else none
  |_=>none
def RP.lab (st:St) (r:RP):List (Option Lb):=
 match r.src with
 |.ptr t=>(match bI st t with | .one (.ptr b _ _)=>[some (.box b)] | _=>[])
 |_=>[]
def Ei (st:St):(rs:List RP)→(t:RT)→aw t→Option (aw (cN rs t)×List (Option Lb)×List (Nat×Nat))
 | [],_,y=>some (y,[],[])
 |r::rs,t,y=>(r.cells st).bind fun cs=>(Ei st rs t y).bind fun q=>(ld st r.ps (cN rs t) cs q.1).map fun p=>(p.1,r.lab st++(p.2.1++q.2.1),p.2.2++q.2.2)
def mc (st:St) (i:Nat):(j:Nat)→(ps:List OP)→(t:RT)→aw t→Option (aw (rG ps t)×List Lb)
 |_,[],_,y=>some (y,[])
 |j,.own r d::ps,t,y=>(mc st i (j+1) ps t y).bind fun q=>(aT st i j 1).bind fun A=>bif A.own&&A.md.is d then (bw r A.xs).map fun xs=>((xs,q.1),.sp i j::q.2) else none
 |j,.int _::ps,t,y=>mc st i (j+1) ps t y
 |j,.bool::ps,t,y=>mc st i (j+1) ps t y
 |j,.str::ps,t,y=>mc st i (j+1) ps t y
 |j,.shr _::ps,t,y=>mc st i (j+1) ps t y
 |j,.lC _::ps,t,y=>mc st i (j+1) ps t y
 |j,.fn _ _::ps,t,y=>mc st i (j+1) ps t y
def td (st:St):(i:Nat)→(ps:List AP)→Option (aw (bC ps)×List Lb×List (Nat×Nat))
 |_,[]=>some ((),[],[])
 |i,.val _ _::l=>td st (i+1) l
 |i,.io r d::l=>(td st (i+1) l).bind fun q=>(CN st i (.io r d) (bC l) (.one (.ref i 0 1 .full)) q.1).map fun p=>(p.1,p.2.1++q.2.1,p.2.2++q.2.2)
 |i,.box _ ps::l=>(td st (i+1) l).bind fun q=>(CN st i (.box true ps) (bC l) (.one (.ptr i 1 0)) q.1).map fun p=>(p.1,p.2.1++q.2.1,p.2.2++q.2.2)
 |i,.bL ps::l=>(td st (i+1) l).bind fun q=>(mc st i 0 ps (bC l) q.1).map fun p=>(p.1,p.2++q.2.1,q.2.2)
def FB (rs:List RP) (ps:List AP):Ex→St→Option (aw (cN rs (bC ps)))
 |.exit _,_=>none
 |_,st=>(td st 0 ps).bind fun x=>(Ei st rs (bC ps) x.1).bind fun q=>bif uk (bR q.2.1++x.2.1)&&apart (bR q.2.1++x.2.1) (q.2.2++x.2.2) then some q.1 else none
def RP.rv (r:RP) (os:List OV):RV:=
 match r.src with
 |.ptr _=>.ptr os
 |_=>match r.agg,os with
  |false,[o]=>.one o
  |_,os=>.agg os
def fJ:(rs:List RP)→(t:RT)→aw (cN rs t)→List RV×aw t
 | [],_,x=>([],x)
 |r::rs,t,x=>(r.rv (dU r.ps (cN rs t) x).1::(fJ rs t (dU r.ps (cN rs t) x).2).1,(fJ rs t (dU r.ps (cN rs t) x).2).2)
def mP:(ps:List OP)→(t:RT)→aw (rG ps t)→List (Option fT)×aw t
 | [],_,x=>([],x)
 |.own r d::ps,t,x=>(some { r:=r,own:=true,xs:=x.1,md:=d }::(mP ps t x.2).1,(mP ps t x.2).2)
 |.int _::ps,t,x=>(none::(mP ps t x).1,(mP ps t x).2)
 |.bool::ps,t,x=>(none::(mP ps t x).1,(mP ps t x).2)
 |.str::ps,t,x=>(none::(mP ps t x).1,(mP ps t x).2)
 |.shr _::ps,t,x=>(none::(mP ps t x).1,(mP ps t x).2)
 |.lC _::ps,t,x=>(none::(mP ps t x).1,(mP ps t x).2)
 |.fn _ _::ps,t,x=>(none::(mP ps t x).1,(mP ps t x).2)
def mE:(ps:List AP)→aw (bC ps)→List XV
 | [],_=>[]
 |.val _ _::l,x=>mE l x
 |.io r d::l,x=>.io { r:=r,own:=true,xs:=x.1,md:=d }::mE l x.2
 |.box _ ps::l,x=>.box (dU ps (bC l) x).1::mE l (dU ps (bC l) x).2
 |.bL ps::l,x=>.bL (mP ps (bC l) x).1::mE l (mP ps (bC l) x).2
def kO (ps:List AP) (rs:List RP) (t:aw (aK (ps.map some))→Option (aw (cN rs (bC ps)))):ug:=fun da=>
 match dY ps da with
 |some x=>some { r:=cN rs (bC ps),o:=t x,res:=fun y=>{ outs:=(fJ rs (bC ps) y).1,exts:=mE ps (fJ rs (bC ps) y).2 } }
 |none=>none
theorem jN {st:St} {i:Nat}:(ps:List OP)→(j:Nat)→(t:RT)→(y:aw t)→{x:aw (rG ps t)}→{u:List Lb}→mc st i j ps t y=some (x,u)→(mP ps t x).2=y∧(∀l∈u,∃k,l=.sp i k)∧
  ∀(k:Nat) (r:RT) (d:Md),ps[k]?=some (.own r d)→∃A xs,aT st i (j+k) 1=some A∧A.own=true∧A.md=d∧bw r A.xs=some xs∧nth (mP ps t x).1 k=some (some { r:=r,own:=true,xs:=xs,md:=d })∧.sp i (j+k)∈u
 | [],j,t,y,x,u,h=>by
  injection h with h;injection h with e1 e2;subst e1 e2;exact ⟨rfl,by simp,fun k r d hk=>by simp at hk⟩
 |.own r d::ps,j,t,y,x,u,h=>by
  unfold mc at h;obtain ⟨q,hq,h⟩:=Option.bind_eq_some_iff.1 h;obtain ⟨A,hA,h⟩:=Option.bind_eq_some_iff.1 h;obtain ⟨ho,h⟩:=aI h;rw [Bool.and_eq_true] at ho;obtain ⟨xs,UZ,h⟩:=Option.map_eq_some_iff.1 h;injection h with e1 e2;subst e1 e2;obtain ⟨z,us⟩:=q;obtain ⟨g1,g2,g3⟩:=jN ps (j+1) t y hq;refine ⟨g1,fun l hl => ?_,fun k r' d' hk => ?_⟩
  ·rcases List.mem_cons.1 hl with rfl | hl
   ·exact ⟨j,rfl⟩
   ·exact g2 l hl
  ·cases k with
   |zero=>
    simp only [List.getElem?_cons_zero,Option.some.injEq,OP.own.injEq] at hk;obtain ⟨rfl,rfl⟩:=hk;exact ⟨A,xs,hA,ho.1,Md.iW.1 ho.2,UZ,rfl,List.mem_cons_self⟩
   |succ k=>
    obtain ⟨A',xs',k1,k2,kd,k3,k4,k5⟩:=g3 k r' d' (by simpa using hk);rw [show j+1+k=j+(k+1) by omega] at k1 k5;exact ⟨A',xs',k1,k2,kd,k3,k4,List.mem_cons_of_mem _ k5⟩
 |.int _::ps,j,t,y,x,u,h=>kr (jN ps (j+1) t y h) (by simp) (fun k=>rfl)
 |.bool::ps,j,t,y,x,u,h=>kr (jN ps (j+1) t y h) (by simp) (fun k=>rfl)
 |.str::ps,j,t,y,x,u,h=>kr (jN ps (j+1) t y h) (by simp) (fun k=>rfl)
 |.shr _::ps,j,t,y,x,u,h=>kr (jN ps (j+1) t y h) (by simp) (fun k=>rfl)
 |.lC _::ps,j,t,y,x,u,h=>kr (jN ps (j+1) t y h) (by simp) (fun k=>rfl)
 |.fn _ _::ps,j,t,y,x,u,h=>kr (jN ps (j+1) t y h) (by simp) (fun k=>rfl)
where
 kr {st:St} {i j:Nat} {p:OP} {ps:List OP} {D:Type} {y z:D} {L L':List (Option fT)} {u:List Lb} (h:z=y∧(∀l∈u,∃k,l=.sp i k)∧∀(k:Nat) (r:RT) (d:Md),ps[k]?=some (.own r d)→∃A xs,aT st i (j+1+k) 1=some A∧A.own=true∧A.md=d∧bw r A.xs=some xs∧nth L k=some (some { r:=r,own:=true,xs:=xs,md:=d })∧.sp i (j+1+k)∈u)
   (hp:∀r d,p≠.own r d) (hL:∀k,nth L' (k+1)=nth L k):z=y∧(∀l∈u,∃k,l=.sp i k)∧∀(k:Nat) (r:RT) (d:Md),(p::ps)[k]?=some (.own r d)→∃A xs,aT st i (j+k) 1=some A∧A.own=true∧A.md=d∧bw r A.xs=some xs∧nth L' k=some (some { r:=r,own:=true,xs:=xs,md:=d })∧.sp i (j+k)∈u:=by
  obtain ⟨h1,h2,h3⟩:=h;refine ⟨h1,h2,fun k r d hk => ?_⟩
  cases k with
  |zero=>
   simp only [List.getElem?_cons_zero,Option.some.injEq] at hk;exact absurd hk (hp r d)
  |succ k=>
   obtain ⟨A',xs',k1,k2,kd,k3,k4,k5⟩:=h3 k r d (by simpa using hk);rw [show j+1+k=j+(k+1) by omega] at k1 k5;exact ⟨A',xs',k1,k2,kd,k3,by rw [hL];exact k4,k5⟩
theorem Gy {st:St}:(ps:List OP)→(t:RT)→(cs:List CV)→(y:aw t)→{x:aw (lR ps t)}→{u:List (Option Lb)}→{r:List (Nat×Nat)}→ld st ps t cs y=some (x,u,r)→u.length=ps.length∧cs.length=ps.length∧(dU ps t x).1.length=ps.length
 | [],t,[],y,x,u,r,h=>by
  injection h with h;injection h with e1 e2;injection e2 with e2 e3;subst e1 e2 e3;exact ⟨rfl,rfl,rfl⟩
 | [],t,_::_,y,x,u,r,h=>by simp [ld] at h
 |_::_,t,[],y,x,u,r,h=>by simp [ld] at h
 |p::ps,t,c::cs,y,x,u,r,h=>by
  unfold ld at h
  cases hc:eS st p.nf c with
  |none=>simp [hc] at h
  |some q1=>
   obtain ⟨o,u1,r1⟩:=q1
   cases hq:ld st ps t cs y with
   |none=>simp [hc,hq] at h
   |some q2=>
    obtain ⟨z,us,rs⟩:=q2;simp only [hc,hq] at h
    cases ho:qo p o with
    |none=>simp [ho] at h
    |some a1=>
     simp only [ho] at h;injection h with h;injection h with e1 e2;injection e2 with e2 e3;subst e1 e2 e3;obtain ⟨g1,g2,g3⟩:=Gy ps t cs y hq;exact ⟨by simp [g1],by simp [g2],by simp [dU,g3]⟩
def Q1 (T:kK) (fr:Array Value):ResultVar→RP→Prop
 |.tmp t,r=>r.src=.tmp t∨r.src=.ptr t
 |.cell t ty,r=>r.src=.cell t∧T.cells ty=some r.ps.length∧T.agg ty=r.agg
def Ej (tm:Array Value):ResultVar→Sem Value
 |.tmp t=>pure (tm.getD t undef)
 |.cell a t=>do loadVar t (←asAddr (tm.getD a undef))
theorem RP.Q2 {P:Program} {T:kK} (hT:fG P T) {w0:World} {mu:Mu} {c:Cz} {st:St} {a:Act} {w:World} (h:Rel w0 mu c st a w) {r:RP} {rv:ResultVar} (hr:Q1 T a.tmps rv r) {cs:List CV} (hc:r.cells st=some cs) (hn:cs.length=r.ps.length) :
  ∃vs v,fo c st w cs vs∧(Ej a.tmps rv).run P w=.ok v w∧(((∀t,r.src≠.ptr t)∧((r.agg=true∧v=.agg vs.toArray)∨(r.agg=false∧(vs=[v]))))∨
   (∃t b ty us,r.src=.ptr t∧r.lab st=[some (.box b)]∧v=.pointer (some ⟨c.bx b,0,none⟩)∧c.own (c.bx b)=some (.box b)∧w.heap[c.bx b]?=some (.cells us ty (0,0))∧vs=us.toList)):=by
 unfold RP.cells at hc
 cases rv with
 |tmp t=>
  rcases (hr:r.src=.tmp t∨r.src=.ptr t) with hs | hs
  case inr=>
   rw [hs] at hc;have tK:=h.dO t;simp only at hc
   cases hv:bI st t with
   |m9 _=>rw [hv] at hc;cases hc
   |agg l=>rw [hv] at hc;cases hc
   |one x=>
    cases x with
    |ptr b g off=>
     rw [hv] at hc tK;obtain ⟨ho,hb⟩:=aI hc;have ho:=Nat.eq_of_beq_eq_true ho;subst ho;obtain ⟨sl,k1,k2,k3⟩:=ir hb;obtain ⟨q1,vs,ty',q2,q3⟩:=h.boxes b sl cs k1 k3;have e:a.tmps.getD t undef=.pointer (some ⟨c.bx b,0,none⟩):=tK.2.2 cs hb;refine ⟨vs.toList,a.tmps.getD t undef,q3,rfl,.inr ⟨t,b,ty',vs,hs,?_,e,q1,q2,rfl⟩⟩;unfold RP.lab;rw [hs];simp only [hv]
    |_=>rw [hv] at hc;cases hc
  rw [hs] at hc;have tK:=h.dO t;simp only at hc
  cases hv:bI st t with
  |m9 _=>rw [hv] at hc;cases hc
  |agg l=>
   rw [hv] at hc tK;obtain ⟨MR,hc1⟩:=aI hc
   cases hc1
   obtain ⟨vs,e,hl⟩:=tK;exact ⟨vs.toList,a.eval (.tmp t),hl,rfl,.inl ⟨fun t' e'=>(by rw [hs] at e';cases e'),.inl ⟨MR,by rw [e]⟩⟩⟩
  |one x=>
   rw [hv] at hc tK;simp only at hc
   cases MR:r.agg with
   |true=>rw [MR] at hc;cases hc
   |false=>
    rw [MR] at hc
    cases hc
    refine ⟨[a.eval (.tmp t)],a.eval (.tmp t),⟨rfl,fun i y z hy hz => ?_⟩,rfl,.inl ⟨fun t' e'=>(by rw [hs] at e';cases e'),.inr ⟨rfl,rfl⟩⟩⟩
    cases i with
    |zero=>simp at hy hz;subst hy hz;exact tK
    |succ i=>simp at hy
 |cell t ty=>
  obtain ⟨hs,h1,h2⟩:=hr;rw [hs] at hc;have tK:=h.dO t;simp only at hc
  cases hv:bI st t with
  |m9 _=>rw [hv] at hc;cases hc
  |agg l=>rw [hv] at hc;cases hc
  |one x=>
   cases x with
   |ptr b g off=>
    rw [hv] at hc tK;obtain ⟨ho,hb⟩:=aI hc;have ho:=Nat.eq_of_beq_eq_true ho;subst ho;obtain ⟨sl,k1,k2,k3⟩:=ir hb;obtain ⟨q1,vs,ty',q2,q3⟩:=h.boxes b sl cs k1 k3;have e:a.tmps.getD t undef=.pointer (some ⟨c.bx b,0,none⟩):=tK.2.2 cs hb;have Wo:w.rangeAt (c.bx b) 0 vs.toList:=by
     have:=Cw (off:=0) q2 vs.toList.length
     rwa [List.drop_zero,List.take_length] at this
    have hlen:vs.toList.length=r.ps.length:=by rw [←q3.1,hn]
    have qz:=sE (P:=P) hT h1 w (c.bx b) 0 vs.toList Wo hlen;refine ⟨vs.toList,valOf (T.agg ty) vs.toList,q3,?_,.inl ⟨fun t' e'=>(by rw [hs] at e';cases e'),?_⟩⟩
    ·simp [Ej,e,asAddr,Sem.run_bind,qz]
    ·rw [h2]
     cases MR:r.agg with
     |true=>exact .inl ⟨rfl,by simp [valOf]⟩
     |false=>
      obtain ⟨_,_,_,yL⟩:=hT.agg ty _ h1;have h3:=yL (by rw [h2,MR]);refine .inr ⟨rfl,?_⟩;have:vs.toList.length=1:=by rw [hlen,h3]
      cases wF:vs.toList with
      |nil=>rw [wF] at this;cases this
      |cons x l=>cases l with
       |nil=>rfl
       |cons _ _=>rw [wF] at this;simp at this
   |_=>rw [hv] at hc;cases hc
end Go.TM
