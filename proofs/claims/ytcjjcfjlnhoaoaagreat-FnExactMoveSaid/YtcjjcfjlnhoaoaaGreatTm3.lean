/- A machine over trees: an evaluator of the code, and that what it finds is so; part 3. -/
import Derived.Test.YtcjjcfjlnhoaoaaGreatTm2
import Derived.Laws.Sem
set_option linter.unusedSimpArgs false
set_option linter.unusedVariables false
namespace Go.TM
open Go Go.RowKit
structure ld (X:Lb→Prop) (w0:World) (mu:Mu) (c:Cz) (st:St) (a:Act) (w:World):Prop where
 ey:∀t,eK c st w (cC st t) (a.eval (.tmp t))
 boxes:∀s sl cs,¬X (.box s)→nth st s=some sl→sl.box=some cs→sV c st w s cs
 aK:∀s j sl A,¬X (.sp s j)→nth st s=some sl→nth sl.aK j=some (some A)→cq c w s j A
 owned:∀b l,c.own b=some l→b<w.heap.size∧(l=.out∨w0.heap.size≤b∨mu.m b)
 free:∀b,b<w0.heap.size→c.own b=none→mu.m b∨mu.ok b
 kept:w.os=w0.os∧w.tape=w0.tape∧w.output=w0.output∧w0.heap.size≤w.heap.size
 old:∀k,k<w0.heap.size→¬mu.m k→w.heap[k]?=w0.heap[k]?
 plain:a.defers=[]
 dF:∀p∈mu.an,PL c st p
 mT:∀b l,c.rs b=some l→b<w.heap.size∧(w0.heap.size≤b∨mu.m b∨mu.rs b)
theorem ld.rel {w0:World} {mu:Mu} {c:Cz} {st:St} {a:Act} {w:World} (h:ld (fun _=>False) w0 mu c st a w):Rel w0 mu c st a w:=
 ⟨h.ey,fun s sl cs=>h.boxes s sl cs id,fun s j sl A=>h.aK s j sl A id,h.owned,h.free,h.kept,h.old,h.plain,h.dF,h.mT⟩
structure zW (ρ:Lb→Lb):Prop where
 other:∀l,(l=.out∨l.real=true)→ρ l=l
def Cz.dU (c:Cz) (ρ:Lb→Lb) (bx:Nat→Nat) (lc:Nat→Nat→Loc):Cz:={ bx:=bx,lc:=lc,own:=fun b=>(c.own b).map ρ,rs:=fun b=>(c.rs b).map ρ }
theorem Cz.lQ {c:Cz} {ρ:Lb→Lb} {bx:Nat→Nat} {lc:Nat→Nat→Loc} {b:Nat}:(c.dU ρ bx lc).ok b↔c.ok b:=by
 unfold Cz.ok Cz.dU;simp
theorem oR (c:Cz) (w:World) (ρ:Lb→Lb) (bx:Nat→Nat) (lc:Nat→Nat→Loc):iH w w c.ok (c.dU ρ bx lc).ok:=⟨Nat.le_refl _,fun _ _ _=>rfl,fun _ _ h=>Cz.lQ.2 h⟩
theorem ld.dU {X X':Lb→Prop} {w0:World} {mu:Mu} {c:Cz} {st bd:St} {a:Act} {w:World} (h:ld X w0 mu c st a w) {ρ:Lb→Lb} {bx:Nat→Nat} {lc:Nat→Nat→Loc} (hρ:zW ρ)
  (fR:Fw c st w (c.dU ρ bx lc) bd w) (WD:∀t,eK (c.dU ρ bx lc) bd w (cC bd t) (a.eval (.tmp t)))
  (acU:∀s sl cs,¬X' (.box s)→nth bd s=some sl→sl.box=some cs→sV (c.dU ρ bx lc) bd w s cs)
  (zb:∀s j sl A,¬X' (.sp s j)→nth bd s=some sl→nth sl.aK j=some (some A)→cq (c.dU ρ bx lc) w s j A):ld X' w0 mu (c.dU ρ bx lc) bd a w where
 ey:=WD
 boxes:=acU
 aK:=zb
 owned b l hb:=by
  unfold Cz.dU at hb;simp only [Option.map_eq_some_iff] at hb;obtain ⟨k,hk,e⟩:=hb;obtain ⟨h1,h2⟩:=h.owned b k hk;refine ⟨h1,h2.imp (fun e2 => ?_) id⟩;subst e2;rw [←e];exact hρ.other _ (.inl rfl)
 free b hb h1:=h.free b hb (by unfold Cz.dU at h1;simpa using h1)
 kept:=h.kept
 old:=h.old
 plain:=h.plain
 dF p hp:=fR.dF (h.dF p hp)
 mT b l hb:=by
  unfold Cz.dU at hb;simp only [Option.map_eq_some_iff] at hb;obtain ⟨k,hk,e⟩:=hb;exact h.mT b k hk
theorem iB (st:St) (s j:Nat) (A:Option gM) (k:Nat):∃f:Sl→Sl,(∀x,(f x).v=x.v∧(f x).box=x.box∧(f x).bg=x.bg∧(f x).ag=x.ag∧
   (∀i,nth (f x).aK i=if k=s∧i=j then (nth x.aK i).map (fun _=>A) else nth x.aK i)∧(f x).ep=if k=s then x.ep+1 else x.ep)∧nth (bz st s j A) k=(nth st k).map f:=by
 unfold bz
 by_cases e:k=s
 ·subst e;refine ⟨fun s=>{ s with aK:=mB (fun _=>A) s.aK j,ep:=s.ep+1 },fun x=>⟨rfl,rfl,rfl,rfl,fun i => ?_,by simp⟩,gY _ _ _⟩;simp only [dD,true_and]
 ·refine ⟨id,fun x=>⟨rfl,rfl,rfl,rfl,fun i => ?_,by simp [e]⟩,by rw [lj _ _ e];simp⟩;simp [e]
theorem BG (st:St) (s j:Nat) (A:Option gM) (t:Nat):kc st t≤kc (bz st s j A) t∧(kc (bz st s j A) t=kc st t→t≠s∨nth st t=none):=by
 obtain ⟨f,hf,hk⟩:=iB st s j A t;unfold kc;rw [hk]
 cases nth st t with
 |none=>simp
 |some x=>
  simp only [Option.map_some];rw [(hf x).2.2.2.2.2]
  by_cases e:t=s
  ·rw [if_pos e];exact ⟨by omega,fun h=>by omega⟩
  ·rw [if_neg e];exact ⟨Nat.le_refl _,fun _=>.inl e⟩
theorem vz (st:St) (s j:Nat) (A:Option gM) (t:Nat):cC (bz st s j A) t=cC st t:=by
 obtain ⟨f,hf,hk⟩:=iB st s j A t;unfold cC;rw [hk]
 cases nth st t with
 |none=>rfl
 |some x=>exact (hf x).1
theorem BH (st:St) (s j:Nat) (A:Option gM) (t:Nat):dw (bz st s j A) t=dw st t∧fP (bz st s j A) t=fP st t:=by
 obtain ⟨f,hf,hk⟩:=iB st s j A t;unfold dw fP;rw [hk]
 cases nth st t with
 |none=>exact ⟨rfl,rfl⟩
 |some x=>exact ⟨(hf x).2.2.2.1,(hf x).2.2.1⟩
theorem Gk (st:St) (s j:Nat) (A:Option gM) (b g:Nat):dH (bz st s j A) b g=dH st b g:=by
 obtain ⟨f,hf,hk⟩:=iB st s j A b;unfold dH;rw [hk]
 cases nth st b with
 |none=>rfl
 |some x=>simp [(hf x).2.1,(hf x).2.2.1]
theorem pn {st:St} {a j g:Nat} {sl:Sl} {A:gM} (h1:nth st a=some sl) (h2:sl.ag=g) (h3:nth sl.aK j=some (some A)):aV st a j g=some A:=by
 unfold aV;rw [h1];simp [h2,h3]
theorem zc {c:Cz} {st:St} {w:World} {s j g:Nat} {A:Option gM} {A0:gM} (h0:aV st s j g=some A0∨A=none) (hA:∀B,A=some B→B.r.width=A0.r.width∧B.xs.length=A0.xs.length) (ρ:Lb→Lb) :
  Fw c st w (c.dU ρ c.bx c.lc) (bz st s j A) w where
 stays:=oR c w ρ _ _
 refs a' j' g' A' hg eE:=by
  obtain ⟨sl,k1,k2,k3⟩:=bt eE;obtain ⟨f,hf,hk⟩:=iB st s j A a';rw [hk] at k1
  cases hx:nth st a' with
  |none=>rw [hx] at k1;simp at k1
  |some x=>
   rw [hx] at k1;simp at k1;subst k1;rw [(hf x).2.2.2.1] at k2;rw [(hf x).2.2.2.2.1 j'] at k3
   by_cases e:a'=s∧j'=j
   ·rw [if_pos e] at k3;obtain ⟨rfl,rfl⟩:=e
    cases hq:nth x.aK j' with
    |none=>simp [hq] at k3
    |some A1=>
     simp only [hq,Option.map_some,Option.some.injEq] at k3;rcases h0 with h0 | h0
     ·obtain ⟨sl,k1',k2',k3'⟩:=bt h0;rw [hx] at k1';cases k1';obtain ⟨e1,e2⟩:=hA A' k3;refine ⟨A0,pn hx k2 k3',e1,e2,rfl,fun he => ?_⟩;rcases (BG st a' j' A a').2 he with h | h
      ·exact absurd rfl h
      ·rw [hx] at h;cases h
     ·rw [h0] at k3;cases k3
   ·rw [if_neg e] at k3;exact ⟨A',pn hx k2 k3,rfl,rfl,rfl,fun _=>⟨rfl,fun _ _ _ _=>rfl⟩⟩
 yO b g' cs _ h:=⟨⟨cs,by rwa [Gk] at h⟩,rfl⟩
 gA a':=by rw [(BH st s j A a').1];exact Nat.le_refl _
 gB a':=by rw [(BH st s j A a').2];exact Nat.le_refl _
 gE a':=(BG st s j A a').1
theorem sV.dU {c:Cz} {st bd:St} {w:World} {ρ:Lb→Lb} {bx:Nat→Nat} {lc:Nat→Nat→Loc} (hρ:zW ρ) (fR:Fw c st w (c.dU ρ bx lc) bd w) {s:Nat} {cs:List CV} (h:sV c st w s cs) (hb:bx s=c.bx s):sV (c.dU ρ bx lc) bd w s cs:=by
 refine h.go fR hb ?_ rfl;unfold Cz.dU;simp only;rw [h.1];simp [hρ.other (.box s) (.inr rfl)]
theorem cq.dU {c:Cz} {w:World} {ρ:Lb→Lb} {bx:Nat→Nat} {lc:Nat→Nat→Loc} (hρ:zW ρ) {s j:Nat} {A:gM} (h:cq c w s j A) (hl:lc s j=c.lc s j):cq (c.dU ρ bx lc) w s j A:=by
 refine h.go (oR c w ρ bx lc) hl (fun b h0=>⟨rfl,?_⟩) (fun b _ _ h0 => ?_)
 ·unfold Cz.dU;simp only;rw [h0];simp [hρ.other (.sp s j) (.inr rfl)]
 ·unfold Cz.dU;simp only;rw [h0];simp [hρ.other (.sp s j) (.inr rfl)]
theorem rB:zW id:=⟨fun _ _=>rfl⟩
theorem ld.kill {X:Lb→Prop} {w0:World} {mu:Mu} {c:Cz} {st:St} {a:Act} {w:World} (h:ld X w0 mu c st a w) (s j:Nat):ld (fun l=>X l∧l≠.sp s j) w0 mu (c.dU id c.bx c.lc) (bz st s j none) a w∧Fw c st w (c.dU id c.bx c.lc) (bz st s j none) w:=by
 have fR:Fw c st w (c.dU id c.bx c.lc) (bz st s j none) w:=zc (g:=0) (A0:={ r:=.nil,own:=false,xs:=[] }) (.inr rfl) (fun _ e=>by cases e) id;refine ⟨h.dU rB fR (fun t=>by rw [vz];exact fR.la (h.ey t)) (fun k sl cs hX hs hb => ?_) (fun k i sl A hX hs hA => ?_),fR⟩
 ·obtain ⟨f,hf,hk⟩:=iB st s j none k;rw [hk] at hs
  cases hx:nth st k with
  |none=>rw [hx] at hs;simp at hs
  |some x=>
   rw [hx] at hs;simp at hs;subst hs;rw [(hf x).2.1] at hb;exact (h.boxes k x cs (fun La=>hX ⟨La,by simp⟩) hx hb).dU rB fR rfl
 ·obtain ⟨f,hf,hk⟩:=iB st s j none k;rw [hk] at hs
  cases hx:nth st k with
  |none=>rw [hx] at hs;simp at hs
  |some x=>
   rw [hx] at hs;simp at hs;subst hs;rw [(hf x).2.2.2.2.1 i] at hA
   by_cases e:k=s∧i=j
   ·rw [if_pos e] at hA
    cases hq:nth x.aK i<;>simp [hq] at hA
   ·rw [if_neg e] at hA;exact (h.aK k i x A (fun La=>hX ⟨La,by rintro e';injection e' with e1 e2;exact e ⟨e1,e2⟩⟩) hx hA).dU rB rfl
theorem ld.mono {X X':Lb→Prop} {w0:World} {mu:Mu} {c:Cz} {st:St} {a:Act} {w:World} (h:ld X w0 mu c st a w) (hX:∀l,X l→X' l):ld X' w0 mu c st a w:=
 ⟨h.ey,fun s sl cs hn=>h.boxes s sl cs (fun h=>hn (hX _ h)),fun s j sl A hn=>h.aK s j sl A (fun h=>hn (hX _ h)),h.owned,h.free,h.kept,h.old,h.plain,h.dF,h.mT⟩
def p6 (i z s j:Nat):Lb→Lb
 |.cH x y=>if x=i∧y=z then .sp s j else .cH x y
 |l=>l
def mU (i b:Nat):Lb→Lb
 |.cH x y=>if x=i then .sp b y else .cH x y
 |.rV x=>if x=i then .box b else .rV x
 |l=>l
theorem Ez (i z s j:Nat):zW (p6 i z s j):=⟨fun l h=>by cases l<;>simp [p6,Lb.real] at h ⊢⟩
theorem CR (i b:Nat):zW (mU i b):=⟨fun l h=>by cases l<;>simp [mU,Lb.real] at h ⊢⟩
theorem OwnAt.arr {c:Cz} {w:World} {l:Lb} {lc':Loc} {A:gM} {v:Value} (h:OwnAt c w l lc' A v) {ρ:Lb→Lb} {bx:Nat→Nat} {lc:Nat→Nat→Loc} {s j:Nat} (hl:lc s j=lc') (hρ:ρ l=.sp s j):cq (c.dU ρ bx lc) w s j A:=by
 obtain ⟨_,_,h3,h4⟩:=h;unfold cq;show match lc s j with | .nil=>_ | .at b off cap=>_
 rw [hl]
 cases lc' with
 |nil=>exact h4
 |«at» b off cap=>
  obtain ⟨g1,g2,g3,g4⟩:=h4;rw [h3];have hq:∀k,c.own k=some l→(c.dU ρ bx lc).own k=some (.sp s j):=by
   intro k hk;show (c.own k).map ρ=_;rw [hk];simp [hρ]
  exact ⟨hq b g1,g2,g3,g4.go (fun _=>oR c w ρ bx lc) rfl (fun _ k hk=>⟨rfl,hq k hk⟩) (fun _ k hk=>⟨rfl,Cz.lQ.2 hk.1,by
   show (c.rs k).map ρ=_;rw [hk.2.1];simp [hρ],hk.2.2⟩)⟩
theorem ld.io {X:Lb→Prop} {w0:World} {mu:Mu} {c:Cz} {st:St} {a:Act} {w:World} (h:ld X w0 mu c st a w) {s j g i z:Nat} {A B:gM} {v:Value} (hA:aV st s j g=some A) (hw:B.r.width=A.r.width) (hn:B.xs.length=A.xs.length)
  (hB:OwnAt c w (.cH i z) (c.lc s j) B v):ld (fun l=>X l∧l≠.sp s j) w0 mu (c.dU (p6 i z s j) c.bx c.lc) (bz st s j (some B)) a w∧Fw c st w (c.dU (p6 i z s j) c.bx c.lc) (bz st s j (some B)) w:=by
 have fR:Fw c st w (c.dU (p6 i z s j) c.bx c.lc) (bz st s j (some B)) w:=zc (.inl hA) (fun _ e=>by cases e;exact ⟨hw,hn⟩) _;have ht:=Ez i z s j;refine ⟨h.dU ht fR (fun t=>by rw [vz];exact fR.la (h.ey t)) (fun k sl cs hX hs hb => ?_) (fun k q sl A' hX hs eE => ?_),fR⟩
 ·obtain ⟨f,hf,hk⟩:=iB st s j (some B) k;rw [hk] at hs
  cases hx:nth st k with
  |none=>rw [hx] at hs;simp at hs
  |some x=>
   rw [hx] at hs;simp at hs;subst hs;rw [(hf x).2.1] at hb;exact (h.boxes k x cs (fun La=>hX ⟨La,by simp⟩) hx hb).dU ht fR rfl
 ·obtain ⟨f,hf,hk⟩:=iB st s j (some B) k;rw [hk] at hs
  cases hx:nth st k with
  |none=>rw [hx] at hs;simp at hs
  |some x=>
   rw [hx] at hs;simp at hs;subst hs;rw [(hf x).2.2.2.2.1 q] at eE
   by_cases e:k=s∧q=j
   ·rw [if_pos e] at eE;obtain ⟨rfl,rfl⟩:=e
    cases hq:nth x.aK q with
    |none=>simp [hq] at eE
    |some A1=>
     simp only [hq,Option.map_some,Option.some.injEq] at eE;subst eE;exact hB.arr rfl (by simp [p6])
   ·rw [if_neg e] at eE;exact (h.aK k q x A' (fun La=>hX ⟨La,by rintro e';injection e' with e1 e2;exact e ⟨e1,e2⟩⟩) hx eE).dU ht rfl
theorem bo.cells {c:Cz} {w:World} {f:Nat→Lb}:(os:List OV)→(j:Nat)→(vs:List Value)→bo c w f j os vs→
  ∃lcs:Nat→Loc,(∀k A,nth (bE os) k=some (some A)→∃v,OwnAt c w (f (j+k)) (lcs (j+k)) A v)∧
   ∀(c2:Cz) (iz:St) (d g:Nat),(∀b,c.ok b→c2.ok b)→(∀k,k<os.length→c2.lc d (j+k)=lcs (j+k))→(∀k A,k<os.length→aV iz d (j+k) g=some A→nth (bE os) k=some (some A))→g≤dw iz d→fF c2 iz w (bu d g j os) vs
 | [],j,vs,h=>by
  subst h;exact ⟨fun _=>.nil,fun k A hA=>by simp [bE] at hA,fun _ _ _ _ _ _ _ _=>⟨rfl,fun i x v hx=>by simp [bu] at hx⟩⟩
 |o::os,j,vs,h=>by
  obtain ⟨v,l,rfl,hh,qu⟩:∃v l,vs=v::l∧bo c w f (j+1) os l∧∃lc,(∀A,o.arr=some A→OwnAt c w (f j) lc A v)∧∀(c2:Cz) (iz:St) (d g:Nat),(∀b,c.ok b→c2.ok b)→c2.lc d j=lc→(∀A,aV iz d j g=some A→o.arr=some A)→g≤dw iz d→
    ∃x,bu d g j (o::os)=x::bu d g (j+1) os∧jv c2 iz w x v:=by
   cases o with
   |int k n=>obtain ⟨l,h1,h2⟩:=h;exact ⟨_,l,h1,h2,.nil,(fun _ e=>by cases e),fun c2 iz d g _ _ _ _=>⟨_,rfl,rfl⟩⟩
   |bool b=>obtain ⟨l,h1,h2⟩:=h;exact ⟨_,l,h1,h2,.nil,(fun _ e=>by cases e),fun c2 iz d g _ _ _ _=>⟨_,rfl,rfl⟩⟩
   |str b=>obtain ⟨l,h1,h2⟩:=h;exact ⟨_,l,h1,h2,.nil,(fun _ e=>by cases e),fun c2 iz d g _ _ _ _=>⟨_,rfl,rfl⟩⟩
   |dY=>obtain ⟨l,h1,h2⟩:=h;exact ⟨_,l,h1,h2,.nil,(fun _ e=>by cases e),fun c2 iz d g _ _ _ _=>⟨_,rfl,rfl⟩⟩
   |shr r xs=>
    obtain ⟨v,l,h1,h2,h3⟩:=h;exact ⟨v,l,h1,h3,.nil,(fun _ e=>by cases e),fun c2 iz d g gP _ _ _=>⟨.shr r xs,rfl,cE.stays ⟨Nat.le_refl _,fun _ _ _=>rfl,fun b _ hb=>gP b hb⟩ _ _ _ h2⟩⟩
   |me r xs=>
    obtain ⟨v,l,h1,⟨b,o,e1,e2,e3,e4⟩,h3⟩:=h;exact ⟨v,l,h1,h3,.nil,(fun _ e=>by cases e),fun c2 iz d g gP _ _ _=>⟨.su r xs 0,rfl,b,o,e1,e2,gP b e3,fun x hx=>dE.stays ⟨Nat.le_refl _,fun _ _ _=>rfl,fun b _ hb=>gP b hb⟩ _ _ _ _ rfl (e4 x hx)⟩⟩
   |fn g rs xs=>
    obtain ⟨v,l,h1,h2,h3⟩:=h;exact ⟨v,l,h1,h3,.nil,(fun _ e=>by cases e),fun c2 iz d g' gP _ _ _=>⟨.fn g rs xs,rfl,h2.stays ⟨Nat.le_refl _,fun _ _ _=>rfl,fun b _ hb=>gP b hb⟩⟩⟩
   |own A=>
    obtain ⟨v,l,h1,⟨lc,h2⟩,h3⟩:=h;refine ⟨v,l,h1,h3,lc,(fun A' e=>by cases e;exact h2),fun c2 iz d g _ iy zb hg=>⟨.ref d j g .full,rfl,h2.1,hg,fun A' eE => ?_⟩⟩;have e:=zb A' eE
    cases e
    rw [iy];exact h2.2.1
  obtain ⟨lc,q1,q2⟩:=qu;obtain ⟨lcs,g1,g2⟩:=bo.cells os (j+1) l hh;refine ⟨fun k=>if k=j then lc else lcs k,fun k A' eE => ?_,fun c2 iz d g gP iy zb hg => ?_⟩
  ·cases k with
   |zero=>
    simp only [bE,nth,Option.some.injEq] at eE;exact ⟨v,by simpa using q1 A' eE⟩
   |succ k=>
    have:=g1 k A' eE;rw [show j+1+k=j+(k+1) by omega] at this;show ∃v,OwnAt c w (f (j+(k+1))) (if j+(k+1)=j then lc else lcs (j+(k+1))) A' v;rw [if_neg (by omega)];exact this
  ·have fh:=g2 c2 iz d g gP (fun k hk=>by
    have:c2.lc d (j+(k+1))=if j+(k+1)=j then lc else lcs (j+(k+1)):=iy (k+1) (by simp;exact hk)
    rw [if_neg (by omega)] at this;rw [show j+1+k=j+(k+1) by omega];exact this) (fun k A' hk eE=>by
     have:=zb (k+1) A' (by simp;exact hk) (by rw [show j+(k+1)=j+1+k by omega];exact eE);exact this) hg
   have h0:c2.lc d j=lc:=by
    have:=iy 0 (by simp);simpa using this
   obtain ⟨x,e1,e2⟩:=q2 c2 iz d g gP h0 (fun A hA=>by
    have:=zb 0 A (by simp) hA;simpa [bE,nth] using this) hg
   rw [e1];refine ⟨by simp [fh.1],fun k y z hy hz => ?_⟩
   cases k with
   |zero=>
    simp only [List.getElem?_cons_zero,Option.some.injEq] at hy hz;subst hy hz;exact e2
   |succ k=>exact fh.2 k y z (by simpa using hy) (by simpa using hz)
theorem ld.boxed {X:Lb→Prop} {w0:World} {mu:Mu} {c:Cz} {st:St} {a:Act} {w:World} (h:ld X w0 mu c st a w) {b g i:Nat} {s0:Sl} {Eh:List CV} {os:List OV} {v:Value} (gN:nth st b=some s0) (yL:dH st b g=some Eh) (hv:v=.pointer (some ⟨c.bx b,0,none⟩))
  (hB:Dm c w i os v):∃c',ld (fun l=>X l∧l≠.box b) w0 mu c' (mB (fun s=>{ s with box:=some (bu b (s0.ag+1) 0 os),aK:=bE os,ag:=s0.ag+1 }) st b) a w∧
   Fw c st w c' (mB (fun s=>{ s with box:=some (bu b (s0.ag+1) 0 os),aK:=bE os,ag:=s0.ag+1 }) st b) w∧Pass c c' (fun l=>(∀y,l≠.cH i y)∧l≠.rV i):=by
 obtain ⟨oq,vs,ty,h1,h2,h3,h4⟩:=hB;obtain ⟨lcs,g1,g2⟩:=bo.cells os 0 _ h4;rw [hv] at h1;have e:c.bx b=oq:=by injection h1 with h1;injection h1 with h1;injection h1
 obtain ⟨_,WE,MZ,P8⟩:=iN yL;rw [gN] at WE;cases WE
 let c':=c.dU (mU i b) c.bx (fun s j=>if s=b then lcs j else c.lc s j)
 let bd:=mB (fun s=>{ s with box:=some (bu b (s0.ag+1) 0 os),aK:=bE os,ag:=s0.ag+1 }) st b
 have hn:∀s,nth bd s=if s=b then some { s0 with box:=some (bu b (s0.ag+1) 0 os),aK:=bE os,ag:=s0.ag+1 } else nth st s:=by
  intro s;show nth (mB _ st b) s=_;rw [dD]
  by_cases e:s=b
  ·subst e;simp [gN]
  ·simp [e]
 have zd:dw bd b=s0.ag+1:=by unfold dw;rw [hn];simp
 have Gl:dw st b=s0.ag:=by unfold dw;rw [gN]
 have ht:=CR i b;have fR:Fw c st w c' bd w:={
  stays:=oR c w _ _ _
  refs:=fun a' j' g' A' hg eE=>by
   obtain ⟨sl,k1,k2,k3⟩:=bt eE;rw [hn] at k1
   by_cases e:a'=b
   ·rw [if_pos e] at k1
    cases k1
    subst e;simp only at k2;omega
   ·rw [if_neg e] at k1;exact ⟨A',pn k1 k2 k3,rfl,rfl,by show (if a'=b then _ else _)=_;rw [if_neg e],fun _=>⟨rfl,fun _ _ _ _=>rfl⟩⟩
  yO:=fun b' g' mf hg HR=>by
   obtain ⟨sl,k1,k2,k3⟩:=iN HR;rw [hn] at k1
   by_cases e:b'=b
   ·rw [if_pos e] at k1
    cases k1
    subst e;exact ⟨⟨Eh,by unfold dH;rw [gN];simp at k2;simp [k2,P8]⟩,rfl⟩
   ·rw [if_neg e] at k1;exact ⟨⟨mf,by unfold dH;rw [k1];simp [k2,k3]⟩,rfl⟩
  gA:=fun a'=>by
   by_cases e:a'=b
   ·subst e;rw [zd,Gl];omega
   ·unfold dw;rw [hn,if_neg e];exact Nat.le_refl _
  gB:=fun a'=>by
   by_cases e:a'=b
   ·subst e;unfold fP;rw [hn,if_pos rfl,gN];exact Nat.le_refl _
   ·unfold fP;rw [hn,if_neg e];exact Nat.le_refl _
  gE:=fun a'=>by
   by_cases e:a'=b
   ·subst e;unfold kc;rw [hn,if_pos rfl,gN];exact Nat.le_refl _
   ·unfold kc;rw [hn,if_neg e];exact Nat.le_refl _ }
 have Gm:∀k A,aV bd b k (s0.ag+1)=some A→nth (bE os) k=some (some A):=by
  intro k A hA;obtain ⟨sl,k1,k2,k3⟩:=bt hA;rw [hn,if_pos rfl] at k1
  cases k1
  exact k3
 refine ⟨c',h.dU ht fR (fun t => ?_) (fun s sl cs hX hs hb => ?_) (fun s j sl A hX hs hA => ?_),fR,⟨fun k l hl hk => ?_,fun k hk=>Cz.lQ.2 hk,fun k l hl hk => ?_⟩⟩
 ·have:cC bd t=cC st t:=by
   unfold cC;rw [hn]
   by_cases e:t=b
   ·subst e;rw [if_pos rfl,gN]
   ·rw [if_neg e]
  rw [this];exact fR.la (h.ey t)
 ·rw [hn] at hs
  by_cases e':s=b
  ·subst e';rw [if_pos rfl] at hs
   cases hs
   simp only [Option.some.injEq] at hb;subst hb;refine ⟨?_,vs,ty,by show w.heap[c.bx s]?=_;rw [e];exact h3,?_⟩
   ·show (c.own (c.bx s)).map (mU i s)=some (.box s);rw [e,h2];simp [mU]
   ·exact g2 c' bd s (s0.ag+1) (fun b hb=>Cz.lQ.2 hb) (fun k _=>by show (if s=s then _ else _)=_;rw [if_pos rfl]) (fun k A _ hA=>Gm k A (by simpa using hA)) (by rw [zd];exact Nat.le_refl _)
  ·rw [if_neg e'] at hs;exact (h.boxes s sl cs (fun La=>hX ⟨La,by rintro e2;injection e2 with e2;exact e' e2⟩) hs hb).dU ht fR rfl
 ·rw [hn] at hs
  by_cases e':s=b
  ·subst e';rw [if_pos rfl] at hs
   cases hs
   obtain ⟨v',qC⟩:=g1 j A hA;exact qC.arr (by simp) (by simp [mU])
  ·rw [if_neg e'] at hs;exact (h.aK s j sl A (fun La=>hX ⟨La,by simp⟩) hs hA).dU ht (by simp [e'])
 ·show (c.own k).map (mU i b)=_;rw [hk];simp only [Option.map_some,Option.some.injEq]
  cases l with
  |cH x y=>simp only [mU];rw [if_neg];rintro rfl;exact hl.1 y rfl
  |rV x=>simp only [mU];rw [if_neg];rintro rfl;exact hl.2 rfl
  |_=>rfl
 ·show (c.rs k).map (mU i b)=_;rw [hk];simp only [Option.map_some,Option.some.injEq]
  cases l with
  |cH x y=>simp only [mU];rw [if_neg];rintro rfl;exact hl.1 y rfl
  |rV x=>simp only [mU];rw [if_neg];rintro rfl;exact hl.2 rfl
  |_=>rfl
end Go.TM
namespace Go.TM
open Go Go.RowKit
def Lb.xY:Lb→Option Lb
 |.cH i j=>some (.cH i j)
 |.rV i=>some (.rV i)
 |.gO j=>some (.gO j)
 |_=>none
noncomputable def Cz.merge (c c1:Cz) (n:Nat) (m r:Nat→Prop):Cz:=
 {
  bx:=c.bx,lc:=c.lc,own:=fun b=>have:=Classical.propDecidable (b<n∧¬m b);if b<n∧¬m b then c.own b else (c1.own b).bind Lb.xY,
  rs:=fun b=>have:=Classical.propDecidable (b<n∧¬m b∧¬r b);if b<n∧¬m b∧¬r b then c.rs b else (c1.rs b).bind Lb.xY }
theorem Cz.xZ {c c1:Cz} {n:Nat} {m r:Nat→Prop} {b:Nat} (h:b<n∧¬m b∧¬r b):(c.merge c1 n m r).rs b=c.rs b:=by
 unfold Cz.merge;simp only;rw [if_pos h]
theorem Cz.x3 {c c1:Cz} {n:Nat} {m r:Nat→Prop} {b:Nat} (h:¬(b<n∧¬m b∧¬r b)):(c.merge c1 n m r).rs b=(c1.rs b).bind Lb.xY:=by
 unfold Cz.merge;simp only;rw [if_neg h]
theorem Cz.qS {c c1:Cz} {n:Nat} {m r:Nat→Prop} {b:Nat} (h:b<n∧¬m b):(c.merge c1 n m r).own b=c.own b:=by
 unfold Cz.merge;simp only;rw [if_pos h]
theorem Cz.wm {c c1:Cz} {n:Nat} {m r:Nat→Prop} {b:Nat} (h:¬(b<n∧¬m b)):(c.merge c1 n m r).own b=(c1.own b).bind Lb.xY:=by
 unfold Cz.merge;simp only;rw [if_neg h]
theorem Lc {u:List Lb} {a j:Nat} (h:Lb.sp a j∈u):nG u a=true:=by
 unfold nG;exact List.any_eq_true.2 ⟨_,h,by simp⟩
theorem Dq (u:List Lb):(st:St)→(a s:Nat)→nth (qp u a st) s=(nth st s).map fun x=>bif nG u (a+s) then { x with ep:=x.ep+1 } else x
 | [],_,_=>rfl
 |x::l,a,0=>rfl
 |x::l,a,s+1=>by
  show nth (qp u (a+1) l) s=_;rw [Dq u l (a+1) s,show a+1+s=a+(s+1) by omega];rfl
theorem rC (u:List Lb) (st:St) (s:Nat):nth (qp u 0 st) s=(nth st s).map fun x=>bif nG u s then { x with ep:=x.ep+1 } else x:=by
 rw [Dq,Nat.zero_add]
theorem Ld (u:List Lb) (st:St) (t:Nat):cC (qp u 0 st) t=cC st t:=by
 unfold cC;rw [rC]
 cases nth st t<;>cases nG u t<;>rfl
theorem Le (u:List Lb) (st:St) (a j g:Nat):aV (qp u 0 st) a j g=aV st a j g:=by
 unfold aV;rw [rC]
 cases nth st a<;>cases nG u a<;>rfl
theorem Lf (u:List Lb) (st:St) (b g:Nat):dH (qp u 0 st) b g=dH st b g:=by
 unfold dH;rw [rC]
 cases nth st b<;>cases nG u b<;>rfl
theorem Gn (u:List Lb) (st:St) (a:Nat):dw (qp u 0 st) a=dw st a∧fP (qp u 0 st) a=fP st a:=by
 unfold dw fP;rw [rC]
 cases nth st a<;>cases nG u a<;>exact ⟨rfl,rfl⟩
theorem Gp (u:List Lb) (st:St) (a:Nat):kc st a≤kc (qp u 0 st) a∧(kc (qp u 0 st) a=kc st a→nth st a=none∨nG u a=false):=by
 unfold kc;rw [rC]
 cases nth st a<;>cases nG u a<;>simp
theorem Rel.WG {w0:World} {mu:Mu} {c:Cz} {st:St} {a:Act} {w:World} (h:Rel w0 mu c st a w) {μ:Mu} {c1:Cz} {w':World} (hb:K0 w μ c1 w') {X:Lb→Prop} (hm:∀b,μ.m b→∃l,c.own b=some l∧X l) (hr:∀b,μ.rs b→∃l,c.rs b=some l∧X l) (hX:∀l,X l→l≠.out) {u:List Lb} (hu:∀a j,X (.sp a j)→nG u a=true) :
  ld X w0 mu (c.merge c1 w.heap.size μ.m μ.rs) (qp u 0 st) a w'∧Fw c st w (c.merge c1 w.heap.size μ.m μ.rs) (qp u 0 st) w'∧(∀b l,c.own b=some l→¬X l→w'.heap[b]?=w.heap[b]?∧(c.merge c1 w.heap.size μ.m μ.rs).own b=c.own b)∧(∀b l,l.xY=some l→c1.own b=some l→(c.merge c1 w.heap.size μ.m μ.rs).own b=some l)∧((∀b,μ.ok b→c.own b=none)→∀b,c1.ok b→(c.merge c1 w.heap.size μ.m μ.rs).ok b)∧(∀b l,l.xY=some l→c1.rs b=some l→(c.merge c1 w.heap.size μ.m μ.rs).rs b=some l):=by
 have kg:w.heap.size≤w'.heap.size:=hb.kept.2.2.2;have re:iH w w' c.ok (c.merge c1 w.heap.size μ.m μ.rs).ok:={
  size:=kg
  block:=fun b dG gP=>hb.old b dG (fun CH=>by
   obtain ⟨l,hl,_⟩:=hm b CH;unfold Cz.ok at gP;rw [gP] at hl;cases hl)
  ok:=fun b dG gP=>by
   unfold Cz.ok;rw [Cz.qS ⟨dG,fun CH=>by
    obtain ⟨l,hl,_⟩:=hm b CH;unfold Cz.ok at gP;rw [gP] at hl;cases hl⟩]
   exact gP }
 have keep:∀b l,c.own b=some l→¬X l→w'.heap[b]?=w.heap[b]?∧(c.merge c1 w.heap.size μ.m μ.rs).own b=c.own b:=by
  intro b l hl hn;have dG:=(h.owned b l hl).1;have CH:¬μ.m b:=fun CH=>by
   obtain ⟨l',tD,hx⟩:=hm b CH;rw [hl] at tD;cases tD;exact hn hx
  exact ⟨hb.old b dG CH,Cz.qS ⟨dG,CH⟩⟩
 have fR:Fw c st w (c.merge c1 w.heap.size μ.m μ.rs) (qp u 0 st) w':={
  stays:=re
  refs:=fun a' j g A' _ hA=>by
   rw [Le] at hA;refine ⟨A',hA,rfl,rfl,rfl,fun he => ?_⟩;rcases (Gp u st a').2 he with e | e
   ·unfold aV at hA;rw [e] at hA
    cases hA
   ·have gr:∀j,¬X (.sp a' j):=fun j hx=>by rw [hu a' j hx] at e;cases e
    obtain ⟨zT,gN,_,HS⟩:=bt hA;have h0:=h.aK a' j zT A' gN HS;refine ⟨rfl,fun b o cap iy => ?_⟩;unfold cq at h0;rw [iy] at h0;have h1:=h0.1
    cases eL:A'.own with
    |true=>
     rw [eL] at h1;exact (keep b _ h1 (gr j)).1
    |false=>
     rw [eL] at h1;exact re.block b (by obtain ⟨_,_,⟨cur,te,h3,_⟩,_⟩:=h0;exact (Array.getElem?_eq_some_iff.1 h3).1) h1
  yO:=fun b g cs _ hc=>⟨⟨cs,by rwa [Lf] at hc⟩,rfl⟩
  gA:=fun a'=>by rw [(Gn u st a').1];exact Nat.le_refl _
  gB:=fun a'=>by rw [(Gn u st a').2];exact Nat.le_refl _
  gE:=fun a'=>(Gp u st a').1 }
 refine ⟨⟨fun t=>by rw [Ld];exact fR.la (h.ey t),fun s sl cs hn hs yL => ?_,fun s j sl A hn hs hA => ?_,fun b l hl => ?_,fun b dG hl => ?_,?_,fun k hk hmu => ?_,h.plain,fun p hp=>fR.dF (h.dF p hp),fun b l hl => ?_⟩,fR,keep,fun b l hk hl => ?_,fun gP b h1 => ?_,fun b l hk hl => ?_⟩
 ·rw [rC] at hs;obtain ⟨zT,gN,rfl⟩:=Option.map_eq_some_iff.1 hs;have h0:=h.boxes s zT cs gN (by cases hq:nG u s<;>rw [hq] at yL<;>exact yL);obtain ⟨k1,k2⟩:=keep _ _ h0.1 hn;exact h0.go fR rfl k2 k1
 ·rw [rC] at hs;obtain ⟨zT,gN,rfl⟩:=Option.map_eq_some_iff.1 hs;have h0:=h.aK s j zT A gN (by cases hq:nG u s<;>rw [hq] at hA<;>exact hA);exact h0.go re rfl (fun b g1=>keep b _ g1 hn) (fun b g1 g2 g3=>by
   have k1:¬μ.m b:=fun CH=>by
    obtain ⟨l,hl,_⟩:=hm b CH;rw [g1] at hl;cases hl
   have k2:¬μ.rs b:=fun Wh=>by
    obtain ⟨l,hl,hx⟩:=hr b Wh;rw [g3] at hl;cases hl;exact hn hx
   rw [Cz.xZ ⟨g2,k1,k2⟩];exact g3)
 ·by_cases e:b<w.heap.size∧¬μ.m b
  ·rw [Cz.qS e] at hl;have:=h.owned b l hl;exact ⟨Nat.lt_of_lt_of_le this.1 kg,this.2⟩
  ·rw [Cz.wm e] at hl;obtain ⟨k,hk,e2⟩:=Option.bind_eq_some_iff.1 hl;obtain ⟨g1,g2⟩:=hb.owned b k hk;refine ⟨g1,.inr ?_⟩;have zO:k≠.out:=by rintro rfl;simp [Lb.xY] at e2
   by_cases dG:b<w.heap.size
   ·have CH:μ.m b:=Classical.not_not.1 (fun h=>e ⟨dG,h⟩);obtain ⟨l',tD,hx⟩:=hm b CH;rcases (h.owned b l' tD).2 with q | q
    ·exact absurd q (hX l' hx)
    ·exact q
   ·have:=h.kept.2.2.2;exact .inl (by omega)
 ·by_cases e:b<w.heap.size∧¬μ.m b
  ·rw [Cz.qS e] at hl;exact h.free b dG hl
  ·have Sq:b<w.heap.size:=Nat.lt_of_lt_of_le dG h.kept.2.2.2;have CH:μ.m b:=Classical.not_not.1 (fun h=>e ⟨Sq,h⟩);obtain ⟨l',tD,hx⟩:=hm b CH;rcases (h.owned b l' tD).2 with q | q | q
   ·exact absurd q (hX l' hx)
   ·omega
   ·exact .inl q
 ·exact ⟨hb.kept.1.trans h.kept.1,hb.kept.2.1.trans h.kept.2.1,hb.kept.2.2.1.trans h.kept.2.2.1,Nat.le_trans h.kept.2.2.2 kg⟩
 ·have Sq:k<w.heap.size:=Nat.lt_of_lt_of_le hk h.kept.2.2.2;rw [hb.old k Sq (fun CH => ?_)]
  ·exact h.old k hk hmu
  ·obtain ⟨l',tD,hx⟩:=hm k CH;rcases (h.owned k l' tD).2 with q | q | q
   ·exact hX l' hx q
   ·omega
   ·exact hmu q
 ·by_cases e:b<w.heap.size∧¬μ.m b∧¬μ.rs b
  ·rw [Cz.xZ e] at hl;have:=h.mT b l hl;exact ⟨Nat.lt_of_lt_of_le this.1 kg,this.2⟩
  ·rw [Cz.x3 e] at hl;obtain ⟨k,hk,_⟩:=Option.bind_eq_some_iff.1 hl;obtain ⟨g1,g2⟩:=hb.mT b k hk;refine ⟨g1,?_⟩;rcases g2 with q | q | q
   ·have:=h.kept.2.2.2;exact .inl (by omega)
   ·obtain ⟨l',tD,hx⟩:=hm b q;rcases (h.owned b l' tD).2 with q | q
    ·exact absurd q (hX l' hx)
    ·exact q.imp id .inl
   ·obtain ⟨l',tD,_⟩:=hr b q;exact (h.mT b l' tD).2
 ·rw [Cz.wm (fun e => ?_),hl]
  ·exact hk
  ·rcases (hb.owned b l hl).2 with q | q | q
   ·subst q;simp [Lb.xY] at hk
   ·omega
   ·exact e.2 q
 ·unfold Cz.ok at h1 ⊢
  by_cases e:b<w.heap.size∧¬μ.m b
  ·rw [Cz.qS e];rcases hb.free b e.1 h1 with q | q
   ·exact absurd q e.2
   ·exact gP b q
  ·rw [Cz.wm e,h1];rfl
 ·rw [Cz.x3 (fun e => ?_),hl]
  ·exact hk
  ·rcases (hb.mT b l hl).2 with q | q | q
   ·omega
   ·exact e.2.1 q
   ·exact e.2.2 q
theorem Cz.Gq (c:Cz) (bx:Nat→Nat) (lc:Nat→Nat→Loc):(c.dU id bx lc).own=c.own:=by
 funext b
 unfold Cz.dU;simp
theorem xi {w0:World} {mu:Mu} {a:Act} {w:World}:(ks:List Lb)→{X:Lb→Prop}→{c:Cz}→{st:St}→ld X w0 mu c st a w→
  ∃c',ld (fun l=>X l∧∀s j,Lb.sp s j∈ks→l≠.sp s j) w0 mu c' (pg st ks) a w∧Fw c st w c' (pg st ks) w∧c'.own=c.own∧c'.rs=c.rs
 | [],X,c,st,h=>⟨c,h.mono (fun l hl=>⟨hl,by simp⟩),Fw.refl c st w,rfl,rfl⟩
 |k::ks,X,c,st,h=>by
  have skip:pg st (k::ks)=pg st ks→(∀s j,k≠.sp s j)→∃c',ld (fun l=>X l∧∀s j,Lb.sp s j∈k::ks→l≠.sp s j) w0 mu c' (pg st (k::ks)) a w∧Fw c st w c' (pg st (k::ks)) w∧c'.own=c.own∧c'.rs=c.rs:=by
   intro e hk;obtain ⟨c',h1,h2,h3⟩:=xi ks h;rw [e];refine ⟨c',h1.mono (fun l hl=>⟨hl.1,fun s j hm => ?_⟩),h2,h3⟩;rcases List.mem_cons.1 hm with e2 | hm
   ·exact absurd e2.symm (hk s j)
   ·exact hl.2 s j hm
  cases k with
  |sp s j=>
   obtain ⟨h1,h2⟩:=h.kill s j;obtain ⟨c',h3,h4,h5⟩:=xi ks h1;refine ⟨c',h3.mono (fun l hl=>⟨hl.1.1,fun s' j' hm => ?_⟩),h2.trans h4,h5.1.trans (Cz.Gq _ _ _),h5.2.trans (by funext b;unfold Cz.dU;simp)⟩;rcases List.mem_cons.1 hm with e2 | hm
   ·cases e2;exact hl.1.2
   ·exact hl.2 s' j' hm
  |_=>exact skip rfl (by simp)
def ze (m:Pm):V→List Lb
 |.one (.ptr b _ _)=>[.box b]
 |.one (.ref a j _ _)=>match m with
  |.io=>[.sp a j]
  |_=>[]
 |.agg cs=>match m with
  |.cz=>cs.filterMap fun x=>match x with | .ref a j _ _=>some (.sp a j) | _=>none
  |_=>[]
 |_=>[]
def Nx (st:St) (m:Pm×V) (av:AV):Prop:=∃u q r,eI st m.1 m.2=some (av,u,q,r)
theorem Gr {st:St} {own:Bool}:(cs:List CV)→{os:List OV}→{u:List (Option Lb)}→{r:List (Nat×Nat)}→fk st own cs=some (os,u,r)→∀(k:Nat) {a j g:Nat} ,cs[k]?=some (.ref a j g .full)→os[k]?=(aV st a j g).map fun A=>bif own&&A.own then .own A else .shr A.r A.xs
 | [],_,_,_,h=>by intro k a j g hk;simp at hk
 |x::cs,os,u,r,h=>by
  unfold fk at h
  cases hc:fj st own x with
  |none=>simp [hc] at h
  |some p=>
   obtain ⟨o,u1,r1⟩:=p
   cases hq:fk st own cs with
   |none=>simp [hc,hq] at h
   |some q=>
    obtain ⟨xT,us,rs⟩:=q;simp only [hc,hq,Option.some.injEq,Prod.mk.injEq] at h;obtain ⟨rfl,rfl,_⟩:=h;intro k a j g hk
    cases k with
    |succ k=>simpa using Gr cs hq k (by simpa using hk)
    |zero=>
     simp only [List.getElem?_cons_zero,Option.some.injEq] at hk;subst hk;unfold fj at hc;simp only at hc
     cases hA:aV st a j g with
     |none=>simp [hA] at hc
     |some A=>
      simp only [hA] at hc
      cases hm:A.md.C7 with
      |true=>simp [hm] at hc
      |false=>
      simp only [hm,cond_false,View.isFull,Bool.or_true,Bool.and_true] at hc
      cases hb:(own&&A.own)<;>simp only [hb,cond_true,cond_false,Option.some.injEq,Prod.mk.injEq] at hc<;>obtain ⟨rfl,_⟩:=hc<;>simp [hb,View.app]
theorem BI {w0 wb:World} {mu:Mu} {a:Act} {w:World} {c0:Cz} {u9:St} {i:Nat} {As:List (Option gM)}:(cs:List CV)→(j0:Nat)→(us:List Value)→{X:Lb→Prop}→{c:Cz}→{st bd:St}→ld X w0 mu c st a w→Fw c0 u9 wb c st w→
  (∀(k:Nat) (x:CV) (v:Value),cs[k]?=some x→us[k]?=some v→jv c0 u9 wb x v)→
  (∀(k s j g:Nat) (vw:View),cs[k]?=some (.ref s j g vw)→∃A B u,aV u9 s j g=some A∧nth As (j0+k)=some (some B)∧us[k]?=some u∧B.r.width=A.r.width∧B.xs.length=A.xs.length∧OwnAt c w (.cH i (j0+k)) (c0.lc s j) B u)→
  Bi st j0 cs As=some bd→
  ∃c',ld (fun l=>X l∧∀s j g vw,CV.ref s j g vw∈cs→l≠.sp s j) w0 mu c' bd a w∧Fw c0 u9 wb c' bd w∧Pass c c' (fun l=>∀y,l≠.cH i y)
 | [],j0,us,X,c,st,bd,h,fR,_,_,hv=>by
  simp only [Bi,Option.some.injEq] at hv;subst hv;exact ⟨c,h.mono (fun l hl=>⟨hl,by simp⟩),fR,⟨fun _ _ _ h=>h,fun _ h=>h,fun _ _ _ h=>h⟩⟩
 |x::cs,j0,us,X,c,st,bd,h,fR,hr,hB,hv=>by
  have skip:(∀s j g vw,x≠.ref s j g vw)→Bi st (j0+1) cs As=some bd→∃c',ld (fun l=>X l∧∀s j g vw,CV.ref s j g vw∈x::cs→l≠.sp s j) w0 mu c' bd a w∧Fw c0 u9 wb c' bd w∧Pass c c' (fun l=>∀y,l≠.cH i y):=by
   intro hx hv;obtain ⟨c',g1,g2,g3⟩:=BI (i:=i) cs (j0+1) us.tail h fR (fun k y v hk hv=>hr (k+1) y v (by simpa using hk) (by simpa using hv)) (fun k s j g vw hk=>by
    obtain ⟨A,B,u,q1,q2,q3,q4,q5,q6⟩:=hB (k+1) s j g vw (by simpa using hk);refine ⟨A,B,u,q1,by rw [show j0+1+k=j0+(k+1) by omega];exact q2,by simpa using q3,q4,q5,by rw [show j0+1+k=j0+(k+1) by omega];exact q6⟩) hv
   refine ⟨c',g1.mono (fun l hl=>⟨hl.1,fun s j g vw hm => ?_⟩),g2,g3⟩;rcases List.mem_cons.1 hm with e | hm
   ·exact absurd e.symm (hx s j g vw)
   ·exact hl.2 s j g vw hm
  cases x with
  |ref s j g vw=>
   unfold Bi at hv
   split at hv
   ·rename_i B A1 R8 Si;obtain ⟨A,B',u,q1,q2,q3,q4,q5,q6⟩:=hB 0 s j g vw rfl;rw [Nat.add_zero] at q2 q6;rw [R8] at q2;simp only [Option.some.injEq] at q2;subst q2;have WH:=hr 0 _ u rfl q3;obtain ⟨A0',p1,p2,p3,p4,_⟩:=fR.refs s j g A1 WH.2.1 Si;rw [q1] at p1;cases p1;have hO':OwnAt c w (.cH i j0) (c.lc s j) B u:=by rw [p4];exact q6
    obtain ⟨g1,g2⟩:=h.io Si (q4.trans p2.symm) (q5.trans p3.symm) hO';have WI:∀l,l≠.cH i j0→p6 i j0 s j l=l:=by
     intro l hl
     cases l with
     |cH x y=>simp only [p6];rw [if_neg];rintro ⟨rfl,rfl⟩;exact hl rfl
     |_=>rfl
    have zX:Pass c (c.dU (p6 i j0 s j) c.bx c.lc) (fun l=>l≠.cH i j0):=⟨fun b l hl hb=>by
     show (c.own b).map _=_;rw [hb];simp [WI l hl],fun b hb=>Cz.lQ.2 hb,fun b l hl hb=>by
     show (c.rs b).map _=_;rw [hb];simp [WI l hl]⟩
    obtain ⟨c',k1,k2,k3⟩:=BI (i:=i) cs (j0+1) us.tail g1 (fR.trans g2) (fun k y v hk hv=>hr (k+1) y v (by simpa using hk) (by simpa using hv)) (fun k s' j' g' vw' hk=>by
     obtain ⟨A,B,u,q1,q2,q3,q4,q5,q6⟩:=hB (k+1) s' j' g' vw' (by simpa using hk);refine ⟨A,B,u,q1,by rw [show j0+1+k=j0+(k+1) by omega];exact q2,by simpa using q3,q4,q5,?_⟩;rw [show j0+1+k=j0+(k+1) by omega];exact q6.pass (fun b=>zX.keeps (by simp) b) (.inl fun b hb=>Cz.lQ.2 hb)) hv
    refine ⟨c',k1.mono (fun l hl=>⟨hl.1.1,fun s' j' g' vw' hm => ?_⟩),k2,⟨fun b l hl hb=>k3.cH b l hl (zX.cH b l (hl j0) hb),fun b hb=>k3.ok b (Cz.lQ.2 hb),fun b l hl hb=>k3.rz b l hl (zX.rz b l (hl j0) hb)⟩⟩;rcases List.mem_cons.1 hm with e | hm
    ·cases e;exact hl.1.2
    ·exact hl.2 s' j' g' vw' hm
   ·cases hv
  |_=>exact skip (by simp) hv
theorem s6 {l:Lb} (i:Nat) (h:(∃j,l=.gO j)∨l.real=true):∀y,l≠.cH i y:=by
 rcases h with ⟨j,rfl⟩ | h
 ·simp
 ·rintro y rfl;simp [Lb.real] at h
theorem Ds {l:Lb} (i:Nat) (h:(∃j,l=.gO j)∨l.real=true):(∀y,l≠.cH i y)∧l≠.rV i:=by
 refine ⟨s6 i h,?_⟩;rcases h with ⟨j,rfl⟩ | h
 ·simp
 ·rintro rfl;simp [Lb.real] at h
theorem BJ {w0 wb:World} {mu:Mu} {a:Act} {w:World} {c0:Cz} {u9:St} {lc:Nat→Nat→Loc}:(ms:List (Pm×V))→(i:Nat)→(dL:List AV)→(xs:List Value)→(es:List XV)→{X:Lb→Prop}→{c:Cz}→{st bd:St}→ld X w0 mu c st a w→Fw c0 u9 wb c st w→
  (∀(k:Nat) (m:Pm×V) (x:Value),ms[k]?=some m→xs[k]?=some x→eK c0 u9 wb m.2 x)→(∀(k:Nat) (m:Pm×V) (av:AV),ms[k]?=some m→dL[k]?=some av→Nx u9 m av)→ms.length=dL.length→ms.length=xs.length→(∀(k:Nat) (m:Pm×V),ms[k]?=some m→lc (i+k)=zV c0 m.2)→
  iI c w lc i dL xs es→tI st ms es=some bd→
  ∃c',ld (fun l=>X l∧∀m∈ms,l∉ze m.1 m.2) w0 mu c' bd a w∧Fw c0 u9 wb c' bd w∧Pass c c' (fun l=>(∃j,l=.gO j)∨l.real=true)
 | [],i,dL,xs,es,X,c,st,bd,h,fR,_,_,_,_,_,hx,hv=>by
  cases es with
  |nil=>
   simp only [tI,Option.some.injEq] at hv;subst hv;exact ⟨c,h.mono (fun l hl=>⟨hl,by simp⟩),fR,⟨fun _ _ _ h=>h,fun _ h=>h,fun _ _ _ h=>h⟩⟩
  |cons _ _=>simp [tI] at hv
 |(m,v)::ms,i,[],xs,es,X,c,st,bd,h,fR,hr,he,hn,hn2,iy,hx,hv=>by simp at hn
 |(m,v)::ms,i,av::dL,[],es,X,c,st,bd,h,fR,hr,he,hn,hn2,iy,hx,hv=>by simp at hn2
 |(m,v)::ms,i,av::dL,x::xs,es,X,c,st,bd,h,fR,hr,he,hn,hn2,iy,hx,hv=>by
  have WH:=hr 0 (m,v) x rfl rfl;obtain ⟨u,q,r,qv⟩:=he 0 (m,v) av rfl rfl;have M9:=iy 0 (m,v) rfl;simp only [Nat.add_zero] at M9;have Wh:∀(k:Nat) (m:Pm×V) (x:Value),ms[k]?=some m→xs[k]?=some x→eK c0 u9 wb m.2 x:=fun k m' x' h1 h2=>hr (k+1) m' x' (by simpa using h1) (by simpa using h2)
  have PM:∀(k:Nat) (m:Pm×V) (av:AV),ms[k]?=some m→dL[k]?=some av→Nx u9 m av:=fun k m' x' h1 h2=>he (k+1) m' x' (by simpa using h1) (by simpa using h2)
  have KN:∀(k:Nat) (m:Pm×V),ms[k]?=some m→lc (i+1+k)=zV c0 m.2:=fun k m' h1=>by
   have:=iy (k+1) m' (by simpa using h1)
   rwa [show i+(k+1)=i+1+k by omega] at this
  have KJ:ms.length=dL.length:=by simpa using hn
  have acY:ms.length=xs.length:=by simpa using hn2
  unfold tI at hv
  cases hb:qo st m v es with
  |none=>simp [hb] at hv
  |some p=>
   obtain ⟨wc,es1⟩:=p;simp only [hb] at hv;have go:∀ {X1:Lb→Prop} {c1:Cz},ld X1 w0 mu c1 wc a w→Fw c0 u9 wb c1 wc w→(∀l,X1 l→X l∧l∉ze m v)→iI c1 w lc (i+1) dL xs es1→Pass c c1 (fun l=>(∃j,l=.gO j)∨l.real=true)→
     ∃c',ld (fun l=>X l∧∀m'∈(m,v)::ms,l∉ze m'.1 m'.2) w0 mu c' bd a w∧Fw c0 u9 wb c' bd w∧Pass c c' (fun l=>(∃j,l=.gO j)∨l.real=true):=by
    intro X1 c1 g1 g2 g3 g4 g5;obtain ⟨c',k1,k2,k3⟩:=BJ ms (i+1) dL xs es1 g1 g2 Wh PM KJ acY KN g4 hv;refine ⟨c',k1.mono (fun l hl=>⟨(g3 l hl.1).1,fun m' CH => ?_⟩),k2,⟨fun b l hl hb=>k3.cH b l hl (g5.cH b l hl hb),fun b hb=>k3.ok b (g5.ok b hb),fun b l hl hb=>k3.rz b l hl (g5.rz b l hl hb)⟩⟩;rcases List.mem_cons.1 CH with rfl | CH
    ·exact (g3 l hl.1).2
    ·exact hl.2 m' CH
   have jy:ze m v=[]→wc=st→es1=es→(∃ag os,av=.val ag os)→∃c',ld (fun l=>X l∧∀m'∈(m,v)::ms,l∉ze m'.1 m'.2) w0 mu c' bd a w∧Fw c0 u9 wb c' bd w∧Pass c c' (fun l=>(∃j,l=.gO j)∨l.real=true):=by
    rintro e1 rfl rfl ⟨ag,os,rfl⟩
    exact go h fR (fun l hl=>⟨hl,by rw [e1];simp⟩) hx ⟨fun _ _ _ h=>h,fun _ h=>h,fun _ _ _ h=>h⟩
   cases v with
   |nC us=>simp [eI] at qv
   |agg cs=>
    have p7:∀u q r,(match fk u9 m.nF cs with | some (os,u,r)=>some (AV.val true os,cF u,cF u,r) | none=>none)=some (av,u,q,r)→∃ag os,av=.val ag os:=by
     intro u q r qv
     cases hq:fk u9 m.nF cs with
     |none=>simp [hq] at qv
     |some p=>
      obtain ⟨os,us,rs⟩:=p;simp only [hq,Option.some.injEq,Prod.mk.injEq] at qv;exact ⟨_,_,qv.1.symm⟩
    unfold eI at qv
    cases m with
    |shr=>
     simp only [qo,Option.some.injEq,Prod.mk.injEq] at hb;exact jy rfl hb.1.symm hb.2.symm (p7 _ _ _ qv)
    |own=>
     simp only [qo,Option.some.injEq,Prod.mk.injEq] at hb;exact jy rfl hb.1.symm hb.2.symm (p7 _ _ _ qv)
    |pick _=>
     simp only [qo,Option.some.injEq,Prod.mk.injEq] at hb;exact jy rfl hb.1.symm hb.2.symm (p7 _ _ _ qv)
    |soft _=>
     simp only [qo,Option.some.injEq,Prod.mk.injEq] at hb;exact jy rfl hb.1.symm hb.2.symm (p7 _ _ _ qv)
    |io=>
     simp only [qo,Option.some.injEq,Prod.mk.injEq] at hb;exact jy rfl hb.1.symm hb.2.symm (p7 _ _ _ qv)
    |cz=>
     simp only at qv
     cases hq:fk u9 true cs with
     |none=>simp [hq] at qv
     |some p=>
      obtain ⟨os,us,rs⟩:=p;simp only [hq] at qv;obtain ⟨ot,wH⟩:=aJ qv;simp only [Option.some.injEq,Prod.mk.injEq] at wH;obtain ⟨rfl,_⟩:=wH;obtain ⟨As,l,rfl,⟨us',rfl,hX⟩,fh⟩:=hx;unfold qo at hb;obtain ⟨iz,H6,e2⟩:=Option.map_eq_some_iff.1 hb;injection e2 with e2 e3;subst e2 e3;obtain ⟨vs0,e0,hl0⟩:=WH;injection e0 with e0;subst e0;obtain ⟨c1,g1,g2,g3⟩:=BI (i:=i) (As:=As) cs 0 us'.toList h fR (fun k x v hk hv=>hl0.2 k x v hk (by simpa using hv)) (fun k s j g vw hk=>by
       have yR:=List.mem_of_getElem? hk;have yZ:=List.all_eq_true.1 ot _ yR;unfold MR at yZ;rw [Bool.and_eq_true] at yZ
       cases hA:aV u9 s j g with
       |none=>rw [hA] at yZ;cases yZ.2
       |some A=>
        have Nw:vw=.full:=by
         cases vw with
         |full=>rfl
         |«from» _=>cases yZ.1
         |sub _ _=>cases yZ.1
        subst Nw;rw [hA] at yZ;have ho:os[k]?=some (.own A):=by
         have:=Gr cs hq k hk;rw [hA] at this;have H0:A.own=true:=yZ.2;simpa [H0] using this
        obtain ⟨B,u,k1,k2,k3,k4,k5⟩:=hX k A ho;refine ⟨A,B,u,rfl,by rw [Nat.zero_add];exact k1,k2,k3,k4,?_⟩;have:lc i k=c0.lc s j:=by
         rw [M9];show H5 c0 cs[k]?=_;rw [hk];rfl
        rw [←this,Nat.zero_add];exact k5) H6
      refine go g1 g2 (fun l hl=>⟨hl.1,fun hm => ?_⟩) ?_ ⟨fun b l hl=>g3.cH b l (s6 i hl),g3.ok,fun b l hl=>g3.rz b l (s6 i hl)⟩
      ·obtain ⟨x,KO,Ev⟩:=List.mem_filterMap.1 hm
       cases x with
       |ref s j g vw=>simp only [Option.some.injEq] at Ev;exact hl.2 s j g vw KO Ev.symm
       |_=>cases Ev
      ·exact iI.pass dL (i+1) (fun b k hk hb=>g3.cH b _ (by simp) hb) (fun b k j hk=>g3.keeps (by intro y;simp;omega) b) xs _ (.inl g3.ok) fh
   |one cx=>
    cases cx with
    |ptr b g off=>
     unfold qo at hb
     cases es with
     |nil=>simp at hb
     |cons e es2=>cases e with
      |io _=>simp at hb
      |cz _=>simp at hb
      |box os=>
       simp only at hb
       split at hb
       ·rename_i s0 Eh gN P8;simp only [Option.some.injEq,Prod.mk.injEq] at hb;obtain ⟨rfl,rfl⟩:=hb;have Gs:∃os0,av=.box os0:=by
         unfold eI at qv;simp only at qv
         cases hq:dH u9 b g with
         |none=>simp [hq] at qv
         |some cs=>
          simp only [hq] at qv
          cases Js:fk u9 true cs with
          |none=>simp [Js] at qv
          |some p=>
           obtain ⟨xT,us,rs⟩:=p;simp only [Js] at qv;obtain ⟨_,wH⟩:=aJ qv;simp only [Option.some.injEq,Prod.mk.injEq] at wH;exact ⟨_,wH.1.symm⟩
        obtain ⟨os0,rfl⟩:=Gs;obtain ⟨os1,l,e1,hB,fh⟩:=hx
        cases e1
        have hp:=(fR.la (v:=x) WH);have e2:=hp.2.2 Eh P8;have e3:x=.pointer (some ⟨c.bx b,0,none⟩):=by
         obtain ⟨oq,vs,ty,q1,_⟩:=hB;rw [e2] at q1 ⊢;injection q1 with q1;injection q1 with q1;injection q1 with q1 q2;rw [q2]
        obtain ⟨c1,g1,g2,g3⟩:=h.boxed gN P8 e3 hB;refine go g1 (fR.trans g2) (fun l hl=>⟨hl.1,by simp [ze];exact hl.2⟩) ?_ ⟨fun b l hl=>g3.cH b l (Ds i hl),g3.ok,fun b l hl=>g3.rz b l (Ds i hl)⟩;exact iI.pass dL (i+1) (fun b k hk hb=>g3.cH b _ (by constructor<;>simp;omega) hb) (fun b k j hk=>g3.keeps (by constructor<;>simp;omega) b) xs es2 (.inl g3.ok) fh
       ·cases hb
    |ref s j g vw=>
     have p7:m≠.io→∃ag os,av=.val ag os:=by
      intro hm;unfold eI at qv
      cases m with
      |io=>exact absurd rfl hm
      |shr=>
       cases hq:fk u9 Pm.shr.nF [.ref s j g vw] with
       |none=>simp [hq] at qv
       |some p=>obtain ⟨os,us,rs⟩:=p;simp only [hq,Option.some.injEq,Prod.mk.injEq] at qv;exact ⟨_,_,qv.1.symm⟩
      |cz=>
       cases hq:fk u9 Pm.cz.nF [.ref s j g vw] with
       |none=>simp [hq] at qv
       |some p=>obtain ⟨os,us,rs⟩:=p;simp only [hq,Option.some.injEq,Prod.mk.injEq] at qv;exact ⟨_,_,qv.1.symm⟩
      |own=>
       cases hq:fk u9 Pm.own.nF [.ref s j g vw] with
       |none=>simp [hq] at qv
       |some p=>obtain ⟨os,us,rs⟩:=p;simp only [hq,Option.some.injEq,Prod.mk.injEq] at qv;exact ⟨_,_,qv.1.symm⟩
      |pick pl=>
       cases hq:fk u9 (Pm.pick pl).nF [.ref s j g vw] with
       |none=>simp [hq] at qv
       |some p=>obtain ⟨os,us,rs⟩:=p;simp only [hq,Option.some.injEq,Prod.mk.injEq] at qv;exact ⟨_,_,qv.1.symm⟩
      |soft pl=>
       cases hq:fk u9 (Pm.soft pl).nF [.ref s j g vw] with
       |none=>simp [hq] at qv
       |some p=>obtain ⟨os,us,rs⟩:=p;simp only [hq,Option.some.injEq,Prod.mk.injEq] at qv;exact ⟨_,_,qv.1.symm⟩
     cases m with
     |shr=>
      simp only [qo,Option.some.injEq,Prod.mk.injEq] at hb;exact jy rfl hb.1.symm hb.2.symm (p7 (by simp))
     |cz=>
      simp only [qo,Option.some.injEq,Prod.mk.injEq] at hb;exact jy rfl hb.1.symm hb.2.symm (p7 (by simp))
     |own=>
      simp only [qo,Option.some.injEq,Prod.mk.injEq] at hb;exact jy rfl hb.1.symm hb.2.symm (p7 (by simp))
     |pick _=>
      simp only [qo,Option.some.injEq,Prod.mk.injEq] at hb;exact jy rfl hb.1.symm hb.2.symm (p7 (by simp))
     |soft _=>
      simp only [qo,Option.some.injEq,Prod.mk.injEq] at hb;exact jy rfl hb.1.symm hb.2.symm (p7 (by simp))
     |io=>
      unfold qo at hb;simp only at hb
      split at hb
      ·rename_i B es2 A2 H0;simp only [Option.some.injEq,Prod.mk.injEq] at hb;obtain ⟨rfl,rfl⟩:=hb;have Gs:∃A0,av=.io A0∧aV u9 s j g=some A0:=by
        unfold eI at qv
        cases vw with
        |full=>
         cases hA:aV u9 s j g with
         |none=>simp [hA] at qv
         |some A=>
          simp only [hA] at qv;obtain ⟨_,wH⟩:=aJ qv;simp only [Option.some.injEq,Prod.mk.injEq] at wH;exact ⟨A,wH.1.symm,rfl⟩
        |«from» _=>simp at qv
        |sub _ _=>simp at qv
       obtain ⟨A0,rfl,Dc⟩:=Gs;obtain ⟨B',l,e1,hw,hlen,hO,fh⟩:=hx
       cases e1
       obtain ⟨A0',q1,q2,q3,q4,_⟩:=fR.refs s j g A2 WH.2.1 H0;rw [Dc] at q1;cases q1;have hO':OwnAt c w (.cH i 0) (c.lc s j) B x:=by
        rw [q4];have:lc i 0=c0.lc s j:=by rw [M9];rfl
        rw [←this];exact hO
       obtain ⟨g1,g2⟩:=h.io H0 (hw.trans q2.symm) (hlen.trans q3.symm) hO';have WI:∀l,(∀y,l≠.cH i y)→p6 i 0 s j l=l:=by
        intro l hl
        cases l with
        |cH x y=>simp only [p6];rw [if_neg];rintro ⟨rfl,_⟩;exact hl y rfl
        |_=>rfl
       have zX:Pass c (c.dU (p6 i 0 s j) c.bx c.lc) (fun l=>∀y,l≠.cH i y):=⟨fun b l hl hb=>by
        show (c.own b).map _=_;rw [hb];simp [WI l hl],fun b hb=>Cz.lQ.2 hb,fun b l hl hb=>by
        show (c.rs b).map _=_;rw [hb];simp [WI l hl]⟩
       refine go g1 (fR.trans g2) (fun l hl=>⟨hl.1,by simp [ze];exact hl.2⟩) ?_ ⟨fun b l hl=>zX.cH b l (s6 i hl),fun b hb=>Cz.lQ.2 hb,fun b l hl=>zX.rz b l (s6 i hl)⟩;exact iI.pass dL (i+1) (fun b k hk hb=>zX.cH b _ (by simp) hb) (fun b k j hk=>zX.keeps (by intro y;simp;omega) b) xs es2 (.inl fun b hb=>Cz.lQ.2 hb) fh
      ·cases hb
    |_=>
     simp only [qo,Option.some.injEq,Prod.mk.injEq] at hb;refine jy rfl hb.1.symm hb.2.symm ?_;unfold eI at qv;simp only at qv
     split at qv
     ·simp only [Option.some.injEq,Prod.mk.injEq] at qv;exact ⟨_,_,qv.1.symm⟩
     ·cases qv
end Go.TM
namespace Go.TM
open Go Go.RowKit
def x4 (d:Nat):Lb→Lb
 |.gO j=>.sp d j
 |l=>l
theorem wR (d:Nat):zW (x4 d):=⟨fun l h=>by cases l<;>simp [x4,Lb.real] at h ⊢⟩
theorem uO:(os ps:List OV)→bE (os++ps)=bE os++bE ps
 | [],ps=>rfl
 |o::os,ps=>by simp [bE,uO os ps]
theorem mV:(os:List OV)→(bE os).length=os.length
 | []=>rfl
 |o::os=>by simp [bE,mV os]
theorem Ny (d g j:Nat) (o:OV):∃x,bu d g j [o]=[x]:=by
 cases o<;>exact ⟨_,rfl⟩
theorem iJ.vals {c:Cz} {w:World}:(rs:List RV)→(j:Nat)→(vs:List Value)→iJ c w j rs vs→
  ∃lcs:Nat→Loc,(∀k A,nth (bE (rs.flatMap RV.sS)) k=some (some A)→∃v,OwnAt c w (.gO (j+k)) (lcs (j+k)) A v)∧rs.length=vs.length∧(∀d g,(kW d g j rs).length=rs.length)∧
   ∀(c2:Cz) (iz:St) (d g:Nat),(∀b,c.ok b→c2.ok b)→(∀k,k<(rs.flatMap RV.sS).length→c2.lc d (j+k)=lcs (j+k))→(∀k A,k<(rs.flatMap RV.sS).length→aV iz d (j+k) g=some A→nth (bE (rs.flatMap RV.sS)) k=some (some A))→g≤dw iz d→
    ∀(k:Nat) (x:V) (v:Value),(kW d g j rs)[k]?=some x→vs[k]?=some v→xG c2 iz w x v
 | [],j,vs,h=>by
  subst h;exact ⟨fun _=>.nil,fun k A hA=>by simp [bE] at hA,rfl,fun _ _=>rfl,fun _ _ _ _ _ _ _ _ k x v hx=>by simp [kW] at hx⟩
 |r::rs,j,vs,h=>by
  obtain ⟨v,l,us,rfl,hL,hR,hV⟩:∃(v:Value) (l us:List Value),vs=v::l∧bo c w .gO j r.sS us∧iJ c w (j+r.sS.length) rs l∧
    (∀(c2:Cz) (iz:St) (d g:Nat),fF c2 iz w (bu d g j r.sS) us→xG c2 iz w (MM d g j r) v):=by
   cases r with
   |one o=>
    obtain ⟨v,l,h1,h2,h3⟩:=h;refine ⟨v,l,[v],h1,h2,h3,fun c2 iz d g hl => ?_⟩;unfold MM;obtain ⟨x,hx⟩:=Ny d g j o;show xG c2 iz w (match bu d g j [o] with | [c]=>.one c | _=>.one .bad) v;have hl:fF c2 iz w (bu d g j [o]) [v]:=hl;rw [hx] at hl ⊢;exact hl.2 0 x v rfl rfl
   |agg os=>
    obtain ⟨us,l,h1,h2,h3⟩:=h;exact ⟨.agg us,l,us.toList,h1,h2,h3,fun c2 iz d g hl=>⟨us,rfl,hl⟩⟩
   |ptr os=>
    obtain ⟨v,l,h1,⟨oq,us,ty,_,_,_,g4⟩,h3⟩:=h;exact ⟨v,l,.slice none 0 0::us.toList,h1,⟨_,rfl,g4⟩,h3,fun _ _ _ _ _=>trivial⟩
  obtain ⟨l1,a1,a2⟩:=bo.cells r.sS j us hL;obtain ⟨l2,b1,b2,b3,b4⟩:=iJ.vals rs (j+r.sS.length) l hR;have Q3:bE ((r::rs).flatMap RV.sS)=bE r.sS++bE (rs.flatMap RV.sS):=by
   rw [List.flatMap_cons,uO]
  refine ⟨fun k=>if k<j+r.sS.length then l1 k else l2 k,fun k A hA => ?_,by simp [b2],fun d g=>by simp [kW,b3],fun c2 iz d g gP iy zb hg k x v' hx qC => ?_⟩
  ·rw [Q3,m9,mV] at hA
   by_cases e:k<r.sS.length
   ·rw [if_pos e] at hA;have:=a1 k A hA;show ∃v,OwnAt c w _ (if j+k<_ then _ else _) A v;rw [if_pos (by omega)];exact this
   ·rw [if_neg e] at hA;have:=b1 _ A hA;rw [show j+r.sS.length+(k-r.sS.length)=j+k by omega] at this;show ∃v,OwnAt c w _ (if j+k<_ then _ else _) A v;rw [if_neg (by omega)];exact this
  ·rw [Q3] at zb;rw [List.flatMap_cons,List.length_append] at iy zb
   cases k with
   |zero=>
    simp only [kW,List.getElem?_cons_zero,Option.some.injEq] at hx qC;subst hx qC;refine hV c2 iz d g (a2 c2 iz d g gP (fun k hk => ?_) (fun k A hk hA => ?_) hg)
    ·have:c2.lc d (j+k)=if j+k<j+r.sS.length then l1 (j+k) else l2 (j+k):=iy k (by omega)
     rwa [if_pos (by omega)] at this
    ·have:=zb k A (by omega) hA
     rwa [m9,mV,if_pos hk] at this
   |succ k=>
    refine b4 c2 iz d g gP (fun k hk => ?_) (fun k A hk hA => ?_) hg k x v' (by simpa [kW] using hx) (by simpa using qC)
    ·have:c2.lc d (j+(r.sS.length+k))=if j+(r.sS.length+k)<j+r.sS.length then l1 (j+(r.sS.length+k)) else l2 (j+(r.sS.length+k)):=iy (r.sS.length+k) (by omega)
     rw [if_neg (by omega)] at this;rw [Nat.add_assoc];exact this
    ·rw [Nat.add_assoc] at hA;have:=zb (r.sS.length+k) A (by omega) hA
     rwa [m9,mV,if_neg (by omega),Nat.add_sub_cancel_left] at this
def tV (d:Nat):Lb→Lb
 |.gO 0=>.box d
 |.gO (j+1)=>.sp d (j+1)
 |l=>l
theorem wS (d:Nat):zW (tV d):=⟨fun l h=>by
 cases l with
 |gO j=>cases j<;>simp [tV,Lb.real] at h ⊢
 |_=>simp [tV,Lb.real] at h ⊢⟩
theorem ld.P9 {X:Lb→Prop} {w0:World} {mu:Mu} {c:Cz} {st:St} {a:Act} {w:World} (h:ld X w0 mu c st a w) {d:Nat} {s0:Sl} {os:List OV} {v:Value} (gN:nth st d=some s0)
  (hv:∃oq us ty,v=.pointer (some ⟨oq,0,none⟩)∧c.own oq=some (.gO 0)∧w.heap[oq]?=some (.cells us ty (0,0))∧bo c w .gO 1 os us.toList) (hd:d<a.tmps.size) :
  ∃c',ld X w0 mu c' (mB (fun s=>{ s with v:=.one (.ptr d (s.bg+1) 0),box:=some (bu d (s.ag+1) 1 os),bg:=s.bg+1,aK:=none::bE os,ag:=s.ag+1 }) st d) (a.put (some d) v) w∧
   Fw c st w c' (mB (fun s=>{ s with v:=.one (.ptr d (s.bg+1) 0),box:=some (bu d (s.ag+1) 1 os),bg:=s.bg+1,aK:=none::bE os,ag:=s.ag+1 }) st d) w∧∀b l,l.real=true→c.own b=some l→c'.own b=some l:=by
 obtain ⟨oq,us,ty,rfl,eL,Nz,hL⟩:=hv;obtain ⟨lcs,g1,g2⟩:=bo.cells os 1 _ hL
 let c':=c.dU (tV d) (fun s=>if s=d then oq else c.bx s) (fun s j=>if s=d then lcs j else c.lc s j)
 let bd:=mB (fun s=>{ s with v:=.one (.ptr d (s.bg+1) 0),box:=some (bu d (s.ag+1) 1 os),bg:=s.bg+1,aK:=none::bE os,ag:=s.ag+1 }) st d
 have hn:∀s,nth bd s=if s=d then some { s0 with v:=.one (.ptr d (s0.bg+1) 0),box:=some (bu d (s0.ag+1) 1 os),bg:=s0.bg+1,aK:=none::bE os,ag:=s0.ag+1 } else nth st s:=by
  intro s;show nth (mB _ st d) s=_;rw [dD]
  by_cases e:s=d
  ·subst e;rw [if_pos rfl,if_pos rfl,gN];rfl
  ·rw [if_neg e,if_neg e]
 have zd:dw bd d=s0.ag+1:=by unfold dw;rw [hn];simp
 have Gl:dw st d=s0.ag:=by unfold dw;rw [gN]
 have Q4:fP bd d=s0.bg+1:=by unfold fP;rw [hn];simp
 have Sr:fP st d=s0.bg:=by unfold fP;rw [gN]
 have ht:=wS d;have fR:Fw c st w c' bd w:={
  stays:=oR c w _ _ _
  refs:=fun a' j' g' A' hg eE=>by
   obtain ⟨sl,k1,k2,k3⟩:=bt eE;rw [hn] at k1
   by_cases e:a'=d
   ·rw [if_pos e] at k1
    cases k1
    subst e;simp only at k2;omega
   ·rw [if_neg e] at k1;exact ⟨A',pn k1 k2 k3,rfl,rfl,by show (if a'=d then _ else _)=_;rw [if_neg e],fun _=>⟨rfl,fun _ _ _ _=>rfl⟩⟩
  yO:=fun b' g' mf hg HR=>by
   obtain ⟨sl,k1,k2,k3⟩:=iN HR;rw [hn] at k1
   by_cases e:b'=d
   ·rw [if_pos e] at k1
    cases k1
    subst e;simp only at k2;omega
   ·rw [if_neg e] at k1;exact ⟨⟨mf,by unfold dH;rw [k1];simp [k2,k3]⟩,by show (if b'=d then _ else _)=_;rw [if_neg e]⟩
  gA:=fun a'=>by
   by_cases e:a'=d
   ·subst e;rw [zd,Gl];omega
   ·unfold dw;rw [hn,if_neg e];exact Nat.le_refl _
  gB:=fun a'=>by
   by_cases e:a'=d
   ·subst e;rw [Q4,Sr];omega
   ·unfold fP;rw [hn,if_neg e];exact Nat.le_refl _
  gE:=fun a'=>by
   by_cases e:a'=d
   ·subst e;unfold kc;rw [hn,if_pos rfl,gN];exact Nat.le_refl _
   ·unfold kc;rw [hn,if_neg e];exact Nat.le_refl _ }
 have Gm:∀k A,aV bd d (1+k) (s0.ag+1)=some A→nth (bE os) k=some (some A):=by
  intro k A hA;obtain ⟨sl,k1,k2,k3⟩:=bt hA;rw [hn,if_pos rfl] at k1
  cases k1
  rw [show 1+k=k+1 by omega] at k3;exact k3
 have s7:∀t,eK c' bd w (cC bd t) ((a.put (some d) (.pointer (some ⟨oq,0,none⟩))).eval (.tmp t)):=by
  intro t;rw [eval_put]
  by_cases e:t=d
  ·subst e;rw [if_pos ⟨rfl,hd⟩];have:cC bd t=.one (.ptr t (s0.bg+1) 0):=by unfold cC;rw [hn,if_pos rfl]
   rw [this];refine ⟨rfl,by rw [Q4];exact Nat.le_refl _,fun cs _ => ?_⟩;show _=Value.pointer (some ⟨(if t=t then oq else c.bx t),0,none⟩);rw [if_pos rfl]
  ·rw [if_neg (by rintro ⟨e2,_⟩;exact e (Option.some.inj e2).symm)];have:cC bd t=cC st t:=by unfold cC;rw [hn,if_neg e]
   rw [this];exact fR.la (h.ey t)
 refine ⟨c',⟨s7,fun s sl cs hX hs hb => ?_,fun s j sl A hX hs hA => ?_,fun b l hb => ?_,fun b hb h1=>h.free b hb (by unfold Cz.ok at *;simpa [c',Cz.dU] using h1),h.kept,h.old,by simpa [Act.put] using h.plain,fun p hp=>fR.dF (h.dF p hp),fun b l hb=>by
   simp only [c',Cz.dU,Option.map_eq_some_iff] at hb;obtain ⟨k,hk,_⟩:=hb;exact h.mT b k hk⟩,fR,fun b l hl hb => ?_⟩
 case refine_4=>
  show (c.own b).map (tV d)=_;rw [hb];simp [(wS d).other l (.inr hl)]
 ·rw [hn] at hs
  by_cases e:s=d
  ·subst e;rw [if_pos rfl] at hs
   cases hs
   simp only [Option.some.injEq] at hb;subst hb;refine ⟨?_,us,ty,by show w.heap[if s=s then oq else c.bx s]?=_;rw [if_pos rfl];exact Nz,?_⟩
   ·show (c.own (if s=s then oq else c.bx s)).map (tV s)=some (.box s);rw [if_pos rfl,eL];rfl
   ·exact g2 c' bd s (s0.ag+1) (fun b hb=>Cz.lQ.2 hb) (fun k _=>by show (if s=s then _ else _)=_;rw [if_pos rfl]) (fun k A _ hA=>Gm k A hA) (by rw [zd];exact Nat.le_refl _)
  ·rw [if_neg e] at hs;exact (h.boxes s sl cs hX hs hb).dU ht fR (by show (if s=d then _ else _)=_;rw [if_neg e])
 ·rw [hn] at hs
  by_cases e:s=d
  ·subst e;rw [if_pos rfl] at hs
   cases hs
   cases j with
   |zero=>simp [nth] at hA
   |succ j=>
    obtain ⟨v',qC⟩:=g1 j A hA;rw [show 1+j=j+1 by omega] at qC;exact qC.arr (by simp) (by simp [tV])
  ·rw [if_neg e] at hs;exact (h.aK s j sl A hX hs hA).dU ht (by simp [e])
 ·simp only [c',Cz.dU,Option.map_eq_some_iff] at hb;obtain ⟨k,hk,e⟩:=hb;obtain ⟨h1,h2⟩:=h.owned b k hk;refine ⟨h1,h2.imp (fun e2 => ?_) id⟩;subst e2;rw [←e];rfl
theorem EA {st:St} {d:Nat} {outs:List RV} (h:∀os,outs≠[.ptr os]):ve st (some d) outs=match nth st d with
  |some s=>some (mB (fun sl=>{ sl with v:=(match kW d (s.ag+1) 0 outs with | [v]=>v | vs=>.nC vs),aK:=bE (outs.flatMap RV.sS),ag:=s.ag+1 }) st d)
  |none=>none:=by
 unfold ve;simp only
 cases nth st d with
 |none=>rfl
 |some s=>
  cases outs with
  |nil=>rfl
  |cons r l=>cases l with
   |cons _ _=>cases r<;>rfl
   |nil=>cases r with
    |one o=>rfl
    |agg os=>rfl
    |ptr os=>exact absurd rfl (h os)
theorem ld.laid {X:Lb→Prop} {w0:World} {mu:Mu} {c:Cz} {st:St} {a:Act} {w:World} (h:ld X w0 mu c st a w) {d:Option Nat} {outs:List RV} {v:Value} (hv:sd c w outs v) {bd:St} (hl:ve st d outs=some bd) (hd:∀k,d=some k→k<a.tmps.size) :
  ∃c',ld X w0 mu c' bd (a.put d v) w∧Fw c st w c' bd w∧∀b l,l.real=true→c.own b=some l→c'.own b=some l:=by
 cases d with
 |none=>
  cases outs with
  |nil=>
   simp only [ve,Option.some.injEq] at hl;subst hl;exact ⟨c,h,Fw.refl c st w,fun _ _ _ h=>h⟩
  |cons _ _=>simp [ve] at hl
 |some d=>
  by_cases hp:∃os,outs=[.ptr os]
  ·obtain ⟨os,rfl⟩:=hp;unfold ve at hl;simp only at hl
   cases gN:nth st d with
   |none=>simp [gN] at hl
   |some s0=>
    simp only [gN,Option.some.injEq] at hl;subst hl;refine h.P9 gN ?_ (hd d rfl);rcases hv with ⟨r,h1,h2⟩ | ⟨h1,_⟩
    ·simp only [List.cons.injEq,and_true] at h1;subst h1;obtain ⟨v',l,e1,h3,_⟩:=h2;simp only [List.cons.injEq] at e1;rw [e1.1];exact h3
    ·exact absurd rfl h1
  rw [EA (fun os e=>hp ⟨os,e⟩)] at hl
  cases gN:nth st d with
  |none=>simp [gN] at hl
  |some s0=>
   simp only [gN,Option.some.injEq] at hl;obtain ⟨vs,hR,hVV⟩:∃vs,iJ c w 0 outs vs∧∀(c2:Cz) (iz:St) (g:Nat),(kW d g 0 outs).length=vs.length→(∀(k:Nat) (x:V) (u:Value),(kW d g 0 outs)[k]?=some x→vs[k]?=some u→xG c2 iz w x u)→
     eK c2 iz w (match kW d g 0 outs with | [v]=>v | vs=>.nC vs) v:=by
    rcases hv with ⟨r,rfl,h2⟩ | ⟨h1,vs,rfl,h2⟩
    ·refine ⟨[v],h2,fun c2 iz g hlen vA => ?_⟩;exact Gf (vA 0 _ v rfl rfl)
    ·refine ⟨vs.toList,h2,fun c2 iz g hlen vA => ?_⟩;have Ss:eK c2 iz w (.nC (kW d g 0 outs)) (.tuple vs):=⟨vs,rfl,by simpa using hlen,fun i x y hx hy=>vA i x y hx (by simpa using hy)⟩
     split
     ·rename_i x hx;obtain ⟨_,_,_,b3,_⟩:=iJ.vals outs 0 vs.toList h2;have:=b3 d g;rw [hx] at this;exact absurd this.symm h1
     ·exact Ss
   obtain ⟨lcs,g1,g2,g3,g4⟩:=iJ.vals outs 0 vs hR
   let c':=c.dU (x4 d) c.bx (fun s j=>if s=d then lcs j else c.lc s j)
   let V0:=(match kW d (s0.ag+1) 0 outs with | [v]=>v | vs=>.nC vs)
   have hn:∀s,nth bd s=if s=d then some { s0 with v:=V0,aK:=bE (outs.flatMap RV.sS),ag:=s0.ag+1 } else nth st s:=by
    intro s;rw [←hl,dD]
    by_cases e:s=d
    ·subst e;rw [if_pos rfl,if_pos rfl,gN];rfl
    ·rw [if_neg e,if_neg e]
   have zd:dw bd d=s0.ag+1:=by unfold dw;rw [hn];simp
   have Gl:dw st d=s0.ag:=by unfold dw;rw [gN]
   have ht:=wR d;have fR:Fw c st w c' bd w:={
    stays:=oR c w _ _ _
    refs:=fun a' j' g' A' hg eE=>by
     obtain ⟨sl,k1,k2,k3⟩:=bt eE;rw [hn] at k1
     by_cases e:a'=d
     ·rw [if_pos e] at k1
      cases k1
      subst e;simp only at k2;omega
     ·rw [if_neg e] at k1;exact ⟨A',pn k1 k2 k3,rfl,rfl,by show (if a'=d then _ else _)=_;rw [if_neg e],fun _=>⟨rfl,fun _ _ _ _=>rfl⟩⟩
    yO:=fun b' g' mf hg HR=>by
     obtain ⟨sl,k1,k2,k3⟩:=iN HR;rw [hn] at k1
     by_cases e:b'=d
     ·rw [if_pos e] at k1
      cases k1
      subst e;exact ⟨⟨mf,by unfold dH;rw [gN];simp at k2 k3;simp [k2,k3]⟩,rfl⟩
     ·rw [if_neg e] at k1;exact ⟨⟨mf,by unfold dH;rw [k1];simp [k2,k3]⟩,rfl⟩
    gA:=fun a'=>by
     by_cases e:a'=d
     ·subst e;rw [zd,Gl];omega
     ·unfold dw;rw [hn,if_neg e];exact Nat.le_refl _
    gB:=fun a'=>by
     by_cases e:a'=d
     ·subst e;unfold fP;rw [hn,if_pos rfl,gN];exact Nat.le_refl _
     ·unfold fP;rw [hn,if_neg e];exact Nat.le_refl _
    gE:=fun a'=>by
     by_cases e:a'=d
     ·subst e;unfold kc;rw [hn,if_pos rfl,gN];exact Nat.le_refl _
     ·unfold kc;rw [hn,if_neg e];exact Nat.le_refl _ }
   have Gm:∀k A,aV bd d k (s0.ag+1)=some A→nth (bE (outs.flatMap RV.sS)) k=some (some A):=by
    intro k A hA;obtain ⟨sl,k1,k2,k3⟩:=bt hA;rw [hn,if_pos rfl] at k1
    cases k1
    exact k3
   have s7:∀t,eK c' bd w (cC bd t) ((a.put (some d) v).eval (.tmp t)):=by
    intro t;rw [eval_put]
    by_cases e:t=d
    ·subst e;rw [if_pos ⟨rfl,hd t rfl⟩];have:cC bd t=V0:=by unfold cC;rw [hn,if_pos rfl]
     rw [this];refine hVV c' bd (s0.ag+1) (by rw [g3,g2]) (g4 c' bd t (s0.ag+1) (fun b hb=>Cz.lQ.2 hb) (fun k _ => ?_) (fun k A _ hA=>Gm k A (by simpa using hA)) (by rw [zd];exact Nat.le_refl _));show (if t=t then _ else _)=_;rw [if_pos rfl]
    ·rw [if_neg (by rintro ⟨e2,_⟩;exact e (Option.some.inj e2).symm)];have:cC bd t=cC st t:=by unfold cC;rw [hn,if_neg e]
     rw [this];exact fR.la (h.ey t)
   refine ⟨c',⟨s7,fun s sl cs hX hs hb => ?_,fun s j sl A hX hs hA => ?_,fun b l hb => ?_,fun b hb h1=>h.free b hb (by unfold Cz.ok at *;simpa [c',Cz.dU] using h1),h.kept,h.old,by simpa [Act.put] using h.plain,fun p hp=>fR.dF (h.dF p hp),fun b l hb=>by
   simp only [c',Cz.dU,Option.map_eq_some_iff] at hb;obtain ⟨k,hk,_⟩:=hb;exact h.mT b k hk⟩,fR,fun b l hl hb => ?_⟩
   case refine_4=>
    show (c.own b).map (x4 d)=_;rw [hb];simp [(wR d).other l (.inr hl)]
   ·rw [hn] at hs
    by_cases e:s=d
    ·subst e;rw [if_pos rfl] at hs
     cases hs
     exact (h.boxes s s0 cs hX gN hb).dU ht fR rfl
    ·rw [if_neg e] at hs;exact (h.boxes s sl cs hX hs hb).dU ht fR rfl
   ·rw [hn] at hs
    by_cases e:s=d
    ·subst e;rw [if_pos rfl] at hs
     cases hs
     obtain ⟨v',qC⟩:=g1 j A hA;exact qC.arr (by simp) (by simp [x4])
    ·rw [if_neg e] at hs;exact (h.aK s j sl A hX hs hA).dU ht (by simp [e])
   ·simp only [c',Cz.dU,Option.map_eq_some_iff] at hb;obtain ⟨k,hk,e⟩:=hb;obtain ⟨h1,h2⟩:=h.owned b k hk;refine ⟨h1,h2.imp (fun e2 => ?_) id⟩;subst e2;rw [←e];rfl
end Go.TM
namespace Go.TM
open Go Go.RowKit
theorem Dt {st:St} {own:Bool}:(cs:List CV)→{os:List OV}→{u:List (Option Lb)}→{r:List (Nat×Nat)}→fk st own cs=some (os,u,r)→∀l∈cF u,l∈cs.filterMap fun x=>match x with | .ref a j _ _=>some (Lb.sp a j) | _=>none
 | [],_,_,_,h=>by
  simp only [fk,Option.some.injEq,Prod.mk.injEq] at h;obtain ⟨_,rfl,_⟩:=h;simp [cF]
 |x::cs,os,u,r,h=>by
  unfold fk at h
  cases hc:fj st own x with
  |none=>simp [hc] at h
  |some p=>
   obtain ⟨o,u1,r1⟩:=p
   cases hq:fk st own cs with
   |none=>simp [hc,hq] at h
   |some q=>
    obtain ⟨xT,us,rs⟩:=q;simp only [hc,hq,Option.some.injEq,Prod.mk.injEq] at h;obtain ⟨_,rfl,_⟩:=h;intro l hl;rw [ia] at hl;rcases List.mem_cons.1 hl with hl | hl
    ·refine List.mem_filterMap.2 ⟨x,List.mem_cons_self,?_⟩
     cases x with
     |ref a j g w=>
      unfold fj at hc;simp only at hc
      cases hA:aV st a j g with
      |none=>simp [hA] at hc
      |some A=>
       simp only [hA] at hc
       cases hm:A.md.C7 with
       |true=>simp [hm] at hc
       |false=>
       simp only [hm,cond_false] at hc
       cases hb:(own&&A.own&&(A.md.is .sh||(A.md.is .lz||w.isFull)))<;>simp only [hb,cond_true,cond_false,Option.some.injEq,Prod.mk.injEq] at hc<;>obtain ⟨_,rfl,_⟩:=hc
       ·cases hl
       ·exact hl.symm
     |HI a j g e i k q ys=>
      unfold fj at hc;simp only at hc
      cases hA:aV st a j g with
      |none=>simp [hA] at hc
      |some A=>
       simp only [hA] at hc;obtain ⟨_,hc⟩:=aJ hc;simp only [Option.some.injEq,Prod.mk.injEq] at hc;obtain ⟨_,rfl,_⟩:=hc
       cases hl
     |pI a j g e i k q ys=>
      unfold fj at hc;simp only at hc
      cases hA:aV st a j g with
      |none=>simp [hA] at hc
      |some A=>
       simp only [hA] at hc;obtain ⟨_,hc⟩:=aJ hc;simp only [Option.some.injEq,Prod.mk.injEq] at hc;obtain ⟨_,rfl,_⟩:=hc
       cases hl
     |me q y off=>obtain ⟨_,rfl,_⟩:=vu hc;cases hl
     |su q y off=>obtain ⟨_,rfl,_⟩:=s5 hc;cases hl
     |_=>
      simp only [fj,Option.some.injEq,Prod.mk.injEq,reduceCtorEq] at hc
      all_goals (obtain ⟨_,rfl,_⟩:=hc;cases hl)
    ·have:=Dt cs hq l (ia.2 hl);obtain ⟨y,h1,h2⟩:=List.mem_filterMap.1 this;exact List.mem_filterMap.2 ⟨y,List.mem_cons_of_mem _ h1,h2⟩
theorem H7 {st:St} {m:Pm} {v:V} {av:AV} {u q:List Lb} {r:List (Nat×Nat)} (h:eI st m v=some (av,u,q,r)):∀l∈u,(l∈q∧∃s j,l=.sp s j)∨l∈ze m v:=by
 have single:∀own cs,(match fk st own cs with | some (os,u,r)=>some (AV.val false os,cF u,cF u,r) | none=>none)=some (av,u,q,r)→∀l∈u,(l∈q∧∃s j,l=.sp s j)∨l∈ze m v:=by
  intro own cs h
  cases hq:fk st own cs with
  |none=>simp [hq] at h
  |some p=>
   obtain ⟨os,us,rs⟩:=p;simp only [hq,Option.some.injEq,Prod.mk.injEq] at h;obtain ⟨_,rfl,rfl,_⟩:=h;exact fun l hl=>.inl ⟨hl,wk cs hq l hl⟩
 cases v with
 |nC _=>simp [eI] at h
 |agg cs=>
  have other:(match fk st m.nF cs with | some (os,u,r)=>some (AV.val true os,cF u,cF u,r) | none=>none)=some (av,u,q,r)→∀l∈u,(l∈q∧∃s j,l=.sp s j)∨l∈ze m (.agg cs):=by
   intro h
   cases hq:fk st m.nF cs with
   |none=>simp [hq] at h
   |some p=>
    obtain ⟨os,us,rs⟩:=p;simp only [hq,Option.some.injEq,Prod.mk.injEq] at h;obtain ⟨_,rfl,rfl,_⟩:=h;exact fun l hl=>.inl ⟨hl,wk cs hq l hl⟩
  unfold eI at h
  cases m with
  |shr=>exact other h
  |own=>exact other h
  |pick _=>exact other h
  |soft _=>exact other h
  |io=>exact other h
  |cz=>
   simp only at h
   cases hq:fk st true cs with
   |none=>simp [hq] at h
   |some p=>
    obtain ⟨os,us,rs⟩:=p;simp only [hq] at h;obtain ⟨_,h1⟩:=aJ h;simp only [Option.some.injEq,Prod.mk.injEq] at h1;obtain ⟨_,rfl,_,_⟩:=h1;exact fun l hl=>.inr (Dt cs hq l hl)
 |one cx=>
  cases cx with
  |ptr b g off=>
   unfold eI at h;simp only at h
   cases hb:dH st b g with
   |none=>simp [hb] at h
   |some cs=>
    simp only [hb] at h
    cases hq:fk st true cs with
    |none=>simp [hq] at h
    |some p=>
     obtain ⟨os,us,rs⟩:=p;simp only [hq] at h;obtain ⟨_,h1⟩:=aJ h;simp only [Option.some.injEq,Prod.mk.injEq] at h1;obtain ⟨_,rfl,rfl,_⟩:=h1;intro l hl;rcases List.mem_cons.1 hl with rfl | hl
     ·exact .inr (by simp [ze])
     ·exact .inl ⟨hl,wk cs hq l hl⟩
  |ref s j g vw=>
   unfold eI at h
   cases m with
   |shr=>exact single _ _ h
   |own=>exact single _ _ h
   |pick _=>exact single _ _ h
   |soft _=>exact single _ _ h
   |cz=>exact single _ _ h
   |io=>
    cases vw with
    |full=>
     cases hA:aV st s j g with
     |none=>simp [hA] at h
     |some A=>
      simp only [hA] at h;obtain ⟨_,h1⟩:=aJ h;simp only [Option.some.injEq,Prod.mk.injEq] at h1;obtain ⟨_,rfl,_,_⟩:=h1;exact fun l hl=>.inr (by simpa [ze] using hl)
    |«from» _=>simp at h
    |sub _ _=>simp at h
  |_=>
   unfold eI at h;simp only at h
   split at h
   ·rename_i os us rs hq;simp only [Option.some.injEq,Prod.mk.injEq] at h;obtain ⟨_,rfl,rfl,_⟩:=h;exact fun l hl=>.inl ⟨hl,wk _ hq l hl⟩
   ·cases h
theorem BK {st:St}:(ms:List (Pm×V))→{dL:List AV}→{u q:List Lb}→{r:List (Nat×Nat)}→jg st ms=some (dL,u,q,r)→∀l∈u,(l∈q∧∃s j,l=.sp s j)∨∃m∈ms,l∈ze m.1 m.2
 | [],_,_,_,_,h=>by
  simp only [jg,Option.some.injEq,Prod.mk.injEq] at h;obtain ⟨_,rfl,_⟩:=h;simp
 |(m,v)::ms,dL,u,q,r,h=>by
  unfold jg at h
  cases h1:eI st m v with
  |none=>simp [h1] at h
  |some p1=>
   obtain ⟨av,u1,q1,r1⟩:=p1
   cases h2:jg st ms with
   |none=>simp [h1,h2] at h
   |some p2=>
    obtain ⟨P7,u2,q2,r2⟩:=p2;simp only [h1,h2,Option.some.injEq,Prod.mk.injEq] at h;obtain ⟨rfl,rfl,rfl,rfl⟩:=h;intro l hl;rcases List.mem_append.1 hl with hl | hl
    ·rcases H7 h1 l hl with ⟨h3,h4⟩ | h3
     ·exact .inl ⟨List.mem_append_left _ h3,h4⟩
     ·exact .inr ⟨(m,v),List.mem_cons_self,h3⟩
    ·rcases BK ms h2 l hl with ⟨h3,h4⟩ | ⟨m',h3,h4⟩
     ·exact .inl ⟨List.mem_append_right _ h3,h4⟩
     ·exact .inr ⟨m',List.mem_cons_of_mem _ h3,h4⟩
theorem zY {st:St}:(ms:List (Pm×V))→{dL:List AV}→{u q:List Lb}→{r:List (Nat×Nat)}→jg st ms=some (dL,u,q,r)→∀(k:Nat) (m:Pm×V) (av:AV),ms[k]?=some m→dL[k]?=some av→Nx st m av
 | [],_,_,_,_,_=>by intro k m av hm;simp at hm
 |(m,v)::ms,dL,u,q,r,h=>by
  unfold jg at h
  cases h1:eI st m v with
  |none=>simp [h1] at h
  |some p1=>
   obtain ⟨av,u1,q1,r1⟩:=p1
   cases h2:jg st ms with
   |none=>simp [h1,h2] at h
   |some p2=>
    obtain ⟨P7,u2,q2,r2⟩:=p2;simp only [h1,h2,Option.some.injEq,Prod.mk.injEq] at h;obtain ⟨rfl,rfl,rfl,rfl⟩:=h;intro k m' JE hm Gs
    cases k with
    |zero=>simp at hm Gs;subst hm Gs;exact ⟨u1,q1,r1,h1⟩
    |succ k=>exact zY ms h2 k m' JE (by simpa using hm) (by simpa using Gs)
theorem Lg (a b c:Pm) (l:List V):(uK a b c l).map (·.2)=l:=by
 rcases l with _ | ⟨x,_ | ⟨y,_ | ⟨z,l⟩⟩⟩<;>simp [uK,Function.comp_def]
theorem Cz.xj:(m:List (Nat×Nat))→(c:Cz)→{b:Nat}→{l:Lb}→c.own b=some l→(∀p∈m,l≠.sp p.1 p.2)→(c.drop m).own b=some l
 | [],_,_,_,h,_=>h
 |(s,j)::m,c,b,l,h,hm=>Cz.xj m (c.drop1 s j) (Cz.rf h (hm (s,j) List.mem_cons_self)) (fun p hp=>hm p (List.mem_cons_of_mem _ hp))
def oS (P:Program) (S:lO):Prop:=
 ∀f a b c xE,S f=some (a,b,c,xE)→FnOk P f xE∧∃fn,P.funcs[f]?=some fn∧(fn.name == "runtime.NumGoroutine")=false∧fn.body.isNone=false
theorem Gt {P:Program} {w0:World} {mu:Mu} {c:Cz} {st bd:St} {a:Act} {w:World} (h:Rel w0 mu c st a w) {o:Oper} {f:FuncId} {vals:Array Value} (qD:(execOp a.eval o).run P w=.ok (.enter f vals) w)
  {xE:wE} (Qa:FnOk P f xE) {ms:List (Pm×V)}
  (hlen:ms.length=vals.toList.length) (vA:∀(k:Nat) (m:Pm×V) (x:Value),ms[k]?=some m→vals.toList[k]?=some x→eK c st w m.2 x)
  {fin:St→N} (hv:(FM st o.dst xE ms fin).val=some bd) (hd:∀k,o.dst=some k→k<a.tmps.size) {kp:Bool} (P6:kp=true→HP st ms=true)
  (Lh:∀(c5:Cz) (iz:St) (a2:Act) (w':World),Rel w0 mu c5 iz a2 w'→Fw c st w c5 iz w'→
   (∀dL u q r,jg st ms=some (dL,u,q,r)→∀b l,l.real=true→l∉u→(∀p∈r,l≠.sp p.1 p.2)→c.own b=some l→w'.heap[b]?=w.heap[b]?∧c5.own b=some l)→
   (fin iz).val=some bd→∃c6,Rel w0 mu c6 bd a2 w'):vt P w0 mu bd o a w kp:=by
  unfold FM at hv;unfold HP at P6
  cases he:jg st ms with
  |none=>simp [he,N.val] at hv
  |some p=>
   obtain ⟨dL,u,q,r⟩:=p;simp only [he] at hv P6;obtain ⟨hc,hv⟩:=dx hv;rw [Bool.and_eq_true] at hc
   cases hs:xE dL with
   |none=>simp [hs,N.val] at hv
   |some p=>
    simp only [hs] at hv
    cases hox:p.o with
    |none=>rw [hox] at hv;cases hv
    |some x=>
    rw [hox] at hv;have Li:=hv;clear hv;unfold N.val at Li;simp only at Li;generalize yT:p.res x=res at Li
    cases U1:tI (pg (qp u 0 (bif res.plain then st else freeze st r)) q) ms res.exts with
    |none=>simp [U1,N.val] at Li
    |some wc=>
     simp only [U1] at Li
     cases hly:ve wc o.dst res.outs with
     |none=>simp [hly,N.val] at Li
     |some iz=>
      simp only [hly] at Li;have Li:(fin iz).val=some bd:=Li;obtain ⟨zZ,hqu,tb,NA,WJ,Su,hold⟩:=Dp h ms 0 _ hlen vA he;have Eu:=pk u zZ hc.1;have CI:∀p∈r,Lb.sp p.1 p.2∉u:=by
       intro p hp hm;have h1:=List.all_eq_true.1 hc.2 p hp;have h2:=List.all_eq_true.1 h1 _ hm;rw [(Lb.xU rfl).2 rfl] at h2
       cases h2
      let lc:Nat→Nat→Loc:=fun k=>match ms[k]? with | some m=>zV c m.2 | none=>fun _=>.nil
      have oz:=Classical.propDecidable
      let ρ:Lb→Option Lb:=fun l=>match look tb l with | some y=>some y | none=>if (∃p∈r,l=.sp p.1 p.2) then none else some .out
      have x5:∀ {l y},look tb l=some y→l∈u∧y.kJ=true:=by
       intro l y hl;have:=wj tb hl;exact ⟨by rw [←NA];exact List.mem_map.2 ⟨_,this,rfl⟩,WJ _ this⟩
      have hρr:∀p∈r,ρ (.sp p.1 p.2)=none:=by
       intro p hp;show (match look tb (.sp p.1 p.2) with | some y=>some y | none=>if (∃p'∈r,Lb.sp p.1 p.2=.sp p'.1 p'.2) then none else some .out)=none
       cases hl:look tb (.sp p.1 p.2) with
       |some y=>exact absurd (x5 hl).1 (CI p hp)
       |none=>simp only;rw [if_pos ⟨p,hp,rfl⟩]
      have hρt:∀p∈tb,ρ p.1=some p.2:=by
       intro p hp;have:=xV tb (by rw [NA];exact Eu) hp;show (match look tb p.1 with | some y=>some y | none=>_)=_;rw [this]
      have hρh:∀ {l y},ρ l=some y→y=.out∨(y.kJ=true∧l∈u):=by
       intro l y hl;have hl:(match look tb l with | some y=>some y | none=>if (∃p∈r,l=.sp p.1 p.2) then none else some .out)=some y:=hl
       cases hk:look tb l with
       |some z=>
        rw [hk] at hl
        cases hl
        exact .inr ⟨(x5 hk).2,(x5 hk).1⟩
       |none=>
        rw [hk] at hl;simp only at hl
        split at hl
        ·cases hl
        ·cases hl;exact .inl rfl
      have hρn:∀ {l},ρ l=none→∃p∈r,l=.sp p.1 p.2:=by
       intro l hl;have hl:(match look tb l with | some y=>some y | none=>if (∃p∈r,l=.sp p.1 p.2) then none else some .out)=none:=hl
       cases hk:look tb l with
       |some z=>rw [hk] at hl;cases hl
       |none=>
        rw [hk] at hl;simp only at hl
        split at hl
        ·assumption
        ·cases hl
      let μ:Mu:={ m:=fun b=>∃l,(c.map ρ).own b=some l∧l.kJ=true,ok:=fun b=>(c.map ρ).own b=none,an:=[],rs:=fun b=>(c.map ρ).rs b≠none }
      have hH:Handed (c.map ρ) w μ:={
       m:=fun b=>Iff.rfl
       ok:=fun b=>Iff.rfl
       lt:=fun b l hb=>by
        obtain ⟨k,hk,_⟩:=Cz.map_some hb;exact (h.owned b k hk).1
       lb:=fun b l hb=>by
        obtain ⟨k,hk,e⟩:=Cz.map_some hb;exact (hρh e).imp id (·.1)
       rs:=fun b l hb=>by
        obtain ⟨k,hk,_⟩:=Cz.se hb;exact ⟨(h.mT b k hk).1,by show (c.map ρ).rs b≠none;rw [hb];simp⟩ }
      have M0:∀b,μ.rs b→c.own b=none∧∃l,c.rs b=some l∧l∈u:=by
       intro b hb;have hb:(c.map ρ).rs b≠none:=hb
       cases hq:(c.map ρ).rs b with
       |none=>exact absurd hq hb
       |some y=>
        obtain ⟨k,hk,e,ho,h0⟩:=Cz.se hq;refine ⟨h0,k,hk,?_⟩;rcases hρh e with e2 | e2
        ·subst e2;cases ho
        ·exact e2.2
      have hA:=hold ρ lc (fun k m hm=>by simp only [Nat.zero_add,lc,hm]) hρt hρr;have Aa:=Qa (c.map ρ) w μ lc dL vals p x hH hA hs hox;rw [yT] at Aa;intro Q;unfold Oper.wp;rw [qD,Oper.upon_enter];refine Aa.mono fun e w' NB => ?_
      obtain ⟨v,rfl,c1,CS,hV,hX⟩:=NB;obtain ⟨c2,s2,HS,hR2,hF2,hm2,ac5,ac6,ac7,ac8⟩:∃(c2:Cz) (s2:St),(bif res.plain then st else freeze st r)=s2∧Rel w0 mu c2 s2 a w∧Fw c st w c2 s2 w∧(∀b,μ.m b→∃l,c2.own b=some l∧l∈u)∧(∀b,c.own b=none→c2.own b=none)∧c2.rs=c.rs∧(res.plain=true∨∀b,μ.ok b→c2.own b=none)∧
        (∀b l,(∀p∈r,l≠.sp p.1 p.2)→c.own b=some l→c2.own b=some l):=by
       have hm:∀b,μ.m b→∃l,c.own b=some l∧l∈u:=by
        rintro b ⟨l,hl,hh⟩
        obtain ⟨k,hk,e⟩:=Cz.map_some hl;rcases hρh e with e2 | e2
        ·subst e2;cases hh
        ·exact ⟨k,hk,e2.2⟩
       cases hp:res.plain with
       |true=>exact ⟨c,st,rfl,h,Fw.refl c st w,hm,fun _ h=>h,rfl,.inl rfl,fun _ _ _ h=>h⟩
       |false=>
        refine ⟨c.drop r,freeze st r,rfl,Rel.freeze r h,Fw.freeze w r c st,fun b hb => ?_,fun b hb=>Cz.tQ r c b hb,Cz.AR r c,.inr fun b hb => ?_,fun b l hl hb=>Cz.xj r c hb hl⟩
        ·obtain ⟨l,h1,h2⟩:=hm b hb;exact ⟨l,Cz.xj r c h1 (fun p hp e=>CI p hp (e▸h2)),h2⟩
        ·have hb:(c.own b).bind ρ=none:=hb
         cases hk:c.own b with
         |none=>exact Cz.tQ r c b hk
         |some l=>
          rw [hk] at hb;obtain ⟨p,hp,e⟩:=hρn hb;subst e;exact Cz.wa r c b hk hp
      rw [HS] at U1;obtain ⟨g1,g2,gfr,g3,g4,g5⟩:=hR2.WG CS (X:=fun l=>l∈u) hm2 (fun b hb=>by rw [ac6];exact (M0 b hb).2) (fun l hl e=>by subst e;cases zZ _ hl) (u:=u) (fun a j h=>Lc h);have H8:(∀b,c1.ok b→(c2.merge c1 w.heap.size μ.m μ.rs).ok b)∨res.plain=true:=by
       rcases ac7 with h1 | h1
       ·exact .inr h1
       ·exact .inl (g4 h1)
      have NC:res.plain=true→res.outs.all (fun o=>o.sS.all OV.plain)=true∧res.exts.all XV.plain=true:=by
       intro hp;unfold Res.plain at hp
       rwa [Bool.and_eq_true] at hp
      have Df:∀b l,l.xY=some l→c1.wQ (c2.merge c1 w.heap.size μ.m μ.rs) l b:=fun b l hl=>⟨g3 b l hl,fun h1 h2=>⟨?_,g5 b l hl h2⟩⟩
      rotate_left
      ·by_cases e:b<w.heap.size∧¬μ.m b
       ·rw [Cz.qS e];rcases (CS.mT b l h2).2 with q | q | q
        ·exact absurd e.1 (Nat.not_lt.2 q)
        ·exact absurd q e.2
        ·exact ac5 b (M0 b q).1
       ·rw [Cz.wm e,h1];rfl
      have hV':sd (c2.merge c1 w.heap.size μ.m μ.rs) w' res.outs v:=hV.pass (fun b j=>Df b (.gO j) rfl) (H8.imp id fun hp=>(NC hp).1);have La:iI (c2.merge c1 w.heap.size μ.m μ.rs) w' lc 0 dL vals.toList res.exts:=iI.pass dL 0 (fun b k _=>g3 b (.rV k) rfl) (fun b k j _=>Df b (.cH k j) rfl) _ _ (H8.imp id fun hp=>(NC hp).2) hX;obtain ⟨c3,k1,k2,k3,k4⟩:=xi q g1;have ND:∀b l,(c2.merge c1 w.heap.size μ.m μ.rs).wQ c3 l b:=fun b l=>⟨fun h=>by rw [k3];exact h,fun h1 h2=>⟨by rw [k3];exact h1,by rw [k4];exact h2⟩⟩
      have WK:∀b,(c2.merge c1 w.heap.size μ.m μ.rs).ok b→c3.ok b:=fun b hb=>by unfold Cz.ok at *;rw [k3];exact hb
      have hV3:sd c3 w' res.outs v:=hV'.pass (fun b j=>ND b _) (.inl WK);have hX3:iI c3 w' lc 0 dL vals.toList res.exts:=iI.pass dL 0 (fun b k _ hb=>by rw [k3];exact hb) (fun b k j _=>ND b _) _ _ (.inl WK) La;obtain ⟨c4,l1,l2,l3⟩:=BJ ms 0 dL _ _ k1 ((hF2.trans g2).trans k2) vA (zY ms he) Su.symm hlen (fun k m hm=>by simp only [Nat.zero_add,lc,hm]) hX3 U1;have hV4:sd c4 w' res.outs v:=hV3.pass (fun b j=>l3.keeps (.inl ⟨j,rfl⟩) b) (.inl l3.ok);obtain ⟨c5,n1,n2,n3⟩:=l1.laid hV4 hly hd;have WL:Rel w0 mu c5 iz (a.put o.dst v) w':=by
       refine (n1.mono (X':=fun _=>False) (fun l hl => ?_)).rel;obtain ⟨⟨UZ,Q0⟩,hl3⟩:=hl;rcases BK ms he l UZ with ⟨h1,s,j,e⟩ | ⟨m,h1,h2⟩
       ·subst e;exact Q0 s j h1 rfl
       ·exact hl3 m h1 h2
      obtain ⟨c6,hc6⟩:=Lh c5 iz _ w' WL (l2.trans n2) (fun P7 u' q' r' PM b l UZ Q0 hl3 hb=>by
       rw [he] at PM;simp only [Option.some.injEq,Prod.mk.injEq] at PM;obtain ⟨rfl,rfl,rfl,rfl⟩:=PM;have H6:=ac8 b l hl3 hb;obtain ⟨f1,f2⟩:=gfr b l H6 Q0;refine ⟨f1,n3 b l UZ (l3.cH b l (.inr UZ) ?_)⟩;rw [k3,f2];exact H6) Li
      refine ⟨⟨c6,hc6,rp _ _ _⟩,fun ada=>⟨CS.kept.2.2.2,fun k hk=>CS.old k hk (fun hmu => ?_)⟩⟩;have hu0:u=[]:=by simpa using P6 ada
      obtain ⟨_,_,zR⟩:=hm2 k hmu;rw [hu0] at zR
      cases zR
end Go.TM
namespace Go.TM
open Go Go.RowKit
def vB (st:St) (n:Nat×Nat):Prop:=∃g A,aV st n.1 n.2 g=some A∧A.md.C7=false
theorem Lj {st:St} {own:Bool} {x:CV} {o:OV} {u:Option Lb} {r:List (Nat×Nat)} (h:fj st own x=some (o,u,r)):(∀s j,u=some (.sp s j)→vB st (s,j))∧∀p∈r,vB st p:=by
 cases x with
 |ref a j g w=>
  unfold fj at h;simp only at h
  cases hA:aV st a j g with
  |none=>simp [hA] at h
  |some A=>
   simp only [hA] at h
   cases hm:A.md.C7 with
   |true=>simp [hm] at h
   |false=>
   have u0:=hm;simp only [hm,cond_false] at h
   cases hb:(own&&A.own&&(A.md.is .sh||(A.md.is .lz||w.isFull)))<;>simp only [hb,cond_true,cond_false,Option.some.injEq,Prod.mk.injEq] at h<;>obtain ⟨_,rfl,rfl⟩:=h
   ·exact ⟨by simp,fun p hp=>by simp at hp;subst hp;exact ⟨g,A,hA,u0⟩⟩
   ·refine ⟨fun s k e => ?_,by simp⟩;simp only [Option.some.injEq,Lb.sp.injEq] at e;obtain ⟨rfl,rfl⟩:=e;exact ⟨g,A,hA,u0⟩
 |HI a j g e i k q ys=>
  unfold fj at h;simp only at h
  cases hA:aV st a j g with
  |none=>simp [hA] at h
  |some A=>
   simp only [hA] at h;obtain ⟨h1,h⟩:=aJ h;rw [Bool.and_eq_true] at h1;have hm:=Md.j1.1 h1.1;simp only [Option.some.injEq,Prod.mk.injEq] at h;obtain ⟨_,rfl,rfl⟩:=h;exact ⟨by simp,fun p hp=>by simp at hp;subst hp;exact ⟨g,A,hA,by rw [hm];rfl⟩⟩
 |pI a j g e i k q ys=>
  unfold fj at h;simp only at h
  cases hA:aV st a j g with
  |none=>simp [hA] at h
  |some A=>
   simp only [hA] at h;obtain ⟨h1,h⟩:=aJ h;rw [Bool.and_eq_true] at h1;have hm:=Md.j1.1 h1.1;simp only [Option.some.injEq,Prod.mk.injEq] at h;obtain ⟨_,rfl,rfl⟩:=h;exact ⟨by simp,fun p hp=>by simp at hp;subst hp;exact ⟨g,A,hA,by rw [hm];rfl⟩⟩
 |me q y off=>obtain ⟨_,rfl,rfl⟩:=vu h;simp
 |su q y off=>obtain ⟨_,rfl,rfl⟩:=s5 h;simp
 |_=>simp [fj] at h<;>(try (obtain ⟨_,rfl,rfl⟩:=h;simp))
theorem s8 {st:St} {own:Bool}:(cs:List CV)→{os:List OV}→{u:List (Option Lb)}→{r:List (Nat×Nat)}→fk st own cs=some (os,u,r)→(∀s j,.sp s j∈cF u→vB st (s,j))∧∀p∈r,vB st p
 | [],_,_,_,h=>by
  simp only [fk,Option.some.injEq,Prod.mk.injEq] at h;obtain ⟨_,rfl,rfl⟩:=h;simp [cF]
 |x::cs,os,u,r,h=>by
  unfold fk at h
  cases hc:fj st own x with
  |none=>simp [hc] at h
  |some p=>
   obtain ⟨o,u1,r1⟩:=p
   cases hq:fk st own cs with
   |none=>simp [hc,hq] at h
   |some q=>
    obtain ⟨xT,us,rs⟩:=q;simp only [hc,hq,Option.some.injEq,Prod.mk.injEq] at h;obtain ⟨_,rfl,rfl⟩:=h;obtain ⟨a1,a2⟩:=Lj hc;obtain ⟨b1,b2⟩:=s8 cs hq;refine ⟨fun s j hm => ?_,fun p hp => ?_⟩
    ·rw [ia] at hm;rcases List.mem_cons.1 hm with hm | hm
     ·exact a1 s j hm.symm
     ·exact b1 s j (ia.2 hm)
    ·rcases List.mem_append.1 hp with hp | hp
     ·exact a2 p hp
     ·exact b2 p hp
theorem Gu {st:St} {m:Pm} {v:V} {av:AV} {u q:List Lb} {r:List (Nat×Nat)} (h:eI st m v=some (av,u,q,r)):(∀s j,.sp s j∈u→vB st (s,j))∧∀p∈r,vB st p:=by
 have single:∀own cs ag,(match fk st own cs with | some (os,u,r)=>some (AV.val ag os,cF u,cF u,r) | none=>none)=some (av,u,q,r)→(∀s j,.sp s j∈u→vB st (s,j))∧∀p∈r,vB st p:=by
  intro own cs ag h
  cases hq:fk st own cs with
  |none=>simp [hq] at h
  |some p=>
   obtain ⟨os,us,rs⟩:=p;simp only [hq,Option.some.injEq,Prod.mk.injEq] at h;obtain ⟨_,rfl,rfl,rfl⟩:=h;exact s8 cs hq
 cases v with
 |nC _=>simp [eI] at h
 |agg cs=>
  unfold eI at h
  cases m with
  |shr=>exact single _ _ _ h
  |own=>exact single _ _ _ h
  |pick _=>exact single _ _ _ h
  |soft _=>exact single _ _ _ h
  |io=>exact single _ _ _ h
  |cz=>
   simp only at h
   cases hq:fk st true cs with
   |none=>simp [hq] at h
   |some p=>
    obtain ⟨os,us,rs⟩:=p;simp only [hq] at h;obtain ⟨_,h1⟩:=aJ h;simp only [Option.some.injEq,Prod.mk.injEq] at h1;obtain ⟨_,rfl,_,rfl⟩:=h1;exact s8 cs hq
 |one cx=>
  cases cx with
  |ptr b g off=>
   unfold eI at h;simp only at h
   cases hb:dH st b g with
   |none=>simp [hb] at h
   |some cs=>
    simp only [hb] at h
    cases hq:fk st true cs with
    |none=>simp [hq] at h
    |some p=>
     obtain ⟨os,us,rs⟩:=p;simp only [hq] at h;obtain ⟨_,h1⟩:=aJ h;simp only [Option.some.injEq,Prod.mk.injEq] at h1;obtain ⟨_,rfl,rfl,rfl⟩:=h1;obtain ⟨a1,a2⟩:=s8 cs hq;refine ⟨fun s j hm => ?_,a2⟩;rcases List.mem_cons.1 hm with hm | hm
     ·cases hm
     ·exact a1 s j hm
  |ref s j g vw=>
   unfold eI at h
   cases m with
   |shr=>exact single _ _ _ h
   |own=>exact single _ _ _ h
   |pick _=>exact single _ _ _ h
   |soft _=>exact single _ _ _ h
   |cz=>exact single _ _ _ h
   |io=>
    cases vw with
    |full=>
     cases hA:aV st s j g with
     |none=>simp [hA] at h
     |some A=>
      simp only [hA] at h;obtain ⟨hb,h1⟩:=aJ h;simp only [Option.some.injEq,Prod.mk.injEq] at h1;obtain ⟨_,rfl,_,rfl⟩:=h1;refine ⟨fun s' j' hm => ?_,by simp⟩;simp at hm;obtain ⟨rfl,rfl⟩:=hm;rw [Bool.and_eq_true] at hb;exact ⟨g,A,hA,by cases hh:A.md.C7<;>simp_all⟩
    |«from» _=>simp at h
    |sub _ _=>simp at h
  |_=>
   unfold eI at h;simp only at h
   split at h
   ·rename_i os us rs hq;simp only [Option.some.injEq,Prod.mk.injEq] at h;obtain ⟨_,rfl,_,rfl⟩:=h;exact s8 _ hq
   ·cases h
theorem Ab {st:St}:(ms:List (Pm×V))→{dL:List AV}→{u q:List Lb}→{r:List (Nat×Nat)}→jg st ms=some (dL,u,q,r)→(∀s j,.sp s j∈u→vB st (s,j))∧∀p∈r,vB st p
 | [],_,_,_,_,h=>by
  simp only [jg,Option.some.injEq,Prod.mk.injEq] at h;obtain ⟨_,rfl,_,rfl⟩:=h;simp
 |(m,v)::ms,dL,u,q,r,h=>by
  unfold jg at h
  cases h1:eI st m v with
  |none=>simp [h1] at h
  |some p1=>
   obtain ⟨av,u1,q1,r1⟩:=p1
   cases h2:jg st ms with
   |none=>simp [h1,h2] at h
   |some p2=>
    obtain ⟨P7,u2,q2,r2⟩:=p2;simp only [h1,h2,Option.some.injEq,Prod.mk.injEq] at h;obtain ⟨_,rfl,_,rfl⟩:=h;obtain ⟨a1,a2⟩:=Gu h1;obtain ⟨b1,b2⟩:=Ab ms h2;refine ⟨fun s j hm => ?_,fun p hp => ?_⟩
    ·rcases List.mem_append.1 hm with hm | hm
     ·exact a1 s j hm
     ·exact b1 s j hm
    ·rcases List.mem_append.1 hp with hp | hp
     ·exact a2 p hp
     ·exact b2 p hp
theorem AT:{l:List Nat}→Ei l=true→∀ {a b:Nat} {x y:Nat},l[a]?=some x→l[b]?=some y→a<b→x<y
 | [],_,a,b,x,y,h,_,_=>by simp at h
 | [z],_,a,b,x,y,h1,h2,hab=>by
  have:b=0:=by
   have:=(List.getElem?_eq_some_iff.1 h2).1;simpa using this
  omega
 |z::z'::l,h,a,b,x,y,h1,h2,hab=>by
  simp only [Ei,Bool.and_eq_true] at h;have hz:z<z':=by have:=h.1;simp [Nat.blt] at this;omega
  cases b with
  |zero=>omega
  |succ b=>
   cases a with
   |succ a=>exact AT h.2 (by simpa using h1) (by simpa using h2) (by omega)
   |zero=>
    simp at h1;subst h1
    cases b with
    |zero=>simp at h2;omega
    |succ b=>
     have:=AT (a:=0) (b:=b+1) h.2 rfl (by simpa using h2) (by omega);omega
theorem NF {l:List Nat} (h:Ei l=true) {a b x:Nat} (h1:l[a]?=some x) (h2:l[b]?=some x):a=b:=by
 rcases Nat.lt_trichotomy a b with h3 | h3 | h3
 ·have:=AT h h1 h2 h3;omega
 ·exact h3
 ·have:=AT h h2 h1 h3;omega
theorem BL {k:Nat}:(n:Nat)→(l:List Dr)→(∃y∈l,y.k=k)→∃i y,posOf k n l=n+i∧l[i]?=some y∧y.k=k
 |n,[],h=>by obtain ⟨y,hy,_⟩:=h;cases hy
 |n,x::l,h=>by
  unfold posOf
  cases hb:Nat.beq x.k k with
  |true=>exact ⟨0,x,rfl,rfl,Nat.eq_of_beq_eq_true hb⟩
  |false=>
   have gr:x.k≠k:=by intro e;rw [e,Nat.beq_refl] at hb;cases hb
   obtain ⟨y,hy,e⟩:=h;rcases List.mem_cons.1 hy with rfl | hy
   ·exact absurd e gr
   ·obtain ⟨i,y',h1,h2,h3⟩:=BL (n+1) l ⟨y,hy,e⟩;exact ⟨i+1,y',by rw [cond_false,h1];omega,by simpa using h2,h3⟩
theorem Gv {l:List Dr} (hi:Ei (l.map (·.k))=true) {i:Nat} {y:Dr} (h:l[i]?=some y):posOf y.k 0 l=i:=by
 obtain ⟨i',y',h1,h2,h3⟩:=BL (k:=y.k) 0 l ⟨y,List.mem_of_getElem? h,rfl⟩;rw [h1,Nat.zero_add];exact NF hi (x:=y.k) (by rw [List.getElem?_map,h2];simp [h3]) (by rw [List.getElem?_map,h];rfl)
def Dr.cv (y:Dr):CV:=.pI y.a y.j y.g y.e y.i y.k y.q y.ys
theorem tW {y:Dr}:{cs:List CV}→y∈wY cs→y.cv∈cs
 | [],h=>by simp [wY] at h
 |c::cs,h=>by
  cases c with
  |pI a j g e i k q ys=>
   rcases List.mem_cons.1 h with rfl | h
   ·exact List.mem_cons_self
   ·exact List.mem_cons_of_mem _ (tW h)
  |_=>exact List.mem_cons_of_mem _ (tW h)
theorem BM {a j g e i k:Nat} {q:RT} {ys:List (ar q)}:{cs:List CV}→CV.pI a j g e i k q ys∈cs→(⟨a,j,g,e,i,k,q,ys⟩:Dr)∈wY cs
 | [],h=>by cases h
 |c::cs,h=>by
  rcases List.mem_cons.1 h with rfl | h
  ·exact List.mem_cons_self
  ·have:=BM (cs:=cs) h
   cases c with
   |pI _ _ _ _ _ _ _ _=>exact List.mem_cons_of_mem _ this
   |_=>exact this
theorem BN {y:Dr}:{ms:List (Pm×V)}→y∈q9 ms→∃m∈ms,(m=(.io,.one y.cv))∨∃cs,m=(.cz,.agg cs)∧y.cv∈cs
 | [],h=>by simp [q9] at h
 |(p,v)::ms,h=>by
  have rest:y∈q9 ms→∃m∈(p,v)::ms,(m=(.io,.one y.cv))∨∃cs,m=(.cz,.agg cs)∧y.cv∈cs:=fun h=>by
   obtain ⟨m,hm,e⟩:=BN h;exact ⟨m,List.mem_cons_of_mem _ hm,e⟩
  cases p with
  |io=>cases v with
   |one c=>
    rcases List.mem_append.1 h with h | h
    ·have:=tW h;simp at this;exact ⟨_,List.mem_cons_self,.inl (by rw [this])⟩
    ·exact rest h
   |_=>exact rest h
  |cz=>cases v with
   |agg cs=>
    rcases List.mem_append.1 h with h | h
    ·exact ⟨_,List.mem_cons_self,.inr ⟨cs,rfl,tW h⟩⟩
    ·exact rest h
   |_=>exact rest h
  |_=>exact rest (by cases v<;>exact h)
theorem Du {a j g e i k:Nat} {q:RT} {ys:List (ar q)}:{ms:List (Pm×V)}→(.io,.one (.pI a j g e i k q ys))∈ms→(⟨a,j,g,e,i,k,q,ys⟩:Dr)∈q9 ms
 | [],h=>by cases h
 |(p,v)::ms,h=>by
  rcases List.mem_cons.1 h with h | h
  ·cases h
   exact List.mem_append_left _ List.mem_cons_self
  ·have:=Du (ms:=ms) h
   cases p<;>cases v<;>first | exact this | exact List.mem_append_right _ this
theorem Ac {a j g e i k:Nat} {q:RT} {ys:List (ar q)} {cs:List CV} (hc:CV.pI a j g e i k q ys∈cs):{ms:List (Pm×V)}→(.cz,.agg cs)∈ms→(⟨a,j,g,e,i,k,q,ys⟩:Dr)∈q9 ms
 | [],h=>by cases h
 |(p,v)::ms,h=>by
  rcases List.mem_cons.1 h with h | h
  ·cases h
   exact List.mem_append_left _ (BM hc)
  ·have:=Ac hc (ms:=ms) h
   cases p<;>cases v<;>first | exact this | exact List.mem_append_right _ this
theorem x6 {st:St} {ms:List (Pm×V)} {x:Dr} {A:gM} {l:List Dr} (h:mS st ms=some (x,A,l)) :
  l=q9 ms∧aV st x.a x.j x.g=some A∧A.own=true∧A.md=.dp∧kc st x.a=x.e∧(∀y∈l,y.a=x.a∧y.j=x.j∧y.g=x.g∧y.e=x.e∧y.i=x.i)∧Ei (l.map (·.k))=true∧x.a≠st.length-1:=by
 unfold mS at h
 cases hd:q9 ms with
 |nil=>rw [hd] at h;cases h
 |cons y l'=>
  rw [hd] at h;simp only at h
  cases hA:aV st y.a y.j y.g with
  |none=>rw [hA] at h;cases h
  |some B=>
   rw [hA] at h;simp only at h;obtain ⟨h1,h⟩:=aJ h;simp only [Option.some.injEq,Prod.mk.injEq] at h;obtain ⟨rfl,rfl,rfl⟩:=h;simp only [Bool.and_eq_true] at h1;obtain ⟨⟨⟨⟨⟨h1,h2⟩,h3⟩,h4⟩,h5⟩,h6⟩:=h1;refine ⟨rfl,hA,h1,Md.j1.1 h2,(Nat.eq_of_beq_eq_true h3).symm,fun z hz => ?_,h5,fun e => ?_⟩
   ·rcases List.mem_cons.1 hz with rfl | hz
    ·exact ⟨rfl,rfl,rfl,rfl,rfl⟩
    ·have:=List.all_eq_true.1 h4 z hz;simp only [Bool.and_eq_true] at this;obtain ⟨⟨⟨⟨q1,q2⟩,q3⟩,q4⟩,q5⟩:=this;exact ⟨Nat.eq_of_beq_eq_true q1,Nat.eq_of_beq_eq_true q2,Nat.eq_of_beq_eq_true q3,Nat.eq_of_beq_eq_true q4,Nat.eq_of_beq_eq_true q5⟩
   ·rw [←e,Nat.beq_refl] at h6
    cases h6
theorem Gw:(r:RT)→(x:ar r)→(k:Nat)→{p:(q:RT)×List (ar q)}→lh r x k=some p→k<r.width
 |.nil,_,_,_,h=>by simp [lh] at h
 |.cons t r,x,0,_,_=>by simp [RT.width]
 |.cons t r,x,k+1,p,h=>by
  have h':lh r x.2 k=some p:=by cases t<;>exact h
  have:=Gw r x.2 k h';simp [RT.width];omega
noncomputable def Cz.split (c:Cz) (a j i P:Nat) (gg:Nat→List Nat) (l:List Dr) (ME:Nat→Loc):Cz:=
 {
  bx:=c.bx,lc:=fun s k=>if s=P then ME k else c.lc s k,
  own:=fun k=>have:=Classical.propDecidable (c.own k=some (.sp a j)∧∃y q,y∈l∧gg k=i::y.k::q);if c.own k=some (.sp a j)∧∃y q,y∈l∧gg k=i::y.k::q then some (.sp P (posOf ((gg k).getD 1 0) 0 l)) else c.own k,rs:=c.rs }
theorem Cz.oT {c:Cz} {a j i P:Nat} {gg:Nat→List Nat} {l:List Dr} {ME:Nat→Loc} {k:Nat} (h:¬(c.own k=some (.sp a j)∧∃y q,y∈l∧gg k=i::y.k::q)):(c.split a j i P gg l ME).own k=c.own k:=by
 unfold Cz.split;simp only;rw [if_neg h]
theorem Cz.Gx {c:Cz} {a j i P:Nat} {gg:Nat→List Nat} {l:List Dr} {ME:Nat→Loc} (hi:Ei (l.map (·.k))=true) {k n:Nat} {y:Dr} {q:List Nat} (h:c.own k=some (.sp a j)) (hy:l[n]?=some y) (hg:gg k=i::y.k::q):(c.split a j i P gg l ME).own k=some (.sp P n):=by
 unfold Cz.split;simp only;rw [if_pos ⟨h,y,q,List.mem_of_getElem? hy,hg⟩,hg];have:(i::y.k::q).getD 1 0=y.k:=rfl;rw [this,Gv hi hy]
theorem Cz.vC {c:Cz} {a j i P:Nat} {gg:Nat→List Nat} {l:List Dr} {ME:Nat→Loc} {k:Nat}:(c.split a j i P gg l ME).ok k↔c.ok k:=by
 unfold Cz.ok
 by_cases h:c.own k=some (.sp a j)∧∃y q,y∈l∧gg k=i::y.k::q
 ·have h0:=h.1;unfold Cz.split;simp only;rw [if_pos h,h0];simp
 ·rw [Cz.oT h]
theorem Cz.H9 {c:Cz} {a j i P:Nat} {gg:Nat→List Nat} {l:List Dr} {ME:Nat→Loc} {k:Nat} {lb:Lb} (h:(c.split a j i P gg l ME).own k=some lb):c.own k=some lb∨(c.own k=some (.sp a j)∧∃n,lb=.sp P n):=by
 by_cases h1:c.own k=some (.sp a j)∧∃y q,y∈l∧gg k=i::y.k::q
 ·unfold Cz.split at h;simp only at h;rw [if_pos h1] at h;exact .inr ⟨h1.1,_,(Option.some.inj h).symm⟩
 ·rw [Cz.oT h1] at h;exact .inl h
theorem vD {st:St} {x:Dr} {A:gM} {l:List Dr} (gr:x.a≠st.length-1) (s:Nat):nth (eQ st x A l) s=if s=st.length-1 then (nth st s).map (fun z=>{ z with aK:=l.map (fun y=>some y.arr),ag:=z.ag+1,ep:=z.ep+1 }) else
  (if s=x.a then (nth st s).map (fun z=>{ z with aK:=mB (fun _=>some { A with md:=.ho x.i }) z.aK x.j,ep:=z.ep+1 }) else nth st s):=by
 unfold eQ bz;rw [dD,dD]
 by_cases e:s=st.length-1
 ·rw [if_pos e,if_pos e,if_neg (show ¬(s=x.a) from fun e'=>gr (e'.symm.trans e))]
 ·rw [if_neg e,if_neg e]
end Go.TM
namespace Go.TM
open Go Go.RowKit
structure Q5 (c c1:Cz) (st:St) (w:World) (x:Dr) (A:gM) (l:List Dr) (gg:Nat→List Nat) (b o cap:Nat):Prop where
 lc:c.lc x.a x.j=.at b o cap
 lc1:c1.lc x.a x.j=.at b o cap
 own:c.own b=some (.sp x.a x.j)
 g0:gg b=[]
 rows:∀(i:Nat) z,A.xs[i]?=some z→fl w (fun p k=>c.own k=some (.sp x.a x.j)∧gg k=p) A.r [i] 0 b (o+i*A.r.width) z
 stay:∀k,c.own k=some (.sp x.a x.j)→(∀y∈l,∀q,gg k≠x.i::y.k::q)→c1.own k=some (.sp x.a x.j)
 out:∀n y,l[n]?=some y→∃v,w.cell? ⟨b,o+x.i*A.r.width+y.k,none⟩=some v∧v.oneCell'=true∧gm (c1.lc (st.length-1) n) y.q.width 0 y.ys.length v∧y.k<A.r.width
 len:x.i<A.xs.length
theorem vC {w0:World} {mu:Mu} {c:Cz} {st:St} {a:Act} {w:World} (h:Rel w0 mu c st a w) {ms:List (Pm×V)} {x:Dr} {A:gM} {l:List Dr} (hs:mS st ms=some (x,A,l)) (vA:∀m∈ms,∃v,eK c st w m.2 v) :
  ∃(c1:Cz) (gg:Nat→List Nat) (b o cap:Nat),Rel w0 mu c1 (eQ st x A l) a w∧Fw c st w c1 (eQ st x A l) w∧Q5 c c1 st w x A l gg b o cap∧
   ∀m∈ms,∀v,eK c st w m.2 v→eK c1 (eQ st x A l) w (PH (st.length-1) (ow st (st.length-1)+1) l m).2 v:=by
 obtain ⟨hl,hA,eL,u0,Wo,ot,Lk,gr⟩:=x6 hs;have p7:∀y∈l,∃v,jv c st w y.cv v:=by
  intro y hy;rw [hl] at hy;obtain ⟨m,hm,e | ⟨cs,e,hc⟩⟩:=BN hy
  ·obtain ⟨v,hv⟩:=vA m hm;rw [e] at hv;exact ⟨v,hv⟩
  ·obtain ⟨v,hv⟩:=vA m hm;rw [e] at hv;obtain ⟨vs,rfl,hL⟩:=hv;obtain ⟨k,hk⟩:=List.mem_iff_getElem?.1 hc;have dG:k<vs.toList.length:=by rw [←hL.1];exact (List.getElem?_eq_some_iff.1 hk).1
   exact ⟨_,hL.2 k _ _ hk (List.getElem?_eq_getElem dG)⟩
 have WM:∀y∈l,∀v,jv c st w y.cv v→∃(gg:Nat→List Nat) (b o cap:Nat),c.lc x.a x.j=.at b o cap∧A.md=.dp∧gg b=[]∧w.cell? ⟨b,o+x.i*A.r.width+y.k,none⟩=some v∧
   (∀(i:Nat) z,A.xs[i]?=some z→fl w (fun p k=>c.own k=some (.sp x.a x.j)∧gg k=p) A.r [i] 0 b (o+i*A.r.width) z)∧(∃z,A.xs[x.i]?=some z∧lh A.r z y.k=some ⟨y.q,y.ys⟩):=by
  intro y hy v hv;obtain ⟨e1,e2,e3,e4,e5⟩:=ot y hy;obtain ⟨ya,yj,yg,ye,yi,yk,yq,yys⟩:=y;simp only at e1 e2 e3 e4 e5;subst e1 e2 e3 e4 e5;obtain ⟨gg,b,o,cap,h1,h2,h3,h4,h5,h6,_⟩:=BE hv hA Wo (h.sW hA);exact ⟨gg,b,o,cap,h1,h2,h3,h4,h5,h6⟩
 have eE:=h.sW hA;obtain ⟨y0,WN⟩:∃y,y∈l:=by
  cases Q0:l with
  |cons y _=>exact ⟨y,List.mem_cons_self⟩
  |nil=>
   rw [Q0] at hl;unfold mS at hs;rw [←hl] at hs
   cases hs
 obtain ⟨v0,hv0⟩:=p7 y0 WN;obtain ⟨gg,b,o,cap,iy,_,HA,_,wN,Px⟩:=WM y0 WN v0 hv0;have NG:∀y∈l,∀v,jv c st w y.cv v→w.cell? ⟨b,o+x.i*A.r.width+y.k,none⟩=some v∧(∃z,A.xs[x.i]?=some z∧lh A.r z y.k=some ⟨y.q,y.ys⟩):=by
  intro y hy v hv;obtain ⟨_,b',o',El,h1,_,_,h4,_,h6⟩:=WM y hy v hv;rw [iy] at h1;injection h1 with e1 e2 e3;subst e1 e2 e3;exact ⟨h4,h6⟩
 have NH:∀n:Nat,∃lc:Loc,∀y,l[n]?=some y→∃v,w.cell? ⟨b,o+x.i*A.r.width+y.k,none⟩=some v∧v.oneCell'=true∧gm lc y.q.width 0 y.ys.length v∧
   ((lc=.nil∧y.ys=[])∨∃b' off El,lc=.at b' off El∧(c.own b'=some (.sp x.a x.j)∧gg b'=[x.i,y.k])∧y.ys.length≤El∧(∃cur ty,w.heap[b']?=some (.cells cur ty (0,0))∧off+El*y.q.width≤cur.size)∧
    ∀(i:Nat) z,y.ys[i]?=some z→fl w (fun p k=>c.own k=some (.sp x.a x.j)∧gg k=p) y.q ([x.i,y.k]++[i]) 0 b' (off+i*y.q.width) z):=by
  intro n
  cases hn:l[n]? with
  |none=>exact ⟨.nil,fun y hy=>by cases hy⟩
  |some y=>
   have hy:=List.mem_of_getElem? hn;obtain ⟨v,hv⟩:=p7 y hy;obtain ⟨h4,z,Qb,Qc⟩:=NG y hy v hv;obtain ⟨v',q1,q2⟩:=za A.r [x.i] 0 _ z y.k (wN x.i z Qb) Qc;rw [h4] at q1
   cases q1
   obtain ⟨lc,r1,r2,r3⟩:=(vi _ _ _ _ _ _).1 q2;refine ⟨lc,fun y' MD => ?_⟩
   cases MD
   exact ⟨v,h4,r2,r1,by simpa using r3⟩
 obtain ⟨ME,Sv⟩:=Classical.axiomOfChoice NH;have hb:c.own b=some (.sp x.a x.j):=by
  unfold cq at eE;rw [iy] at eE;have:=eE.1
  rwa [eL] at this
 let P:=st.length-1
 let c1:=c.split x.a x.j x.i P gg l ME
 have x7:=vD (A:=A) (l:=l) gr;obtain ⟨sla,Q6,ha2,WO⟩:=bt hA;have Sw:P<st.length:=by
  have:=Ek Q6;show st.length-1<st.length;omega
 obtain ⟨slP,hP⟩:∃s,nth st P=some s:=⟨st[P],by rw [gX];exact List.getElem?_eq_getElem Sw⟩;have hgP:ow st P=slP.ag:=by unfold ow;rw [hP]
 have Dv:∀s k,s≠P→c1.lc s k=c.lc s k:=fun s k e=>by show (if s=P then _ else _)=_;rw [if_neg e]
 have NI:∀k,c1.lc P k=ME k:=fun k=>by show (if P=P then _ else _)=_;rw [if_pos rfl]
 have zd:∀s,dw st s≤dw (eQ st x A l) s∧fP st s=fP (eQ st x A l) s∧kc st s≤kc (eQ st x A l) s∧(s=P∨s=x.a→nth st s≠none→kc (eQ st x A l) s≠kc st s):=by
  intro s;unfold dw fP kc;rw [x7]
  by_cases e:s=st.length-1
  ·rw [if_pos e]
   cases nth st s with
   |none=>simp
   |some z=>refine ⟨by simp,rfl,by simp,fun _ _=>by simp⟩
  ·rw [if_neg e]
   by_cases e2:s=x.a
   ·rw [if_pos e2]
    cases nth st s with
    |none=>simp
    |some z=>refine ⟨by simp,rfl,by simp,fun _ _=>by simp⟩
   ·rw [if_neg e2];exact ⟨Nat.le_refl _,rfl,Nat.le_refl _,fun h=>absurd h (by rintro (h | h);exact e h;exact e2 h)⟩
 have WQ:dw (eQ st x A l) P=slP.ag+1:=by
  unfold dw;rw [x7,if_pos rfl,hP];rfl
 have fR:Fw c st w c1 (eQ st x A l) w:={
  stays:=⟨Nat.le_refl _,fun _ _ _=>rfl,fun _ _ h=>Cz.vC.2 h⟩
  refs:=fun a' j' g' A2 hg H0=>by
   obtain ⟨sl,k1,k2,k3⟩:=bt H0;rw [x7] at k1
   by_cases e:a'=st.length-1
   ·rw [if_pos e] at k1;obtain ⟨z,hz,rfl⟩:=Option.map_eq_some_iff.1 k1;unfold dw at hg;rw [hz] at hg;simp only at k2 hg;omega
   ·rw [if_neg e] at k1
    by_cases e2:a'=x.a
    ·rw [if_pos e2] at k1;obtain ⟨z,hz,rfl⟩:=Option.map_eq_some_iff.1 k1;have WR:=(zd a').2.2.2 (.inr e2) (by rw [hz];simp);simp only at k2 k3;rw [dD] at k3
     by_cases e3:j'=x.j
     ·rw [if_pos e3] at k3;subst e2 e3;rw [Q6] at hz
      cases hz
      rw [WO] at k3;simp only [Option.map_some,Option.some.injEq] at k3;subst k3;exact ⟨A,pn Q6 k2 WO,rfl,rfl,Dv _ _ e,fun he=>absurd he WR⟩
     ·rw [if_neg e3] at k3;exact ⟨A2,pn hz k2 k3,rfl,rfl,Dv _ _ e,fun he=>absurd he WR⟩
    ·rw [if_neg e2] at k1;exact ⟨A2,pn k1 k2 k3,rfl,rfl,Dv _ _ e,fun _=>⟨rfl,fun _ _ _ _=>rfl⟩⟩
  yO:=fun b' g' mf _ oN=>by
   refine ⟨⟨mf,?_⟩,rfl⟩;unfold dH at oN ⊢;rw [x7] at oN
   by_cases e:b'=st.length-1
   ·rw [if_pos e] at oN
    cases hz:nth st b' with
    |none=>rw [hz] at oN;cases oN
    |some z=>rw [hz] at oN;exact oN
   ·rw [if_neg e] at oN
    by_cases e2:b'=x.a
    ·rw [if_pos e2] at oN
     cases hz:nth st b' with
     |none=>rw [hz] at oN;cases oN
     |some z=>rw [hz] at oN;exact oN
    ·rw [if_neg e2] at oN;exact oN
  gA:=fun s=>(zd s).1
  gB:=fun s=>Nat.le_of_eq (zd s).2.1
  gE:=fun s=>(zd s).2.2.1 }
 have WS:∀t,cC (eQ st x A l) t=cC st t:=by
  intro t;unfold cC;rw [x7]
  by_cases e:t=st.length-1
  ·rw [if_pos e];cases nth st t<;>rfl
  ·rw [if_neg e]
   by_cases e2:t=x.a
   ·rw [if_pos e2];cases nth st t<;>rfl
   ·rw [if_neg e2]
 have other:∀s k B,cq c w s k B→¬(s=x.a∧k=x.j)→s≠P→cq c1 w s k B:=by
  intro s k B hB hn hsP;refine hB.go fR.stays (Dv s k hsP) (fun kb hk=>⟨rfl,Cz.oT ?_⟩)
  rintro ⟨h1,_⟩
  rw [hk] at h1;injection h1 with h1;injection h1 with e1 e2;exact hn ⟨e1,e2⟩
 have ade:Rel w0 mu c1 (eQ st x A l) a w:={
  ey:=fun t=>by rw [WS];exact fR.la (h.ey t)
  boxes:=fun s sl cs hs oN=>by
   have:∃zT,nth st s=some zT∧zT.box=some cs:=by
    rw [x7] at hs
    by_cases e:s=st.length-1
    ·rw [if_pos e] at hs;obtain ⟨z,hz,rfl⟩:=Option.map_eq_some_iff.1 hs;exact ⟨z,hz,oN⟩
    ·rw [if_neg e] at hs
     by_cases e2:s=x.a
     ·rw [if_pos e2] at hs;obtain ⟨z,hz,rfl⟩:=Option.map_eq_some_iff.1 hs;exact ⟨z,hz,oN⟩
     ·rw [if_neg e2] at hs;exact ⟨sl,hs,oN⟩
   obtain ⟨zT,gN,R6⟩:=this;have yL:=h.boxes s zT cs gN R6;refine yL.go fR rfl (Cz.oT ?_) rfl
   rintro ⟨h1,_⟩
   rw [yL.1] at h1
   cases h1
  aK:=fun s k sl B hs hB=>by
   rw [x7] at hs
   by_cases e:s=st.length-1
   ·rw [if_pos e] at hs;obtain ⟨z,hz,rfl⟩:=Option.map_eq_some_iff.1 hs;simp only at hB;rw [gX,List.getElem?_map] at hB
    cases hy:l[k]? with
    |none=>rw [hy] at hB;cases hB
    |some y=>
     rw [hy] at hB;simp only [Option.map_some,Option.some.injEq] at hB;subst hB;obtain ⟨v,r1,r2,r3,r4⟩:=Sv k y hy;have es:s=P:=e;rw [es];unfold cq;rw [NI];rcases r4 with ⟨e4,e5⟩ | ⟨b',off,El,e4,⟨q1,q2⟩,q3,q4,q5⟩
     ·rw [e4];exact e5
     ·rw [e4];refine ⟨Cz.Gx Lk q1 hy (q:=[]) q2,q3,q4,?_⟩;unfold bF;show match (bif y.q.dS then Md.dp else Md.sh) with | .sh=>_ | .dp=>_ | .ho _=>_ | .lz=>_
      cases Sx:y.q.dS with
      |false=>exact fun i z hz=>fl.FQ _ _ _ _ _ z Sx (q5 i z hz)
      |true=>
       refine ⟨fun k=>(gg k).drop 2,by show List.drop 2 (gg b')=[];rw [q2];rfl,fun i z hz=>fl.go _ _ [i] (fun q kb hk=>⟨rfl,Cz.Gx Lk hk.1 hy (q:=[i]++q) (by rw [hk.2];simp),by show List.drop 2 (gg kb)=_;rw [hk.2];simp⟩) _ _ _ z rfl (q5 i z hz)⟩
   ·rw [if_neg e] at hs
    by_cases e2:s=x.a
    ·rw [if_pos e2] at hs;obtain ⟨z,hz,rfl⟩:=Option.map_eq_some_iff.1 hs;simp only at hB;rw [dD] at hB
     by_cases e3:k=x.j
     ·rw [if_pos e3] at hB;subst e2 e3;rw [Q6] at hz
      cases hz
      rw [WO] at hB;simp only [Option.map_some,Option.some.injEq] at hB;subst hB;unfold cq at eE ⊢;rw [Dv _ _ e,iy];rw [iy] at eE;obtain ⟨h0,h2,h3,_⟩:=eE;refine ⟨?_,h2,h3,fun _=>⟨gg,HA,fun i' z hq hz=>fl.go _ [i'] [i'] (fun q kb hk=>⟨rfl,(Cz.oT (by
       rintro ⟨_,y,q',_,hg⟩
       rw [hk.2] at hg;injection hg with e' _;exact hq e')).trans hk.1,hk.2⟩) _ _ _ z rfl (wN i' z hz)⟩⟩
      show match A.own with | true=>_ | false=>_
      rw [eL];show c1.own b=_;rw [Cz.oT]
      ·exact hb
      ·rintro ⟨_,y,q,_,hq⟩
       rw [HA] at hq
       cases hq
     ·rw [if_neg e3] at hB;exact other s k B (h.aK s k z B hz hB) (fun hh=>e3 hh.2) e
    ·rw [if_neg e2] at hs;exact other s k B (h.aK s k sl B hs hB) (fun hh=>e2 hh.1) e
  owned:=fun kb lb hk=>by
   rcases Cz.H9 hk with h1 | ⟨h1,n,rfl⟩
   ·exact h.owned kb lb h1
   ·obtain ⟨g1,g2⟩:=h.owned kb _ h1;exact ⟨g1,.inr (g2.resolve_left (by simp))⟩
  free:=fun kb dG hk=>h.free kb dG (Cz.vC.1 hk)
  kept:=h.kept
  old:=h.old
  plain:=h.plain
  dF:=fun p hp=>fR.dF (h.dF p hp)
  mT:=h.mT }
 refine ⟨c1,gg,b,o,cap,ade,fR,⟨iy,by rw [Dv _ _ gr];exact iy,hb,HA,wN,fun k hk hq => ?_,fun n y hn => ?_,?_⟩,?_⟩
 ·show c1.own k=_;rw [Cz.oT]
  ·exact hk
  ·rintro ⟨_,y,q,hy,hq'⟩
   exact hq y hy q hq'
 ·obtain ⟨v,r1,r2,r3,_⟩:=Sv n y hn;refine ⟨v,r1,r2,by rw [NI];exact r3,?_⟩;obtain ⟨v',qC⟩:=p7 y (List.mem_of_getElem? hn);obtain ⟨_,z,_,Qc⟩:=NG y (List.mem_of_getElem? hn) v' qC;exact Gw _ _ _ Qc
 ·obtain ⟨z,Qb,_⟩:=Px;exact (List.getElem?_eq_some_iff.1 Qb).1
 ·-- Hy values Kw UO kJ
  have cell:∀cv v,jv c st w cv v→(∀a j g e i k q ys,cv=.pI a j g e i k q ys→(⟨a,j,g,e,i,k,q,ys⟩:Dr)∈l)→jv c1 (eQ st x A l) w (R5 (st.length-1) (ow st (st.length-1)+1) l cv) v:=by
   intro cv v hv hm
   cases cv with
   |pI a j g e i k q ys=>
    have hy:=hm _ _ _ _ _ _ _ _ rfl;obtain ⟨n,hn⟩:=List.mem_iff_getElem?.1 hy;have Sy:posOf k 0 l=n:=Gv Lk hn;show jv c1 (eQ st x A l) w (.ref P (posOf k 0 l) (ow st P+1) .full) v;rw [Sy];obtain ⟨v',r1,r2,r3,_⟩:=Sv n _ hn;have hvv:=(NG _ hy v hv).1;rw [r1] at hvv
    cases hvv
    refine ⟨r2,by rw [WQ,hgP];exact Nat.le_refl _,fun B hB => ?_⟩;obtain ⟨sl,k1,k2,k3⟩:=bt hB;rw [x7,if_pos rfl] at k1;obtain ⟨z,hz,rfl⟩:=Option.map_eq_some_iff.1 k1;simp only at k3;rw [gX,List.getElem?_map,hn] at k3;simp only [Option.map_some,Option.some.injEq] at k3;subst k3;rw [NI];exact r3
   |_=>exact fR.MU hv
  intro m hm v hv;obtain ⟨pm,mv⟩:=m
  cases pm with
  |io=>cases mv with
   |one cv=>
    exact cell cv v hv (fun a j g e i k q ys e1=>by rw [hl];subst e1;exact Du hm)
   |_=>exact fR.la hv
  |cz=>cases mv with
   |agg cs=>
    obtain ⟨vs,rfl,hL⟩:=hv;refine ⟨vs,rfl,by rw [List.length_map];exact hL.1,fun i y u hy hu => ?_⟩;rw [List.getElem?_map] at hy;obtain ⟨y0,WN,rfl⟩:=Option.map_eq_some_iff.1 hy;exact cell y0 u (hL.2 i y0 u WN hu) (fun a j g e i k q ys e1=>by rw [hl];subst e1;exact Ac (List.mem_of_getElem? WN) hm)
   |_=>exact fR.la hv
  |_=>cases mv<;>exact fR.la hv
end Go.TM
namespace Go.TM
open Go Go.RowKit
theorem Rel.clear {w0:World} {mu:Mu} {c:Cz} {st:St} {a:Act} {w:World} (h:Rel w0 mu c st a w) (P:Nat):Rel w0 mu c (mB (fun s=>{ s with aK:=[],ep:=s.ep+1 }) st P) a w∧Fw c st w c (mB (fun s=>{ s with aK:=[],ep:=s.ep+1 }) st P) w:=by
 have hn:∀s,nth (mB (fun s=>{ s with aK:=[],ep:=s.ep+1 }) st P) s=if s=P then (nth st s).map (fun z=>{ z with aK:=[],ep:=z.ep+1 }) else nth st s:=fun s=>dD _ _ _ _
 generalize mB (fun s=>{ s with aK:=[],ep:=s.ep+1 }) st P=bd at hn ⊢;have fR:Fw c st w c bd w:={
  stays:=iH.refl w _
  refs:=fun a' j' g' A' _ eE=>by
   obtain ⟨sl,k1,k2,k3⟩:=bt eE;rw [hn] at k1
   by_cases e:a'=P
   ·rw [if_pos e] at k1;obtain ⟨z,hz,rfl⟩:=Option.map_eq_some_iff.1 k1;simp [nth] at k3
   ·rw [if_neg e] at k1;exact ⟨A',pn k1 k2 k3,rfl,rfl,rfl,fun _=>⟨rfl,fun _ _ _ _=>rfl⟩⟩
  yO:=fun b' g' mf _ oN=>by
   refine ⟨⟨mf,?_⟩,rfl⟩;unfold dH at oN ⊢;rw [hn] at oN
   by_cases e:b'=P
   ·rw [if_pos e] at oN
    cases hz:nth st b' with
    |none=>rw [hz] at oN;cases oN
    |some z=>rw [hz] at oN;exact oN
   ·rw [if_neg e] at oN;exact oN
  gA:=fun s=>by
   unfold dw;rw [hn]
   by_cases e:s=P
   ·rw [if_pos e];cases nth st s<;>simp
   ·rw [if_neg e];exact Nat.le_refl _
  gB:=fun s=>by
   unfold fP;rw [hn]
   by_cases e:s=P
   ·rw [if_pos e];cases nth st s<;>simp
   ·rw [if_neg e];exact Nat.le_refl _
  gE:=fun s=>by
   unfold kc;rw [hn]
   by_cases e:s=P
   ·rw [if_pos e];cases nth st s<;>simp
   ·rw [if_neg e];exact Nat.le_refl _ }
 refine ⟨{
  ey:=fun t=>by
   have:cC bd t=cC st t:=by
    unfold cC;rw [hn]
    by_cases e:t=P
    ·rw [if_pos e];cases nth st t<;>rfl
    ·rw [if_neg e]
   rw [this];exact fR.la (h.ey t)
  boxes:=fun s sl cs hs hb=>by
   rw [hn] at hs
   by_cases e:s=P
   ·rw [if_pos e] at hs;obtain ⟨z,hz,rfl⟩:=Option.map_eq_some_iff.1 hs;exact (h.boxes s z cs hz hb).go fR rfl rfl rfl
   ·rw [if_neg e] at hs;exact (h.boxes s sl cs hs hb).go fR rfl rfl rfl
  aK:=fun s j sl A hs hA=>by
   rw [hn] at hs
   by_cases e:s=P
   ·rw [if_pos e] at hs;obtain ⟨z,hz,rfl⟩:=Option.map_eq_some_iff.1 hs;simp [nth] at hA
   ·rw [if_neg e] at hs;exact h.aK s j sl A hs hA
  owned:=h.owned
  free:=h.free
  kept:=h.kept
  old:=h.old
  plain:=h.plain
  dF:=fun p hp=>fR.dF (h.dF p hp)
  mT:=h.mT },fR⟩
theorem Rel.swap {w0:World} {mu:Mu} {c:Cz} {st:St} {a:Act} {w:World} (h:Rel w0 mu c st a w) {s j g:Nat} {H B:gM} (hH:aV st s j g=some H) (hw:B.r.width=H.r.width) (hn:B.xs.length=H.xs.length) (hB:cq c w s j B) :
  Rel w0 mu (c.dU id c.bx c.lc) (bz st s j (some B)) a w:=by
 have fR:Fw c st w (c.dU id c.bx c.lc) (bz st s j (some B)) w:=zc (.inl hH) (fun _ e=>by cases e;exact ⟨hw,hn⟩) id;have hX:ld (fun _=>False) w0 mu c st a w:=⟨h.ey,fun s sl cs _=>h.boxes s sl cs,fun s j sl A _=>h.aK s j sl A,h.owned,h.free,h.kept,h.old,h.plain,h.dF,h.mT⟩;refine (hX.dU rB fR (fun t=>by rw [vz];exact fR.la (h.ey t)) (fun k sl cs _ hs hb => ?_) (fun k i sl A _ hs hA => ?_)).rel
 ·obtain ⟨f,hf,hk⟩:=iB st s j (some B) k;rw [hk] at hs
  cases hx:nth st k with
  |none=>rw [hx] at hs;simp at hs
  |some x=>
   rw [hx] at hs;simp at hs;subst hs;rw [(hf x).2.1] at hb;exact (h.boxes k x cs hx hb).dU rB fR rfl
 ·obtain ⟨f,hf,hk⟩:=iB st s j (some B) k;rw [hk] at hs
  cases hx:nth st k with
  |none=>rw [hx] at hs;simp at hs
  |some x=>
   rw [hx] at hs;simp at hs;subst hs;rw [(hf x).2.2.2.2.1 i] at hA
   by_cases e:k=s∧i=j
   ·rw [if_pos e] at hA;obtain ⟨rfl,rfl⟩:=e
    cases hq:nth x.aK i with
    |none=>simp [hq] at hA
    |some A1=>
     simp only [hq,Option.map_some,Option.some.injEq] at hA;subst hA;exact hB.dU rB rfl
   ·rw [if_neg e] at hA;exact (h.aK k i x A hx hA).dU rB rfl
def jh (w:World) (P:List Nat→Nat→Prop) (K:Nat→Prop):(r:RT)→(p:List Nat)→(k:Nat)→List Value→ar r→Prop
 |.nil,_,_,vs,_=>vs=[]
 |.cons t r,p,k,vs,x=>∃v l,vs=v::l∧(¬K k→dP w P t (p++[k]) v x.1)∧jh w P K r p (k+1) l x.2
theorem jh.of {w w':World} {P P':List Nat→Nat→Prop} {K:Nat→Prop}:(r:RT)→(p:List Nat)→(hP:∀k q b,¬K k→P (p++[k]++q) b→w'.heap[b]?=w.heap[b]?∧P' (p++[k]++q) b)→(k:Nat)→(vs:List Value)→(x:ar r)→cY w P r p k vs x→jh w' P' K r p k vs x
 |.nil,_,_,_,_,_,h=>h
 |.cons t r,p,hP,k,vs,x,h=>by
  obtain ⟨v,l,e,h1,h2⟩:=h;exact ⟨v,l,e,fun hk=>dP.go t (p++[k]) (p++[k]) (fun q b hb=>hP k q b hk hb) v x.1 h1,jh.of r p hP (k+1) l x.2 h2⟩
theorem jh.full {w:World} {P:List Nat→Nat→Prop} {K:Nat→Prop} (hK:∀k,¬K k):(r:RT)→(p:List Nat)→(k:Nat)→(vs:List Value)→(x:ar r)→jh w P K r p k vs x→cY w P r p k vs x
 |.nil,_,_,_,_,h=>h
 |.cons t r,p,k,vs,x,h=>by
  obtain ⟨v,l,e,h1,h2⟩:=h;exact ⟨v,l,e,h1 (hK k),jh.full hK r p (k+1) l x.2 h2⟩
theorem jh.mono {w:World} {P:List Nat→Nat→Prop} {K K':Nat→Prop}:(r:RT)→(p:List Nat)→(k:Nat)→(hK:∀c,k≤c→K c→K' c)→(vs:List Value)→(x:ar r)→jh w P K r p k vs x→jh w P K' r p k vs x
 |.nil,_,_,_,_,_,h=>h
 |.cons t r,p,k,hK,vs,x,h=>by
  obtain ⟨v,l,e,h1,h2⟩:=h;exact ⟨v,l,e,fun hk=>h1 fun h=>hk (hK k (Nat.le_refl _) h),jh.mono r p (k+1) (fun c hc=>hK c (by omega)) l x.2 h2⟩
theorem jh.set {w:World} {P:List Nat→Nat→Prop} {q:RT} {ys:List (ar q)} {v:Value}:{K:Nat→Prop}→(r:RT)→(p:List Nat)→(k0:Nat)→(vs:List Value)→(x:ar r)→(col:Nat)→{z:ar r}→jh w P K r p k0 vs x→nD r x col q ys=some z→vs[col]?=some v→dP w P (.sl q) (p++[k0+col]) v ys→
  jh w P (fun c=>K c∧c≠k0+col) r p k0 vs z
 |_,.nil,_,_,_,_,_,_,_,h,_,_=>by simp [nD] at h
 |K,.cons t r,p,k0,vs,x,0,z,hx,h,hv,hd=>by
  obtain ⟨v',l,rfl,h1,h2⟩:=hx
  cases t with
  |sl q'=>
   have h:(cn q' ys).map (fun zs=>((zs,x.2):ar (.cons (.sl q') r)))=some z:=h;obtain ⟨zs,WT,hz⟩:=Option.map_eq_some_iff.1 h;obtain ⟨e,rfl⟩:=bH WT;subst e;subst hz;simp only [List.getElem?_cons_zero,Option.some.injEq] at hv;subst hv;exact ⟨v',l,rfl,fun _=>hd,jh.mono r p (k0+1) (fun c hc hK=>⟨hK,by omega⟩) l x.2 h2⟩
  |int _=>simp [nD] at h
  |bool=>simp [nD] at h
  |str=>simp [nD] at h
 |K,.cons t r,p,k0,vs,x,col+1,z,hx,h,hv,hd=>by
  obtain ⟨v',l,rfl,h1,h2⟩:=hx;have h':(nD r x.2 col q ys).map (fun z=>((x.1,z):ar (.cons t r)))=some z:=by cases t<;>exact h
  obtain ⟨z',UY,hz⟩:=Option.map_eq_some_iff.1 h';subst hz;have:=jh.set r p (k0+1) l x.2 col h2 UY (by simpa using hv) (by rw [show k0+1+col=k0+(col+1) by omega];exact hd);refine ⟨v',l,rfl,fun hk=>h1 fun h=>hk ⟨h,by omega⟩,?_⟩
  rwa [show k0+1+col=k0+(col+1) by omega] at this
theorem Ia {w:World} {P:List Nat→Nat→Prop} {p:List Nat} {v:Value} {r s:RT} {xs:List (ar r)} {ys:List (ar s)} (h:cn s xs=some ys) (hd:dP w P (.sl r) p v xs):dP w P (.sl s) p v ys:=by
 obtain ⟨e,rfl⟩:=bH h;subst e;exact hd
theorem BO {st:St} {P g:Nat} {r:RT} {w:World} {PP:List Nat→Nat→Prop} {p:List Nat} {vs:List Value}:(n:Nat)→(l:List Dr)→(z:ar r)→{z':ar r}→tJ st P g r n l z=some z'→
  (∀m y,l[m]?=some y→∀B,aV st P (n+m) g=some B→B.own=true→B.md=y.q.md→B.r=y.q→∃v,vs[y.k]?=some v∧dP w PP (.sl B.r) (p++[y.k]) v B.xs)→
  jh w PP (fun c=>∃y∈l,y.k=c) r p 0 vs z→cY w PP r p 0 vs z'
 |n,[],z,z',h,_,hx=>by
  simp only [tJ,Option.some.injEq] at h;subst h;exact jh.full (by simp) _ _ _ _ _ hx
 |n,y::l,z,z',h,hy,hx=>by
  unfold tJ at h
  cases hB:aV st P n g with
  |none=>rw [hB] at h;cases h
  |some B=>
   rw [hB] at h;obtain ⟨h1,h2⟩:=aJ h;clear h;rw [Bool.and_eq_true] at h1
   cases hc:cn y.q B.xs with
   |none=>rw [hc] at h2;cases h2
   |some ys=>
    rw [hc] at h2;simp only at h2
    cases hr:nD r z y.k y.q ys with
    |none=>rw [hr] at h2;cases h2
    |some z1=>
     rw [hr] at h2;simp only at h2;obtain ⟨e,he⟩:=bH hc;obtain ⟨v,hv,hd⟩:=hy 0 y rfl B hB h1.1 (Md.j1.1 h1.2) e;have Ib:dP w PP (.sl y.q) (p++[0+y.k]) v ys:=by
      rw [Nat.zero_add];exact Ia hc hd
     refine BO (n+1) l z1 h2 (fun m y' hm B' CN=>hy (m+1) y' (by simpa using hm) B' (by rw [show n+(m+1)=n+1+m by omega];exact CN)) ?_;have:=jh.set _ _ _ _ _ _ hx hr hv Ib;refine jh.mono _ _ _ (fun c _ hc => ?_) _ _ this;obtain ⟨⟨y',MD,e'⟩,gr⟩:=hc;rcases List.mem_cons.1 MD with rfl | MD
     ·exact absurd e'.symm (by omega)
     ·exact ⟨y',MD,e'⟩
theorem NJ {w0:World} {mu:Mu} {c c1 c5:Cz} {st iz bd:St} {a2:Act} {w w':World} {x:Dr} {A:gM} {l:List Dr} {gg:Nat→List Nat} {b o cap:Nat} (gr:x.a≠st.length-1) (Dc:aV st x.a x.j x.g=some A) (eL:A.own=true) (u0:A.md=.dp)
  (hA:cq c w x.a x.j A) (Lk:Ei (l.map (·.k))=true) (CI:Q5 c c1 st w x A l gg b o cap) (h5:Rel w0 mu c5 iz a2 w') (fR:Fw c1 (eQ st x A l) w c5 iz w')
  (HB:∀k,c1.own k=some (.sp x.a x.j)→w'.heap[k]?=w.heap[k]?∧c5.own k=some (.sp x.a x.j))
  (hv:(HO (st.length-1) (ow st (st.length-1)+1) x A l iz).val=some bd):∃c6,Rel w0 mu c6 bd a2 w':=by
 unfold HO at hv
 cases hH:aV iz x.a x.j x.g with
 |none=>rw [hH] at hv;cases hv
 |some H=>
  rw [hH] at hv;simp only at hv;obtain ⟨_,hv⟩:=dx hv
  cases hz:A.xs[x.i]? with
  |none=>rw [hz] at hv;cases hv
  |some z=>
   rw [hz] at hv;have hv:(match tJ iz (st.length-1) (ow st (st.length-1)+1) A.r 0 l z with
    |some z'=>N.done (bz (mB (fun s=>{ s with aK:=[],ep:=s.ep+1 }) iz (st.length-1)) x.a x.j (some (A.put (A.xs.set x.i z'))))
    |none=>.fail).val=some bd:=hv
   cases hj:tJ iz (st.length-1) (ow st (st.length-1)+1) A.r 0 l z with
   |none=>rw [hj] at hv;cases hv
   |some z'=>
    rw [hj] at hv;simp only [N.val,Option.some.injEq] at hv;subst hv;obtain ⟨P,hP⟩:∃P,P=st.length-1:=⟨_,rfl⟩;rw [←hP] at gr hj ⊢;have FZ:=gr;rw [hP] at FZ;have x7:=vD (A:=A) (l:=l) FZ;rw [←hP] at x7;obtain ⟨sla,Q6,ha2,WO⟩:=bt Dc;have hgA:x.g≤dw (eQ st x A l) x.a:=by
     unfold dw;rw [x7,if_neg gr,if_pos rfl,Q6];show x.g≤sla.ag;omega
    have Wu:∀B0,aV (eQ st x A l) x.a x.j x.g=some B0→B0.r.width=A.r.width∧B0.xs.length=A.xs.length:=by
     intro B0 hB0;obtain ⟨sl,k1,k2,k3⟩:=bt hB0;rw [x7,if_neg gr,if_pos rfl,Q6] at k1;simp only [Option.map_some,Option.some.injEq] at k1;subst k1;simp only at k3;rw [dD,if_pos rfl,WO] at k3;simp only [Option.map_some,Option.some.injEq] at k3;subst k3;exact ⟨rfl,rfl⟩
    obtain ⟨B0,q1,q2,q3,q4,_⟩:=fR.refs x.a x.j x.g H hgA hH;obtain ⟨e1,e2⟩:=Wu B0 q1;have adf:c5.lc x.a x.j=.at b o cap:=q4.trans CI.lc1;have hPs:∀n B,aV iz P n (ow st P+1)=some B→∃y,l[n]?=some y∧B.xs.length=y.ys.length∧B.r.width=y.q.width∧c5.lc P n=c1.lc P n:=by
     intro n B hB;have hgP:ow st P+1≤dw (eQ st x A l) P:=by
      unfold dw;rw [x7,if_pos rfl];have Sw:P<st.length:=by have:=Ek Q6;omega
      have:nth st P=some st[P]:=by rw [gX];exact List.getElem?_eq_getElem Sw
      rw [this];unfold ow;rw [this];exact Nat.le_refl _
     obtain ⟨B1,r1,r2,r3,r4,_⟩:=fR.refs P n _ B hgP hB;obtain ⟨sl,k1,k2,k3⟩:=bt r1;rw [x7,if_pos rfl] at k1;obtain ⟨zz,Sz,rfl⟩:=Option.map_eq_some_iff.1 k1;simp only at k3;rw [gX,List.getElem?_map] at k3
     cases hy:l[n]? with
     |none=>rw [hy] at k3;cases k3
     |some y=>
      rw [hy] at k3;simp only [Option.map_some,Option.some.injEq] at k3;subst k3;exact ⟨y,rfl,r3,r2,r4⟩
    have hG:∃G:Nat→Nat→List Nat,∀n B y,aV iz P n (ow st P+1)=some B→B.own=true→B.md=B.r.md→l[n]?=some y→∀v,v.oneCell'=true→gm (c5.lc P n) B.r.width 0 B.xs.length v→
      ∀(PP:List Nat→Nat→Prop) (p:List Nat),(∀k,c5.own k=some (.sp P n)→PP (p++G n k) k)→dP w' PP (.sl B.r) p v B.xs:=by
     have:∀n,∃G:Nat→List Nat,∀B y,aV iz P n (ow st P+1)=some B→B.own=true→B.md=B.r.md→l[n]?=some y→∀v,v.oneCell'=true→gm (c5.lc P n) B.r.width 0 B.xs.length v→
      ∀(PP:List Nat→Nat→Prop) (p:List Nat),(∀k,c5.own k=some (.sp P n)→PP (p++G k) k)→dP w' PP (.sl B.r) p v B.xs:=by
      intro n
      by_cases e:∃B,aV iz P n (ow st P+1)=some B∧B.own=true∧B.md=B.r.md
      ·obtain ⟨B,hB,ho,hm⟩:=e
       by_cases e2:∃v:Value,v.oneCell'=true∧gm (c5.lc P n) B.r.width 0 B.xs.length v
       ·obtain ⟨v,wM,Li⟩:=e2;obtain ⟨g,hg⟩:=M3 (h5.sW hB) ho hm;refine ⟨g,fun B' y CN _ _ _ v' h1 h2 PP p hP' => ?_⟩;rw [hB] at CN
        cases CN
        exact hg v' h1 h2 PP p hP'
       ·refine ⟨fun _=>[],fun B' y CN _ _ _ v' h1 h2 => ?_⟩;rw [hB] at CN
        cases CN
        exact absurd ⟨v',h1,h2⟩ e2
      ·exact ⟨fun _=>[],fun B' y CN h1 h2=>absurd ⟨B',CN,h1,h2⟩ e⟩
     obtain ⟨G,hG⟩:=Classical.axiomOfChoice this;exact ⟨G,fun n=>hG n⟩
    obtain ⟨G,hG⟩:=hG;have Qd:∃g6:Nat→List Nat,(∀k,c5.own k=some (.sp x.a x.j)→g6 k=gg k)∧∀n y k,l[n]?=some y→c5.own k=some (.sp P n)→g6 k=[x.i]++[y.k]++G n k:=by
     have key:∀k,∃q:List Nat,(c5.own k=some (.sp x.a x.j)→q=gg k)∧∀n y,l[n]?=some y→c5.own k=some (.sp P n)→q=[x.i]++[y.k]++G n k:=by
      intro k
      by_cases e:∃n y,l[n]?=some y∧c5.own k=some (.sp P n)
      ·obtain ⟨n,y,f1,f2⟩:=e;refine ⟨[x.i]++[y.k]++G n k,fun h => ?_,fun n' y' h1 h2 => ?_⟩
       ·rw [f2] at h;injection h with h;injection h with h _;exact absurd h.symm gr
       ·rw [f2] at h2;injection h2 with h2;injection h2 with _ h2;subst h2;rw [f1] at h1
        cases h1
        rfl
      ·exact ⟨gg k,fun _=>rfl,fun n y h1 h2=>absurd ⟨n,y,h1,h2⟩ e⟩
     obtain ⟨g6,h⟩:=Classical.axiomOfChoice key;exact ⟨g6,fun k=>(h k).1,fun n y k=>(h k).2 n y⟩
    obtain ⟨g6,SA,adg⟩:=Qd;obtain ⟨oz,aja⟩:=h5.clear P;have M8:∀n∈(List.range l.length).map (fun n=>(P,n)),∀sl B,nth (mB (fun s=>{ s with aK:=[],ep:=s.ep+1 }) iz P) n.1=some sl→nth sl.aK n.2≠some (some B):=by
     intro n hn sl B hs;obtain ⟨m,_,rfl⟩:=List.mem_map.1 hn;rw [dD,if_pos rfl] at hs;obtain ⟨zz,_,rfl⟩:=Option.map_eq_some_iff.1 hs;simp [nth]
    have hrl:=oz.iA M8 x.a x.j;have yR:∀n y,l[n]?=some y→(P,n)∈(List.range l.length).map (fun n=>(P,n)):=fun n y hn=>List.mem_map.2 ⟨n,List.mem_range.2 (List.getElem?_eq_some_iff.1 hn).1,rfl⟩
    have NK:∀k,c5.own k=some (.sp x.a x.j)→(c5.iA ((List.range l.length).map (fun n=>(P,n))) (.sp x.a x.j)).own k=some (.sp x.a x.j):=by
     intro k hk;rw [Cz.ns]
     ·exact hk
     ·intro n hn e;obtain ⟨m,_,rfl⟩:=List.mem_map.1 hn;rw [hk] at e;injection e with e;injection e with e _;exact gr e
    have hH':aV (mB (fun s=>{ s with aK:=[],ep:=s.ep+1 }) iz P) x.a x.j x.g=some H:=by
     obtain ⟨sl,k1,k2,k3⟩:=bt hH;exact pn (by rw [dD,if_neg gr];exact k1) k2 k3
    have MF:c1.own b=some (.sp x.a x.j):=CI.stay b CI.own (fun y _ q e=>by rw [CI.g0] at e;cases e);obtain ⟨WU,hb5⟩:=HB b MF;have M7:∀(i:Nat) zz,(A.xs.set x.i z')[i]?=some zz→fl w' (fun p k=>(c5.iA ((List.range l.length).map (fun n=>(P,n))) (.sp x.a x.j)).own k=some (.sp x.a x.j)∧g6 k=p) A.r [i] 0 b (o+i*A.r.width) zz:=by
     intro i zz Sz;rw [List.getElem?_set] at Sz
     by_cases e:x.i=i
     ·subst e;rw [if_pos rfl,if_pos CI.len] at Sz
      cases Sz
      obtain ⟨vs,r1,r2⟩:=(gQ _ _ _ _ _ _).1 (CI.rows x.i z hz);have u7:=cY.length _ _ _ _ _ r2;refine (gQ _ _ _ _ _ _).2 ⟨vs,fun k v hkv=>by rw [World.cell?_of_block (w:=w) WU];exact r1 k v hkv,?_⟩;refine BO 0 l z hj (fun m y hm B hB Sh QY hBr => ?_) ?_
      ·rw [Nat.zero_add] at hB;obtain ⟨v,u1,u2,u3,u4⟩:=CI.out m y hm;obtain ⟨y',f1,f2,f3,f4⟩:=hPs m B hB;rw [hm] at f1
       cases f1
       have hk:y.k<vs.length:=by rw [u7];exact u4
       have Ww:vs[y.k]?=some vs[y.k]:=List.getElem?_eq_getElem hk;have:=r1 y.k _ Ww;rw [u1] at this;refine ⟨v,by rw [Ww,←Option.some.inj this],?_⟩;refine hG m B y hB Sh (by rw [QY,hBr]) hm v u2 (by rw [f4,f2,f3,hP];exact u3) _ _ (fun k hk=>⟨Cz.mF (yR m y hm) hk,?_⟩);exact adg m y k hm hk
      ·refine jh.of _ [x.i] (fun k q kb hK hk => ?_) 0 vs z r2;have re:=CI.stay kb hk.1 (fun y hy q' e=>hK ⟨y,hy,by
        have h2:=hk.2;rw [e] at h2;simp at h2;exact h2.1⟩)
       obtain ⟨f1,f2⟩:=HB kb re;exact ⟨f1,NK kb f2,by rw [SA kb f2];exact hk.2⟩
     ·rw [if_neg e] at Sz;refine fl.go _ [i] [i] (fun q kb hk => ?_) _ _ _ zz WU (CI.rows i zz Sz);have re:=CI.stay kb hk.1 (fun y _ q' e'=>e (by
       have h2:=hk.2;rw [e'] at h2;simp at h2;exact h2.1))
      obtain ⟨f1,f2⟩:=HB kb re;exact ⟨f1,NK kb f2,by rw [SA kb f2];exact hk.2⟩
    refine ⟨_,hrl.swap hH' (B:=A.put (A.xs.set x.i z')) (by rw [q2,e1];rfl) (by rw [q3,e2];show (A.xs.set x.i z').length=_;simp) ?_⟩;unfold cq at hA ⊢;show match c5.lc x.a x.j with | .nil=>_ | .at b off cap=>_
    rw [adf];rw [CI.lc] at hA;obtain ⟨_,g2,⟨cur,ty,g3,g4⟩,_⟩:=hA;refine ⟨?_,by show (A.xs.set x.i z').length≤cap;simpa using g2,⟨cur,ty,by rw [WU];exact g3,g4⟩,?_⟩
    ·show match A.own with | true=>_ | false=>_
     rw [eL];exact NK b hb5
    ·unfold bF;show match A.md with | .sh=>_ | .dp=>_ | .ho _=>_ | .lz=>_
     rw [u0];exact ⟨g6,by rw [SA b hb5];exact CI.g0,M7⟩
theorem JF {α β:Type} (f:α→β):(l:List α)→(n:Nat)→nth (l.map f) n=(nth l n).map f
 | [],_=>rfl
 |_::_,0=>rfl
 |_::l,n+1=>JF f l n
theorem pO (st:St) (s:Nat):nth (tK st) s=(nth st s).map (QX st):=JF _ _ _
theorem Dw (st:St) (a j g:Nat):aV (tK st) a j g=aV st a j g:=by
 unfold aV;rw [pO]
 cases nth st a<;>rfl
theorem Dx (st:St) (a:Nat):dw (tK st) a=dw st a:=by
 unfold dw;rw [pO]
 cases nth st a<;>rfl
theorem Dy (st:St) (a:Nat):fP (tK st) a=fP st a:=by
 unfold fP;rw [pO]
 cases nth st a<;>rfl
theorem NL (st:St) (a:Nat):kc (tK st) a=kc st a:=by
 unfold kc;rw [pO]
 cases nth st a<;>rfl
theorem Dz (st:St) (b g:Nat):dH (tK st) b g=(dH st b g).map fun cs=>cs.map (zI st):=by
 unfold dH;rw [pO]
 cases nth st b with
 |none=>rfl
 |some x=>
  show (bif Nat.beq x.bg g then x.box.map _ else none)=_;simp only
  cases Nat.beq x.bg g<;>rfl
theorem Fw.tK (c:Cz) (st:St) (w:World):Fw c st w c (tK st) w where
 stays:=iH.refl w _
 refs a j g A' _ eE:=by
  rw [Dw] at eE;exact ⟨A',eE,rfl,rfl,rfl,fun _=>⟨rfl,fun _ _ _ _=>rfl⟩⟩
 yO b g mf _ h:=by
  rw [Dz] at h;obtain ⟨cs,h1,_⟩:=Option.map_eq_some_iff.1 h;exact ⟨⟨cs,h1⟩,rfl⟩
 gA a:=by rw [Dx];exact Nat.le_refl _
 gB a:=by rw [Dy];exact Nat.le_refl _
 gE a:=by rw [NL];exact Nat.le_refl _
theorem Gy {w0:World} {mu:Mu} {c:Cz} {st:St} {a:Act} {w:World} (h:Rel w0 mu c st a w) {x:CV} {v:Value} (hr:jv c st w x v):jv c st w (zI st x) v:=by
 unfold zI
 split
 ·split
  ·rename_i A hA
   cases ho:A.own with
   |true=>exact hr
   |false=>
    cases hm:A.md.is .sh with
    |false=>exact hr
    |true=>
     have hm:=Md.j1.1 hm;exact xH (h.sW hA) (hr.2.2 A hA) (ok:=c.ok) (fun b h=>h) (fun b q=>by
      rcases q with q | q
      ·rw [ho] at q;cases q
      ·rw [hm] at q;cases q) (by rw [hm];rfl)
  ·exact hr
 ·exact hr
theorem Gz {w0:World} {mu:Mu} {c:Cz} {st:St} {a:Act} {w:World} (h:Rel w0 mu c st a w) {cs:List CV} {vs:List Value} (hr:fF c st w cs vs):fF c (tK st) w (cs.map (zI st)) vs:=by
 refine ⟨by rw [List.length_map];exact hr.1,fun i x v h1 h2 => ?_⟩;rw [List.getElem?_map] at h1;obtain ⟨y,hy,rfl⟩:=Option.map_eq_some_iff.1 h1;exact (Fw.tK c st w).MU (Gy h (hr.2 i y v hy h2))
theorem NM {w0:World} {mu:Mu} {c:Cz} {st:St} {a:Act} {w:World} (h:Rel w0 mu c st a w) {x:V} {v:Value} (hr:eK c st w x v):eK c (tK st) w (MS st x) v:=by
 cases x with
 |one x=>exact (Fw.tK c st w).MU (Gy h hr)
 |agg cs=>
  obtain ⟨vs,h1,h2⟩:=hr;exact ⟨vs,h1,Gz h h2⟩
 |nC us=>exact (Fw.tK c st w).la hr
theorem Rel.tK {w0:World} {mu:Mu} {c:Cz} {st:St} {a:Act} {w:World} (h:Rel w0 mu c st a w):Rel w0 mu c (tK st) a w where
 ey t:=by
  have e:cC (Go.TM.tK st) t=MS st (cC st t):=by
   unfold cC;rw [pO]
   cases nth st t<;>rfl
  rw [e];exact NM h (h.ey t)
 boxes s sl cs hs hb:=by
  rw [pO] at hs;obtain ⟨x,hx,rfl⟩:=Option.map_eq_some_iff.1 hs;have hb:x.box.map (fun cs=>cs.map (zI st))=some cs:=hb;obtain ⟨Eh,hc,rfl⟩:=Option.map_eq_some_iff.1 hb;obtain ⟨k1,vs,ty,k2,k3⟩:=h.boxes s x Eh hx hc;exact ⟨k1,vs,ty,k2,Gz h k3⟩
 aK s j sl A hs hb:=by
  rw [pO] at hs;obtain ⟨x,hx,rfl⟩:=Option.map_eq_some_iff.1 hs;exact h.aK s j x A hx hb
 owned:=h.owned
 free:=h.free
 kept:=h.kept
 old:=h.old
 plain:=h.plain
 mT:=h.mT
 dF p hp:=by
  have h0:=h.dF p hp
  cases p with
  |arr a j g W n l=>
   refine ⟨by rw [Dx];exact h0.1,fun A hA => ?_⟩;rw [Dw] at hA;exact h0.2 A hA
  |box b g oq=>
   refine ⟨by rw [Dy];exact h0.1,fun cs uZ => ?_⟩;rw [Dz] at uZ;obtain ⟨Eh,hc,_⟩:=Option.map_eq_some_iff.1 uZ;exact h0.2 Eh hc
theorem NN {w0:World} {mu:Mu} {c:Cz} {st:St} {a:Act} {w:World} (h:Rel w0 mu c st a w) (s j:Nat):∃c',Rel w0 mu c' (Jn st s j) a w∧Fw c st w c' (Jn st s j) w:=by
 unfold Jn
 cases hs:nth st s with
 |none=>exact ⟨c,h,Fw.refl c st w⟩
 |some sl=>
  simp only
  cases hj:nth sl.aK j with
  |none=>exact ⟨c,h,Fw.refl c st w⟩
  |some o=>cases o with
   |none=>exact ⟨c,h,Fw.refl c st w⟩
   |some A=>
    simp only
    cases hb:A.own&&A.md.is .dp with
    |false=>exact ⟨c,h,Fw.refl c st w⟩
    |true=>
     rw [Bool.and_eq_true] at hb;obtain ⟨h1,h2⟩:=h.soft hs hj hb.1 (Md.j1.1 hb.2);exact ⟨_,h1,h2⟩
theorem BP {w0:World} {mu:Mu} {a:Act} {w:World}:(l:List (Nat×Nat))→{c:Cz}→{st:St}→Rel w0 mu c st a w→∃c',Rel w0 mu c' (C8 st l) a w∧Fw c st w c' (C8 st l) w
 | [],c,st,h=>⟨c,h,Fw.refl c st w⟩
 |(s,j)::l,c,st,h=>by
  obtain ⟨c1,h1,h2⟩:=NN h s j;obtain ⟨c2,h3,h4⟩:=BP l h1;exact ⟨c2,h3,h2.trans h4⟩
theorem NO {w0:World} {mu:Mu} {c:Cz} {st:St} {a:Act} {w:World} (ms:List (Pm×V)) (h:Rel w0 mu c st a w):∃c',Rel w0 mu c' (zJ ms st) a w∧∀x v,eK c st w x v→eK c' (zJ ms st) w x v:=by
 unfold zJ;obtain ⟨c1,h1,h2⟩:=BP (Bk st ms) h
 cases ms.any (fun m=>m.1.MT)
 ·exact ⟨c1,h1,fun _ _ hr=>h2.la hr⟩
 ·exact ⟨c1,h1.tK,fun _ _ hr=>(Fw.tK c1 _ w).la (h2.la hr)⟩
theorem GA {P:Program} {S:lO} (hS:oS P S) {w0:World} {mu:Mu} {c:Cz} {st bd:St} {a:Act} {w:World} (h:Rel w0 mu c st a w) {o:Oper} {f:FuncId} {vals:Array Value} {xs:List V}
  (qD:∀fn,P.funcs[f]?=some fn→fn.name ≠ "runtime.NumGoroutine" → fn.body≠none→(execOp a.eval o).run P w=.ok (.enter f vals) w)
  (De:xs.length=vals.toList.length) (WV:∀(k:Nat) (m:V) (x:Value),xs[k]?=some m→vals.toList[k]?=some x→eK c st w m x)
  (hv:(C9 S st o.dst f xs).val=some bd) (hd:∀k,o.dst=some k→k<a.tmps.size):vt P w0 mu bd o a w (qR S st f xs):=by
 unfold qR;unfold C9 at hv
 cases hf:S f with
 |none=>simp [hf,N.val] at hv
 |some p=>
  obtain ⟨m1,m2,m3,xE⟩:=p;simp only [hf] at hv ⊢;obtain ⟨Qa,fn,NP,adh,WW⟩:=hS f m1 m2 m3 xE hf;have qD:=qD fn NP (by simpa using adh) (by intro e;rw [e] at WW;cases WW);have SB:=Lg m1 m2 m3 xs;generalize uK m1 m2 m3 xs=ms at hv SB ⊢;have hlen:ms.length=vals.toList.length:=by
   have:=congrArg List.length SB;rw [List.length_map] at this;omega
  have vA:∀(k:Nat) (m:Pm×V) (x:Value),ms[k]?=some m→vals.toList[k]?=some x→eK c st w m.2 x:=by
   intro k m x hm hx;have h1:(ms.map (·.2))[k]?=some m.2:=by rw [List.getElem?_map,hm];rfl
   rw [SB] at h1;exact WV k m.2 x h1 hx
  have hR:=h.freeze (Bj st ms);have x8:∀(k:Nat) (m:Pm×V) (x:Value),ms[k]?=some m→vals.toList[k]?=some x→eK (c.drop (Bj st ms)) (freeze st (Bj st ms)) w m.2 x:=fun k m x h1 h2=>(Fw.freeze w _ c st).la (vA k m x h1 h2)
  generalize freeze st (Bj st ms)=WX at hv hR x8 ⊢;generalize c.drop (Bj st ms)=c0 at hR x8;obtain ⟨c0',hR,hth⟩:=NO ms hR;have x8:∀(k:Nat) (m:Pm×V) (x:Value),ms[k]?=some m→vals.toList[k]?=some x→eK c0' (zJ ms WX) w m.2 x:=fun k m x h1 h2=>hth _ _ (x8 k m x h1 h2)
  clear hth;generalize c0'=c0 at hR x8;generalize zJ ms WX=u9 at hv hR x8 ⊢;unfold QW at hv
  cases sR:mS u9 ms with
  |none=>
   rw [sR] at hv;exact Gt hR qD Qa hlen x8 hv hd (fun h=>h) (fun c5 iz a2 w' hr _ _ Lh=>by
    simp only [N.val,Option.some.injEq] at Lh;subst Lh;exact ⟨c5,hr⟩)
  |some p=>
   obtain ⟨x,A,l⟩:=p;rw [sR] at hv;simp only at hv ⊢;have WY:∀m∈ms,∃v,eK c0 u9 w m.2 v:=by
    intro m hm;obtain ⟨k,hk⟩:=List.mem_iff_getElem?.1 hm;have dG:k<vals.toList.length:=by rw [←hlen];exact (List.getElem?_eq_some_iff.1 hk).1
    exact ⟨_,x8 k m _ hk (List.getElem?_eq_getElem dG)⟩
   obtain ⟨c1,gg,b,oo,cap,hR1,hF1,CI,GB⟩:=vC hR sR WY;obtain ⟨hl,hA,eL,u0,Wo,ot,Lk,gr⟩:=x6 sR;refine Gt hR1 qD Qa (by rw [List.length_map];exact hlen) (fun k m v h1 h2 => ?_) hv hd (fun h=>by cases h) (fun c5 iz a2 w' hr hf HB Lh => ?_)
   ·rw [List.getElem?_map] at h1;obtain ⟨m0,SC,rfl⟩:=Option.map_eq_some_iff.1 h1;exact GB m0 (List.mem_of_getElem? SC) v (x8 k m0 v SC h2)
   ·refine NJ gr hA eL u0 (hR.sW hA) Lk CI hr hf (fun k hk => ?_) Lh;have Ll:¬vB (eQ u9 x A l) (x.a,x.j):=by
     rintro ⟨g',B,hB,QY⟩
     obtain ⟨sl,k1,k2,k3⟩:=bt hB;rw [vD gr,if_neg gr,if_pos rfl] at k1;obtain ⟨zz,Sz,rfl⟩:=Option.map_eq_some_iff.1 k1;simp only at k3;rw [dD,if_pos rfl] at k3
     cases hq:nth zz.aK x.j with
     |none=>rw [hq] at k3;cases k3
     |some B2=>
      rw [hq] at k3;simp only [Option.map_some,Option.some.injEq] at k3;subst k3
      cases QY
    cases hex:jg (eQ u9 x A l) (ms.map (PH (u9.length-1) (ow u9 (u9.length-1)+1) l)) with
    |none=>
     unfold FM at hv;rw [hex] at hv
     cases hv
    |some pp=>
     obtain ⟨dL,u,q,r⟩:=pp;obtain ⟨l1,l2⟩:=Ab _ hex;exact HB dL u q r hex k _ rfl (fun hm=>Ll (l1 _ _ hm)) (fun p hp e=>by
      injection e with e1 e2;exact Ll (by rw [e1,e2];exact l2 p hp)) hk
theorem NQ {P:Program} {S:lO} (hS:oS P S) {w0:World} {mu:Mu} {c:Cz} {st bd:St} {a:Act} {w:World} (h:Rel w0 mu c st a w) {o:Oper} {f:FuncId} {args:Array Operand} {H4:Array TypeId} (ho:o.op=.call { callee:=.value (.func f),args:=args,argTypes:=H4 })
  (hv:(C9 S st o.dst f (args.toList.map (mC st))).val=some bd) (hd:∀k,o.dst=some k→k<a.tmps.size):vt P w0 mu bd o a w (kindOk S st o .one):=by
 have hq0:kindOk S st o .one=qR S st f (args.toList.map (mC st)):=by unfold kindOk;simp only [ho]
 rw [hq0];refine GA (vals:=args.map a.eval) hS h (fun fn NP q2 q3 => ?_) (by simp) (fun k m x hm hx => ?_) hv hd
 ·simp only [execOp,ho];simp [resolve,Act.eval,Deferred.ofValue,invoke,callFunc,Sem.run_bind,NP,q2,q3]
 ·rw [List.getElem?_map] at hm;rw [Array.toList_map,List.getElem?_map] at hx
  cases hy:args.toList[k]? with
  |none=>rw [hy] at hm;simp at hm
  |some y=>
   rw [hy] at hm hx;simp only [Option.map_some,Option.some.injEq] at hm hx;rw [←hm,←hx];exact bW h y
theorem NR {P:Program} {S:lO} (hS:oS P S) {w0:World} {mu:Mu} {c:Cz} {st bd:St} {a:Act} {w:World} (h:Rel w0 mu c st a w) {o:Oper} {t g:Nat} {rs:RT} {xs:List (ar rs)} {x:ar rs} {args:Array Operand} {H4:Array TypeId} (ho:o.op=.call { callee:=.value (.tmp t),args:=args,argTypes:=H4 })
  (ht:cC st t=.one (.fn g rs xs)) (KI:xs[0]?=some x) (hv:(C9 S st o.dst g (args.toList.map (mC st)++uL rs x)).val=some bd) (hd:∀k,o.dst=some k→k<a.tmps.size):vt P w0 mu bd o a w (kindOk S st o .one):=by
 have hq0:kindOk S st o .one=qR S st g (args.toList.map (mC st)++uL rs x):=by unfold kindOk;simp only [ho,ht,KI]
 rw [hq0];have Qa:=h.ey t;rw [ht] at Qa;obtain ⟨wF,e,WZ⟩:=Qa;obtain ⟨k1,k2⟩:=Gd (st:=st) rs wF.toList x (WZ x KI);refine GA (vals:=args.map a.eval++wF) hS h (fun fn NP q2 q3 => ?_) (by simp [k1]) (fun k m y hm hy => ?_) hv hd
 ·simp only [execOp,ho];simp [resolve,e,Deferred.ofValue,invoke,callFunc,Sem.run_bind,NP,q2,q3]
 ·rw [Array.toList_append] at hy
  by_cases hk:k<args.size
  ·rw [List.getElem?_append_left (by simpa using hk)] at hm hy;rw [List.getElem?_map] at hm;rw [Array.toList_map,List.getElem?_map] at hy
   cases hz:args.toList[k]? with
   |none=>rw [hz] at hm;simp at hm
   |some z=>
    rw [hz] at hm hy;simp only [Option.map_some,Option.some.injEq] at hm hy;rw [←hm,←hy];exact bW h z
  ·rw [List.getElem?_append_right (by simp;omega)] at hm hy;simp only [List.length_map,Array.length_toList,Array.toList_map] at hm hy;exact k2 _ m y hm hy
theorem Ic {P:Program} {T:lf} (hT:fQ P T) {S:lO} {w0:World} {mu:Mu} {c:Cz} {st bd:St} {a:Act} {w:World} (h:Rel w0 mu c st a w) {o:Oper} (sR:FN st o=true)
  (hv:(Hz T S st o).val=some bd) (hd:∀k,o.dst=some k→k<a.tmps.size):vt P w0 mu bd o a w (kindOk S st o .one):=by
 unfold FN at sR
 cases ho:o.op with
 |call cl=>
  obtain ⟨callee,args,H4⟩:=cl;rw [ho] at sR
  cases callee with
  |builtin b=>
   cases b with
   |append=>
    unfold Hz at hv;simp only [ho] at hv sR
    split at hv
    ·contradiction
    ·rename_i x y t u _ ha ht;obtain ⟨Sp,wM⟩:=dx hv;have Sp:=Nat.eq_of_beq_eq_true Sp;subst Sp;have ha:args = #[x,y]:=by rw [←Array.toArray_toList (xs:=args),ha]
     have ht:H4 = #[t,t]:=by rw [←Array.toArray_toList (xs:=H4),ht]
     subst ha ht;have sR:(mS st [(.io,mC st x)]).isSome=true:=sR;obtain ⟨p,hp⟩:=Option.isSome_iff_exists.1 sR;obtain ⟨z,A,l⟩:=p;unfold Ej at wM;rw [hp] at wM;obtain ⟨c1,gg,b,oo,cap,hR1,hF1,CI,GB⟩:=vC h hp (fun m hm=>by
      rw [List.mem_singleton] at hm;subst hm;exact ⟨_,bW h x⟩)
     have hx:=GB _ (List.mem_singleton.2 rfl) _ (bW h x);have hy:=hF1.la (bW h y);obtain ⟨v,w',h1,c',h2⟩:=Bv (ty:=o.type) hT hR1 hx hy wM hd;exact rq (c':=c') (by simp only [execOp,ho];simp [resolve,invoke,builtin,Sem.run_bind,h1]) h2 (fun hk=>by simp [kindOk,ho] at hk)
    all_goals (first | contradiction | (simp [N.val] at hv))
   |_=>simp at sR
  |_=>simp at sR
 |_=>rw [ho] at sR;simp at sR
theorem x9 {P:Program} {T:lf} (hT:fQ P T) (hE:xg P T) {S:lO} (hS:oS P S) (w0:World) (mu:Mu) (n:Nat):tT P T S w0 mu n:=by
 intro c st bd a w o h hn hd hv;have Ib:∀k,o.dst=some k→k<a.tmps.size:=fun k hk=>by rw [hn];exact hd k hk
 by_cases hf:Op.H3 o.op=true
 ·cases ho:o.op with
  |call cl=>
   obtain ⟨callee,args,H4⟩:=cl
   cases callee with
   |value x=>
    cases x with
    |func f=>
     unfold Hz at hv;simp only [ho] at hv;exact NQ hS h ho hv Ib
    |tmp t=>
     unfold Hz at hv;simp only [ho] at hv
     split at hv
     ·rename_i g rs xs ht
      cases KI:xs[0]? with
      |none=>simp [KI,N.val] at hv
      |some x=>
       simp only [KI] at hv;exact NR hS h ho ht KI hv Ib
     ·simp [N.val] at hv
    |_=>rw [ho] at hf;simp [Op.H3] at hf
   |_=>rw [ho] at hf;simp [Op.H3] at hf
  |_=>rw [ho] at hf;simp [Op.H3] at hf
 ·cases sR:FN st o with
  |false=>exact Sn hT hE h (by simpa using hf) sR hv Ib
  |true=>exact Ic hT h sR hv Ib
end Go.TM
namespace Go.TM
open Go Go.RowKit
inductive OP where
 |int (k:IntKind)
 |bool
 |str
 |own (r:RT) (d:Md:=.sh)
 |shr (r:RT)
 |me (r:RT)
 |fn (g:Nat) (rs:RT)
inductive AP where
 |val (agg:Bool) (ps:List OP)
 |io (r:RT) (d:Md:=.sh)
 |box (CK:Bool) (ps:List OP)
 |cz (ps:List OP)
def OP.ty:OP→Ty
 |.int k=>.int k
 |.bool=>.bool
 |.str=>.str
 |.own r _=>.sl r
 |.shr r=>.sl r
 |.me r=>.sl r
 |.fn _ rs=>.sl rs
def OP.nF:OP→Bool
 |.own _ _=>true
 |_=>false
def mH:List OP→RT→RT
 | [],t=>t
 |p::ps,t=>.cons p.ty (mH ps t)
def AP.rt:AP→RT→RT
 |.val _ ps,t=>mH ps t
 |.io r _,t=>.cons (.sl r) t
 |.box _ ps,t=>mH ps t
 |.cz ps,t=>mH ps t
def aE:List (Option AP)→RT
 | []=>.nil
 |none::l=>aE l
 |some p::l=>p.rt (aE l)
def OP.ov:(p:OP)→den p.ty→OV
 |.int k,n=>.int k n
 |.bool,b=>.bool b
 |.str,s=>.str s
 |.own r d,xs=>.own { r:=r,own:=true,xs:=xs,md:=d }
 |.shr r,xs=>.shr r xs
 |.me r,xs=>.me r xs
 |.fn g rs,xs=>.fn g rs xs
def dW:(ps:List OP)→(t:RT)→ar (mH ps t)→List OV×ar t
 | [],_,x=>([],x)
 |p::ps,t,x=>(p.ov x.1::(dW ps t x.2).1,(dW ps t x.2).2)
def AP.av:(p:AP)→(t:RT)→ar (p.rt t)→AV×ar t
 |.val agg ps,t,x=>(.val agg (dW ps t x).1,(dW ps t x).2)
 |.io r d,_,x=>(.io { r:=r,own:=true,xs:=x.1,md:=d },x.2)
 |.box _ ps,t,x=>(.box (dW ps t x).1,(dW ps t x).2)
 |.cz ps,t,x=>(.cz (dW ps t x).1,(dW ps t x).2)
def da:(l:List (Option AP))→ar (aE l)→List (Option AV)
 | [],_=>[]
 |none::l,x=>none::da l x
 |some p::l,x=>some (p.av (aE l) x).1::da l (p.av (aE l) x).2
def s9:(p:OP)→OV→Option (den p.ty)
 |.int k,.int l n=>if k=l then some n else none
 |.bool,.bool b=>some b
 |.str,.str s=>some s
 |.own r d,.own A=>bif A.md.is d then cn r A.xs else none
 |.own _ _,.dY=>some ([]:List _)
 |.shr r,.shr _ xs=>cn r xs
 |.shr _,.dY=>some ([]:List _)
 |.me r,.me _ xs=>cn r xs
 |.fn g rs,.fn f _ xs=>bif Nat.beq f g then cn rs xs else none
 |_,_=>none
def dQ:(ps:List OP)→(t:RT)→List OV→ar t→Option (ar (mH ps t))
 | [],_,[],y=>some y
 |p::ps,t,o::os,y=>match s9 p o,dQ ps t os y with
  |some x,some z=>some (x,z)
  |_,_=>none
 |_,_,_,_=>none
def JG:(p:AP)→(t:RT)→AV→ar t→Option (ar (p.rt t))
 |.val true ps,t,.val true os,y=>dQ ps t os y
 |.val false ps,t,.val false os,y=>dQ ps t os y
 |.io r d,_,.io A,y=>bif A.md.is d then (match cn r A.xs with
  |some xs=>some (xs,y)
  |none=>none) else none
 |.box _ ps,t,.box os,y=>dQ ps t os y
 |.cz ps,t,.cz os,y=>dQ ps t os y
 |_,_,_,_=>none
def eR:(l:List AP)→List AV→Option (ar (aE (l.map some)))
 | [],[]=>some ()
 |p::l,a::as=>match eR l as with
  |some y=>JG p (aE (l.map some)) a y
  |none=>none
 |_,_=>none
def lk (st:St):(ps:List OP)→(t:RT)→List CV→ar t→Option (ar (mH ps t)×List (Option Lb)×List (Nat×Nat))
 | [],_,[],y=>some (y,[],[])
 |p::ps,t,c::cs,y=>match fj st p.nF c,lk st ps t cs y with
  |some (o,u,r),some (z,us,rs)=>match s9 p o with
   |some x=>some ((x,z),u::us,r++rs)
   |none=>none
  |_,_=>none
 |_,_,_,_=>none
def Ad (st:St) (k:Nat):(p:AP)→(t:RT)→V→ar t→Option (ar (p.rt t)×List Lb×List (Nat×Nat))
 |.val agg ps,t,v,y=>
  match agg,v with
  |true,.agg cs=>(lk st ps t cs y).map fun q=>(q.1,cF q.2.1,q.2.2)
  |false,.one c=>(lk st ps t [c] y).map fun q=>(q.1,cF q.2.1,q.2.2)
  |_,_=>none
 |.io r d,_,v,y=>
  match v with
  |.one (.ref a j g .full)=>bif Nat.beq a k&&(Nat.beq j 0&&Nat.beq g 1) then ((aV st a j g).bind fun A=>bif A.own&&A.md.is d then (cn r A.xs).map fun xs=>((xs,y),[.sp a j],[]) else none) else none
  |_=>none
 |.box CK ps,t,v,y=>
  match v with
  |.one (.ptr b g off)=>bif Nat.beq off 0&&(!CK||(Nat.beq b k&&Nat.beq g 1)) then ((dH st b g).bind fun cs=>(lk st ps t cs y).map fun q=>(q.1,.box b::cF q.2.1,q.2.2)) else none
  |_=>none
 |.cz _,_,_,_=>none
def nJ (st:St):(k:Nat)→(l:List (Option AP))→Option (ar (aE l)×List Lb×List (Nat×Nat))
 |_,[]=>some ((),[],[])
 |k,none::l=>nJ st (k+1) l
 |k,some p::l=>match nJ st (k+1) l with
  |some (y,us,rs)=>match Ad st k p (aE l) (cC st k) y with
   |some (x,u,r)=>some (x,u++us,r++rs)
   |none=>none
  |none=>none
def Sl.blank:Sl:={ v:=.one .bad,box:=.none,bg:=1,aK:=[],ag:=1 }
def dI (k:Nat):Option AV→Sl
 |none=>Sl.blank
 |some (.cz os)=>{ v:=.agg (bu k 1 0 os),box:=none,bg:=1,aK:=bE os,ag:=1 }
 |some (.val true os)=>{ v:=.agg (bu k 1 0 os),box:=none,bg:=1,aK:=bE os,ag:=1 }
 |some (.val false os)=>{ v:=match bu k 1 0 os with | [c]=>.one c | _=>.one .bad,box:=none,bg:=1,aK:=bE os,ag:=1 }
 |some (.io A)=>{ v:=.one (.ref k 0 1 .full),box:=none,bg:=1,aK:=[some A],ag:=1 }
 |some (.box os)=>{ v:=.one (.ptr k 1 0),box:=some (bu k 1 0 os),bg:=1,aK:=bE os,ag:=1 }
def oA:(k:Nat)→List (Option AV)→St
 |_,[]=>[]
 |k,a::l=>dI k a::oA (k+1) l
theorem DA:(l:List (Option AV))→(k i:Nat)→nth (oA k l) i=(l[i]?).map (dI (k+i))
 | [],_,_=>by simp [oA]
 |a::l,k,0=>by simp [oA,nth]
 |a::l,k,i+1=>by
  simp only [oA,nth,List.getElem?_cons_succ];rw [DA l (k+1) i,show k+1+i=k+(i+1) by omega]
theorem GC {c:Cz} {w:World} {f:Nat→Lb} {j:Nat}:(p:OP)→(o:OV)→(x:den p.ty)→s9 p o=some x→{os xT:List OV}→{vs:List Value}→(∀l,bo c w f (j+1) os l→bo c w f (j+1) xT l)→bo c w f j (o::os) vs→bo c w f j (p.ov x::xT) vs
 |.int k,.int l n,x,hx,os,xT,vs,ri,h=>by
  have hx:(if k=l then some (n:Int) else none)=some (x:Int):=hx
  by_cases e:k=l
  ·rw [if_pos e] at hx;have hx:n=x:=Option.some.inj hx;obtain ⟨l',h1,h2⟩:=h;exact ⟨l',by rw [h1,e,hx],ri _ h2⟩
  ·rw [if_neg e] at hx
   cases hx
 |.bool,.bool b,x,hx,os,xT,vs,ri,h=>by
  have hx:b=x:=Option.some.inj hx;subst hx;obtain ⟨l',h1,h2⟩:=h;exact ⟨l',h1,ri _ h2⟩
 |.str,.str b,x,hx,os,xT,vs,ri,h=>by
  have hx:b=x:=Option.some.inj hx;subst hx;obtain ⟨l',h1,h2⟩:=h;exact ⟨l',h1,ri _ h2⟩
 |.own r d,.own A,x,hx,os,xT,vs,ri,h=>by
  obtain ⟨v,l',h1,⟨lc,h2⟩,h3⟩:=h;have hx:(bif A.md.is d then cn r A.xs else none)=some x:=hx;obtain ⟨hd,hx⟩:=aJ hx;have hd:=Md.j1.1 hd;obtain ⟨e,rfl⟩:=bH hx;obtain ⟨r0,FY,Wq,Wr⟩:=A;simp only at e hd;subst e hd;have ho:FY=true:=h2.2.2.1;subst ho;exact ⟨v,l',h1,⟨lc,h2⟩,ri _ h3⟩
 |.own r _,.dY,x,hx,os,xT,vs,ri,h=>by
  have hx:([]:List (ar r))=x:=Option.some.inj hx;subst hx;obtain ⟨l',h1,h2⟩:=h;exact ⟨_,l',h1,⟨.nil,rfl,⟨rfl,rfl⟩,rfl,rfl⟩,ri _ h2⟩
 |.shr r,.shr q xs,x,hx,os,xT,vs,ri,h=>by
  obtain ⟨v,l',h1,h2,h3⟩:=h;have hx:cn r xs=some x:=hx;obtain ⟨e,rfl⟩:=bH hx;subst e;exact ⟨v,l',h1,h2,ri _ h3⟩
 |.shr r,.dY,x,hx,os,xT,vs,ri,h=>by
  have hx:([]:List (ar r))=x:=Option.some.inj hx;subst hx;obtain ⟨l',h1,h2⟩:=h;exact ⟨_,l',h1,(nI _ _ _ _ _).2 (.inl ⟨rfl,rfl⟩),ri _ h2⟩
 |.me r,.me q xs,x,hx,os,xT,vs,ri,h=>by
  obtain ⟨v,l',h1,h2,h3⟩:=h;have hx:cn r xs=some x:=hx;obtain ⟨e,rfl⟩:=bH hx;subst e;exact ⟨v,l',h1,h2,ri _ h3⟩
 |.fn g r,.fn f q xs,x,hx,os,xT,vs,ri,h=>by
  obtain ⟨v,l',h1,h2,h3⟩:=h;have hx:(bif Nat.beq f g then cn r xs else none)=some x:=hx;obtain ⟨hfg,hx⟩:=aJ hx;have hfg:=Nat.eq_of_beq_eq_true hfg;subst hfg;obtain ⟨e,rfl⟩:=bH hx;subst e;exact ⟨v,l',h1,h2,ri _ h3⟩
 |.int _,.bool _,_,hx,_,_,_,_,_=>by cases hx
 |.int _,.str _,_,hx,_,_,_,_,_=>by cases hx
 |.int _,.own _,_,hx,_,_,_,_,_=>by cases hx
 |.int _,.shr _ _,_,hx,_,_,_,_,_=>by cases hx
 |.int _,.dY,_,hx,_,_,_,_,_=>by cases hx
 |.int _,.me _ _,_,hx,_,_,_,_,_=>by cases hx
 |.int _,.fn _ _ _,_,hx,_,_,_,_,_=>by cases hx
 |.bool,.int _ _,_,hx,_,_,_,_,_=>by cases hx
 |.bool,.str _,_,hx,_,_,_,_,_=>by cases hx
 |.bool,.own _,_,hx,_,_,_,_,_=>by cases hx
 |.bool,.shr _ _,_,hx,_,_,_,_,_=>by cases hx
 |.bool,.dY,_,hx,_,_,_,_,_=>by cases hx
 |.bool,.me _ _,_,hx,_,_,_,_,_=>by cases hx
 |.bool,.fn _ _ _,_,hx,_,_,_,_,_=>by cases hx
 |.str,.int _ _,_,hx,_,_,_,_,_=>by cases hx
 |.str,.bool _,_,hx,_,_,_,_,_=>by cases hx
 |.str,.own _,_,hx,_,_,_,_,_=>by cases hx
 |.str,.shr _ _,_,hx,_,_,_,_,_=>by cases hx
 |.str,.dY,_,hx,_,_,_,_,_=>by cases hx
 |.str,.me _ _,_,hx,_,_,_,_,_=>by cases hx
 |.str,.fn _ _ _,_,hx,_,_,_,_,_=>by cases hx
 |.own _ _,.int _ _,_,hx,_,_,_,_,_=>by cases hx
 |.own _ _,.bool _,_,hx,_,_,_,_,_=>by cases hx
 |.own _ _,.str _,_,hx,_,_,_,_,_=>by cases hx
 |.own _ _,.shr _ _,_,hx,_,_,_,_,_=>by cases hx
 |.own _ _,.me _ _,_,hx,_,_,_,_,_=>by cases hx
 |.own _ _,.fn _ _ _,_,hx,_,_,_,_,_=>by cases hx
 |.shr _,.int _ _,_,hx,_,_,_,_,_=>by cases hx
 |.shr _,.bool _,_,hx,_,_,_,_,_=>by cases hx
 |.shr _,.str _,_,hx,_,_,_,_,_=>by cases hx
 |.shr _,.own _,_,hx,_,_,_,_,_=>by cases hx
 |.shr _,.me _ _,_,hx,_,_,_,_,_=>by cases hx
 |.shr _,.fn _ _ _,_,hx,_,_,_,_,_=>by cases hx
 |.me _,.int _ _,_,hx,_,_,_,_,_=>by cases hx
 |.me _,.bool _,_,hx,_,_,_,_,_=>by cases hx
 |.me _,.str _,_,hx,_,_,_,_,_=>by cases hx
 |.me _,.own _,_,hx,_,_,_,_,_=>by cases hx
 |.me _,.shr _ _,_,hx,_,_,_,_,_=>by cases hx
 |.me _,.dY,_,hx,_,_,_,_,_=>by cases hx
 |.me _,.fn _ _ _,_,hx,_,_,_,_,_=>by cases hx
 |.fn _ _,.int _ _,_,hx,_,_,_,_,_=>by cases hx
 |.fn _ _,.bool _,_,hx,_,_,_,_,_=>by cases hx
 |.fn _ _,.str _,_,hx,_,_,_,_,_=>by cases hx
 |.fn _ _,.own _,_,hx,_,_,_,_,_=>by cases hx
 |.fn _ _,.shr _ _,_,hx,_,_,_,_,_=>by cases hx
 |.fn _ _,.dY,_,hx,_,_,_,_,_=>by cases hx
 |.fn _ _,.me _ _,_,hx,_,_,_,_,_=>by cases hx
theorem tc {c:Cz} {w:World} {f:Nat→Lb}:(ps:List OP)→(t:RT)→(os:List OV)→(y:ar t)→{x:ar (mH ps t)}→dQ ps t os y=some x→(dW ps t x).2=y∧∀(j:Nat) (vs:List Value),bo c w f j os vs→bo c w f j (dW ps t x).1 vs
 | [],t,[],y,x,h=>by
  have h:y=x:=Option.some.inj h;subst h;exact ⟨rfl,fun _ _ h=>h⟩
 | [],_,_::_,_,_,h=>by simp [dQ] at h
 |_::_,_,[],_,_,h=>by simp [dQ] at h
 |p::ps,t,o::os,y,x,h=>by
  unfold dQ at h
  cases h1:s9 p o with
  |none=>simp [h1] at h
  |some a=>
   cases h2:dQ ps t os y with
   |none=>simp [h1,h2] at h
   |some z=>
    simp only [h1,h2] at h;have h:(a,z)=x:=Option.some.inj h;subst h;obtain ⟨g1,g2⟩:=tc (c:=c) (w:=w) (f:=f) ps t os y h2;exact ⟨g1,fun j vs hh=>GC p o a h1 (fun l=>g2 (j+1) l) hh⟩
theorem bo.NS {c:Cz} {w:World} {f:Nat→Lb}:(os:List OV)→(j:Nat)→(vs:List Value)→bo c w f j os vs→vs.length=os.length∧∀(k:Nat) (o:OV) (u:Value),os[k]?=some o→vs[k]?=some u→bo c w f (j+k) [o] [u]
 | [],j,vs,h=>by
  subst h;exact ⟨rfl,fun k o u h=>by simp at h⟩
 |o::os,j,vs,h=>by
  obtain ⟨v,l,rfl,h1,h2⟩:∃v l,vs=v::l∧bo c w f j [o] [v]∧bo c w f (j+1) os l:=by
   cases o with
   |int k n=>obtain ⟨l,h1,h2⟩:=h;exact ⟨_,l,h1,⟨[],rfl,rfl⟩,h2⟩
   |bool b=>obtain ⟨l,h1,h2⟩:=h;exact ⟨_,l,h1,⟨[],rfl,rfl⟩,h2⟩
   |str b=>obtain ⟨l,h1,h2⟩:=h;exact ⟨_,l,h1,⟨[],rfl,rfl⟩,h2⟩
   |dY=>obtain ⟨l,h1,h2⟩:=h;exact ⟨_,l,h1,⟨[],rfl,rfl⟩,h2⟩
   |shr r xs=>obtain ⟨v,l,h1,h2,h3⟩:=h;exact ⟨v,l,h1,⟨v,[],rfl,h2,rfl⟩,h3⟩
   |me r xs=>obtain ⟨v,l,h1,h2,h3⟩:=h;exact ⟨v,l,h1,⟨v,[],rfl,h2,rfl⟩,h3⟩
   |fn g r xs=>obtain ⟨v,l,h1,h2,h3⟩:=h;exact ⟨v,l,h1,⟨v,[],rfl,h2,rfl⟩,h3⟩
   |own A=>obtain ⟨v,l,h1,h2,h3⟩:=h;exact ⟨v,l,h1,⟨v,[],rfl,h2,rfl⟩,h3⟩
  obtain ⟨g1,g2⟩:=bo.NS os (j+1) l h2;refine ⟨by simp [g1],fun k o' u ho hu => ?_⟩
  cases k with
  |zero=>
   simp only [List.getElem?_cons_zero,Option.some.injEq] at ho hu;subst ho hu;exact h1
  |succ k=>
   have:=g2 k o' u (by simpa using ho) (by simpa using hu)
   rwa [show j+1+k=j+(k+1) by omega] at this
theorem DB:(ps:List OP)→(t:RT)→(os:List OV)→(y:ar t)→{x:ar (mH ps t)}→dQ ps t os y=some x→∀(k:Nat) (o':OV),(dW ps t x).1[k]?=some o'→∃(p:OP) (o:OV) (z:den p.ty),os[k]?=some o∧s9 p o=some z∧o'=p.ov z
 | [],t,[],y,x,h=>by
  intro k o' hk;simp [dW] at hk
 | [],_,_::_,_,_,h=>by simp [dQ] at h
 |_::_,_,[],_,_,h=>by simp [dQ] at h
 |p::ps,t,o::os,y,x,h=>by
  unfold dQ at h
  cases h1:s9 p o with
  |none=>simp [h1] at h
  |some a=>
   cases h2:dQ ps t os y with
   |none=>simp [h1,h2] at h
   |some z=>
    simp only [h1,h2] at h;have h:(a,z)=x:=Option.some.inj h;subst h;intro k o' hk
    cases k with
    |zero=>
     have hk:some (p.ov a)=some o':=hk;simp only [Option.some.injEq] at hk;exact ⟨p,o,a,rfl,h1,hk.symm⟩
    |succ k=>
     have hk:(dW ps t z).1[k]?=some o':=hk;obtain ⟨p',o1,z',q1,q2,q3⟩:=DB ps t os y h2 k o' hk;exact ⟨p',o1,z',by simpa using q1,q2,q3⟩
theorem Lm {p:OP} {o:OV} {z:den p.ty} (h:s9 p o=some z) {A:gM} (he:p.ov z=.own A):(∃B,o=.own B∧A.r=B.r∧A.own=true∧A.xs.length=B.xs.length∧(B.own=true→A=B))∨(o=.dY∧∃r d,A={ r:=r,own:=true,xs:=([]:List (ar r)),md:=d }):=by
 cases p with
 |own r d=>
  injection he with he;subst he
  cases o with
  |own B=>
   have h:(bif B.md.is d then cn r B.xs else none)=some z:=h;obtain ⟨hd,h⟩:=aJ h;have hd:=Md.j1.1 hd;obtain ⟨e,rfl⟩:=bH h;obtain ⟨r0,FY,Wq,Wr⟩:=B;simp only at e hd;subst e hd;exact .inl ⟨_,rfl,rfl,rfl,rfl,fun ho=>by simp only at ho;subst ho;rfl⟩
  |dY=>
   have h:([]:List (ar r))=z:=Option.some.inj h;subst h;exact .inr ⟨rfl,r,d,rfl⟩
  |_=>cases h
 |int _=>cases he
 |bool=>cases he
 |str=>cases he
 |shr _=>cases he
 |me _=>cases he
 |fn _ _=>cases he
theorem GD {p:OP} (z:den p.ty):p.ov z≠.dY:=by
 cases p<;>(intro h;cases h)
theorem GF {c:Cz} {w:World} {i:Nat} {lc:Nat→Loc} {p:AP} {t:RT} {av:AV} {y:ar t} {x:ar (p.rt t)} (h:JG p t av y=some x):(p.av t x).2=y∧∀v,sb c w i lc av v→sb c w i lc (p.av t x).1 v:=by
 cases p with
 |val agg ps=>
  cases agg with
  |true=>
   cases av with
   |val Qe os=>
    cases Qe with
    |true=>
     have h:dQ ps t os y=some x:=h;obtain ⟨g1,g2⟩:=tc (c:=c) (w:=w) (f:=.cH i) ps t os y h;exact ⟨g1,fun v ⟨vs,hv,hl⟩=>⟨vs,hv,g2 0 _ hl⟩⟩
    |false=>cases h
   |_=>cases h
  |false=>
   cases av with
   |val Qe os=>
    cases Qe with
    |false=>
     have h:dQ ps t os y=some x:=h;obtain ⟨g1,g2⟩:=tc (c:=c) (w:=w) (f:=.cH i) ps t os y h;exact ⟨g1,fun v hl=>g2 0 _ hl⟩
    |true=>cases h
   |_=>cases h
 |io r d=>
  cases av with
  |io A=>
   have h:(bif A.md.is d then (match cn r A.xs with | some xs=>some ((xs,y):ar (.cons (.sl r) t)) | none=>none) else none)=some x:=h;obtain ⟨hd,h⟩:=aJ h;have hd:=Md.j1.1 hd
   cases hc:cn r A.xs with
   |none=>rw [hc] at h;cases h
   |some xs=>
    rw [hc] at h
    cases h
    refine ⟨rfl,fun v hl => ?_⟩;obtain ⟨e,rfl⟩:=bH hc;obtain ⟨r0,FY,Wq,Wr⟩:=A;simp only at e hd;subst e hd;have ho:FY=true:=hl.2.2.1;subst ho;exact hl
  |_=>cases h
 |box CK ps=>
  cases av with
  |box os=>
   have h:dQ ps t os y=some x:=h;obtain ⟨g1,g2⟩:=tc (c:=c) (w:=w) (f:=.cH i) ps t os y h;exact ⟨g1,fun v ⟨oq,vs,ty,q1,q2,q3,q4⟩=>⟨oq,vs,ty,q1,q2,q3,g2 0 _ q4⟩⟩
  |_=>cases h
 |cz ps=>
  cases av with
  |cz os=>
   have h:dQ ps t os y=some x:=h;obtain ⟨g1,g2⟩:=tc (c:=c) (w:=w) (f:=.cH i) ps t os y h;refine ⟨g1,fun v ⟨vs,q1,q2,q3⟩=>⟨vs,q1,g2 0 _ q2,fun j o u ho hu => ?_⟩⟩;obtain ⟨p,o0,z,k1,k2,rfl⟩:=DB ps t os y h j o ho;have h0:=q3 j o0 u k1 hu;have hL:=(bo.NS os 0 _ q2).2 j o0 u k1 hu;unfold Nq at h0 ⊢
   cases he:p.ov z with
   |dY=>exact absurd he (GD z)
   |own A=>
    rcases Lm k2 he with ⟨B,rfl,e1,e2,e3,e4⟩ | ⟨rfl,r,d,rfl⟩
    ·have h0:OwnAt c w (.cH i j) (lc j) B u:=h0;have:=e4 h0.2.2.1;subst this;exact h0
    ·have h0:lc j=.nil:=h0;obtain ⟨l,hl,_⟩:=hL;injection hl with hl _;subst hl;show OwnAt c w (.cH i j) (lc j) _ _;rw [h0];exact ⟨rfl,⟨rfl,rfl⟩,rfl,rfl⟩
   |_=>trivial
  |_=>cases h
end Go.TM
namespace Go.TM
open Go Go.RowKit
theorem vE {w0:World} {mu:Mu} {c:Cz} {st:St} {a:Act} {w:World} (h:Rel w0 mu c st a w) {ρ:Lb→Option Lb} {f:Nat→Lb} (hf:∀j,(f j).xS=some (f j)):(ps:List OP)→(t:RT)→(cs:List CV)→(y:ar t)→(vs:List Value)→(j:Nat)→fF c st w cs vs→{x:ar (mH ps t)}→{u:List (Option Lb)}→{r:List (Nat×Nat)}→
  lk st ps t cs y=some (x,u,r)→(dW ps t x).2=y∧(∀l∈cF u,l.real=true)∧((∀k l,nth u k=some (some l)→ρ l=some (f (j+k)))→(∀p∈r,ρ (.sp p.1 p.2)=none)→bo (c.map ρ) w f j (dW ps t x).1 vs)
 | [],t,[],y,vs,j,hl,x,u,r,he=>by
  have he:some (y,([]:List (Option Lb)),([]:List (Nat×Nat)))=some (x,u,r):=he;injection he with he;injection he with e1 e2;injection e2 with e2 e3;subst e1 e2 e3;have:=hl.1;simp at this;exact ⟨rfl,by simp [cF],fun _ _=>List.length_eq_zero_iff.1 this.symm⟩
 | [],t,_::_,y,vs,j,hl,x,u,r,he=>by simp [lk] at he
 |_::_,t,[],y,vs,j,hl,x,u,r,he=>by simp [lk] at he
 |p::ps,t,cx::cs,y,vs,j,hl,x,u,r,he=>by
  obtain ⟨v,l,rfl,hx,tD⟩:=hl.Q2;unfold lk at he
  cases hc:fj st p.nF cx with
  |none=>simp [hc] at he
  |some q1=>
   obtain ⟨o,u1,r1⟩:=q1
   cases hq:lk st ps t cs y with
   |none=>simp [hc,hq] at he
   |some q2=>
    obtain ⟨z,us,rs⟩:=q2;simp only [hc,hq] at he
    cases ho:s9 p o with
    |none=>simp [ho] at he
    |some a1=>
     simp only [ho] at he;injection he with he;injection he with e1 e2;injection e2 with e2 e3;subst e1 e2 e3;obtain ⟨g1,g2,g3⟩:=vE h (ρ:=ρ) (f:=f) hf ps t cs y l (j+1) tD hq;refine ⟨g1,fun l' hm => ?_,fun hu hr => ?_⟩
     ·rw [ia] at hm;rcases List.mem_cons.1 hm with hm | hm
      ·obtain ⟨s,k,rfl⟩:=Dn hc l' hm.symm;rfl
      ·exact g2 l' (ia.2 hm)
     ·have fh:=g3 (fun k' l' hk=>by
       have:=hu (k'+1) l' hk
       rwa [show j+(k'+1)=j+1+k' by omega] at this) (fun p hp=>hr p (List.mem_append_right _ hp))
      have h1:=JB h (f:=f) (j:=j) hx hc (fun l' tD=>hu 0 l' (by rw [tD];rfl)) (fun p hp=>hr p (List.mem_append_left _ hp)) fh hf;exact GC p o a1 ho (fun _ h=>h) h1
def zf (c:Cz) (w:World) (lc:Nat→Nat→Loc) (a:Act) (k:Nat) (l:List (Option AV)):Prop:=
 ∀i av,l[i]?=some (some av)→sb c w (k+i) (lc (k+i)) av (a.eval (.tmp (k+i)))
theorem yc {w0:World} {mu:Mu} {c:Cz} {st:St} {a:Act} {w:World} (h:Rel w0 mu c st a w) (k:Nat) {p:AP} {t:RT} {V:V} {y:ar t} {v:Value} (hV:eK c st w V v) {x:ar (p.rt t)} {u:List Lb} {r:List (Nat×Nat)} (he:Ad st k p t V y=some (x,u,r)) :
  (p.av t x).2=y∧(∀l∈u,l.real=true)∧∃tb:List (Lb×Lb),tb.map (·.1)=u∧(∀p∈tb,p.2.kJ=true)∧∀ρ:Lb→Option Lb,(∀p∈tb,ρ p.1=some p.2)→(∀p∈r,ρ (.sp p.1 p.2)=none)→sb (c.map ρ) w k (c.lc k) (p.av t x).1 v:=by
 have vals:∀(ps:List OP) (cs:List CV) (x:ar (mH ps t)) (us:List (Option Lb)) (rs:List (Nat×Nat)) (vs:List Value),fF c st w cs vs→lk st ps t cs y=some (x,us,rs)→(dW ps t x).2=y∧(∀l∈cF us,l.real=true)∧
   ∀ρ:Lb→Option Lb,(∀p∈xW (.cH k) 0 us,ρ p.1=some p.2)→(∀p∈rs,ρ (.sp p.1 p.2)=none)→bo (c.map ρ) w (.cH k) 0 (dW ps t x).1 vs:=by
  intro ps cs x us rs vs hl hq;refine ⟨(vE h (ρ:=fun _=>none) (f:=.cH k) (fun _=>rfl) ps t cs y vs 0 hl hq).1,(vE h (ρ:=fun _=>none) (f:=.cH k) (fun _=>rfl) ps t cs y vs 0 hl hq).2.1,fun ρ hp hr=>(vE h (ρ:=ρ) (f:=.cH k) (fun _=>rfl) ps t cs y vs 0 hl hq).2.2 (fun k' l hk => ?_) hr⟩;have:=hp _ (vv (.cH k) 0 us k' l hk);simpa using this
 cases p with
 |val agg ps=>
  cases agg with
  |true=>
   cases V with
   |agg cs=>
    have he:(lk st ps t cs y).map (fun q=>(q.1,cF q.2.1,q.2.2))=some (x,u,r):=he
    cases hq:lk st ps t cs y with
    |none=>rw [hq] at he;cases he
    |some q=>
     obtain ⟨z,us,rs⟩:=q;rw [hq] at he;injection he with he;injection he with e1 e2;injection e2 with e2 e3;subst e1 e2 e3;obtain ⟨vs,rfl,hl⟩:=hV;obtain ⟨g1,g2,g3⟩:=vals _ _ _ _ _ _ hl hq;exact ⟨g1,g2,j5 k (.val true []) [] us,na _ _ _ _,nb _ _ _ _,fun ρ hp hr=>⟨vs,rfl,g3 ρ (fun p nB=>hp p (by simpa [j5] using nB)) hr⟩⟩
   |one _=>cases he
   |nC _=>cases he
  |false=>
   cases V with
   |one cx=>
    have he:(lk st ps t [cx] y).map (fun q=>(q.1,cF q.2.1,q.2.2))=some (x,u,r):=he
    cases hq:lk st ps t [cx] y with
    |none=>rw [hq] at he;cases he
    |some q=>
     obtain ⟨z,us,rs⟩:=q;rw [hq] at he;injection he with he;injection he with e1 e2;injection e2 with e2 e3;subst e1 e2 e3;obtain ⟨g1,g2,g3⟩:=vals _ _ _ _ _ [v] ⟨rfl,fun k y z hy hz=>by
      cases k with
      |zero=>simp at hy hz;subst hy hz;exact hV
      |succ k=>simp at hy⟩ hq
     exact ⟨g1,g2,j5 k (.val true []) [] us,na _ _ _ _,nb _ _ _ _,fun ρ hp hr=>g3 ρ (fun p nB=>hp p (by simpa [j5] using nB)) hr⟩
   |agg _=>cases he
   |nC _=>cases he
 |io rr d=>
  cases V with
  |one cx=>
   cases cx with
   |ref s j g vw=>
    cases vw with
    |full=>
     have he:(bif Nat.beq s k&&(Nat.beq j 0&&Nat.beq g 1) then ((aV st s j g).bind fun A=>bif A.own&&A.md.is d then (cn rr A.xs).map fun xs=>((xs,y),[Lb.sp s j],([]:List (Nat×Nat))) else none) else none)=some (x,u,r):=he;obtain ⟨h1,wH⟩:=aJ he;clear he;rw [Bool.and_eq_true,Bool.and_eq_true] at h1;have e1:=Nat.eq_of_beq_eq_true h1.1;have e2:=Nat.eq_of_beq_eq_true h1.2.1;subst e1 e2
     cases hA:aV st s 0 g with
     |none=>rw [hA] at wH;cases wH
     |some A=>
      rw [hA] at wH;obtain ⟨ho,U2⟩:=aJ wH;rw [Bool.and_eq_true] at ho;have hd:=Md.j1.1 ho.2;have ho:=ho.1
      cases hc:cn rr A.xs with
      |none=>rw [hc] at U2;cases U2
      |some xs=>
       rw [hc] at U2;injection U2 with U2;injection U2 with e1 e2;injection e2 with e2 e3;subst e1 e2 e3;refine ⟨rfl,by simp [Lb.real],[(.sp s 0,.cH s 0)],rfl,by simp [Lb.kJ],fun ρ hp _ => ?_⟩;have ha:=tU h hA;have hs:=hV.2.2 A hA;have hρ:ρ (.sp s 0)=some (.cH s 0):=hp (.sp s 0,.cH s 0) (by simp);obtain ⟨e,rfl⟩:=bH hc;obtain ⟨r0,FY,Wq,Wr⟩:=A;simp only at e hd;subst e hd;have ho:FY=true:=by first | exact ho | exact ho.1
       subst ho;refine ⟨hV.1,hs,rfl,?_⟩;unfold cq at ha
       cases iy:c.lc s 0 with
       |nil=>rw [iy] at ha;exact ha
       |«at» b off cap=>
        rw [iy] at ha;obtain ⟨h0,h2,h3,h4⟩:=ha;exact ⟨(Cz.kX h0).trans hρ,h2,h3,h4.map hρ⟩
    |«from» _=>cases he
    |sub _ _=>cases he
   |_=>cases he
  |agg _=>cases he
  |nC _=>cases he
 |box CK ps=>
  cases V with
  |one cx=>
   cases cx with
   |ptr b g off=>
    have he:(bif Nat.beq off 0&&(!CK||(Nat.beq b k&&Nat.beq g 1)) then ((dH st b g).bind fun cs=>(lk st ps t cs y).map fun q=>(q.1,Lb.box b::cF q.2.1,q.2.2)) else none)=some (x,u,r):=he;obtain ⟨h1,wH⟩:=aJ he;clear he;rw [Bool.and_eq_true] at h1;have e1:=Nat.eq_of_beq_eq_true h1.1;subst e1
    cases hb:dH st b g with
    |none=>rw [hb] at wH;cases wH
    |some cs=>
     rw [hb] at wH;simp only [Option.bind_some] at wH
     cases hq:lk st ps t cs y with
     |none=>rw [hq] at wH;cases wH
     |some q=>
      obtain ⟨z,us,rs⟩:=q;rw [hq] at wH;injection wH with wH;injection wH with e1 e2;injection e2 with e2 e3;subst e1 e2 e3;obtain ⟨sl,k1,k2,k3⟩:=iN hb;obtain ⟨h1,vs,ty,h2,h3⟩:=h.boxes b sl cs k1 k3;obtain ⟨g1,g2,g3⟩:=vals _ _ _ _ _ _ h3 hq;refine ⟨g1,fun l hl => ?_,j5 k (.box []) [.box b] us,by rw [na];rfl,nb _ _ _ _,fun ρ hp hr=>⟨c.bx b,vs,ty,hV.2.2 cs hb,?_,h2,g3 ρ (fun p nB=>hp p (List.mem_append_right _ nB)) hr⟩⟩
      ·rcases List.mem_cons.1 hl with rfl | hl
       ·rfl
       ·exact g2 l hl
      ·exact (Cz.kX h1).trans (hp (.box b,.rV k) (by simp [j5]))
   |_=>cases he
  |agg _=>cases he
  |nC _=>cases he
 |cz ps=>cases he
theorem vF {w0:World} {mu:Mu} {c:Cz} {st:St} {a:Act} {w:World} (h:Rel w0 mu c st a w):(l:List (Option AP))→(k:Nat)→{x:ar (aE l)}→{u:List Lb}→{r:List (Nat×Nat)}→nJ st k l=some (x,u,r)→
  (∀l∈u,l.real=true)∧∃tb:List (Lb×Lb),tb.map (·.1)=u∧(∀p∈tb,p.2.kJ=true)∧∀ρ:Lb→Option Lb,(∀p∈tb,ρ p.1=some p.2)→(∀p∈r,ρ (.sp p.1 p.2)=none)→zf (c.map ρ) w c.lc a k (da l x)
 | [],k,x,u,r,he=>by
  have he:some ((),([]:List Lb),([]:List (Nat×Nat)))=some (x,u,r):=he;injection he with he;injection he with _ e2;injection e2 with e2 e3;subst e2 e3;exact ⟨by simp,[],rfl,by simp,fun ρ _ _ i av hi=>by simp [da] at hi⟩
 |none::l,k,x,u,r,he=>by
  obtain ⟨g1,tb,g2,g3,g4⟩:=vF h l (k+1) he;refine ⟨g1,tb,g2,g3,fun ρ hp hr i av hi => ?_⟩
  cases i with
  |zero=>simp [da] at hi
  |succ i=>
   have:=g4 ρ hp hr i av (by simpa [da] using hi)
   rwa [show k+1+i=k+(i+1) by omega] at this
 |some p::l,k,x,u,r,he=>by
  unfold nJ at he
  cases h1:nJ st (k+1) l with
  |none=>simp [h1] at he
  |some q1=>
   obtain ⟨y,us,rs⟩:=q1;simp only [h1] at he
   cases h2:Ad st k p (aE l) (cC st k) y with
   |none=>simp [h2] at he
   |some q2=>
    obtain ⟨x1,u1,r1⟩:=q2;simp only [h2] at he;injection he with he;injection he with e1 e2;injection e2 with e2 e3;subst e1 e2 e3;obtain ⟨g1,tb,g2,g3,g4⟩:=vF h l (k+1) h1;obtain ⟨a1,a2,ta,a3,a4,a5⟩:=yc h k (h.ey k) h2;refine ⟨fun l' hl => ?_,ta++tb,by simp [a3,g2],fun p hp => ?_,fun ρ hp hr i av hi => ?_⟩
    ·rcases List.mem_append.1 hl with hl | hl
     ·exact a2 l' hl
     ·exact g1 l' hl
    ·rcases List.mem_append.1 hp with hp | hp
     ·exact a4 p hp
     ·exact g3 p hp
    ·cases i with
     |zero=>
      have hi:some (some (p.av (aE l) x1).1)=some (some av):=hi;simp only [Option.some.injEq] at hi;subst hi;exact a5 ρ (fun p nB=>hp p (List.mem_append_left _ nB)) (fun p nB=>hr p (List.mem_append_left _ nB))
     |succ i=>
      have hi:(da l (p.av (aE l) x1).2)[i]?=some (some av):=hi;rw [a1] at hi;have:=g4 ρ (fun p nB=>hp p (List.mem_append_right _ nB)) (fun p nB=>hr p (List.mem_append_right _ nB)) i av hi
      rwa [show k+1+i=k+(i+1) by omega] at this
end Go.TM
namespace Go.TM
open Go Go.RowKit
def NT (L:List (Option AV)) (lc:Nat→Nat→Loc) (a:Act):KA→Prop
 |.arr i j g W n l=>g=1∧i<L.length∧∀av,L[i]?=some (some av)→(∃A,av=.io A∧(j=0→A.r.width=W∧A.xs.length=n∧lc i 0=l))∨∃os,av=.cz os∧∀A,os[j]?=some (.own A)→A.r.width=W∧A.xs.length=n∧lc i j=l
 |.box i g oq=>g=1∧i<L.length∧∀os,L[i]?=some (some (.box os))→a.eval (.tmp i)=.pointer (some ⟨oq,0,none⟩)
def NU:Lb→Lb
 |.cH i j=>.sp i j
 |.rV i=>.box i
 |l=>l
structure NV (c:Cz) (w:World) (k:Nat) (av:Option AV) (u:Value) (lio:Nat→Loc) (oq:Nat) (lcs:Nat→Loc):Prop where
 arr:∀j A,nth (dI k av).aK j=some (some A)→∃v,OwnAt c w (.cH k j) (lcs j) A v
 reg:∀(c2:Cz) (iz:St),(∀b,c.ok b→c2.ok b)→c2.bx k=oq→c2.lc k=lcs→nth iz k=some (dI k av)→eK c2 iz w (dI k av).v u
 box:∀cs,(dI k av).box=some cs→u=.pointer (some ⟨oq,0,none⟩)∧c.own oq=some (.rV k)∧∃vs ty,w.heap[oq]?=some (.cells vs ty (0,0))∧
  ∀(c2:Cz) (iz:St),(∀b,c.ok b→c2.ok b)→c2.lc k=lcs→nth iz k=some (dI k av)→fF c2 iz w cs vs.toList
 io:∀A,av=some (.io A)→lcs 0=lio 0
 cz:∀os,av=some (.cz os)→lcs=lio
theorem qT {st:St} {k j:Nat} {av:Option AV} {A:gM} (h:nth st k=some (dI k av)) (hA:aV st k j 1=some A):nth (dI k av).aK j=some (some A):=by
 obtain ⟨sl,h1,_,h3⟩:=bt hA;rw [h] at h1;cases h1;exact h3
theorem qU {st:St} {k:Nat} {av:Option AV} (h:nth st k=some (dI k av)):dw st k=1:=by
 unfold dw;rw [h]
 cases av with
 |none=>rfl
 |some av=>cases av with
  |val agg os=>cases agg<;>rfl
  |io A=>rfl
  |box os=>rfl
  |cz os=>rfl
theorem DC {st:St} {k:Nat} {av:Option AV} (h:nth st k=some (dI k av)):fP st k=1:=by
 unfold fP;rw [h]
 cases av with
 |none=>rfl
 |some av=>cases av with
  |val agg os=>cases agg<;>rfl
  |io A=>rfl
  |box os=>rfl
  |cz os=>rfl
theorem yd:(os:List OV)→(j:Nat)→{A:gM}→nth (bE os) j=some (some A)→os[j]?=some (.own A)
 | [],_,_,h=>by simp [bE] at h
 |o::os,0,A,h=>by
  simp only [bE,nth,Option.some.injEq] at h
  cases o with
  |own B=>injection h with h;subst h;rfl
  |_=>cases h
 |o::os,j+1,A,h=>by
  have:=yd os j (A:=A) h;simpa using this
theorem DD {d g:Nat}:(os:List OV)→(j k:Nat)→(o:OV)→os[k]?=some o→∃x,bu d g (j+k) [o]=[x]∧(bu d g j os)[k]?=some x
 | [],_,_,_,h=>by simp at h
 |o::os,j,0,o',h=>by
  simp only [List.getElem?_cons_zero,Option.some.injEq] at h;subst h
  cases o<;>exact ⟨_,rfl,rfl⟩
 |o::os,j,k+1,o',h=>by
  obtain ⟨x,h1,h2⟩:=DD (d:=d) (g:=g) os (j+1) k o' (by simpa using h);rw [show j+1+k=j+(k+1) by omega] at h1;refine ⟨x,h1,?_⟩
  cases o<;>simpa [bu] using h2
theorem BQ {d g:Nat}:(os:List OV)→(j:Nat)→(bu d g j os).length=os.length
 | [],_=>rfl
 |o::os,j=>by cases o<;>simp [bu,BQ os (j+1)]
theorem bo.NW {c:Cz} {w:World} {f:Nat→Lb} {os:List OV} {vs:List Value} (h:bo c w f 0 os vs) (lcs:Nat→Loc) (ho:∀k A u,os[k]?=some (.own A)→vs[k]?=some u→∃l,OwnAt c w l (lcs k) A u)
  (c2:Cz) (iz:St) (d g:Nat) (gP:∀b,c.ok b→c2.ok b) (iy:∀k,c2.lc d k=lcs k) (zb:∀k A,aV iz d k g=some A→os[k]?=some (.own A)) (hg:g≤dw iz d):fF c2 iz w (bu d g 0 os) vs:=by
 obtain ⟨h1,h2⟩:=bo.NS os 0 vs h;refine ⟨by rw [BQ,h1],fun k x v hx hv => ?_⟩;have dG:k<os.length:=by rw [←h1];exact (List.getElem?_eq_some_iff.1 hv).1
 have H8:os[k]?=some os[k]:=List.getElem?_eq_getElem dG;obtain ⟨y,q1,q2⟩:=DD (d:=d) (g:=g) os 0 k _ H8;rw [q2] at hx
 cases hx
 have hL:=h2 k _ v H8 hv;rw [Nat.zero_add] at q1;generalize os[k]=o at *
 cases o with
 |own A=>
  simp only [bu,List.cons.injEq,and_true] at q1;subst q1;obtain ⟨l,hO⟩:=ho k A v H8 hv;refine ⟨hO.1,hg,fun A' eE => ?_⟩;have:=zb k A' eE;rw [H8] at this
  cases this
  rw [iy];exact hO.2.1
 |shr r xs=>
  simp only [bu,List.cons.injEq,and_true] at q1;subst q1;obtain ⟨v',l,e,h3,_⟩:=hL
  cases e
  exact cE.stays ⟨Nat.le_refl _,fun _ _ _=>rfl,fun b _ hb=>gP b hb⟩ _ _ _ h3
 |me r xs=>
  simp only [bu,List.cons.injEq,and_true] at q1;subst q1;obtain ⟨v',l,e,⟨b,oo,e1,e2,e3,e4⟩,_⟩:=hL
  cases e
  exact ⟨b,oo,e1,e2,gP b e3,fun x hx=>dE.stays ⟨Nat.le_refl _,fun _ _ _=>rfl,fun b _ hb=>gP b hb⟩ _ _ _ _ rfl (e4 x hx)⟩
 |fn fg r xs=>
  simp only [bu,List.cons.injEq,and_true] at q1;subst q1;obtain ⟨v',l,e,h3,_⟩:=hL
  cases e
  exact h3.stays ⟨Nat.le_refl _,fun _ _ _=>rfl,fun b _ hb=>gP b hb⟩
 |_=>
  simp only [bu,List.cons.injEq,and_true] at q1;subst q1;obtain ⟨l,e,_⟩:=hL
  cases e
  rfl
theorem Qf {c:Cz} {w:World} {k:Nat} {lio:Nat→Loc} {av:Option AV} {u:Value} (h:∀v,av=some v→sb c w k lio v u):∃oq lcs,NV c w k av u lio oq lcs:=by
 cases av with
 |none=>exact ⟨0,fun _=>.nil,fun j A hA=>by simp [dI,Sl.blank] at hA,fun c2 iz _ _ _ _=>trivial,fun cs uZ=>by simp [dI,Sl.blank] at uZ,fun A hA=>(by cases hA),fun A hA=>(by cases hA)⟩
 |some av=>
  have h:=h av rfl
  cases av with
  |val agg os=>
   cases agg with
   |true=>
    obtain ⟨vs,rfl,hl⟩:=h;obtain ⟨lcs,g1,g2⟩:=bo.cells os 0 _ hl;simp only [Nat.zero_add] at g1 g2;refine ⟨0,lcs,fun j A hA=>g1 j A hA,fun c2 iz gP _ iy hn=>⟨vs,rfl,?_⟩,fun cs uZ=>by simp [dI] at uZ,fun A hA=>(by cases hA),fun A hA=>(by cases hA)⟩;exact g2 c2 iz k 1 gP (fun j _=>by rw [iy]) (fun j A _ hA=>qT hn hA) (by rw [qU hn];exact Nat.le_refl _)
   |false=>
    have hl:bo c w (.cH k) 0 os [u]:=h;obtain ⟨lcs,g1,g2⟩:=bo.cells os 0 _ hl;simp only [Nat.zero_add] at g1 g2;refine ⟨0,lcs,fun j A hA=>g1 j A hA,fun c2 iz gP _ iy hn => ?_,fun cs uZ=>by simp [dI] at uZ,fun A hA=>(by cases hA),fun A hA=>(by cases hA)⟩;have hR:=g2 c2 iz k 1 gP (fun j _=>by rw [iy]) (fun j A _ hA=>qT hn hA) (by rw [qU hn];exact Nat.le_refl _);show eK c2 iz w (match bu k 1 0 os with | [c]=>.one c | _=>.one .bad) u;have h1:=hR.1
    cases hc:bu k 1 0 os with
    |nil=>trivial
    |cons x l=>cases l with
     |nil=>rw [hc] at hR;exact hR.2 0 x u rfl rfl
     |cons _ _=>trivial
  |io A=>
   have hO:OwnAt c w (.cH k 0) (lio 0) A u:=h;refine ⟨0,lio,fun j A' eE => ?_,fun c2 iz gP _ iy hn => ?_,fun cs uZ=>by simp [dI] at uZ,fun A hA=>rfl,fun A hA=>by cases hA⟩
   ·cases j with
    |zero=>simp [dI,nth] at eE;subst eE;exact ⟨u,hO⟩
    |succ j=>simp [dI,nth] at eE
   ·refine ⟨hO.1,by rw [qU hn];exact Nat.le_refl _,fun A' eE => ?_⟩;have:=qT hn eE;simp [dI,nth] at this;subst this;rw [iy];exact hO.2.1
  |cz os=>
   obtain ⟨vs,rfl,hl,NH⟩:=h;have eL:∀j A u,os[j]?=some (.own A)→vs.toList[j]?=some u→OwnAt c w (.cH k j) (lio j) A u:=fun j A u h1 h2=>NH j _ u h1 h2
   obtain ⟨n1,_⟩:=bo.NS os 0 _ hl;refine ⟨0,lio,fun j A' eE => ?_,fun c2 iz gP _ iy hn=>⟨vs,rfl,?_⟩,fun cs uZ=>by simp [dI] at uZ,fun A hA=>(by cases hA),fun xT _=>rfl⟩
   ·have hj:=yd os j eE;have dG:j<vs.toList.length:=by rw [n1];exact (List.getElem?_eq_some_iff.1 hj).1
    exact ⟨_,eL j A' _ hj (List.getElem?_eq_getElem dG)⟩
   ·exact bo.NW hl lio (fun j A u h1 h2=>⟨_,eL j A u h1 h2⟩) c2 iz k 1 gP (fun j=>by rw [iy]) (fun j A hA=>yd os j (qT hn hA)) (by rw [qU hn];exact Nat.le_refl _)
  |box os=>
   obtain ⟨oq,vs,ty,h1,h2,h3,hl⟩:=h;obtain ⟨lcs,g1,g2⟩:=bo.cells os 0 _ hl;simp only [Nat.zero_add] at g1 g2;refine ⟨oq,lcs,fun j A hA=>g1 j A hA,fun c2 iz gP yL iy hn=>⟨by rw [h1];rfl,by rw [DC hn];exact Nat.le_refl _,fun cs _=>by rw [yL];exact h1⟩,fun cs uZ=>⟨h1,h2,vs,ty,h3,fun c2 iz gP iy hn => ?_⟩,fun A hA=>(by cases hA),fun A hA=>(by cases hA)⟩;simp only [dI,Option.some.injEq] at uZ;subst uZ;exact g2 c2 iz k 1 gP (fun j _=>by rw [iy]) (fun j A _ hA=>qT hn hA) (by rw [qU hn];exact Nat.le_refl _)
theorem Rel.JH {w0:World} {mu:Mu} {c:Cz} {a:Act} {w:World} {L:List (Option AV)} {lc:Nat→Nat→Loc} (hb:K0 w0 mu c w) (hd:a.defers=[]) (hL:zf c w lc a 0 L) (hA:∀p∈mu.an,NT L lc a p):∃c',Rel w0 mu c' (oA 0 L) a w:=by
 have Sx:∀k,∃q:Nat×(Nat→Loc),NV c w k ((L[k]?).getD none) (a.eval (.tmp k)) (lc k) q.1 q.2:=by
  intro k;obtain ⟨oq,lcs,h⟩:=Qf (c:=c) (w:=w) (k:=k) (lio:=lc k) (av:=(L[k]?).getD none) (u:=a.eval (.tmp k)) (fun v hv=>by
   have:=hL k v (by
    cases hq:L[k]? with
    |none=>rw [hq] at hv;cases hv
    |some o=>rw [hq] at hv;simp at hv;rw [hv])
   simpa using this)
  exact ⟨(oq,lcs),h⟩
 obtain ⟨q,hq⟩:=Classical.axiomOfChoice Sx;have hn:∀k,nth (oA 0 L) k=(L[k]?).map (dI k):=fun k=>by have:=DA L 0 k;simpa using this
 have KJ:∀k sl,nth (oA 0 L) k=some sl→∃o,L[k]?=some o∧sl=dI k o∧nth (oA 0 L) k=some (dI k ((L[k]?).getD none))∧(L[k]?).getD none=o:=by
  intro k sl h;rw [hn] at h
  cases ho:L[k]? with
  |none=>rw [ho] at h;cases h
  |some o=>
   rw [ho] at h
   cases h
   refine ⟨o,rfl,rfl,?_,rfl⟩;rw [hn,ho];rfl
 let c':=c.dU NU (fun k=>(q k).1) (fun k=>(q k).2)
 have gP:∀b,c.ok b→c'.ok b:=fun b hb=>Cz.lQ.2 hb
 refine ⟨c',fun t => ?_,fun s sl cs hs yL => ?_,fun s j sl A hs eE => ?_,fun b l hl => ?_,fun b dG hl=>hb.free b dG (by simpa [c',Cz.dU] using hl),hb.kept,hb.old,hd,fun p hp => ?_,fun b l hl=>by
  simp only [c',Cz.dU,Option.map_eq_some_iff] at hl;obtain ⟨k,hk,_⟩:=hl;exact hb.mT b k hk⟩
 ·cases hs:nth (oA 0 L) t with
  |none=>
   have:cC (oA 0 L) t=.one .bad:=by unfold cC;rw [hs]
   rw [this];trivial
  |some sl=>
   obtain ⟨o,h1,rfl,h3,h4⟩:=KJ t sl hs;have:cC (oA 0 L) t=(dI t ((L[t]?).getD none)).v:=by unfold cC;rw [h3]
   rw [this];exact (hq t).reg c' (oA 0 L) gP rfl rfl h3
 ·obtain ⟨o,h1,rfl,h3,h4⟩:=KJ s sl hs;rw [←h4] at yL;obtain ⟨g1,g2,vs,ty,g3,g4⟩:=(hq s).box cs yL;refine ⟨?_,vs,ty,g3,g4 c' (oA 0 L) gP rfl h3⟩;show (c.own (q s).1).map NU=_;rw [g2];rfl
 ·obtain ⟨o,h1,rfl,h3,h4⟩:=KJ s sl hs;rw [←h4] at eE;obtain ⟨v,hv⟩:=(hq s).arr j A eE;exact hv.arr rfl rfl
 ·simp only [c',Cz.dU,Option.map_eq_some_iff] at hl;obtain ⟨k,hk,e⟩:=hl;obtain ⟨h1,h2⟩:=hb.owned b k hk;refine ⟨h1,h2.imp (fun e2 => ?_) id⟩;subst e2;rw [←e];rfl
 ·have hf:=hA p hp
  cases p with
  |arr i j g W n l=>
   obtain ⟨rfl,hi,Gs⟩:=hf;have hs:nth (oA 0 L) i=some (dI i ((L[i]?).getD none)):=by rw [hn];simp [List.getElem?_eq_getElem hi]
   refine ⟨by rw [qU hs];exact Nat.le_refl _,fun A eE => ?_⟩;have h3:=qT hs eE
   cases ho:L[i]? with
   |none=>rw [ho] at h3;simp [dI,Sl.blank] at h3
   |some o=>cases o with
    |none=>rw [ho] at h3;simp [dI,Sl.blank] at h3
    |some av=>
     rcases Gs av ho with ⟨A0,rfl,h5⟩ | ⟨os,rfl,h5⟩
     case inr=>
      rw [ho] at h3;obtain ⟨e1,e2,e3⟩:=h5 A (yd os j h3);refine ⟨e1,e2,?_⟩;rw [←e3];have:=(hq i).cz os (by rw [ho];rfl);show (q i).2 j=lc i j;rw [this]
     rw [ho] at h3
     cases j with
     |zero=>
      simp [dI,nth] at h3;subst h3;obtain ⟨e1,e2,e3⟩:=h5 rfl;exact ⟨e1,e2,((hq i).io A0 (by rw [ho];rfl)).trans e3⟩
     |succ j=>simp [dI,nth] at h3
  |box i g oq=>
   obtain ⟨rfl,hi,Gs⟩:=hf;have hs:nth (oA 0 L) i=some (dI i ((L[i]?).getD none)):=by rw [hn];simp [List.getElem?_eq_getElem hi]
   refine ⟨by rw [DC hs];exact Nat.le_refl _,fun cs uZ => ?_⟩;obtain ⟨sl,k1,k2,k3⟩:=iN uZ;rw [hs] at k1;cases k1;obtain ⟨g1,_⟩:=(hq i).box cs k3;have ri:∃os,L[i]?=some (some (.box os)):=by
    cases ho:L[i]? with
    |none=>rw [ho] at k3;simp [dI,Sl.blank] at k3
    |some o=>cases o with
     |none=>rw [ho] at k3;simp [dI,Sl.blank] at k3
     |some av=>cases av with
      |val agg os=>rw [ho] at k3;cases agg<;>simp [dI] at k3
      |io A=>rw [ho] at k3;simp [dI] at k3
      |cz os=>rw [ho] at k3;simp [dI] at k3
      |box os=>exact ⟨os,rfl⟩
   obtain ⟨os,ri⟩:=ri;have:=Gs os ri;rw [this] at g1;injection g1 with g1;injection g1 with g1;injection g1 with g1;exact g1.symm
end Go.TM
namespace Go.TM
open Go Go.RowKit
inductive Src where
 |tmp (t:Nat)
 |cell (t:Nat)
 |ptr (t:Nat)  -- Hy struct behind a pointer,We is kJ back
structure RP where
 src:Src
 agg:Bool
 ps:List OP
def dq:List RP→RT→RT
 | [],t=>t
 |r::rs,t=>mH r.ps (dq rs t)
def rD:List OP→RT→RT
 | [],t=>t
 |.own r _::ps,t=>.cons (.sl r) (rD ps t)
 |.int _::ps,t=>rD ps t
 |.bool::ps,t=>rD ps t
 |.str::ps,t=>rD ps t
 |.shr _::ps,t=>rD ps t
 |.me _::ps,t=>rD ps t
 |.fn _ _::ps,t=>rD ps t
def ck:List AP→RT
 | []=>.nil
 |.val _ _::l=>ck l
 |.io r _::l=>.cons (.sl r) (ck l)
 |.box _ ps::l=>mH ps (ck l)
 |.cz ps::l=>rD ps (ck l)
def RP.cells (st:St) (r:RP):Option (List CV):=
 match r.src with
 |.tmp t=>match cC st t with
  |.agg cs=>bif r.agg then some cs else none
  |.one c=>bif r.agg then none else some [c]
  |.nC _=>none
 |.cell t=>match cC st t with
  |.one (.ptr b g off)=>bif Nat.beq off 0 then dH st b g else none
  |_=>none
 |.ptr t=>match cC st t with
  |.one (.ptr b g off)=>bif Nat.beq off 0 then dH st b g else none
  |_=>none
def RP.U3 (st:St) (r:RP):List (Option Lb):=
 match r.src with
 |.ptr t=>(match cC st t with | .one (.ptr b _ _)=>[some (.box b)] | _=>[])
 |_=>[]
def BR (st:St):(rs:List RP)→(t:RT)→ar t→Option (ar (dq rs t)×List (Option Lb)×List (Nat×Nat))
 | [],_,y=>some (y,[],[])
 |r::rs,t,y=>(r.cells st).bind fun cs=>(BR st rs t y).bind fun q=>(lk st r.ps (dq rs t) cs q.1).map fun p=>(p.1,r.U3 st++(p.2.1++q.2.1),p.2.2++q.2.2)
def mI (st:St) (i:Nat):(j:Nat)→(ps:List OP)→(t:RT)→ar t→Option (ar (rD ps t)×List Lb)
 |_,[],_,y=>some (y,[])
 |j,.own r d::ps,t,y=>(mI st i (j+1) ps t y).bind fun q=>(aV st i j 1).bind fun A=>bif A.own&&A.md.is d then (cn r A.xs).map fun xs=>((xs,q.1),.sp i j::q.2) else none
 |j,.int _::ps,t,y=>mI st i (j+1) ps t y
 |j,.bool::ps,t,y=>mI st i (j+1) ps t y
 |j,.str::ps,t,y=>mI st i (j+1) ps t y
 |j,.shr _::ps,t,y=>mI st i (j+1) ps t y
 |j,.me _::ps,t,y=>mI st i (j+1) ps t y
 |j,.fn _ _::ps,t,y=>mI st i (j+1) ps t y
def sy (st:St):(i:Nat)→(ps:List AP)→Option (ar (ck ps)×List Lb×List (Nat×Nat))
 |_,[]=>some ((),[],[])
 |i,.val _ _::l=>sy st (i+1) l
 |i,.io r d::l=>(sy st (i+1) l).bind fun q=>(Ad st i (.io r d) (ck l) (.one (.ref i 0 1 .full)) q.1).map fun p=>(p.1,p.2.1++q.2.1,p.2.2++q.2.2)
 |i,.box _ ps::l=>(sy st (i+1) l).bind fun q=>(Ad st i (.box true ps) (ck l) (.one (.ptr i 1 0)) q.1).map fun p=>(p.1,p.2.1++q.2.1,p.2.2++q.2.2)
 |i,.cz ps::l=>(sy st (i+1) l).bind fun q=>(mI st i 0 ps (ck l) q.1).map fun p=>(p.1,p.2++q.2.1,q.2.2)
def Ie (rs:List RP) (ps:List AP):Ex→St→Option (ar (dq rs (ck ps)))
 |.exit _,_=>none
 |_,st=>(sy st 0 ps).bind fun x=>(BR st rs (ck ps) x.1).bind fun q=>bif tH (cF q.2.1++x.2.1)&&apart (cF q.2.1++x.2.1) (q.2.2++x.2.2) then some q.1 else none
def RP.rv (r:RP) (os:List OV):RV:=
 match r.src with
 |.ptr _=>.ptr os
 |_=>match r.agg,os with
  |false,[o]=>.one o
  |_,os=>.agg os
def fT:(rs:List RP)→(t:RT)→ar (dq rs t)→List RV×ar t
 | [],_,x=>([],x)
 |r::rs,t,x=>(r.rv (dW r.ps (dq rs t) x).1::(fT rs t (dW r.ps (dq rs t) x).2).1,(fT rs t (dW r.ps (dq rs t) x).2).2)
def nu:(ps:List OP)→(t:RT)→ar (rD ps t)→List (Option gM)×ar t
 | [],_,x=>([],x)
 |.own r d::ps,t,x=>(some { r:=r,own:=true,xs:=x.1,md:=d }::(nu ps t x.2).1,(nu ps t x.2).2)
 |.int _::ps,t,x=>(none::(nu ps t x).1,(nu ps t x).2)
 |.bool::ps,t,x=>(none::(nu ps t x).1,(nu ps t x).2)
 |.str::ps,t,x=>(none::(nu ps t x).1,(nu ps t x).2)
 |.shr _::ps,t,x=>(none::(nu ps t x).1,(nu ps t x).2)
 |.me _::ps,t,x=>(none::(nu ps t x).1,(nu ps t x).2)
 |.fn _ _::ps,t,x=>(none::(nu ps t x).1,(nu ps t x).2)
def nc:(ps:List AP)→ar (ck ps)→List XV
 | [],_=>[]
 |.val _ _::l,x=>nc l x
 |.io r d::l,x=>.io { r:=r,own:=true,xs:=x.1,md:=d }::nc l x.2
 |.box _ ps::l,x=>.box (dW ps (ck l) x).1::nc l (dW ps (ck l) x).2
 |.cz ps::l,x=>.cz (nu ps (ck l) x).1::nc l (nu ps (ck l) x).2
def qw (ps:List AP) (rs:List RP) (t:ar (aE (ps.map some))→Option (ar (dq rs (ck ps)))):wE:=fun dL=>
 match eR ps dL with
 |some x=>some { r:=dq rs (ck ps),o:=t x,res:=fun y=>{ outs:=(fT rs (ck ps) y).1,exts:=nc ps (fT rs (ck ps) y).2 } }
 |none=>none
theorem jT {st:St} {i:Nat}:(ps:List OP)→(j:Nat)→(t:RT)→(y:ar t)→{x:ar (rD ps t)}→{u:List Lb}→mI st i j ps t y=some (x,u)→(nu ps t x).2=y∧(∀l∈u,∃k,l=.sp i k)∧
  ∀(k:Nat) (r:RT) (d:Md),ps[k]?=some (.own r d)→∃A xs,aV st i (j+k) 1=some A∧A.own=true∧A.md=d∧cn r A.xs=some xs∧nth (nu ps t x).1 k=some (some { r:=r,own:=true,xs:=xs,md:=d })∧.sp i (j+k)∈u
 | [],j,t,y,x,u,h=>by
  injection h with h;injection h with e1 e2;subst e1 e2;exact ⟨rfl,by simp,fun k r d hk=>by simp at hk⟩
 |.own r d::ps,j,t,y,x,u,h=>by
  unfold mI at h;obtain ⟨q,hq,h⟩:=Option.bind_eq_some_iff.1 h;obtain ⟨A,hA,h⟩:=Option.bind_eq_some_iff.1 h;obtain ⟨ho,h⟩:=aJ h;rw [Bool.and_eq_true] at ho;obtain ⟨xs,Q7,h⟩:=Option.map_eq_some_iff.1 h;injection h with e1 e2;subst e1 e2;obtain ⟨z,us⟩:=q;obtain ⟨g1,g2,g3⟩:=jT ps (j+1) t y hq;refine ⟨g1,fun l hl => ?_,fun k r' d' hk => ?_⟩
  ·rcases List.mem_cons.1 hl with rfl | hl
   ·exact ⟨j,rfl⟩
   ·exact g2 l hl
  ·cases k with
   |zero=>
    simp only [List.getElem?_cons_zero,Option.some.injEq,OP.own.injEq] at hk;obtain ⟨rfl,rfl⟩:=hk;exact ⟨A,xs,hA,ho.1,Md.j1.1 ho.2,Q7,rfl,List.mem_cons_self⟩
   |succ k=>
    obtain ⟨A',Wc,k1,k2,kd,k3,k4,k5⟩:=g3 k r' d' (by simpa using hk);rw [show j+1+k=j+(k+1) by omega] at k1 k5;exact ⟨A',Wc,k1,k2,kd,k3,k4,List.mem_cons_of_mem _ k5⟩
 |.int _::ps,j,t,y,x,u,h=>kx (jT ps (j+1) t y h) (by simp) (fun k=>rfl)
 |.bool::ps,j,t,y,x,u,h=>kx (jT ps (j+1) t y h) (by simp) (fun k=>rfl)
 |.str::ps,j,t,y,x,u,h=>kx (jT ps (j+1) t y h) (by simp) (fun k=>rfl)
 |.shr _::ps,j,t,y,x,u,h=>kx (jT ps (j+1) t y h) (by simp) (fun k=>rfl)
 |.me _::ps,j,t,y,x,u,h=>kx (jT ps (j+1) t y h) (by simp) (fun k=>rfl)
 |.fn _ _::ps,j,t,y,x,u,h=>kx (jT ps (j+1) t y h) (by simp) (fun k=>rfl)
where
 kx {st:St} {i j:Nat} {p:OP} {ps:List OP} {D:Type} {y z:D} {L L':List (Option gM)} {u:List Lb} (h:z=y∧(∀l∈u,∃k,l=.sp i k)∧∀(k:Nat) (r:RT) (d:Md),ps[k]?=some (.own r d)→∃A xs,aV st i (j+1+k) 1=some A∧A.own=true∧A.md=d∧cn r A.xs=some xs∧nth L k=some (some { r:=r,own:=true,xs:=xs,md:=d })∧.sp i (j+1+k)∈u)
   (hp:∀r d,p≠.own r d) (hL:∀k,nth L' (k+1)=nth L k):z=y∧(∀l∈u,∃k,l=.sp i k)∧∀(k:Nat) (r:RT) (d:Md),(p::ps)[k]?=some (.own r d)→∃A xs,aV st i (j+k) 1=some A∧A.own=true∧A.md=d∧cn r A.xs=some xs∧nth L' k=some (some { r:=r,own:=true,xs:=xs,md:=d })∧.sp i (j+k)∈u:=by
  obtain ⟨h1,h2,h3⟩:=h;refine ⟨h1,h2,fun k r d hk => ?_⟩
  cases k with
  |zero=>
   simp only [List.getElem?_cons_zero,Option.some.injEq] at hk;exact absurd hk (hp r d)
  |succ k=>
   obtain ⟨A',Wc,k1,k2,kd,k3,k4,k5⟩:=h3 k r d (by simpa using hk);rw [show j+1+k=j+(k+1) by omega] at k1 k5;exact ⟨A',Wc,k1,k2,kd,k3,by rw [hL];exact k4,k5⟩
theorem DE {st:St}:(ps:List OP)→(t:RT)→(cs:List CV)→(y:ar t)→{x:ar (mH ps t)}→{u:List (Option Lb)}→{r:List (Nat×Nat)}→lk st ps t cs y=some (x,u,r)→u.length=ps.length∧cs.length=ps.length∧(dW ps t x).1.length=ps.length
 | [],t,[],y,x,u,r,h=>by
  injection h with h;injection h with e1 e2;injection e2 with e2 e3;subst e1 e2 e3;exact ⟨rfl,rfl,rfl⟩
 | [],t,_::_,y,x,u,r,h=>by simp [lk] at h
 |_::_,t,[],y,x,u,r,h=>by simp [lk] at h
 |p::ps,t,c::cs,y,x,u,r,h=>by
  unfold lk at h
  cases hc:fj st p.nF c with
  |none=>simp [hc] at h
  |some q1=>
   obtain ⟨o,u1,r1⟩:=q1
   cases hq:lk st ps t cs y with
   |none=>simp [hc,hq] at h
   |some q2=>
    obtain ⟨z,us,rs⟩:=q2;simp only [hc,hq] at h
    cases ho:s9 p o with
    |none=>simp [ho] at h
    |some a1=>
     simp only [ho] at h;injection h with h;injection h with e1 e2;injection e2 with e2 e3;subst e1 e2 e3;obtain ⟨g1,g2,g3⟩:=DE ps t cs y hq;exact ⟨by simp [g1],by simp [g2],by simp [dW,g3]⟩
def NX (T:lf) (fr:Array Value):ResultVar→RP→Prop
 |.tmp t,r=>r.src=.tmp t∨r.src=.ptr t
 |.cell t ty,r=>r.src=.cell t∧T.cells ty=some r.ps.length∧T.agg ty=r.agg
def BS (tm:Array Value):ResultVar→Sem Value
 |.tmp t=>pure (tm.getD t undef)
 |.cell a t=>do loadVar t (←asAddr (tm.getD a undef))
theorem RP.NY {P:Program} {T:lf} (hT:fQ P T) {w0:World} {mu:Mu} {c:Cz} {st:St} {a:Act} {w:World} (h:Rel w0 mu c st a w) {r:RP} {rv:ResultVar} (hr:NX T a.tmps rv r) {cs:List CV} (hc:r.cells st=some cs) (hn:cs.length=r.ps.length) :
  ∃vs v,fF c st w cs vs∧(BS a.tmps rv).run P w=.ok v w∧(((∀t,r.src≠.ptr t)∧((r.agg=true∧v=.agg vs.toArray)∨(r.agg=false∧(vs=[v]))))∨
   (∃t b ty us,r.src=.ptr t∧r.U3 st=[some (.box b)]∧v=.pointer (some ⟨c.bx b,0,none⟩)∧c.own (c.bx b)=some (.box b)∧w.heap[c.bx b]?=some (.cells us ty (0,0))∧vs=us.toList)):=by
 unfold RP.cells at hc
 cases rv with
 |tmp t=>
  rcases (hr:r.src=.tmp t∨r.src=.ptr t) with hs | hs
  case inr=>
   rw [hs] at hc;have s7:=h.ey t;simp only at hc
   cases hv:cC st t with
   |nC _=>rw [hv] at hc;cases hc
   |agg l=>rw [hv] at hc;cases hc
   |one x=>
    cases x with
    |ptr b g off=>
     rw [hv] at hc s7;obtain ⟨ho,hb⟩:=aJ hc;have ho:=Nat.eq_of_beq_eq_true ho;subst ho;obtain ⟨sl,k1,k2,k3⟩:=iN hb;obtain ⟨q1,vs,ty',q2,q3⟩:=h.boxes b sl cs k1 k3;have e:a.tmps.getD t undef=.pointer (some ⟨c.bx b,0,none⟩):=s7.2.2 cs hb;refine ⟨vs.toList,a.tmps.getD t undef,q3,rfl,.inr ⟨t,b,ty',vs,hs,?_,e,q1,q2,rfl⟩⟩;unfold RP.U3;rw [hs];simp only [hv]
    |_=>rw [hv] at hc;cases hc
  rw [hs] at hc;have s7:=h.ey t;simp only at hc
  cases hv:cC st t with
  |nC _=>rw [hv] at hc;cases hc
  |agg l=>
   rw [hv] at hc s7;obtain ⟨JI,hc1⟩:=aJ hc
   cases hc1
   obtain ⟨vs,e,hl⟩:=s7;exact ⟨vs.toList,a.eval (.tmp t),hl,rfl,.inl ⟨fun t' e'=>(by rw [hs] at e';cases e'),.inl ⟨JI,by rw [e]⟩⟩⟩
  |one x=>
   rw [hv] at hc s7;simp only at hc
   cases JI:r.agg with
   |true=>rw [JI] at hc;cases hc
   |false=>
    rw [JI] at hc
    cases hc
    refine ⟨[a.eval (.tmp t)],a.eval (.tmp t),⟨rfl,fun i y z hy hz => ?_⟩,rfl,.inl ⟨fun t' e'=>(by rw [hs] at e';cases e'),.inr ⟨rfl,rfl⟩⟩⟩
    cases i with
    |zero=>simp at hy hz;subst hy hz;exact s7
    |succ i=>simp at hy
 |cell t ty=>
  obtain ⟨hs,h1,h2⟩:=hr;rw [hs] at hc;have s7:=h.ey t;simp only at hc
  cases hv:cC st t with
  |nC _=>rw [hv] at hc;cases hc
  |agg l=>rw [hv] at hc;cases hc
  |one x=>
   cases x with
   |ptr b g off=>
    rw [hv] at hc s7;obtain ⟨ho,hb⟩:=aJ hc;have ho:=Nat.eq_of_beq_eq_true ho;subst ho;obtain ⟨sl,k1,k2,k3⟩:=iN hb;obtain ⟨q1,vs,ty',q2,q3⟩:=h.boxes b sl cs k1 k3;have e:a.tmps.getD t undef=.pointer (some ⟨c.bx b,0,none⟩):=s7.2.2 cs hb;have SD:w.rangeAt (c.bx b) 0 vs.toList:=by
     have:=zK (off:=0) q2 vs.toList.length
     rwa [List.drop_zero,List.take_length] at this
    have hlen:vs.toList.length=r.ps.length:=by rw [←q3.1,hn]
    have qD:=rY (P:=P) hT h1 w (c.bx b) 0 vs.toList SD hlen;refine ⟨vs.toList,valOf (T.agg ty) vs.toList,q3,?_,.inl ⟨fun t' e'=>(by rw [hs] at e';cases e'),?_⟩⟩
    ·simp [BS,e,asAddr,Sem.run_bind,qD]
    ·rw [h2]
     cases JI:r.agg with
     |true=>exact .inl ⟨rfl,by simp [valOf]⟩
     |false=>
      obtain ⟨_,_,_,xc⟩:=hT.agg ty _ h1;have h3:=xc (by rw [h2,JI]);refine .inr ⟨rfl,?_⟩;have:vs.toList.length=1:=by rw [hlen,h3]
      cases vm:vs.toList with
      |nil=>rw [vm] at this;cases this
      |cons x l=>cases l with
       |nil=>rfl
       |cons _ _=>rw [vm] at this;simp at this
   |_=>rw [hv] at hc;cases hc
end Go.TM
namespace Go.TM
open Go Go.RowKit
def xk (T:lf) (tm:Array Value):List ResultVar→List RP→Prop
 | [],[]=>True
 |v::vs,r::rs=>NX T tm v r∧xk T tm vs rs
 |_,_=>False
theorem DF {P:Program} {T:lf} (hT:fQ P T) {w0:World} {mu:Mu} {c:Cz} {st:St} {a:Act} {w:World} (h:Rel w0 mu c st a w):(W0:List ResultVar)→(rs:List RP)→xk T a.tmps W0 rs→(t:RT)→(y:ar t)→{x:ar (dq rs t)}→{u:List (Option Lb)}→{r:List (Nat×Nat)}→BR st rs t y=some (x,u,r)→
  (fT rs t x).2=y∧(fT rs t x).1.length=rs.length∧(∀l∈cF u,l.real=true)∧∃vals:List Value,(W0.mapM (BS a.tmps)).run P w=.ok vals w∧vals.length=W0.length∧
   ∀(ρ:Lb→Option Lb) (j:Nat),(∀k l,nth u k=some (some l)→ρ l=some (.gO (j+k)))→(∀p∈r,ρ (.sp p.1 p.2)=none)→iJ (c.map ρ) w j (fT rs t x).1 vals
 | [],[],_,t,y,x,u,r,he=>by
  injection he with he;injection he with e1 e2;injection e2 with e2 e3;subst e1 e2 e3;exact ⟨rfl,rfl,by simp [cF],[],rfl,rfl,fun _ _ _ _=>rfl⟩
 | [],_::_,hf,_,_,_,_,_,_=>hf.elim
 |_::_,[],hf,_,_,_,_,_,_=>hf.elim
 |rv::W0,rr::rs,hf,t,y,x,u,r,he=>by
  unfold BR at he;obtain ⟨cs,hc,he⟩:=Option.bind_eq_some_iff.1 he;obtain ⟨q,hq,he⟩:=Option.bind_eq_some_iff.1 he;obtain ⟨p,hp,he⟩:=Option.map_eq_some_iff.1 he;obtain ⟨x2,u2,r2⟩:=q;obtain ⟨x1,u1,r1⟩:=p;injection he with e1 e2;injection e2 with e2 e3;subst e1 e2 e3;obtain ⟨l1,l2,l3⟩:=DE rr.ps _ cs _ hp;obtain ⟨vs,v,g1,g2,g3⟩:=RP.NY hT h hf.1 hc l2;obtain ⟨k1,k2,k3,vals,k4,k5,k6⟩:=DF hT h W0 rs hf.2 t y hq;have h0:=fun (ρ:Lb→Option Lb) (j:Nat)=>vE h (ρ:=ρ) (f:=.gO) (fun _=>rfl) rr.ps (dq rs t) cs x2 vs j g1 hp
  have e0:=(h0 (fun _=>none) 0).1;refine ⟨?_,?_,fun l hl => ?_,v::vals,?_,by simp [k5],fun ρ j hu hr => ?_⟩
  ·show (fT rs t (dW rr.ps (dq rs t) x1).2).2=y;rw [e0];exact k1
  ·show (fT rs t (dW rr.ps (dq rs t) x1).2).1.length+1=_;rw [e0,k2];rfl
  ·rw [ia] at hl;rcases List.mem_append.1 hl with hl | hl
   ·unfold RP.U3 at hl
    split at hl
    ·split at hl
     ·simp only [List.mem_singleton,Option.some.injEq] at hl;subst hl;rfl
     ·cases hl
    ·cases hl
   ·rcases List.mem_append.1 hl with hl | hl
    ·exact (h0 (fun _=>none) 0).2.1 l (ia.2 hl)
    ·exact k3 l (ia.2 hl)
  ·rw [List.mapM_cons];simp [Sem.run_bind,g2,k4]
  ·have e:(fT (rr::rs) t x1).1=rr.rv (dW rr.ps (dq rs t) x1).1::(fT rs t x2).1:=by
    show rr.rv (dW rr.ps (dq rs t) x1).1::(fT rs t (dW rr.ps (dq rs t) x1).2).1=_;rw [e0]
   show iJ (c.map ρ) w j (fT (rr::rs) t x1).1 (v::vals);rw [e];rcases g3 with ⟨hnp,g3⟩ | ⟨tt,b,ty,us,SE,SF,hv,eL,Nz,vm⟩
   ·have SF:rr.U3 st=[]:=by
     unfold RP.U3
     split
     ·rename_i t' e';exact absurd e' (hnp t')
     ·rfl
    rw [SF,List.nil_append] at hu;have hL:=(h0 ρ j).2.2 (fun k l hk=>hu k l (by
     rw [m9,if_pos (Ek hk)];exact hk)) (fun p hp=>hr p (List.mem_append_left _ hp))
    have fh:=k6 ρ (j+rr.ps.length) (fun k l hk=>by
     have:=hu (rr.ps.length+k) l (by rw [m9,l1,if_neg (by omega),Nat.add_sub_cancel_left];exact hk);rw [Nat.add_assoc];exact this) (fun p hp=>hr p (List.mem_append_right _ hp))
    have hrv:∀os,rr.rv os=(match rr.agg,os with | false,[o]=>RV.one o | _,os=>RV.agg os):=by
     intro os;unfold RP.rv
     split
     ·rename_i t' e';exact absurd e' (hnp t')
     ·rfl
    rcases g3 with ⟨ha,rfl⟩ | ⟨ha,rfl⟩
    ·have er:rr.rv (dW rr.ps (dq rs t) x1).1=.agg (dW rr.ps (dq rs t) x1).1:=by rw [hrv,ha]
     rw [er];exact ⟨vs.toArray,vals,rfl,by simpa using hL,by rw [l3];exact fh⟩
    ·have hlen:cs.length=1:=g1.1;have:(dW rr.ps (dq rs t) x1).1.length=1:=by rw [l3,←l2,hlen]
     cases ho:(dW rr.ps (dq rs t) x1).1 with
     |nil=>rw [ho] at this;cases this
     |cons o l=>cases l with
      |cons _ _=>rw [ho] at this;simp at this
      |nil=>
       have er:rr.rv [o]=.one o:=by rw [hrv,ha]
       rw [er];rw [ho] at hL;refine ⟨v,vals,rfl,hL,?_⟩;rw [←l2,hlen] at fh;exact fh
   ·rw [SF] at hu;have hb:=hu 0 (.box b) rfl;have hL:=(h0 ρ (j+1)).2.2 (fun k l hk=>by
     have:=hu (k+1) l (by
      show nth (u1++u2) k=_;rw [m9,if_pos (Ek hk)];exact hk)
     rwa [show j+(k+1)=j+1+k by omega] at this) (fun p hp=>hr p (List.mem_append_left _ hp))
    have fh:=k6 ρ (j+(rr.ps.length+1)) (fun k l hk=>by
     have:=hu (rr.ps.length+k+1) l (by
      show nth (u1++u2) (rr.ps.length+k)=_;rw [m9,l1,if_neg (by omega),Nat.add_sub_cancel_left];exact hk)
     rwa [show j+(rr.ps.length+k+1)=j+(rr.ps.length+1)+k by omega] at this) (fun p hp=>hr p (List.mem_append_right _ hp))
    have er:rr.rv (dW rr.ps (dq rs t) x1).1=.ptr (dW rr.ps (dq rs t) x1).1:=by unfold RP.rv;rw [SE]
    rw [er];subst vm;refine ⟨v,vals,rfl,⟨c.bx b,us,ty,hv,?_,Nz,hL⟩,by rw [l3];exact fh⟩;rw [Nat.add_zero] at hb;exact (Cz.kX eL).trans hb
def EB (mu:Mu) (lc:Nat→Nat→Loc) (i:Nat) (ps:List AP) (dL:List AV) (vs:List Value):Prop:=
 ∀(k:Nat) (p:AP) (av:AV) (v:Value),ps[k]?=some p→dL[k]?=some av→vs[k]?=some v→match p,av with
  |.io _ _,.io A=>v.oneCell'=true∧gm (lc (i+k) 0) A.r.width 0 A.xs.length v∧KA.arr (i+k) 0 1 A.r.width A.xs.length (lc (i+k) 0)∈mu.an
  |.box _ _,.box _=>∃oq,v=.pointer (some ⟨oq,0,none⟩)∧KA.box (i+k) 1 oq∈mu.an
  |.val _ _,.val _ _=>True
  |.cz qs,.cz os=>∃us,v=.agg us∧∀j A,os[j]?=some (.own A)→(∃r d,qs[j]?=some (.own r d))∧∃u,us.toList[j]?=some u∧u.oneCell'=true∧gm (lc (i+k) j) A.r.width 0 A.xs.length u∧KA.arr (i+k) j 1 A.r.width A.xs.length (lc (i+k) j)∈mu.an
  |_,_=>False
theorem td {w0:World} {mu:Mu} {c:Cz} {st:St} {a:Act} {w:World} (h:Rel w0 mu c st a w) {lc:Nat→Nat→Loc}:(ps:List AP)→(i:Nat)→(dL:List AV)→(vs:List Value)→ps.length=dL.length→ps.length=vs.length→EB mu lc i ps dL vs→{x:ar (ck ps)}→{u:List Lb}→{r:List (Nat×Nat)}→sy st i ps=some (x,u,r)→
  (∀l∈u,l.real=true)∧∃tb:List (Lb×Lb),tb.map (·.1)=u∧(∀p∈tb,p.2.kJ=true)∧∀ρ:Lb→Option Lb,(∀p∈tb,ρ p.1=some p.2)→(∀p∈r,ρ (.sp p.1 p.2)=none)→iI (c.map ρ) w lc i dL vs (nc ps x)
 | [],i,dL,vs,h1,h2,_,x,u,r,he=>by
  injection he with he;injection he with e1 e2;injection e2 with e2 e3;subst e2 e3;have:dL=[]:=by simpa using h1.symm
  subst this;exact ⟨by simp,[],rfl,by simp,fun _ _ _=>rfl⟩
 |p::ps,i,[],vs,h1,_,_,_,_,_,_=>by simp at h1
 |p::ps,i,_::_,[],_,h2,_,_,_,_,_=>by simp at h2
 |p::ps,i,av::dL,v::vs,h1,h2,hl,x,u,r,he=>by
  have tD:EB mu lc (i+1) ps dL vs:=fun k p' JE v' e1 e2 e3=>by
   have:=hl (k+1) p' JE v' (by simpa using e1) (by simpa using e2) (by simpa using e3)
   rwa [show i+(k+1)=i+1+k by omega] at this
  have Sd:ps.length=dL.length:=by simpa using h1
  have h2':ps.length=vs.length:=by simpa using h2
  have h0:=hl 0 p av v rfl rfl rfl
  cases p with
  |val agg qs=>
   cases av with
   |val Qe os=>
    obtain ⟨g1,tb,g2,g3,g4⟩:=td h ps (i+1) dL vs Sd h2' tD he;exact ⟨g1,tb,g2,g3,fun ρ hp hr=>g4 ρ hp hr⟩
   |io _=>exact h0.elim
   |box _=>exact h0.elim
   |cz _=>exact h0.elim
  |io rr dd=>
   cases av with
   |val _ _=>exact h0.elim
   |box _=>exact h0.elim
   |cz _=>exact h0.elim
   |io A=>
    obtain ⟨q1,q2,q3⟩:=h0;simp only [Nat.add_zero] at q2 q3;unfold sy at he;obtain ⟨q,hq,he⟩:=Option.bind_eq_some_iff.1 he;obtain ⟨p,hp,he⟩:=Option.map_eq_some_iff.1 he;obtain ⟨x2,u2,r2⟩:=q;obtain ⟨x1,u1,r1⟩:=p;injection he with e1 e2;injection e2 with e2 e3;subst e1 e2 e3;obtain ⟨g1,tb,g2,g3,g4⟩:=td h ps (i+1) dL vs Sd h2' tD hq;have Qg:=h.dF _ q3;have hV:eK c st w (.one (.ref i 0 1 .full)) v:=⟨q1,Qg.1,fun A' eE=>by
     obtain ⟨e1,e2,e3⟩:=Qg.2 A' eE;rw [e1,e3];show gm (lc i 0) A.r.width 0 A'.xs.length v;rw [e2];exact q2⟩
    obtain ⟨a1,a2,ta,a3,a4,a5⟩:=yc h i hV hp;obtain ⟨A',eE,W2⟩:∃A',aV st i 0 1=some A'∧∃xs,cn rr A'.xs=some xs∧x1.1=xs:=by
     have hp:(bif Nat.beq i i&&(Nat.beq 0 0&&Nat.beq 1 1) then ((aV st i 0 1).bind fun A=>bif A.own&&A.md.is dd then (cn rr A.xs).map fun xs=>((xs,x2),[Lb.sp i 0],([]:List (Nat×Nat))) else none) else none)=some (x1,u1,r1):=hp;obtain ⟨_,hp1⟩:=aJ hp;obtain ⟨A',eE,hp2⟩:=Option.bind_eq_some_iff.1 hp1;obtain ⟨_,hp3⟩:=aJ hp2;obtain ⟨xs,Q7,e⟩:=Option.map_eq_some_iff.1 hp3;injection e with e _;exact ⟨A',eE,xs,Q7,by rw [←e]⟩
    obtain ⟨xs,Q7,ex⟩:=W2;obtain ⟨e1,e2,e3⟩:=Qg.2 A' eE;refine ⟨fun l hl => ?_,ta++tb,by simp [a3,g2],fun p hp => ?_,fun ρ hp hr => ?_⟩
    ·rcases List.mem_append.1 hl with hl | hl
     ·exact a2 l hl
     ·exact g1 l hl
    ·rcases List.mem_append.1 hp with hp | hp
     ·exact a4 p hp
     ·exact g3 p hp
    ·have U4:=a5 ρ (fun p nB=>hp p (List.mem_append_left _ nB)) (fun p nB=>hr p (List.mem_append_left _ nB));have fh:=g4 ρ (fun p nB=>hp p (List.mem_append_right _ nB)) (fun p nB=>hr p (List.mem_append_right _ nB));have U4:OwnAt (c.map ρ) w (.cH i 0) (c.lc i 0) { r:=rr,own:=true,xs:=x1.1,md:=dd } v:=U4;rw [e3] at U4;obtain ⟨er,MG⟩:=bH Q7;refine ⟨{ r:=rr,own:=true,xs:=x1.1,md:=dd },nc ps x1.2,rfl,?_,?_,U4,?_⟩
     ·show rr.width=A.r.width;rw [←er];exact e1
     ·show List.length (x1.1:List (ar rr))=A.xs.length;rw [ex,MG,←e2]
      cases er
      rfl
     ·have:x1.2=x2:=a1;rw [this];exact fh
  |cz qs=>
   cases av with
   |val _ _=>exact h0.elim
   |io _=>exact h0.elim
   |box _=>exact h0.elim
   |cz os=>
    obtain ⟨us,rfl,q1⟩:=h0;simp only [Nat.add_zero] at q1;unfold sy at he;obtain ⟨q,hq,he⟩:=Option.bind_eq_some_iff.1 he;obtain ⟨p,hp,he⟩:=Option.map_eq_some_iff.1 he;obtain ⟨x2,u2,r2⟩:=q;obtain ⟨x1,u1⟩:=p;injection he with e1 e2;injection e2 with e2 e3;subst e1 e2 e3;obtain ⟨g1,tb,g2,g3,g4⟩:=td h ps (i+1) dL vs Sd h2' tD hq;obtain ⟨a1,a2,a3⟩:=jT qs 0 (ck ps) x2 hp
    let f:Lb→Lb×Lb:=fun l=>(l,match l with | .sp x y=>.cH x y | l=>l)
    refine ⟨fun l hl => ?_,u1.map f++tb,?_,fun p hp => ?_,fun ρ hp hr => ?_⟩
    ·rcases List.mem_append.1 hl with hl | hl
     ·obtain ⟨k,rfl⟩:=a2 l hl;rfl
     ·exact g1 l hl
    ·rw [List.map_append,List.map_map,g2]
     congr 1
     exact List.map_id u1
    ·rcases List.mem_append.1 hp with hp | hp
     ·obtain ⟨l,hl,rfl⟩:=List.mem_map.1 hp;obtain ⟨k,rfl⟩:=a2 l hl;rfl
     ·exact g3 p hp
    ·have fh:=g4 ρ (fun p nB=>hp p (List.mem_append_right _ nB)) hr;refine ⟨(nu qs (ck ps) x1).1,nc ps (nu qs (ck ps) x1).2,rfl,⟨us,rfl,fun j A hj => ?_⟩,by rw [a1];exact fh⟩;obtain ⟨⟨r,dd,hqr⟩,u,b1,b2,b3,b4⟩:=q1 j A hj;obtain ⟨A',xs,c1,c2,cd,c3,c4,c5⟩:=a3 j r dd hqr;rw [Nat.zero_add] at c1 c5;obtain ⟨e1,e2,e3⟩:=(h.dF _ b4).2 A' c1;obtain ⟨er,MG⟩:=bH c3;have ha:=tU h c1;have hρ:ρ (.sp i j)=some (.cH i j):=hp (.sp i j,.cH i j) (List.mem_append_left _ (List.mem_map.2 ⟨_,c5,rfl⟩));have hw:r.width=A.r.width:=by rw [←er];exact e1
     have hn:xs.length=A.xs.length:=by
      rw [←e2,MG]
      cases er
      rfl
     refine ⟨_,u,c4,b1,hw,hn,b2,?_,rfl,?_⟩
     ·show gm (lc i j) r.width 0 xs.length u;rw [hw,hn];exact b3
     ·show match lc i j with
       |.nil=>xs=[]
       |.at b off cap=>_
      obtain ⟨rA,aji,xsA,mdA⟩:=A';simp only at er c2 cd;subst er c2 cd;have MG:xs=xsA:=MG;subst MG;unfold cq at ha;have e3:c.lc i j=lc i j:=e3;rw [e3] at ha
      cases iy:lc i j with
      |nil=>rw [iy] at ha;exact ha
      |«at» b off cap=>
       rw [iy] at ha;obtain ⟨k0,k2,k3,k4⟩:=ha;exact ⟨(Cz.kX k0).trans hρ,k2,k3,k4.map hρ⟩
  |box CK qs=>
   cases av with
   |val _ _=>exact h0.elim
   |io _=>exact h0.elim
   |cz _=>exact h0.elim
   |box os=>
    obtain ⟨oq,q1,q2⟩:=h0;simp only [Nat.add_zero] at q2;unfold sy at he;obtain ⟨q,hq,he⟩:=Option.bind_eq_some_iff.1 he;obtain ⟨p,hp,he⟩:=Option.map_eq_some_iff.1 he;obtain ⟨x2,u2,r2⟩:=q;obtain ⟨x1,u1,r1⟩:=p;injection he with e1 e2;injection e2 with e2 e3;subst e1 e2 e3;obtain ⟨g1,tb,g2,g3,g4⟩:=td h ps (i+1) dL vs Sd h2' tD hq;have Qg:=h.dF _ q2;have hV:eK c st w (.one (.ptr i 1 0)) v:=⟨by rw [q1];rfl,Qg.1,fun cs uZ=>by rw [Qg.2 cs uZ,q1]⟩;obtain ⟨a1,a2,ta,a3,a4,a5⟩:=yc h i hV hp;refine ⟨fun l hl => ?_,ta++tb,by simp [a3,g2],fun p hp => ?_,fun ρ hp hr => ?_⟩
    ·rcases List.mem_append.1 hl with hl | hl
     ·exact a2 l hl
     ·exact g1 l hl
    ·rcases List.mem_append.1 hp with hp | hp
     ·exact a4 p hp
     ·exact g3 p hp
    ·have U4:=a5 ρ (fun p nB=>hp p (List.mem_append_left _ nB)) (fun p nB=>hr p (List.mem_append_left _ nB));have fh:=g4 ρ (fun p nB=>hp p (List.mem_append_right _ nB)) (fun p nB=>hr p (List.mem_append_right _ nB));refine ⟨(dW qs (ck ps) x1).1,nc ps (dW qs (ck ps) x1).2,rfl,U4,?_⟩;have:(dW qs (ck ps) x1).2=x2:=a1;rw [this];exact fh
end Go.TM
namespace Go.TM
open Go Go.RowKit
def start (n:Nat) (ps:List AP) (x:ar (aE (ps.map some))):St:=oA 0 (da (ps.map some) x++List.replicate (n+1-ps.length) none)
theorem qE:(l:List (Option AP))→(x:ar (aE l))→(da l x).length=l.length
 | [],_=>rfl
 |none::l,x=>by
  show (da l x).length+1=l.length+1;rw [qE l x]
 |some p::l,x=>by
  show (da l (p.av (aE l) x).2).length+1=l.length+1;rw [qE l _]
theorem zg {c:Cz} {w:World} {lc:Nat→Nat→Loc}:(ps:List AP)→(i:Nat)→(dL:List AV)→(vs:List Value)→{x:ar (aE (ps.map some))}→eR ps dL=some x→oQ c w lc i dL vs→
  ps.length=dL.length∧ps.length=vs.length∧∀k av,(da (ps.map some) x)[k]?=some (some av)→∃v,vs[k]?=some v∧sb c w (i+k) (lc (i+k)) av v
 | [],i,[],vs,x,hx,h=>by
  have:vs=[]:=h;subst this;exact ⟨rfl,rfl,fun k av hk=>by
   have hk:([]:List (Option AV))[k]?=some (some av):=hk;simp at hk⟩
 | [],_,_::_,_,_,hx,_=>by simp [eR] at hx
 |_::_,_,[],_,_,hx,_=>by simp [eR] at hx
 |p::ps,i,av::dL,vs,x,hx,h=>by
  obtain ⟨v,l,rfl,h1,h2⟩:=h;unfold eR at hx
  cases hy:eR ps dL with
  |none=>simp [hy] at hx
  |some y=>
   simp only [hy] at hx;obtain ⟨g1,g2,g3⟩:=zg ps (i+1) dL l hy h2;obtain ⟨q1,q2⟩:=GF (c:=c) (w:=w) (i:=i) (lc:=lc i) hx;refine ⟨by simp [g1],by simp [g2],fun k JE hk => ?_⟩
   cases k with
   |zero=>
    have hk:some (some (p.av (aE (ps.map some)) x).1)=some (some JE):=hk;simp only [Option.some.injEq] at hk;subst hk;exact ⟨v,rfl,q2 v h1⟩
   |succ k=>
    have hk:(da (ps.map some) (p.av (aE (ps.map some)) x).2)[k]?=some (some JE):=hk;rw [q1] at hk;obtain ⟨v',h3,h4⟩:=g3 k JE hk;exact ⟨v',by simpa using h3,by rw [show i+(k+1)=i+1+k by omega];exact h4⟩
def jz (lc:Nat→Loc) (i:Nat):(j:Nat)→List OV→List KA
 |_,[]=>[]
 |j,.own A::os=>.arr i j 1 A.r.width A.xs.length (lc j)::jz lc i (j+1) os
 |j,.int _ _::os=>jz lc i (j+1) os
 |j,.bool _::os=>jz lc i (j+1) os
 |j,.str _::os=>jz lc i (j+1) os
 |j,.shr _ _::os=>jz lc i (j+1) os
 |j,.me _ _::os=>jz lc i (j+1) os
 |j,.fn _ _ _::os=>jz lc i (j+1) os
 |j,.dY::os=>jz lc i (j+1) os
theorem yf {lc:Nat→Loc} {i:Nat}:(os:List OV)→(j:Nat)→∀p∈jz lc i j os,∃k A,os[k]?=some (.own A)∧p=.arr i (j+k) 1 A.r.width A.xs.length (lc (j+k))
 | [],j,p,h=>by simp [jz] at h
 |o::os,j,p,h=>by
  have rest:p∈jz lc i (j+1) os→∃k A,(o::os)[k]?=some (.own A)∧p=.arr i (j+k) 1 A.r.width A.xs.length (lc (j+k)):=by
   intro h;obtain ⟨k,A,h1,h2⟩:=yf os (j+1) p h;refine ⟨k+1,A,by simpa using h1,?_⟩;rw [h2,show j+1+k=j+(k+1) by omega]
  cases o with
  |own A=>
   rcases List.mem_cons.1 h with h | h
   ·exact ⟨0,A,rfl,h⟩
   ·exact rest h
  |_=>exact rest h
theorem Ae {lc:Nat→Loc} {i:Nat}:(os:List OV)→(j:Nat)→∀(k:Nat) (A:gM),os[k]?=some (.own A)→KA.arr i (j+k) 1 A.r.width A.xs.length (lc (j+k))∈jz lc i j os
 | [],j,k,A,h=>by simp at h
 |o::os,j,0,A,h=>by
  simp only [List.getElem?_cons_zero,Option.some.injEq] at h;subst h;exact List.mem_cons_self
 |o::os,j,k+1,A,h=>by
  have:=Ae (lc:=lc) (i:=i) os (j+1) k A (by simpa using h);rw [show j+1+k=j+(k+1) by omega] at this
  cases o with
  |own A=>exact List.mem_cons_of_mem _ this
  |_=>exact this
def BT (lc:Nat→Nat→Loc):(i:Nat)→List AV→List Value→List KA
 |_,[],_=>[]
 |_,_::_,[]=>[]
 |i,.val _ _::as,_::vs=>BT lc (i+1) as vs
 |i,.io A::as,_::vs=>.arr i 0 1 A.r.width A.xs.length (lc i 0)::BT lc (i+1) as vs
 |i,.cz os::as,_::vs=>jz (lc i) i 0 os++BT lc (i+1) as vs
 |i,.box _::as,v::vs=>.box i 1 (match v with | .pointer (some ad)=>ad.block | _=>0)::BT lc (i+1) as vs
theorem tf {lc:Nat→Nat→Loc}:(i:Nat)→(as:List AV)→(vs:List Value)→∀p∈BT lc i as vs,∃k av v,as[k]?=some av∧vs[k]?=some v∧((∃A,av=.io A∧p=.arr (i+k) 0 1 A.r.width A.xs.length (lc (i+k) 0))∨(∃os,av=.box os∧p=.box (i+k) 1 (match v with | .pointer (some ad)=>ad.block | _=>0))∨∃os j A,av=.cz os∧os[j]?=some (.own A)∧p=.arr (i+k) j 1 A.r.width A.xs.length (lc (i+k) j))
 |_,[],_,p,h=>by simp [BT] at h
 |_,_::_,[],p,h=>by simp [BT] at h
 |i,.val _ _::as,_::vs,p,h=>by
  obtain ⟨k,av,v,h1,h2,h3⟩:=tf (i+1) as vs p h;exact ⟨k+1,av,v,by simpa using h1,by simpa using h2,by rw [show i+(k+1)=i+1+k by omega];exact h3⟩
 |i,.io A::as,v0::vs,p,h=>by
  rcases List.mem_cons.1 h with h | h
  ·exact ⟨0,.io A,v0,rfl,rfl,.inl ⟨A,rfl,h⟩⟩
  ·obtain ⟨k,av,v,h1,h2,h3⟩:=tf (i+1) as vs p h;exact ⟨k+1,av,v,by simpa using h1,by simpa using h2,by rw [show i+(k+1)=i+1+k by omega];exact h3⟩
 |i,.box os::as,v0::vs,p,h=>by
  rcases List.mem_cons.1 h with h | h
  ·exact ⟨0,.box os,v0,rfl,rfl,.inr (.inl ⟨os,rfl,h⟩)⟩
  ·obtain ⟨k,av,v,h1,h2,h3⟩:=tf (i+1) as vs p h;exact ⟨k+1,av,v,by simpa using h1,by simpa using h2,by rw [show i+(k+1)=i+1+k by omega];exact h3⟩
 |i,.cz os::as,v0::vs,p,h=>by
  rcases List.mem_append.1 h with h | h
  ·obtain ⟨j,A,h1,h2⟩:=yf os 0 p h;rw [Nat.zero_add] at h2;exact ⟨0,.cz os,v0,rfl,rfl,.inr (.inr ⟨os,j,A,rfl,h1,h2⟩)⟩
  ·obtain ⟨k,av,v,h1,h2,h3⟩:=tf (i+1) as vs p h;exact ⟨k+1,av,v,by simpa using h1,by simpa using h2,by rw [show i+(k+1)=i+1+k by omega];exact h3⟩
theorem JJ {lc:Nat→Nat→Loc}:(i:Nat)→(as:List AV)→(vs:List Value)→as.length=vs.length→∀k av v,as[k]?=some av→vs[k]?=some v→(∀A,av=.io A→KA.arr (i+k) 0 1 A.r.width A.xs.length (lc (i+k) 0)∈BT lc i as vs)∧(∀os,av=.box os→KA.box (i+k) 1 (match v with | .pointer (some ad)=>ad.block | _=>0)∈BT lc i as vs)∧(∀os,av=.cz os→∀j A,os[j]?=some (.own A)→KA.arr (i+k) j 1 A.r.width A.xs.length (lc (i+k) j)∈BT lc i as vs)
 |_,[],_,_,k,av,v,h,_=>by simp at h
 |_,_::_,[],hn,_,_,_,_,_=>by simp at hn
 |i,a0::as,v0::vs,hn,0,av,v,h1,h2=>by
  simp only [List.getElem?_cons_zero,Option.some.injEq] at h1 h2;subst h1 h2;refine ⟨fun A e => ?_,fun os e => ?_,fun os e j A hj => ?_⟩
  ·subst e;exact List.mem_cons_self
  ·subst e;exact List.mem_cons_self
  ·subst e;have:=Ae (lc:=lc i) (i:=i) os 0 j A hj;rw [Nat.zero_add] at this;exact List.mem_append_left _ this
 |i,a0::as,v0::vs,hn,k+1,av,v,h1,h2=>by
  obtain ⟨g1,g2,g3⟩:=JJ (i+1) as vs (by simpa using hn) k av v (by simpa using h1) (by simpa using h2);have e:i+(k+1)=i+1+k:=by omega
  rw [e]
  cases a0 with
  |val _ _=>exact ⟨g1,g2,g3⟩
  |io _=>exact ⟨fun A h=>List.mem_cons_of_mem _ (g1 A h),fun os h=>List.mem_cons_of_mem _ (g2 os h),fun os h j A hj=>List.mem_cons_of_mem _ (g3 os h j A hj)⟩
  |box _=>exact ⟨fun A h=>List.mem_cons_of_mem _ (g1 A h),fun os h=>List.mem_cons_of_mem _ (g2 os h),fun os h j A hj=>List.mem_cons_of_mem _ (g3 os h j A hj)⟩
  |cz _=>exact ⟨fun A h=>List.mem_append_right _ (g1 A h),fun os h=>List.mem_append_right _ (g2 os h),fun os h j A hj=>List.mem_append_right _ (g3 os h j A hj)⟩
def mW (ps:List AP) (mu:Mu):Prop:=
 ∀p∈mu.an,(∃i r W n l,p=.arr i 0 1 W n l∧∃d,ps[i]?=some (.io r d))∨(∃i oq b qs,p=.box i 1 oq∧ps[i]?=some (.box b qs))∨∃i j W n l qs,p=.arr i j 1 W n l∧ps[i]?=some (.cz qs)
theorem BU:(ps:List OP)→(t:RT)→(os:List OV)→(y:ar t)→{x:ar (mH ps t)}→dQ ps t os y=some x→∀(j:Nat) (A:gM),os[j]?=some (.own A)→(∃r d,ps[j]?=some (.own r d))∧∃B:gM,(dW ps t x).1[j]?=some (.own B)∧B.r.width=A.r.width∧B.xs.length=A.xs.length
 | [],t,[],y,x,h=>by intro k A hk;simp at hk
 | [],_,_::_,_,_,h=>by simp [dQ] at h
 |_::_,_,[],_,_,h=>by simp [dQ] at h
 |p::ps,t,o::os,y,x,h=>by
  unfold dQ at h
  cases h1:s9 p o with
  |none=>simp [h1] at h
  |some a=>
   cases h2:dQ ps t os y with
   |none=>simp [h1,h2] at h
   |some z=>
    simp only [h1,h2] at h;have h:(a,z)=x:=Option.some.inj h;subst h;intro j A hj
    cases j with
    |succ j=>
     obtain ⟨⟨r,d,q1⟩,B,q2,q3⟩:=BU ps t os y h2 j A (by simpa using hj);exact ⟨⟨r,d,by simpa using q1⟩,B,(by show (dW ps t z).1[j]?=_;exact q2),q3⟩
    |zero=>
     simp only [List.getElem?_cons_zero,Option.some.injEq] at hj;subst hj
     cases p with
     |own r d=>
      have h1:(bif A.md.is d then cn r A.xs else none)=some a:=h1;obtain ⟨_,h1⟩:=aJ h1;obtain ⟨er,MG⟩:=bH h1;refine ⟨⟨r,d,rfl⟩,{ r:=r,own:=true,xs:=a,md:=d },rfl,by show r.width=_;rw [←er],?_⟩;show List.length (a:List (ar r))=_;rw [MG]
      cases er
      rfl
     |_=>cases h1
theorem Af:(ps:List AP)→(dL:List AV)→{x:ar (aE (ps.map some))}→eR ps dL=some x→∀(k:Nat) (av:AV),dL[k]?=some av→∃p:AP,ps[k]?=some p∧match p,av with
  |.io _ _,.io A=>∃B:gM,(da (ps.map some) x)[k]?=some (some (.io B))∧B.r.width=A.r.width∧B.xs.length=A.xs.length
  |.box _ _,.box _=>True
  |.val _ _,.val _ _=>True
  |.cz qs,.cz os=>∃xT:List OV,(da (ps.map some) x)[k]?=some (some (AV.cz xT))∧∀(j:Nat) (A:gM),os[j]?=some (OV.own A)→(∃r d,qs[j]?=some (OP.own r d))∧∃B:gM,xT[j]?=some (OV.own B)∧B.r.width=A.r.width∧B.xs.length=A.xs.length
  |_,_=>False
 | [],[],_,_=>by intro k av h;simp at h
 | [],_::_,_,hx=>by simp [eR] at hx
 |_::_,[],_,hx=>by simp [eR] at hx
 |p::ps,av::dL,x,hx=>by
  unfold eR at hx
  cases hy:eR ps dL with
  |none=>simp [hy] at hx
  |some y=>
   simp only [hy] at hx;have e2:(p.av (aE (ps.map some)) x).2=y:=(GF (c:=⟨fun _=>0,fun _ _=>.nil,fun _=>none,fun _=>none⟩) (w:=default) (i:=0) (lc:=fun _=>.nil) hx).1;intro k JE hk
   cases k with
   |zero=>
    simp only [List.getElem?_cons_zero,Option.some.injEq] at hk;subst hk;refine ⟨p,rfl,?_⟩
    cases p with
    |val agg qs=>cases av with
     |val _ _=>trivial
     |io _=>cases agg<;>cases hx
     |box _=>cases agg<;>cases hx
     |cz _=>cases agg<;>cases hx
    |io r d=>cases av with
     |val _ _=>cases hx
     |box _=>cases hx
     |cz _=>cases hx
     |io A=>
      have hx:(bif A.md.is d then (match cn r A.xs with | some xs=>some ((xs,y):ar (.cons (.sl r) (aE (ps.map some)))) | none=>none) else none)=some x:=hx;obtain ⟨_,hx⟩:=aJ hx
      cases hc:cn r A.xs with
      |none=>rw [hc] at hx;cases hx
      |some xs=>
       rw [hc] at hx;injection hx with hx;obtain ⟨er,MG⟩:=bH hc;refine ⟨{ r:=r,own:=true,xs:=x.1,md:=d },rfl,by show r.width=_;rw [←er],?_⟩;show List.length (x.1:List (ar r))=_;rw [←hx];show xs.length=_;rw [MG]
       cases er
       rfl
    |box b qs=>cases av with
     |val _ _=>cases hx
     |io _=>cases hx
     |cz _=>cases hx
     |box _=>trivial
    |cz qs=>cases av with
     |val _ _=>cases hx
     |io _=>cases hx
     |box _=>cases hx
     |cz os=>
      have hx:dQ qs (aE (ps.map some)) os y=some x:=hx;exact ⟨_,rfl,BU qs _ os y hx⟩
   |succ k=>
    obtain ⟨p',h1,h2⟩:=Af ps dL hy k JE (by simpa using hk);refine ⟨p',by simpa using h1,?_⟩;have eh:(da ((p::ps).map some) x)[k+1]?=(da (ps.map some) y)[k]?:=by
     show (da (ps.map some) (p.av (aE (ps.map some)) x).2)[k]?=_;rw [e2]
    cases p'<;>cases JE<;>simp only at h2 ⊢ <;> (try exact h2)
    ·obtain ⟨B,q1,q2,q3⟩:=h2;exact ⟨B,eh.trans q1,q2,q3⟩
    ·obtain ⟨xT,q1,q2⟩:=h2;exact ⟨xT,eh.trans q1,q2⟩
end Go.TM
