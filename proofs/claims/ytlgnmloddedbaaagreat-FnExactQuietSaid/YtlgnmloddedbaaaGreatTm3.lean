/- A machine over trees: an evaluator of the code, and that what it finds is so; part 3. -/
import Derived.Test.YtlgnmloddedbaaaGreatTm2
import Derived.Laws.Sem
set_option linter.unusedSimpArgs false
set_option linter.unusedVariables false
namespace Go.TM
open Go Go.RowKit
structure kQ (X:Lb→Prop) (w0:World) (mu:Mu) (c:Cz) (st:St) (a:Act) (w:World):Prop where
 ea:∀t,ej c st w (bV st t) (a.eval (.tmp t))
 boxes:∀s sl cs,¬X (.box s)→nth st s=some sl→sl.box=some cs→tQ c st w s cs
 aO:∀s j sl A,¬X (.sp s j)→nth st s=some sl→nth sl.aO j=some (some A)→bO c w s j A
 owned:∀b l,c.own b=some l→b<w.heap.size∧(l=.out∨w0.heap.size≤b∨mu.m b)
 free:∀b,b<w0.heap.size→c.own b=none→mu.m b∨mu.ok b
 kept:w.os=w0.os∧w.tape=w0.tape∧w.output=w0.output∧w0.heap.size≤w.heap.size
 old:∀k,k<w0.heap.size→¬mu.m k→w.heap[k]?=w0.heap[k]?
 plain:a.defers=[]
 cV:∀p∈mu.an,RR c st p
 mq:∀b l,c.rs b=some l→b<w.heap.size∧(w0.heap.size≤b∨mu.m b∨mu.rs b)
theorem kQ.rel {w0:World} {mu:Mu} {c:Cz} {st:St} {a:Act} {w:World} (h:kQ (fun _=>False) w0 mu c st a w):Rel w0 mu c st a w:=
 ⟨h.ea,fun s sl cs=>h.boxes s sl cs id,fun s j sl A=>h.aO s j sl A id,h.owned,h.free,h.kept,h.old,h.plain,h.cV,h.mq⟩
structure CD (ρ:Lb→Lb):Prop where
 other:∀l,(l=.out∨l.real=true)→ρ l=l
def Cz.dJ (c:Cz) (ρ:Lb→Lb) (bx:Nat→Nat) (lc:Nat→Nat→Loc):Cz:={ bx:=bx,lc:=lc,own:=fun b=>(c.own b).map ρ,rs:=fun b=>(c.rs b).map ρ }
theorem Cz.lr {c:Cz} {ρ:Lb→Lb} {bx:Nat→Nat} {lc:Nat→Nat→Loc} {b:Nat}:(c.dJ ρ bx lc).ok b↔c.ok b:=by
 unfold Cz.ok Cz.dJ;simp
theorem oe (c:Cz) (w:World) (ρ:Lb→Lb) (bx:Nat→Nat) (lc:Nat→Nat→Loc):iD w w c.ok (c.dJ ρ bx lc).ok:=⟨Nat.le_refl _,fun _ _ _=>rfl,fun _ _ h=>Cz.lr.2 h⟩
theorem kQ.dJ {X X':Lb→Prop} {w0:World} {mu:Mu} {c:Cz} {st aZ:St} {a:Act} {w:World} (h:kQ X w0 mu c st a w) {ρ:Lb→Lb} {bx:Nat→Nat} {lc:Nat→Nat→Loc} (hρ:CD ρ)
  (fj:Fw c st w (c.dJ ρ bx lc) aZ w) (aa6:∀t,ej (c.dJ ρ bx lc) aZ w (bV aZ t) (a.eval (.tmp t)))
  (agt:∀s sl cs,¬X' (.box s)→nth aZ s=some sl→sl.box=some cs→tQ (c.dJ ρ bx lc) aZ w s cs)
  (BH:∀s j sl A,¬X' (.sp s j)→nth aZ s=some sl→nth sl.aO j=some (some A)→bO (c.dJ ρ bx lc) w s j A):kQ X' w0 mu (c.dJ ρ bx lc) aZ a w where
 ea:=aa6
 boxes:=agt
 aO:=BH
 owned b l hb:=by
  unfold Cz.dJ at hb;simp only [Option.map_eq_some_iff] at hb;obtain ⟨k,hk,e⟩:=hb;obtain ⟨h1,h2⟩:=h.owned b k hk;refine ⟨h1,h2.imp (fun e2 => ?_) id⟩;subst e2;rw [←e];exact hρ.other _ (.inl rfl)
 free b hb h1:=h.free b hb (by unfold Cz.dJ at h1;simpa using h1)
 kept:=h.kept
 old:=h.old
 plain:=h.plain
 cV p hp:=fj.cV (h.cV p hp)
 mq b l hb:=by
  unfold Cz.dJ at hb;simp only [Option.map_eq_some_iff] at hb;obtain ⟨k,hk,e⟩:=hb;exact h.mq b k hk
theorem gR (st:St) (s j:Nat) (A:Option gu) (k:Nat):∃f:Sl→Sl,(∀x,(f x).v=x.v∧(f x).box=x.box∧(f x).bg=x.bg∧(f x).ag=x.ag∧
   (∀i,nth (f x).aO i=if k=s∧i=j then (nth x.aO i).map (fun _=>A) else nth x.aO i)∧(f x).ep=if k=s then x.ep+1 else x.ep)∧nth (bl st s j A) k=(nth st k).map f:=by
 unfold bl
 by_cases e:k=s
 ·subst e;refine ⟨fun s=>{ s with aO:=lX (fun _=>A) s.aO j,ep:=s.ep+1 },fun x=>⟨rfl,rfl,rfl,rfl,fun i => ?_,by simp⟩,fY _ _ _⟩;simp only [cU,true_and]
 ·refine ⟨id,fun x=>⟨rfl,rfl,rfl,rfl,fun i => ?_,by simp [e]⟩,by rw [kS _ _ e];simp⟩;simp [e]
theorem DU (st:St) (s j:Nat) (A:Option gu) (t:Nat):j7 st t≤j7 (bl st s j A) t∧(j7 (bl st s j A) t=j7 st t→t≠s∨nth st t=none):=by
 obtain ⟨f,hf,hk⟩:=gR st s j A t;unfold j7;rw [hk]
 cases nth st t with
 |none=>simp
 |some x=>
  simp only [Option.map_some];rw [(hf x).2.2.2.2.2]
  by_cases e:t=s
  ·rw [if_pos e];exact ⟨by omega,fun h=>by omega⟩
  ·rw [if_neg e];exact ⟨Nat.le_refl _,fun _=>.inl e⟩
theorem xd (st:St) (s j:Nat) (A:Option gu) (t:Nat):bV (bl st s j A) t=bV st t:=by
 obtain ⟨f,hf,hk⟩:=gR st s j A t;unfold bV;rw [hk]
 cases nth st t with
 |none=>rfl
 |some x=>exact (hf x).1
theorem DV (st:St) (s j:Nat) (A:Option gu) (t:Nat):cK (bl st s j A) t=cK st t∧ff (bl st s j A) t=ff st t:=by
 obtain ⟨f,hf,hk⟩:=gR st s j A t;unfold cK ff;rw [hk]
 cases nth st t with
 |none=>exact ⟨rfl,rfl⟩
 |some x=>exact ⟨(hf x).2.2.2.1,(hf x).2.2.1⟩
theorem Iq (st:St) (s j:Nat) (A:Option gu) (b g:Nat):cZ (bl st s j A) b g=cZ st b g:=by
 obtain ⟨f,hf,hk⟩:=gR st s j A b;unfold cZ;rw [hk]
 cases nth st b with
 |none=>rfl
 |some x=>simp [(hf x).2.1,(hf x).2.2.1]
theorem oU {st:St} {a j g:Nat} {sl:Sl} {A:gu} (h1:nth st a=some sl) (h2:sl.ag=g) (h3:nth sl.aO j=some (some A)):aX st a j g=some A:=by
 unfold aX;rw [h1];simp [h2,h3]
theorem BI {c:Cz} {st:St} {w:World} {s j g:Nat} {A:Option gu} {A0:gu} (h0:aX st s j g=some A0∨A=none) (hA:∀B,A=some B→B.r.width=A0.r.width∧B.xs.length=A0.xs.length) (ρ:Lb→Lb) :
  Fw c st w (c.dJ ρ c.bx c.lc) (bl st s j A) w where
 stays:=oe c w ρ _ _
 refs a' j' g' A' hg ee:=by
  obtain ⟨sl,k1,k2,k3⟩:=bd ee;obtain ⟨f,hf,hk⟩:=gR st s j A a';rw [hk] at k1
  cases hx:nth st a' with
  |none=>rw [hx] at k1;simp at k1
  |some x=>
   rw [hx] at k1;simp at k1;subst k1;rw [(hf x).2.2.2.1] at k2;rw [(hf x).2.2.2.2.1 j'] at k3
   by_cases e:a'=s∧j'=j
   ·rw [if_pos e] at k3;obtain ⟨rfl,rfl⟩:=e
    cases hq:nth x.aO j' with
    |none=>simp [hq] at k3
    |some A1=>
     simp only [hq,Option.map_some,Option.some.injEq] at k3;rcases h0 with h0 | h0
     ·obtain ⟨sl,k1',k2',k3'⟩:=bd h0;rw [hx] at k1';cases k1';obtain ⟨e1,e2⟩:=hA A' k3;refine ⟨A0,oU hx k2 k3',e1,e2,rfl,fun he => ?_⟩;rcases (DU st a' j' A a').2 he with h | h
      ·exact absurd rfl h
      ·rw [hx] at h;cases h
     ·rw [h0] at k3;cases k3
   ·rw [if_neg e] at k3;exact ⟨A',oU hx k2 k3,rfl,rfl,rfl,fun _=>⟨rfl,fun _ _ _ _=>rfl⟩⟩
 Bv b g' cs _ h:=⟨⟨cs,by rwa [Iq] at h⟩,rfl⟩
 gA a':=by rw [(DV st s j A a').1];exact Nat.le_refl _
 gB a':=by rw [(DV st s j A a').2];exact Nat.le_refl _
 gE a':=(DU st s j A a').1
theorem tQ.dJ {c:Cz} {st aZ:St} {w:World} {ρ:Lb→Lb} {bx:Nat→Nat} {lc:Nat→Nat→Loc} (hρ:CD ρ) (fj:Fw c st w (c.dJ ρ bx lc) aZ w) {s:Nat} {cs:List CV} (h:tQ c st w s cs) (hb:bx s=c.bx s):tQ (c.dJ ρ bx lc) aZ w s cs:=by
 refine h.go fj hb ?_ rfl;unfold Cz.dJ;simp only;rw [h.1];simp [hρ.other (.box s) (.inr rfl)]
theorem bO.dJ {c:Cz} {w:World} {ρ:Lb→Lb} {bx:Nat→Nat} {lc:Nat→Nat→Loc} (hρ:CD ρ) {s j:Nat} {A:gu} (h:bO c w s j A) (hl:lc s j=c.lc s j):bO (c.dJ ρ bx lc) w s j A:=by
 refine h.go (oe c w ρ bx lc) hl (fun b h0=>⟨rfl,?_⟩) (fun b _ _ h0 => ?_)
 ·unfold Cz.dJ;simp only;rw [h0];simp [hρ.other (.sp s j) (.inr rfl)]
 ·unfold Cz.dJ;simp only;rw [h0];simp [hρ.other (.sp s j) (.inr rfl)]
theorem rH:CD id:=⟨fun _ _=>rfl⟩
theorem kQ.kill {X:Lb→Prop} {w0:World} {mu:Mu} {c:Cz} {st:St} {a:Act} {w:World} (h:kQ X w0 mu c st a w) (s j:Nat):kQ (fun l=>X l∧l≠.sp s j) w0 mu (c.dJ id c.bx c.lc) (bl st s j none) a w∧Fw c st w (c.dJ id c.bx c.lc) (bl st s j none) w:=by
 have fj:Fw c st w (c.dJ id c.bx c.lc) (bl st s j none) w:=BI (g:=0) (A0:={ r:=.nil,own:=false,xs:=[] }) (.inr rfl) (fun _ e=>by cases e) id;refine ⟨h.dJ rH fj (fun t=>by rw [xd];exact fj.kP (h.ea t)) (fun k sl cs hX hs hb => ?_) (fun k i sl A hX hs hA => ?_),fj⟩
 ·obtain ⟨f,hf,hk⟩:=gR st s j none k;rw [hk] at hs
  cases hx:nth st k with
  |none=>rw [hx] at hs;simp at hs
  |some x=>
   rw [hx] at hs;simp at hs;subst hs;rw [(hf x).2.1] at hb;exact (h.boxes k x cs (fun F8=>hX ⟨F8,by simp⟩) hx hb).dJ rH fj rfl
 ·obtain ⟨f,hf,hk⟩:=gR st s j none k;rw [hk] at hs
  cases hx:nth st k with
  |none=>rw [hx] at hs;simp at hs
  |some x=>
   rw [hx] at hs;simp at hs;subst hs;rw [(hf x).2.2.2.2.1 i] at hA
   by_cases e:k=s∧i=j
   ·rw [if_pos e] at hA
    cases hq:nth x.aO i<;>simp [hq] at hA
   ·rw [if_neg e] at hA;exact (h.aO k i x A (fun F8=>hX ⟨F8,by rintro e';injection e' with e1 e2;exact e ⟨e1,e2⟩⟩) hx hA).dJ rH rfl
theorem kQ.mono {X X':Lb→Prop} {w0:World} {mu:Mu} {c:Cz} {st:St} {a:Act} {w:World} (h:kQ X w0 mu c st a w) (hX:∀l,X l→X' l):kQ X' w0 mu c st a w:=
 ⟨h.ea,fun s sl cs hn=>h.boxes s sl cs (fun h=>hn (hX _ h)),fun s j sl A hn=>h.aO s j sl A (fun h=>hn (hX _ h)),h.owned,h.free,h.kept,h.old,h.plain,h.cV,h.mq⟩
def pT (i z s j:Nat):Lb→Lb
 |.cf x y=>if x=i∧y=z then .sp s j else .cf x y
 |l=>l
def mw (i b:Nat):Lb→Lb
 |.cf x y=>if x=i then .sp b y else .cf x y
 |.sC x=>if x=i then .box b else .sC x
 |l=>l
theorem Hf (i z s j:Nat):CD (pT i z s j):=⟨fun l h=>by cases l<;>simp [pT,Lb.real] at h ⊢⟩
theorem Fp (i b:Nat):CD (mw i b):=⟨fun l h=>by cases l<;>simp [mw,Lb.real] at h ⊢⟩
theorem OwnAt.arr {c:Cz} {w:World} {l:Lb} {lc':Loc} {A:gu} {v:Value} (h:OwnAt c w l lc' A v) {ρ:Lb→Lb} {bx:Nat→Nat} {lc:Nat→Nat→Loc} {s j:Nat} (hl:lc s j=lc') (hρ:ρ l=.sp s j):bO (c.dJ ρ bx lc) w s j A:=by
 obtain ⟨_,_,h3,h4⟩:=h;unfold bO;show match lc s j with | .nil=>_ | .at b off cap=>_
 rw [hl]
 cases lc' with
 |nil=>exact h4
 |«at» b off cap=>
  obtain ⟨g1,g2,g3,g4⟩:=h4;rw [h3];have hq:∀k,c.own k=some l→(c.dJ ρ bx lc).own k=some (.sp s j):=by
   intro k hk;show (c.own k).map ρ=_;rw [hk];simp [hρ]
  exact ⟨hq b g1,g2,g3,g4.go (fun _=>oe c w ρ bx lc) rfl (fun _ k hk=>⟨rfl,hq k hk⟩) (fun _ k hk=>⟨rfl,Cz.lr.2 hk.1,by
   show (c.rs k).map ρ=_;rw [hk.2.1];simp [hρ],hk.2.2⟩)⟩
theorem kQ.io {X:Lb→Prop} {w0:World} {mu:Mu} {c:Cz} {st:St} {a:Act} {w:World} (h:kQ X w0 mu c st a w) {s j g i z:Nat} {A B:gu} {v:Value} (hA:aX st s j g=some A) (hw:B.r.width=A.r.width) (hn:B.xs.length=A.xs.length)
  (hB:OwnAt c w (.cf i z) (c.lc s j) B v):kQ (fun l=>X l∧l≠.sp s j) w0 mu (c.dJ (pT i z s j) c.bx c.lc) (bl st s j (some B)) a w∧Fw c st w (c.dJ (pT i z s j) c.bx c.lc) (bl st s j (some B)) w:=by
 have fj:Fw c st w (c.dJ (pT i z s j) c.bx c.lc) (bl st s j (some B)) w:=BI (.inl hA) (fun _ e=>by cases e;exact ⟨hw,hn⟩) _;have ht:=Hf i z s j;refine ⟨h.dJ ht fj (fun t=>by rw [xd];exact fj.kP (h.ea t)) (fun k sl cs hX hs hb => ?_) (fun k q sl A' hX hs ee => ?_),fj⟩
 ·obtain ⟨f,hf,hk⟩:=gR st s j (some B) k;rw [hk] at hs
  cases hx:nth st k with
  |none=>rw [hx] at hs;simp at hs
  |some x=>
   rw [hx] at hs;simp at hs;subst hs;rw [(hf x).2.1] at hb;exact (h.boxes k x cs (fun F8=>hX ⟨F8,by simp⟩) hx hb).dJ ht fj rfl
 ·obtain ⟨f,hf,hk⟩:=gR st s j (some B) k;rw [hk] at hs
  cases hx:nth st k with
  |none=>rw [hx] at hs;simp at hs
  |some x=>
   rw [hx] at hs;simp at hs;subst hs;rw [(hf x).2.2.2.2.1 q] at ee
   by_cases e:k=s∧q=j
   ·rw [if_pos e] at ee;obtain ⟨rfl,rfl⟩:=e
    cases hq:nth x.aO q with
    |none=>simp [hq] at ee
    |some A1=>
     simp only [hq,Option.map_some,Option.some.injEq] at ee;subst ee;exact hB.arr rfl (by simp [pT])
   ·rw [if_neg e] at ee;exact (h.aO k q x A' (fun F8=>hX ⟨F8,by rintro e';injection e' with e1 e2;exact e ⟨e1,e2⟩⟩) hx ee).dJ ht rfl
theorem bF.cells {c:Cz} {w:World} {f:Nat→Lb}:(os:List OV)→(j:Nat)→(vs:List Value)→bF c w f j os vs→
  ∃lcs:Nat→Loc,(∀k A,nth (bu os) k=some (some A)→∃v,OwnAt c w (f (j+k)) (lcs (j+k)) A v)∧
   ∀(c2:Cz) (gP:St) (d g:Nat),(∀b,c.ok b→c2.ok b)→(∀k,k<os.length→c2.lc d (j+k)=lcs (j+k))→(∀k A,k<os.length→aX gP d (j+k) g=some A→nth (bu os) k=some (some A))→g≤cK gP d→eM c2 gP w (bf d g j os) vs
 | [],j,vs,h=>by
  subst h;exact ⟨fun _=>.nil,fun k A hA=>by simp [bu] at hA,fun _ _ _ _ _ _ _ _=>⟨rfl,fun i x v hx=>by simp [bf] at hx⟩⟩
 |o::os,j,vs,h=>by
  obtain ⟨v,l,rfl,hh,qv⟩:∃v l,vs=v::l∧bF c w f (j+1) os l∧∃lc,(∀A,o.arr=some A→OwnAt c w (f j) lc A v)∧∀(c2:Cz) (gP:St) (d g:Nat),(∀b,c.ok b→c2.ok b)→c2.lc d j=lc→(∀A,aX gP d j g=some A→o.arr=some A)→g≤cK gP d→
    ∃x,bf d g j (o::os)=x::bf d g (j+1) os∧jh c2 gP w x v:=by
   cases o with
   |int k n=>obtain ⟨l,h1,h2⟩:=h;exact ⟨_,l,h1,h2,.nil,(fun _ e=>by cases e),fun c2 gP d g _ _ _ _=>⟨_,rfl,rfl⟩⟩
   |bool b=>obtain ⟨l,h1,h2⟩:=h;exact ⟨_,l,h1,h2,.nil,(fun _ e=>by cases e),fun c2 gP d g _ _ _ _=>⟨_,rfl,rfl⟩⟩
   |str b=>obtain ⟨l,h1,h2⟩:=h;exact ⟨_,l,h1,h2,.nil,(fun _ e=>by cases e),fun c2 gP d g _ _ _ _=>⟨_,rfl,rfl⟩⟩
   |dO=>obtain ⟨l,h1,h2⟩:=h;exact ⟨_,l,h1,h2,.nil,(fun _ e=>by cases e),fun c2 gP d g _ _ _ _=>⟨_,rfl,rfl⟩⟩
   |shr r xs=>
    obtain ⟨v,l,h1,h2,h3⟩:=h;exact ⟨v,l,h1,h3,.nil,(fun _ e=>by cases e),fun c2 gP d g fZ _ _ _=>⟨.shr r xs,rfl,bY.stays ⟨Nat.le_refl _,fun _ _ _=>rfl,fun b _ hb=>fZ b hb⟩ _ _ _ h2⟩⟩
   |lL r xs=>
    obtain ⟨v,l,h1,⟨b,o,e1,e2,e3,e4⟩,h3⟩:=h;exact ⟨v,l,h1,h3,.nil,(fun _ e=>by cases e),fun c2 gP d g fZ _ _ _=>⟨.ti r xs 0,rfl,b,o,e1,e2,fZ b e3,fun x hx=>cE.stays ⟨Nat.le_refl _,fun _ _ _=>rfl,fun b _ hb=>fZ b hb⟩ _ _ _ _ rfl (e4 x hx)⟩⟩
   |fn g rs xs=>
    obtain ⟨v,l,h1,h2,h3⟩:=h;exact ⟨v,l,h1,h3,.nil,(fun _ e=>by cases e),fun c2 gP d g' fZ _ _ _=>⟨.fn g rs xs,rfl,h2.stays ⟨Nat.le_refl _,fun _ _ _=>rfl,fun b _ hb=>fZ b hb⟩⟩⟩
   |own A=>
    obtain ⟨v,l,h1,⟨lc,h2⟩,h3⟩:=h;refine ⟨v,l,h1,h3,lc,(fun A' e=>by cases e;exact h2),fun c2 gP d g _ gN BH hg=>⟨.ref d j g .full,rfl,h2.1,hg,fun A' ee => ?_⟩⟩;have e:=BH A' ee
    cases e
    rw [gN];exact h2.2.1
  obtain ⟨lc,q1,q2⟩:=qv;obtain ⟨lcs,g1,g2⟩:=bF.cells os (j+1) l hh;refine ⟨fun k=>if k=j then lc else lcs k,fun k A' ee => ?_,fun c2 gP d g fZ gN BH hg => ?_⟩
  ·cases k with
   |zero=>
    simp only [bu,nth,Option.some.injEq] at ee;exact ⟨v,by simpa using q1 A' ee⟩
   |succ k=>
    have:=g1 k A' ee;rw [show j+1+k=j+(k+1) by omega] at this;show ∃v,OwnAt c w (f (j+(k+1))) (if j+(k+1)=j then lc else lcs (j+(k+1))) A' v;rw [if_neg (by omega)];exact this
  ·have fe:=g2 c2 gP d g fZ (fun k hk=>by
    have:c2.lc d (j+(k+1))=if j+(k+1)=j then lc else lcs (j+(k+1)):=gN (k+1) (by simp;exact hk)
    rw [if_neg (by omega)] at this;rw [show j+1+k=j+(k+1) by omega];exact this) (fun k A' hk ee=>by
     have:=BH (k+1) A' (by simp;exact hk) (by rw [show j+(k+1)=j+1+k by omega];exact ee);exact this) hg
   have h0:c2.lc d j=lc:=by
    have:=gN 0 (by simp);simpa using this
   obtain ⟨x,e1,e2⟩:=q2 c2 gP d g fZ h0 (fun A hA=>by
    have:=BH 0 A (by simp) hA;simpa [bu,nth] using this) hg
   rw [e1];refine ⟨by simp [fe.1],fun k y z hy hz => ?_⟩
   cases k with
   |zero=>
    simp only [List.getElem?_cons_zero,Option.some.injEq] at hy hz;subst hy hz;exact e2
   |succ k=>exact fe.2 k y z (by simpa using hy) (by simpa using hz)
theorem kQ.boxed {X:Lb→Prop} {w0:World} {mu:Mu} {c:Cz} {st:St} {a:Act} {w:World} (h:kQ X w0 mu c st a w) {b g i:Nat} {s0:Sl} {GZ:List CV} {os:List OV} {v:Value} (fT:nth st b=some s0) (Bq:cZ st b g=some GZ) (hv:v=.pointer (some ⟨c.bx b,0,none⟩))
  (hB:F4 c w i os v):∃c',kQ (fun l=>X l∧l≠.box b) w0 mu c' (lX (fun s=>{ s with box:=some (bf b (s0.ag+1) 0 os),aO:=bu os,ag:=s0.ag+1 }) st b) a w∧
   Fw c st w c' (lX (fun s=>{ s with box:=some (bf b (s0.ag+1) 0 os),aO:=bu os,ag:=s0.ag+1 }) st b) w∧Pass c c' (fun l=>(∀y,l≠.cf i y)∧l≠.sC i):=by
 obtain ⟨n5,vs,ty,h1,h2,h3,h4⟩:=hB;obtain ⟨lcs,g1,g2⟩:=bF.cells os 0 _ h4;rw [hv] at h1;have e:c.bx b=n5:=by injection h1 with h1;injection h1 with h1;injection h1
 obtain ⟨_,aa7,O9,Sc⟩:=im Bq;rw [fT] at aa7;cases aa7
 let c':=c.dJ (mw i b) c.bx (fun s j=>if s=b then lcs j else c.lc s j)
 let aZ:=lX (fun s=>{ s with box:=some (bf b (s0.ag+1) 0 os),aO:=bu os,ag:=s0.ag+1 }) st b
 have hn:∀s,nth aZ s=if s=b then some { s0 with box:=some (bf b (s0.ag+1) 0 os),aO:=bu os,ag:=s0.ag+1 } else nth st s:=by
  intro s;show nth (lX _ st b) s=_;rw [cU]
  by_cases e:s=b
  ·subst e;simp [fT]
  ·simp [e]
 have BJ:cK aZ b=s0.ag+1:=by unfold cK;rw [hn];simp
 have Ir:cK st b=s0.ag:=by unfold cK;rw [fT]
 have ht:=Fp i b;have fj:Fw c st w c' aZ w:={
  stays:=oe c w _ _ _
  refs:=fun a' j' g' A' hg ee=>by
   obtain ⟨sl,k1,k2,k3⟩:=bd ee;rw [hn] at k1
   by_cases e:a'=b
   ·rw [if_pos e] at k1
    cases k1
    subst e;simp only at k2;omega
   ·rw [if_neg e] at k1;exact ⟨A',oU k1 k2 k3,rfl,rfl,by show (if a'=b then _ else _)=_;rw [if_neg e],fun _=>⟨rfl,fun _ _ _ _=>rfl⟩⟩
  Bv:=fun b' g' lM hg JS=>by
   obtain ⟨sl,k1,k2,k3⟩:=im JS;rw [hn] at k1
   by_cases e:b'=b
   ·rw [if_pos e] at k1
    cases k1
    subst e;exact ⟨⟨GZ,by unfold cZ;rw [fT];simp at k2;simp [k2,Sc]⟩,rfl⟩
   ·rw [if_neg e] at k1;exact ⟨⟨lM,by unfold cZ;rw [k1];simp [k2,k3]⟩,rfl⟩
  gA:=fun a'=>by
   by_cases e:a'=b
   ·subst e;rw [BJ,Ir];omega
   ·unfold cK;rw [hn,if_neg e];exact Nat.le_refl _
  gB:=fun a'=>by
   by_cases e:a'=b
   ·subst e;unfold ff;rw [hn,if_pos rfl,fT];exact Nat.le_refl _
   ·unfold ff;rw [hn,if_neg e];exact Nat.le_refl _
  gE:=fun a'=>by
   by_cases e:a'=b
   ·subst e;unfold j7;rw [hn,if_pos rfl,fT];exact Nat.le_refl _
   ·unfold j7;rw [hn,if_neg e];exact Nat.le_refl _ }
 have Is:∀k A,aX aZ b k (s0.ag+1)=some A→nth (bu os) k=some (some A):=by
  intro k A hA;obtain ⟨sl,k1,k2,k3⟩:=bd hA;rw [hn,if_pos rfl] at k1
  cases k1
  exact k3
 refine ⟨c',h.dJ ht fj (fun t => ?_) (fun s sl cs hX hs hb => ?_) (fun s j sl A hX hs hA => ?_),fj,⟨fun k l hl hk => ?_,fun k hk=>Cz.lr.2 hk,fun k l hl hk => ?_⟩⟩
 ·have:bV aZ t=bV st t:=by
   unfold bV;rw [hn]
   by_cases e:t=b
   ·subst e;rw [if_pos rfl,fT]
   ·rw [if_neg e]
  rw [this];exact fj.kP (h.ea t)
 ·rw [hn] at hs
  by_cases e':s=b
  ·subst e';rw [if_pos rfl] at hs
   cases hs
   simp only [Option.some.injEq] at hb;subst hb;refine ⟨?_,vs,ty,by show w.heap[c.bx s]?=_;rw [e];exact h3,?_⟩
   ·show (c.own (c.bx s)).map (mw i s)=some (.box s);rw [e,h2];simp [mw]
   ·exact g2 c' aZ s (s0.ag+1) (fun b hb=>Cz.lr.2 hb) (fun k _=>by show (if s=s then _ else _)=_;rw [if_pos rfl]) (fun k A _ hA=>Is k A (by simpa using hA)) (by rw [BJ];exact Nat.le_refl _)
  ·rw [if_neg e'] at hs;exact (h.boxes s sl cs (fun F8=>hX ⟨F8,by rintro e2;injection e2 with e2;exact e' e2⟩) hs hb).dJ ht fj rfl
 ·rw [hn] at hs
  by_cases e':s=b
  ·subst e';rw [if_pos rfl] at hs
   cases hs
   obtain ⟨v',nY⟩:=g1 j A hA;exact nY.arr (by simp) (by simp [mw])
  ·rw [if_neg e'] at hs;exact (h.aO s j sl A (fun F8=>hX ⟨F8,by simp⟩) hs hA).dJ ht (by simp [e'])
 ·show (c.own k).map (mw i b)=_;rw [hk];simp only [Option.map_some,Option.some.injEq]
  cases l with
  |cf x y=>simp only [mw];rw [if_neg];rintro rfl;exact hl.1 y rfl
  |sC x=>simp only [mw];rw [if_neg];rintro rfl;exact hl.2 rfl
  |_=>rfl
 ·show (c.rs k).map (mw i b)=_;rw [hk];simp only [Option.map_some,Option.some.injEq]
  cases l with
  |cf x y=>simp only [mw];rw [if_neg];rintro rfl;exact hl.1 y rfl
  |sC x=>simp only [mw];rw [if_neg];rintro rfl;exact hl.2 rfl
  |_=>rfl
end Go.TM
namespace Go.TM
open Go Go.RowKit
def Lb.AD:Lb→Option Lb
 |.cf i j=>some (.cf i j)
 |.sC i=>some (.sC i)
 |.ja j=>some (.ja j)
 |_=>none
noncomputable def Cz.merge (c c1:Cz) (n:Nat) (m r:Nat→Prop):Cz:=
 {
  bx:=c.bx,lc:=c.lc,own:=fun b=>have:=Classical.propDecidable (b<n∧¬m b);if b<n∧¬m b then c.own b else (c1.own b).bind Lb.AD,
  rs:=fun b=>have:=Classical.propDecidable (b<n∧¬m b∧¬r b);if b<n∧¬m b∧¬r b then c.rs b else (c1.rs b).bind Lb.AD }
theorem Cz.AE {c c1:Cz} {n:Nat} {m r:Nat→Prop} {b:Nat} (h:b<n∧¬m b∧¬r b):(c.merge c1 n m r).rs b=c.rs b:=by
 unfold Cz.merge;simp only;rw [if_pos h]
theorem Cz.AF {c c1:Cz} {n:Nat} {m r:Nat→Prop} {b:Nat} (h:¬(b<n∧¬m b∧¬r b)):(c.merge c1 n m r).rs b=(c1.rs b).bind Lb.AD:=by
 unfold Cz.merge;simp only;rw [if_neg h]
theorem Cz.qX {c c1:Cz} {n:Nat} {m r:Nat→Prop} {b:Nat} (h:b<n∧¬m b):(c.merge c1 n m r).own b=c.own b:=by
 unfold Cz.merge;simp only;rw [if_pos h]
theorem Cz.x5 {c c1:Cz} {n:Nat} {m r:Nat→Prop} {b:Nat} (h:¬(b<n∧¬m b)):(c.merge c1 n m r).own b=(c1.own b).bind Lb.AD:=by
 unfold Cz.merge;simp only;rw [if_neg h]
theorem M1 {u:List Lb} {a j:Nat} (h:Lb.sp a j∈u):nf u a=true:=by
 unfold nf;exact List.any_eq_true.2 ⟨_,h,by simp⟩
theorem F9 (u:List Lb):(st:St)→(a s:Nat)→nth (qt u a st) s=(nth st s).map fun x=>bif nf u (a+s) then { x with ep:=x.ep+1 } else x
 | [],_,_=>rfl
 |x::l,a,0=>rfl
 |x::l,a,s+1=>by
  show nth (qt u (a+1) l) s=_;rw [F9 u l (a+1) s,show a+1+s=a+(s+1) by omega];rfl
theorem rI (u:List Lb) (st:St) (s:Nat):nth (qt u 0 st) s=(nth st s).map fun x=>bif nf u s then { x with ep:=x.ep+1 } else x:=by
 rw [F9,Nat.zero_add]
theorem M3 (u:List Lb) (st:St) (t:Nat):bV (qt u 0 st) t=bV st t:=by
 unfold bV;rw [rI]
 cases nth st t<;>cases nf u t<;>rfl
theorem M4 (u:List Lb) (st:St) (a j g:Nat):aX (qt u 0 st) a j g=aX st a j g:=by
 unfold aX;rw [rI]
 cases nth st a<;>cases nf u a<;>rfl
theorem M5 (u:List Lb) (st:St) (b g:Nat):cZ (qt u 0 st) b g=cZ st b g:=by
 unfold cZ;rw [rI]
 cases nth st b<;>cases nf u b<;>rfl
theorem It (u:List Lb) (st:St) (a:Nat):cK (qt u 0 st) a=cK st a∧ff (qt u 0 st) a=ff st a:=by
 unfold cK ff;rw [rI]
 cases nth st a<;>cases nf u a<;>exact ⟨rfl,rfl⟩
theorem Iu (u:List Lb) (st:St) (a:Nat):j7 st a≤j7 (qt u 0 st) a∧(j7 (qt u 0 st) a=j7 st a→nth st a=none∨nf u a=false):=by
 unfold j7;rw [rI]
 cases nth st a<;>cases nf u a<;>simp
theorem Rel.aa8 {w0:World} {mu:Mu} {c:Cz} {st:St} {a:Act} {w:World} (h:Rel w0 mu c st a w) {μ:Mu} {c1:Cz} {w':World} (hb:Dj w μ c1 w') {X:Lb→Prop} (hm:∀b,μ.m b→∃l,c.own b=some l∧X l) (hr:∀b,μ.rs b→∃l,c.rs b=some l∧X l) (hX:∀l,X l→l≠.out) {u:List Lb} (hu:∀a j,X (.sp a j)→nf u a=true) :
  kQ X w0 mu (c.merge c1 w.heap.size μ.m μ.rs) (qt u 0 st) a w'∧Fw c st w (c.merge c1 w.heap.size μ.m μ.rs) (qt u 0 st) w'∧(∀b l,c.own b=some l→¬X l→w'.heap[b]?=w.heap[b]?∧(c.merge c1 w.heap.size μ.m μ.rs).own b=c.own b)∧(∀b l,l.AD=some l→c1.own b=some l→(c.merge c1 w.heap.size μ.m μ.rs).own b=some l)∧((∀b,μ.ok b→c.own b=none)→∀b,c1.ok b→(c.merge c1 w.heap.size μ.m μ.rs).ok b)∧(∀b l,l.AD=some l→c1.rs b=some l→(c.merge c1 w.heap.size μ.m μ.rs).rs b=some l):=by
 have jP:w.heap.size≤w'.heap.size:=hb.kept.2.2.2;have rn:iD w w' c.ok (c.merge c1 w.heap.size μ.m μ.rs).ok:={
  size:=jP
  block:=fun b cA fZ=>hb.old b cA (fun Br=>by
   obtain ⟨l,hl,_⟩:=hm b Br;unfold Cz.ok at fZ;rw [fZ] at hl;cases hl)
  ok:=fun b cA fZ=>by
   unfold Cz.ok;rw [Cz.qX ⟨cA,fun Br=>by
    obtain ⟨l,hl,_⟩:=hm b Br;unfold Cz.ok at fZ;rw [fZ] at hl;cases hl⟩]
   exact fZ }
 have keep:∀b l,c.own b=some l→¬X l→w'.heap[b]?=w.heap[b]?∧(c.merge c1 w.heap.size μ.m μ.rs).own b=c.own b:=by
  intro b l hl hn;have cA:=(h.owned b l hl).1;have Br:¬μ.m b:=fun Br=>by
   obtain ⟨l',wK,hx⟩:=hm b Br;rw [hl] at wK;cases wK;exact hn hx
  exact ⟨hb.old b cA Br,Cz.qX ⟨cA,Br⟩⟩
 have fj:Fw c st w (c.merge c1 w.heap.size μ.m μ.rs) (qt u 0 st) w':={
  stays:=rn
  refs:=fun a' j g A' _ hA=>by
   rw [M4] at hA;refine ⟨A',hA,rfl,rfl,rfl,fun he => ?_⟩;rcases (Iu u st a').2 he with e | e
   ·unfold aX at hA;rw [e] at hA
    cases hA
   ·have eH:∀j,¬X (.sp a' j):=fun j hx=>by rw [hu a' j hx] at e;cases e
    obtain ⟨CA,fT,_,JT⟩:=bd hA;have h0:=h.aO a' j CA A' fT JT;refine ⟨rfl,fun b o cap gN => ?_⟩;unfold bO at h0;rw [gN] at h0;have h1:=h0.1
    cases dR:A'.own with
    |true=>
     rw [dR] at h1;exact (keep b _ h1 (eH j)).1
    |false=>
     rw [dR] at h1;exact rn.block b (by obtain ⟨_,_,⟨cur,te,h3,_⟩,_⟩:=h0;exact (Array.getElem?_eq_some_iff.1 h3).1) h1
  Bv:=fun b g cs _ hc=>⟨⟨cs,by rwa [M5] at hc⟩,rfl⟩
  gA:=fun a'=>by rw [(It u st a').1];exact Nat.le_refl _
  gB:=fun a'=>by rw [(It u st a').2];exact Nat.le_refl _
  gE:=fun a'=>(Iu u st a').1 }
 refine ⟨⟨fun t=>by rw [M3];exact fj.kP (h.ea t),fun s sl cs hn hs Bq => ?_,fun s j sl A hn hs hA => ?_,fun b l hl => ?_,fun b cA hl => ?_,?_,fun k hk hmu => ?_,h.plain,fun p hp=>fj.cV (h.cV p hp),fun b l hl => ?_⟩,fj,keep,fun b l hk hl => ?_,fun fZ b h1 => ?_,fun b l hk hl => ?_⟩
 ·rw [rI] at hs;obtain ⟨CA,fT,rfl⟩:=Option.map_eq_some_iff.1 hs;have h0:=h.boxes s CA cs fT (by cases hq:nf u s<;>rw [hq] at Bq<;>exact Bq);obtain ⟨k1,k2⟩:=keep _ _ h0.1 hn;exact h0.go fj rfl k2 k1
 ·rw [rI] at hs;obtain ⟨CA,fT,rfl⟩:=Option.map_eq_some_iff.1 hs;have h0:=h.aO s j CA A fT (by cases hq:nf u s<;>rw [hq] at hA<;>exact hA);exact h0.go rn rfl (fun b g1=>keep b _ g1 hn) (fun b g1 g2 g3=>by
   have k1:¬μ.m b:=fun Br=>by
    obtain ⟨l,hl,_⟩:=hm b Br;rw [g1] at hl;cases hl
   have k2:¬μ.rs b:=fun hr'=>by
    obtain ⟨l,hl,hx⟩:=hr b hr';rw [g3] at hl;cases hl;exact hn hx
   rw [Cz.AE ⟨g2,k1,k2⟩];exact g3)
 ·by_cases e:b<w.heap.size∧¬μ.m b
  ·rw [Cz.qX e] at hl;have:=h.owned b l hl;exact ⟨Nat.lt_of_lt_of_le this.1 jP,this.2⟩
  ·rw [Cz.x5 e] at hl;obtain ⟨k,hk,e2⟩:=Option.bind_eq_some_iff.1 hl;obtain ⟨g1,g2⟩:=hb.owned b k hk;refine ⟨g1,.inr ?_⟩;have uP:k≠.out:=by rintro rfl;simp [Lb.AD] at e2
   by_cases cA:b<w.heap.size
   ·have Br:μ.m b:=Classical.not_not.1 (fun h=>e ⟨cA,h⟩);obtain ⟨l',wK,hx⟩:=hm b Br;rcases (h.owned b l' wK).2 with q | q
    ·exact absurd q (hX l' hx)
    ·exact q
   ·have:=h.kept.2.2.2;exact .inl (by omega)
 ·by_cases e:b<w.heap.size∧¬μ.m b
  ·rw [Cz.qX e] at hl;exact h.free b cA hl
  ·have U3:b<w.heap.size:=Nat.lt_of_lt_of_le cA h.kept.2.2.2;have Br:μ.m b:=Classical.not_not.1 (fun h=>e ⟨U3,h⟩);obtain ⟨l',wK,hx⟩:=hm b Br;rcases (h.owned b l' wK).2 with q | q | q
   ·exact absurd q (hX l' hx)
   ·omega
   ·exact .inl q
 ·exact ⟨hb.kept.1.trans h.kept.1,hb.kept.2.1.trans h.kept.2.1,hb.kept.2.2.1.trans h.kept.2.2.1,Nat.le_trans h.kept.2.2.2 jP⟩
 ·have U3:k<w.heap.size:=Nat.lt_of_lt_of_le hk h.kept.2.2.2;rw [hb.old k U3 (fun Br => ?_)]
  ·exact h.old k hk hmu
  ·obtain ⟨l',wK,hx⟩:=hm k Br;rcases (h.owned k l' wK).2 with q | q | q
   ·exact hX l' hx q
   ·omega
   ·exact hmu q
 ·by_cases e:b<w.heap.size∧¬μ.m b∧¬μ.rs b
  ·rw [Cz.AE e] at hl;have:=h.mq b l hl;exact ⟨Nat.lt_of_lt_of_le this.1 jP,this.2⟩
  ·rw [Cz.AF e] at hl;obtain ⟨k,hk,_⟩:=Option.bind_eq_some_iff.1 hl;obtain ⟨g1,g2⟩:=hb.mq b k hk;refine ⟨g1,?_⟩;rcases g2 with q | q | q
   ·have:=h.kept.2.2.2;exact .inl (by omega)
   ·obtain ⟨l',wK,hx⟩:=hm b q;rcases (h.owned b l' wK).2 with q | q
    ·exact absurd q (hX l' hx)
    ·exact q.imp id .inl
   ·obtain ⟨l',wK,_⟩:=hr b q;exact (h.mq b l' wK).2
 ·rw [Cz.x5 (fun e => ?_),hl]
  ·exact hk
  ·rcases (hb.owned b l hl).2 with q | q | q
   ·subst q;simp [Lb.AD] at hk
   ·omega
   ·exact e.2 q
 ·unfold Cz.ok at h1 ⊢
  by_cases e:b<w.heap.size∧¬μ.m b
  ·rw [Cz.qX e];rcases hb.free b e.1 h1 with q | q
   ·exact absurd q e.2
   ·exact fZ b q
  ·rw [Cz.x5 e,h1];rfl
 ·rw [Cz.AF (fun e => ?_),hl]
  ·exact hk
  ·rcases (hb.mq b l hl).2 with q | q | q
   ·omega
   ·exact e.2.1 q
   ·exact e.2.2 q
theorem Cz.Iv (c:Cz) (bx:Nat→Nat) (lc:Nat→Nat→Loc):(c.dJ id bx lc).own=c.own:=by
 funext b
 unfold Cz.dJ;simp
theorem zh {w0:World} {mu:Mu} {a:Act} {w:World}:(ks:List Lb)→{X:Lb→Prop}→{c:Cz}→{st:St}→kQ X w0 mu c st a w→
  ∃c',kQ (fun l=>X l∧∀s j,Lb.sp s j∈ks→l≠.sp s j) w0 mu c' (oQ st ks) a w∧Fw c st w c' (oQ st ks) w∧c'.own=c.own∧c'.rs=c.rs
 | [],X,c,st,h=>⟨c,h.mono (fun l hl=>⟨hl,by simp⟩),Fw.refl c st w,rfl,rfl⟩
 |k::ks,X,c,st,h=>by
  have skip:oQ st (k::ks)=oQ st ks→(∀s j,k≠.sp s j)→∃c',kQ (fun l=>X l∧∀s j,Lb.sp s j∈k::ks→l≠.sp s j) w0 mu c' (oQ st (k::ks)) a w∧Fw c st w c' (oQ st (k::ks)) w∧c'.own=c.own∧c'.rs=c.rs:=by
   intro e hk;obtain ⟨c',h1,h2,h3⟩:=zh ks h;rw [e];refine ⟨c',h1.mono (fun l hl=>⟨hl.1,fun s j hm => ?_⟩),h2,h3⟩;rcases List.mem_cons.1 hm with e2 | hm
   ·exact absurd e2.symm (hk s j)
   ·exact hl.2 s j hm
  cases k with
  |sp s j=>
   obtain ⟨h1,h2⟩:=h.kill s j;obtain ⟨c',h3,h4,h5⟩:=zh ks h1;refine ⟨c',h3.mono (fun l hl=>⟨hl.1.1,fun s' j' hm => ?_⟩),h2.trans h4,h5.1.trans (Cz.Iv _ _ _),h5.2.trans (by funext b;unfold Cz.dJ;simp)⟩;rcases List.mem_cons.1 hm with e2 | hm
   ·cases e2;exact hl.1.2
   ·exact hl.2 s' j' hm
  |_=>exact skip rfl (by simp)
def BK (m:Pm):V→List Lb
 |.one (.ptr b _ _)=>[.box b]
 |.one (.ref a j _ _)=>match m with
  |.io=>[.sp a j]
  |_=>[]
 |.agg cs=>match m with
  |.bR=>cs.filterMap fun x=>match x with | .ref a j _ _=>some (.sp a j) | _=>none
  |_=>[]
 |_=>[]
def PH (st:St) (m:Pm×V) (av:AV):Prop:=∃u q r,eg st m.1 m.2=some (av,u,q,r)
theorem Iw {st:St} {own:Bool}:(cs:List CV)→{os:List OV}→{u:List (Option Lb)}→{r:List (Nat×Nat)}→eG st own cs=some (os,u,r)→∀(k:Nat) {a j g:Nat} ,cs[k]?=some (.ref a j g .full)→os[k]?=(aX st a j g).map fun A=>bif own&&A.own then .own A else .shr A.r A.xs
 | [],_,_,_,h=>by intro k a j g hk;simp at hk
 |x::cs,os,u,r,h=>by
  unfold eG at h
  cases hc:eF st own x with
  |none=>simp [hc] at h
  |some p=>
   obtain ⟨o,u1,r1⟩:=p
   cases hq:eG st own cs with
   |none=>simp [hc,hq] at h
   |some q=>
    obtain ⟨Ax,us,rs⟩:=q;simp only [hc,hq,Option.some.injEq,Prod.mk.injEq] at h;obtain ⟨rfl,rfl,_⟩:=h;intro k a j g hk
    cases k with
    |succ k=>simpa using Iw cs hq k (by simpa using hk)
    |zero=>
     simp only [List.getElem?_cons_zero,Option.some.injEq] at hk;subst hk;unfold eF at hc;simp only at hc
     cases hA:aX st a j g with
     |none=>simp [hA] at hc
     |some A=>
      simp only [hA] at hc
      cases hm:A.md.Fc with
      |true=>simp [hm] at hc
      |false=>
      simp only [hm,cond_false,View.isFull,Bool.or_true,Bool.and_true] at hc
      cases hb:(own&&A.own)<;>simp only [hb,cond_true,cond_false,Option.some.injEq,Prod.mk.injEq] at hc<;>obtain ⟨rfl,_⟩:=hc<;>simp [hb,View.app]
theorem DW {w0 wb:World} {mu:Mu} {a:Act} {w:World} {c0:Cz} {wM:St} {i:Nat} {As:List (Option gu)}:(cs:List CV)→(j0:Nat)→(us:List Value)→{X:Lb→Prop}→{c:Cz}→{st aZ:St}→kQ X w0 mu c st a w→Fw c0 wM wb c st w→
  (∀(k:Nat) (x:CV) (v:Value),cs[k]?=some x→us[k]?=some v→jh c0 wM wb x v)→
  (∀(k s j g:Nat) (vw:View),cs[k]?=some (.ref s j g vw)→∃A B u,aX wM s j g=some A∧nth As (j0+k)=some (some B)∧us[k]?=some u∧B.r.width=A.r.width∧B.xs.length=A.xs.length∧OwnAt c w (.cf i (j0+k)) (c0.lc s j) B u)→
  Dw st j0 cs As=some aZ→
  ∃c',kQ (fun l=>X l∧∀s j g vw,CV.ref s j g vw∈cs→l≠.sp s j) w0 mu c' aZ a w∧Fw c0 wM wb c' aZ w∧Pass c c' (fun l=>∀y,l≠.cf i y)
 | [],j0,us,X,c,st,aZ,h,fj,_,_,hv=>by
  simp only [Dw,Option.some.injEq] at hv;subst hv;exact ⟨c,h.mono (fun l hl=>⟨hl,by simp⟩),fj,⟨fun _ _ _ h=>h,fun _ h=>h,fun _ _ _ h=>h⟩⟩
 |x::cs,j0,us,X,c,st,aZ,h,fj,hr,hB,hv=>by
  have skip:(∀s j g vw,x≠.ref s j g vw)→Dw st (j0+1) cs As=some aZ→∃c',kQ (fun l=>X l∧∀s j g vw,CV.ref s j g vw∈x::cs→l≠.sp s j) w0 mu c' aZ a w∧Fw c0 wM wb c' aZ w∧Pass c c' (fun l=>∀y,l≠.cf i y):=by
   intro hx hv;obtain ⟨c',g1,g2,g3⟩:=DW (i:=i) cs (j0+1) us.tail h fj (fun k y v hk hv=>hr (k+1) y v (by simpa using hk) (by simpa using hv)) (fun k s j g vw hk=>by
    obtain ⟨A,B,u,q1,q2,q3,q4,q5,q6⟩:=hB (k+1) s j g vw (by simpa using hk);refine ⟨A,B,u,q1,by rw [show j0+1+k=j0+(k+1) by omega];exact q2,by simpa using q3,q4,q5,by rw [show j0+1+k=j0+(k+1) by omega];exact q6⟩) hv
   refine ⟨c',g1.mono (fun l hl=>⟨hl.1,fun s j g vw hm => ?_⟩),g2,g3⟩;rcases List.mem_cons.1 hm with e | hm
   ·exact absurd e.symm (hx s j g vw)
   ·exact hl.2 s j g vw hm
  cases x with
  |ref s j g vw=>
   unfold Dw at hv
   split at hv
   ·rename_i B A1 UJ UT;obtain ⟨A,B',u,q1,q2,q3,q4,q5,q6⟩:=hB 0 s j g vw rfl;rw [Nat.add_zero] at q2 q6;rw [UJ] at q2;simp only [Option.some.injEq] at q2;subst q2;have hr0:=hr 0 _ u rfl q3;obtain ⟨A0',p1,p2,p3,p4,_⟩:=fj.refs s j g A1 hr0.2.1 UT;rw [q1] at p1;cases p1;have hO':OwnAt c w (.cf i j0) (c.lc s j) B u:=by rw [p4];exact q6
    obtain ⟨g1,g2⟩:=h.io UT (q4.trans p2.symm) (q5.trans p3.symm) hO';have hpq:∀l,l≠.cf i j0→pT i j0 s j l=l:=by
     intro l hl
     cases l with
     |cf x y=>simp only [pT];rw [if_neg];rintro ⟨rfl,rfl⟩;exact hl rfl
     |_=>rfl
    have CE:Pass c (c.dJ (pT i j0 s j) c.bx c.lc) (fun l=>l≠.cf i j0):=⟨fun b l hl hb=>by
     show (c.own b).map _=_;rw [hb];simp [hpq l hl],fun b hb=>Cz.lr.2 hb,fun b l hl hb=>by
     show (c.rs b).map _=_;rw [hb];simp [hpq l hl]⟩
    obtain ⟨c',k1,k2,k3⟩:=DW (i:=i) cs (j0+1) us.tail g1 (fj.trans g2) (fun k y v hk hv=>hr (k+1) y v (by simpa using hk) (by simpa using hv)) (fun k s' j' g' vw' hk=>by
     obtain ⟨A,B,u,q1,q2,q3,q4,q5,q6⟩:=hB (k+1) s' j' g' vw' (by simpa using hk);refine ⟨A,B,u,q1,by rw [show j0+1+k=j0+(k+1) by omega];exact q2,by simpa using q3,q4,q5,?_⟩;rw [show j0+1+k=j0+(k+1) by omega];exact q6.pass (fun b=>CE.keeps (by simp) b) (.inl fun b hb=>Cz.lr.2 hb)) hv
    refine ⟨c',k1.mono (fun l hl=>⟨hl.1.1,fun s' j' g' vw' hm => ?_⟩),k2,⟨fun b l hl hb=>k3.cf b l hl (CE.cf b l (hl j0) hb),fun b hb=>k3.ok b (Cz.lr.2 hb),fun b l hl hb=>k3.rz b l hl (CE.rz b l (hl j0) hb)⟩⟩;rcases List.mem_cons.1 hm with e | hm
    ·cases e;exact hl.1.2
    ·exact hl.2 s' j' g' vw' hm
   ·cases hv
  |_=>exact skip (by simp) hv
theorem tZ {l:Lb} (i:Nat) (h:(∃j,l=.ja j)∨l.real=true):∀y,l≠.cf i y:=by
 rcases h with ⟨j,rfl⟩ | h
 ·simp
 ·rintro y rfl;simp [Lb.real] at h
theorem Ga {l:Lb} (i:Nat) (h:(∃j,l=.ja j)∨l.real=true):(∀y,l≠.cf i y)∧l≠.sC i:=by
 refine ⟨tZ i h,?_⟩;rcases h with ⟨j,rfl⟩ | h
 ·simp
 ·rintro rfl;simp [Lb.real] at h
theorem DX {w0 wb:World} {mu:Mu} {a:Act} {w:World} {c0:Cz} {wM:St} {lc:Nat→Nat→Loc}:(ms:List (Pm×V))→(i:Nat)→(dX:List AV)→(xs:List Value)→(es:List XV)→{X:Lb→Prop}→{c:Cz}→{st aZ:St}→kQ X w0 mu c st a w→Fw c0 wM wb c st w→
  (∀(k:Nat) (m:Pm×V) (x:Value),ms[k]?=some m→xs[k]?=some x→ej c0 wM wb m.2 x)→(∀(k:Nat) (m:Pm×V) (av:AV),ms[k]?=some m→dX[k]?=some av→PH wM m av)→ms.length=dX.length→ms.length=xs.length→(∀(k:Nat) (m:Pm×V),ms[k]?=some m→lc (i+k)=CC c0 m.2)→
  jk c w lc i dX xs es→uH st ms es=some aZ→
  ∃c',kQ (fun l=>X l∧∀m∈ms,l∉BK m.1 m.2) w0 mu c' aZ a w∧Fw c0 wM wb c' aZ w∧Pass c c' (fun l=>(∃j,l=.ja j)∨l.real=true)
 | [],i,dX,xs,es,X,c,st,aZ,h,fj,_,_,_,_,_,hx,hv=>by
  cases es with
  |nil=>
   simp only [uH,Option.some.injEq] at hv;subst hv;exact ⟨c,h.mono (fun l hl=>⟨hl,by simp⟩),fj,⟨fun _ _ _ h=>h,fun _ h=>h,fun _ _ _ h=>h⟩⟩
  |cons _ _=>simp [uH] at hv
 |(m,v)::ms,i,[],xs,es,X,c,st,aZ,h,fj,hr,he,hn,hn2,gN,hx,hv=>by simp at hn
 |(m,v)::ms,i,av::dX,[],es,X,c,st,aZ,h,fj,hr,he,hn,hn2,gN,hx,hv=>by simp at hn2
 |(m,v)::ms,i,av::dX,x::xs,es,X,c,st,aZ,h,fj,hr,he,hn,hn2,gN,hx,hv=>by
  have hr0:=hr 0 (m,v) x rfl rfl;obtain ⟨u,q,r,qy⟩:=he 0 (m,v) av rfl rfl;have Pk:=gN 0 (m,v) rfl;simp only [Nat.add_zero] at Pk;have hr':∀(k:Nat) (m:Pm×V) (x:Value),ms[k]?=some m→xs[k]?=some x→ej c0 wM wb m.2 x:=fun k m' x' h1 h2=>hr (k+1) m' x' (by simpa using h1) (by simpa using h2)
  have MB:∀(k:Nat) (m:Pm×V) (av:AV),ms[k]?=some m→dX[k]?=some av→PH wM m av:=fun k m' x' h1 h2=>he (k+1) m' x' (by simpa using h1) (by simpa using h2)
  have MM:∀(k:Nat) (m:Pm×V),ms[k]?=some m→lc (i+1+k)=CC c0 m.2:=fun k m' h1=>by
   have:=gN (k+1) m' (by simpa using h1)
   rwa [show i+(k+1)=i+1+k by omega] at this
  have MJ:ms.length=dX.length:=by simpa using hn
  have agx:ms.length=xs.length:=by simpa using hn2
  unfold uH at hv
  cases hb:qp st m v es with
  |none=>simp [hb] at hv
  |some p=>
   obtain ⟨xU,es1⟩:=p;simp only [hb] at hv;have go:∀ {X1:Lb→Prop} {c1:Cz},kQ X1 w0 mu c1 xU a w→Fw c0 wM wb c1 xU w→(∀l,X1 l→X l∧l∉BK m v)→jk c1 w lc (i+1) dX xs es1→Pass c c1 (fun l=>(∃j,l=.ja j)∨l.real=true)→
     ∃c',kQ (fun l=>X l∧∀m'∈(m,v)::ms,l∉BK m'.1 m'.2) w0 mu c' aZ a w∧Fw c0 wM wb c' aZ w∧Pass c c' (fun l=>(∃j,l=.ja j)∨l.real=true):=by
    intro X1 c1 g1 g2 g3 g4 g5;obtain ⟨c',k1,k2,k3⟩:=DX ms (i+1) dX xs es1 g1 g2 hr' MB MJ agx MM g4 hv;refine ⟨c',k1.mono (fun l hl=>⟨(g3 l hl.1).1,fun m' Br => ?_⟩),k2,⟨fun b l hl hb=>k3.cf b l hl (g5.cf b l hl hb),fun b hb=>k3.ok b (g5.ok b hb),fun b l hl hb=>k3.rz b l hl (g5.rz b l hl hb)⟩⟩;rcases List.mem_cons.1 Br with rfl | Br
    ·exact (g3 l hl.1).2
    ·exact hl.2 m' Br
   have jl:BK m v=[]→xU=st→es1=es→(∃ag os,av=.val ag os)→∃c',kQ (fun l=>X l∧∀m'∈(m,v)::ms,l∉BK m'.1 m'.2) w0 mu c' aZ a w∧Fw c0 wM wb c' aZ w∧Pass c c' (fun l=>(∃j,l=.ja j)∨l.real=true):=by
    rintro e1 rfl rfl ⟨ag,os,rfl⟩
    exact go h fj (fun l hl=>⟨hl,by rw [e1];simp⟩) hx ⟨fun _ _ _ h=>h,fun _ h=>h,fun _ _ _ h=>h⟩
   cases v with
   |m9 us=>simp [eg] at qy
   |agg cs=>
    have pU:∀u q r,(match eG wM m.nd cs with | some (os,u,r)=>some (AV.val true os,cg u,cg u,r) | none=>none)=some (av,u,q,r)→∃ag os,av=.val ag os:=by
     intro u q r qy
     cases hq:eG wM m.nd cs with
     |none=>simp [hq] at qy
     |some p=>
      obtain ⟨os,us,rs⟩:=p;simp only [hq,Option.some.injEq,Prod.mk.injEq] at qy;exact ⟨_,_,qy.1.symm⟩
    unfold eg at qy
    cases m with
    |shr=>
     simp only [qp,Option.some.injEq,Prod.mk.injEq] at hb;exact jl rfl hb.1.symm hb.2.symm (pU _ _ _ qy)
    |own=>
     simp only [qp,Option.some.injEq,Prod.mk.injEq] at hb;exact jl rfl hb.1.symm hb.2.symm (pU _ _ _ qy)
    |pick _=>
     simp only [qp,Option.some.injEq,Prod.mk.injEq] at hb;exact jl rfl hb.1.symm hb.2.symm (pU _ _ _ qy)
    |soft _=>
     simp only [qp,Option.some.injEq,Prod.mk.injEq] at hb;exact jl rfl hb.1.symm hb.2.symm (pU _ _ _ qy)
    |io=>
     simp only [qp,Option.some.injEq,Prod.mk.injEq] at hb;exact jl rfl hb.1.symm hb.2.symm (pU _ _ _ qy)
    |bR=>
     simp only at qy
     cases hq:eG wM true cs with
     |none=>simp [hq] at qy
     |some p=>
      obtain ⟨os,us,rs⟩:=p;simp only [hq] at qy;obtain ⟨mI,yy⟩:=aK qy;simp only [Option.some.injEq,Prod.mk.injEq] at yy;obtain ⟨rfl,_⟩:=yy;obtain ⟨As,l,rfl,⟨us',rfl,hX⟩,fe⟩:=hx;unfold qp at hb;obtain ⟨gP,PI,e2⟩:=Option.map_eq_some_iff.1 hb;injection e2 with e2 e3;subst e2 e3;obtain ⟨vs0,e0,hl0⟩:=hr0;injection e0 with e0;subst e0;obtain ⟨c1,g1,g2,g3⟩:=DW (i:=i) (As:=As) cs 0 us'.toList h fj (fun k x v hk hv=>hl0.2 k x v hk (by simpa using hv)) (fun k s j g vw hk=>by
       have yx:=List.mem_of_getElem? hk;have BF:=List.all_eq_true.1 mI _ yx;unfold O1 at BF;rw [Bool.and_eq_true] at BF
       cases hA:aX wM s j g with
       |none=>rw [hA] at BF;cases BF.2
       |some A=>
        have PG:vw=.full:=by
         cases vw with
         |full=>rfl
         |«from» _=>cases BF.1
         |sub _ _=>cases BF.1
        subst PG;rw [hA] at BF;have ho:os[k]?=some (.own A):=by
         have:=Iw cs hq k hk;rw [hA] at this;have J3:A.own=true:=BF.2;simpa [J3] using this
        obtain ⟨B,u,k1,k2,k3,k4,k5⟩:=hX k A ho;refine ⟨A,B,u,rfl,by rw [Nat.zero_add];exact k1,k2,k3,k4,?_⟩;have:lc i k=c0.lc s j:=by
         rw [Pk];show J7 c0 cs[k]?=_;rw [hk];rfl
        rw [←this,Nat.zero_add];exact k5) PI
      refine go g1 g2 (fun l hl=>⟨hl.1,fun hm => ?_⟩) ?_ ⟨fun b l hl=>g3.cf b l (tZ i hl),g3.ok,fun b l hl=>g3.rz b l (tZ i hl)⟩
      ·obtain ⟨x,JY,DL⟩:=List.mem_filterMap.1 hm
       cases x with
       |ref s j g vw=>simp only [Option.some.injEq] at DL;exact hl.2 s j g vw JY DL.symm
       |_=>cases DL
      ·exact jk.pass dX (i+1) (fun b k hk hb=>g3.cf b _ (by simp) hb) (fun b k j hk=>g3.keeps (by intro y;simp;omega) b) xs _ (.inl g3.ok) fe
   |one cx=>
    cases cx with
    |ptr b g off=>
     unfold qp at hb
     cases es with
     |nil=>simp at hb
     |cons e es2=>cases e with
      |io _=>simp at hb
      |bR _=>simp at hb
      |box os=>
       simp only at hb
       split at hb
       ·rename_i s0 GZ fT Sc;simp only [Option.some.injEq,Prod.mk.injEq] at hb;obtain ⟨rfl,rfl⟩:=hb;have Ix:∃os0,av=.box os0:=by
         unfold eg at qy;simp only at qy
         cases hq:cZ wM b g with
         |none=>simp [hq] at qy
         |some cs=>
          simp only [hq] at qy
          cases JZ:eG wM true cs with
          |none=>simp [JZ] at qy
          |some p=>
           obtain ⟨Ax,us,rs⟩:=p;simp only [JZ] at qy;obtain ⟨_,yy⟩:=aK qy;simp only [Option.some.injEq,Prod.mk.injEq] at yy;exact ⟨_,yy.1.symm⟩
        obtain ⟨os0,rfl⟩:=Ix;obtain ⟨os1,l,e1,hB,fe⟩:=hx
        cases e1
        have hp:=(fj.kP (v:=x) hr0);have e2:=hp.2.2 GZ Sc;have e3:x=.pointer (some ⟨c.bx b,0,none⟩):=by
         obtain ⟨n5,vs,ty,q1,_⟩:=hB;rw [e2] at q1 ⊢;injection q1 with q1;injection q1 with q1;injection q1 with q1 q2;rw [q2]
        obtain ⟨c1,g1,g2,g3⟩:=h.boxed fT Sc e3 hB;refine go g1 (fj.trans g2) (fun l hl=>⟨hl.1,by simp [BK];exact hl.2⟩) ?_ ⟨fun b l hl=>g3.cf b l (Ga i hl),g3.ok,fun b l hl=>g3.rz b l (Ga i hl)⟩;exact jk.pass dX (i+1) (fun b k hk hb=>g3.cf b _ (by constructor<;>simp;omega) hb) (fun b k j hk=>g3.keeps (by constructor<;>simp;omega) b) xs es2 (.inl g3.ok) fe
       ·cases hb
    |ref s j g vw=>
     have pU:m≠.io→∃ag os,av=.val ag os:=by
      intro hm;unfold eg at qy
      cases m with
      |io=>exact absurd rfl hm
      |shr=>
       cases hq:eG wM Pm.shr.nd [.ref s j g vw] with
       |none=>simp [hq] at qy
       |some p=>obtain ⟨os,us,rs⟩:=p;simp only [hq,Option.some.injEq,Prod.mk.injEq] at qy;exact ⟨_,_,qy.1.symm⟩
      |bR=>
       cases hq:eG wM Pm.bR.nd [.ref s j g vw] with
       |none=>simp [hq] at qy
       |some p=>obtain ⟨os,us,rs⟩:=p;simp only [hq,Option.some.injEq,Prod.mk.injEq] at qy;exact ⟨_,_,qy.1.symm⟩
      |own=>
       cases hq:eG wM Pm.own.nd [.ref s j g vw] with
       |none=>simp [hq] at qy
       |some p=>obtain ⟨os,us,rs⟩:=p;simp only [hq,Option.some.injEq,Prod.mk.injEq] at qy;exact ⟨_,_,qy.1.symm⟩
      |pick pl=>
       cases hq:eG wM (Pm.pick pl).nd [.ref s j g vw] with
       |none=>simp [hq] at qy
       |some p=>obtain ⟨os,us,rs⟩:=p;simp only [hq,Option.some.injEq,Prod.mk.injEq] at qy;exact ⟨_,_,qy.1.symm⟩
      |soft pl=>
       cases hq:eG wM (Pm.soft pl).nd [.ref s j g vw] with
       |none=>simp [hq] at qy
       |some p=>obtain ⟨os,us,rs⟩:=p;simp only [hq,Option.some.injEq,Prod.mk.injEq] at qy;exact ⟨_,_,qy.1.symm⟩
     cases m with
     |shr=>
      simp only [qp,Option.some.injEq,Prod.mk.injEq] at hb;exact jl rfl hb.1.symm hb.2.symm (pU (by simp))
     |bR=>
      simp only [qp,Option.some.injEq,Prod.mk.injEq] at hb;exact jl rfl hb.1.symm hb.2.symm (pU (by simp))
     |own=>
      simp only [qp,Option.some.injEq,Prod.mk.injEq] at hb;exact jl rfl hb.1.symm hb.2.symm (pU (by simp))
     |pick _=>
      simp only [qp,Option.some.injEq,Prod.mk.injEq] at hb;exact jl rfl hb.1.symm hb.2.symm (pU (by simp))
     |soft _=>
      simp only [qp,Option.some.injEq,Prod.mk.injEq] at hb;exact jl rfl hb.1.symm hb.2.symm (pU (by simp))
     |io=>
      unfold qp at hb;simp only at hb
      split at hb
      ·rename_i B es2 A2 J3;simp only [Option.some.injEq,Prod.mk.injEq] at hb;obtain ⟨rfl,rfl⟩:=hb;have Ix:∃A0,av=.io A0∧aX wM s j g=some A0:=by
        unfold eg at qy
        cases vw with
        |full=>
         cases hA:aX wM s j g with
         |none=>simp [hA] at qy
         |some A=>
          simp only [hA] at qy;obtain ⟨_,yy⟩:=aK qy;simp only [Option.some.injEq,Prod.mk.injEq] at yy;exact ⟨A,yy.1.symm,rfl⟩
        |«from» _=>simp at qy
        |sub _ _=>simp at qy
       obtain ⟨A0,rfl,FT⟩:=Ix;obtain ⟨B',l,e1,hw,hlen,hO,fe⟩:=hx
       cases e1
       obtain ⟨A0',q1,q2,q3,q4,_⟩:=fj.refs s j g A2 hr0.2.1 J3;rw [FT] at q1;cases q1;have hO':OwnAt c w (.cf i 0) (c.lc s j) B x:=by
        rw [q4];have:lc i 0=c0.lc s j:=by rw [Pk];rfl
        rw [←this];exact hO
       obtain ⟨g1,g2⟩:=h.io J3 (hw.trans q2.symm) (hlen.trans q3.symm) hO';have hpq:∀l,(∀y,l≠.cf i y)→pT i 0 s j l=l:=by
        intro l hl
        cases l with
        |cf x y=>simp only [pT];rw [if_neg];rintro ⟨rfl,_⟩;exact hl y rfl
        |_=>rfl
       have CE:Pass c (c.dJ (pT i 0 s j) c.bx c.lc) (fun l=>∀y,l≠.cf i y):=⟨fun b l hl hb=>by
        show (c.own b).map _=_;rw [hb];simp [hpq l hl],fun b hb=>Cz.lr.2 hb,fun b l hl hb=>by
        show (c.rs b).map _=_;rw [hb];simp [hpq l hl]⟩
       refine go g1 (fj.trans g2) (fun l hl=>⟨hl.1,by simp [BK];exact hl.2⟩) ?_ ⟨fun b l hl=>CE.cf b l (tZ i hl),fun b hb=>Cz.lr.2 hb,fun b l hl=>CE.rz b l (tZ i hl)⟩;exact jk.pass dX (i+1) (fun b k hk hb=>CE.cf b _ (by simp) hb) (fun b k j hk=>CE.keeps (by intro y;simp;omega) b) xs es2 (.inl fun b hb=>Cz.lr.2 hb) fe
      ·cases hb
    |_=>
     simp only [qp,Option.some.injEq,Prod.mk.injEq] at hb;refine jl rfl hb.1.symm hb.2.symm ?_;unfold eg at qy;simp only at qy
     split at qy
     ·simp only [Option.some.injEq,Prod.mk.injEq] at qy;exact ⟨_,_,qy.1.symm⟩
     ·cases qy
end Go.TM
namespace Go.TM
open Go Go.RowKit
def AG (d:Nat):Lb→Lb
 |.ja j=>.sp d j
 |l=>l
theorem yL (d:Nat):CD (AG d):=⟨fun l h=>by cases l<;>simp [AG,Lb.real] at h ⊢⟩
theorem wk:(os ps:List OV)→bu (os++ps)=bu os++bu ps
 | [],ps=>rfl
 |o::os,ps=>by simp [bu,wk os ps]
theorem my:(os:List OV)→(bu os).length=os.length
 | []=>rfl
 |o::os=>by simp [bu,my os]
theorem PJ (d g j:Nat) (o:OV):∃x,bf d g j [o]=[x]:=by
 cases o<;>exact ⟨_,rfl⟩
theorem lN.vals {c:Cz} {w:World}:(rs:List RV)→(j:Nat)→(vs:List Value)→lN c w j rs vs→
  ∃lcs:Nat→Loc,(∀k A,nth (bu (rs.flatMap RV.wI)) k=some (some A)→∃v,OwnAt c w (.ja (j+k)) (lcs (j+k)) A v)∧rs.length=vs.length∧(∀d g,(kH d g j rs).length=rs.length)∧
   ∀(c2:Cz) (gP:St) (d g:Nat),(∀b,c.ok b→c2.ok b)→(∀k,k<(rs.flatMap RV.wI).length→c2.lc d (j+k)=lcs (j+k))→(∀k A,k<(rs.flatMap RV.wI).length→aX gP d (j+k) g=some A→nth (bu (rs.flatMap RV.wI)) k=some (some A))→g≤cK gP d→
    ∀(k:Nat) (x:V) (v:Value),(kH d g j rs)[k]?=some x→vs[k]?=some v→Ah c2 gP w x v
 | [],j,vs,h=>by
  subst h;exact ⟨fun _=>.nil,fun k A hA=>by simp [bu] at hA,rfl,fun _ _=>rfl,fun _ _ _ _ _ _ _ _ k x v hx=>by simp [kH] at hx⟩
 |r::rs,j,vs,h=>by
  obtain ⟨v,l,us,rfl,hL,hR,hV⟩:∃(v:Value) (l us:List Value),vs=v::l∧bF c w .ja j r.wI us∧lN c w (j+r.wI.length) rs l∧
    (∀(c2:Cz) (gP:St) (d g:Nat),eM c2 gP w (bf d g j r.wI) us→Ah c2 gP w (OW d g j r) v):=by
   cases r with
   |one o=>
    obtain ⟨v,l,h1,h2,h3⟩:=h;refine ⟨v,l,[v],h1,h2,h3,fun c2 gP d g hl => ?_⟩;unfold OW;obtain ⟨x,hx⟩:=PJ d g j o;show Ah c2 gP w (match bf d g j [o] with | [c]=>.one c | _=>.one .bad) v;have hl:eM c2 gP w (bf d g j [o]) [v]:=hl;rw [hx] at hl ⊢;exact hl.2 0 x v rfl rfl
   |agg os=>
    obtain ⟨us,l,h1,h2,h3⟩:=h;exact ⟨.agg us,l,us.toList,h1,h2,h3,fun c2 gP d g hl=>⟨us,rfl,hl⟩⟩
   |ptr os=>
    obtain ⟨v,l,h1,⟨n5,us,ty,_,_,_,g4⟩,h3⟩:=h;exact ⟨v,l,.slice none 0 0::us.toList,h1,⟨_,rfl,g4⟩,h3,fun _ _ _ _ _=>trivial⟩
  obtain ⟨l1,a1,a2⟩:=bF.cells r.wI j us hL;obtain ⟨l2,b1,b2,b3,b4⟩:=lN.vals rs (j+r.wI.length) l hR;have TQ:bu ((r::rs).flatMap RV.wI)=bu r.wI++bu (rs.flatMap RV.wI):=by
   rw [List.flatMap_cons,wk]
  refine ⟨fun k=>if k<j+r.wI.length then l1 k else l2 k,fun k A hA => ?_,by simp [b2],fun d g=>by simp [kH,b3],fun c2 gP d g fZ gN BH hg k x v' hx nY => ?_⟩
  ·rw [TQ,mF,my] at hA
   by_cases e:k<r.wI.length
   ·rw [if_pos e] at hA;have:=a1 k A hA;show ∃v,OwnAt c w _ (if j+k<_ then _ else _) A v;rw [if_pos (by omega)];exact this
   ·rw [if_neg e] at hA;have:=b1 _ A hA;rw [show j+r.wI.length+(k-r.wI.length)=j+k by omega] at this;show ∃v,OwnAt c w _ (if j+k<_ then _ else _) A v;rw [if_neg (by omega)];exact this
  ·rw [TQ] at BH;rw [List.flatMap_cons,List.length_append] at gN BH
   cases k with
   |zero=>
    simp only [kH,List.getElem?_cons_zero,Option.some.injEq] at hx nY;subst hx nY;refine hV c2 gP d g (a2 c2 gP d g fZ (fun k hk => ?_) (fun k A hk hA => ?_) hg)
    ·have:c2.lc d (j+k)=if j+k<j+r.wI.length then l1 (j+k) else l2 (j+k):=gN k (by omega)
     rwa [if_pos (by omega)] at this
    ·have:=BH k A (by omega) hA
     rwa [mF,my,if_pos hk] at this
   |succ k=>
    refine b4 c2 gP d g fZ (fun k hk => ?_) (fun k A hk hA => ?_) hg k x v' (by simpa [kH] using hx) (by simpa using nY)
    ·have:c2.lc d (j+(r.wI.length+k))=if j+(r.wI.length+k)<j+r.wI.length then l1 (j+(r.wI.length+k)) else l2 (j+(r.wI.length+k)):=gN (r.wI.length+k) (by omega)
     rw [if_neg (by omega)] at this;rw [Nat.add_assoc];exact this
    ·rw [Nat.add_assoc] at hA;have:=BH (r.wI.length+k) A (by omega) hA
     rwa [mF,my,if_neg (by omega),Nat.add_sub_cancel_left] at this
def uU (d:Nat):Lb→Lb
 |.ja 0=>.box d
 |.ja (j+1)=>.sp d (j+1)
 |l=>l
theorem yM (d:Nat):CD (uU d):=⟨fun l h=>by
 cases l with
 |ja j=>cases j<;>simp [uU,Lb.real] at h ⊢
 |_=>simp [uU,Lb.real] at h ⊢⟩
theorem kQ.Sd {X:Lb→Prop} {w0:World} {mu:Mu} {c:Cz} {st:St} {a:Act} {w:World} (h:kQ X w0 mu c st a w) {d:Nat} {s0:Sl} {os:List OV} {v:Value} (fT:nth st d=some s0)
  (hv:∃n5 us ty,v=.pointer (some ⟨n5,0,none⟩)∧c.own n5=some (.ja 0)∧w.heap[n5]?=some (.cells us ty (0,0))∧bF c w .ja 1 os us.toList) (hd:d<a.tmps.size) :
  ∃c',kQ X w0 mu c' (lX (fun s=>{ s with v:=.one (.ptr d (s.bg+1) 0),box:=some (bf d (s.ag+1) 1 os),bg:=s.bg+1,aO:=none::bu os,ag:=s.ag+1 }) st d) (a.put (some d) v) w∧
   Fw c st w c' (lX (fun s=>{ s with v:=.one (.ptr d (s.bg+1) 0),box:=some (bf d (s.ag+1) 1 os),bg:=s.bg+1,aO:=none::bu os,ag:=s.ag+1 }) st d) w∧∀b l,l.real=true→c.own b=some l→c'.own b=some l:=by
 obtain ⟨n5,us,ty,rfl,dR,PK,hL⟩:=hv;obtain ⟨lcs,g1,g2⟩:=bF.cells os 1 _ hL
 let c':=c.dJ (uU d) (fun s=>if s=d then n5 else c.bx s) (fun s j=>if s=d then lcs j else c.lc s j)
 let aZ:=lX (fun s=>{ s with v:=.one (.ptr d (s.bg+1) 0),box:=some (bf d (s.ag+1) 1 os),bg:=s.bg+1,aO:=none::bu os,ag:=s.ag+1 }) st d
 have hn:∀s,nth aZ s=if s=d then some { s0 with v:=.one (.ptr d (s0.bg+1) 0),box:=some (bf d (s0.ag+1) 1 os),bg:=s0.bg+1,aO:=none::bu os,ag:=s0.ag+1 } else nth st s:=by
  intro s;show nth (lX _ st d) s=_;rw [cU]
  by_cases e:s=d
  ·subst e;rw [if_pos rfl,if_pos rfl,fT];rfl
  ·rw [if_neg e,if_neg e]
 have BJ:cK aZ d=s0.ag+1:=by unfold cK;rw [hn];simp
 have Ir:cK st d=s0.ag:=by unfold cK;rw [fT]
 have TR:ff aZ d=s0.bg+1:=by unfold ff;rw [hn];simp
 have U8:ff st d=s0.bg:=by unfold ff;rw [fT]
 have ht:=yM d;have fj:Fw c st w c' aZ w:={
  stays:=oe c w _ _ _
  refs:=fun a' j' g' A' hg ee=>by
   obtain ⟨sl,k1,k2,k3⟩:=bd ee;rw [hn] at k1
   by_cases e:a'=d
   ·rw [if_pos e] at k1
    cases k1
    subst e;simp only at k2;omega
   ·rw [if_neg e] at k1;exact ⟨A',oU k1 k2 k3,rfl,rfl,by show (if a'=d then _ else _)=_;rw [if_neg e],fun _=>⟨rfl,fun _ _ _ _=>rfl⟩⟩
  Bv:=fun b' g' lM hg JS=>by
   obtain ⟨sl,k1,k2,k3⟩:=im JS;rw [hn] at k1
   by_cases e:b'=d
   ·rw [if_pos e] at k1
    cases k1
    subst e;simp only at k2;omega
   ·rw [if_neg e] at k1;exact ⟨⟨lM,by unfold cZ;rw [k1];simp [k2,k3]⟩,by show (if b'=d then _ else _)=_;rw [if_neg e]⟩
  gA:=fun a'=>by
   by_cases e:a'=d
   ·subst e;rw [BJ,Ir];omega
   ·unfold cK;rw [hn,if_neg e];exact Nat.le_refl _
  gB:=fun a'=>by
   by_cases e:a'=d
   ·subst e;rw [TR,U8];omega
   ·unfold ff;rw [hn,if_neg e];exact Nat.le_refl _
  gE:=fun a'=>by
   by_cases e:a'=d
   ·subst e;unfold j7;rw [hn,if_pos rfl,fT];exact Nat.le_refl _
   ·unfold j7;rw [hn,if_neg e];exact Nat.le_refl _ }
 have Is:∀k A,aX aZ d (1+k) (s0.ag+1)=some A→nth (bu os) k=some (some A):=by
  intro k A hA;obtain ⟨sl,k1,k2,k3⟩:=bd hA;rw [hn,if_pos rfl] at k1
  cases k1
  rw [show 1+k=k+1 by omega] at k3;exact k3
 have ua:∀t,ej c' aZ w (bV aZ t) ((a.put (some d) (.pointer (some ⟨n5,0,none⟩))).eval (.tmp t)):=by
  intro t;rw [eval_put]
  by_cases e:t=d
  ·subst e;rw [if_pos ⟨rfl,hd⟩];have:bV aZ t=.one (.ptr t (s0.bg+1) 0):=by unfold bV;rw [hn,if_pos rfl]
   rw [this];refine ⟨rfl,by rw [TR];exact Nat.le_refl _,fun cs _ => ?_⟩;show _=Value.pointer (some ⟨(if t=t then n5 else c.bx t),0,none⟩);rw [if_pos rfl]
  ·rw [if_neg (by rintro ⟨e2,_⟩;exact e (Option.some.inj e2).symm)];have:bV aZ t=bV st t:=by unfold bV;rw [hn,if_neg e]
   rw [this];exact fj.kP (h.ea t)
 refine ⟨c',⟨ua,fun s sl cs hX hs hb => ?_,fun s j sl A hX hs hA => ?_,fun b l hb => ?_,fun b hb h1=>h.free b hb (by unfold Cz.ok at *;simpa [c',Cz.dJ] using h1),h.kept,h.old,by simpa [Act.put] using h.plain,fun p hp=>fj.cV (h.cV p hp),fun b l hb=>by
   simp only [c',Cz.dJ,Option.map_eq_some_iff] at hb;obtain ⟨k,hk,_⟩:=hb;exact h.mq b k hk⟩,fj,fun b l hl hb => ?_⟩
 case refine_4=>
  show (c.own b).map (uU d)=_;rw [hb];simp [(yM d).other l (.inr hl)]
 ·rw [hn] at hs
  by_cases e:s=d
  ·subst e;rw [if_pos rfl] at hs
   cases hs
   simp only [Option.some.injEq] at hb;subst hb;refine ⟨?_,us,ty,by show w.heap[if s=s then n5 else c.bx s]?=_;rw [if_pos rfl];exact PK,?_⟩
   ·show (c.own (if s=s then n5 else c.bx s)).map (uU s)=some (.box s);rw [if_pos rfl,dR];rfl
   ·exact g2 c' aZ s (s0.ag+1) (fun b hb=>Cz.lr.2 hb) (fun k _=>by show (if s=s then _ else _)=_;rw [if_pos rfl]) (fun k A _ hA=>Is k A hA) (by rw [BJ];exact Nat.le_refl _)
  ·rw [if_neg e] at hs;exact (h.boxes s sl cs hX hs hb).dJ ht fj (by show (if s=d then _ else _)=_;rw [if_neg e])
 ·rw [hn] at hs
  by_cases e:s=d
  ·subst e;rw [if_pos rfl] at hs
   cases hs
   cases j with
   |zero=>simp [nth] at hA
   |succ j=>
    obtain ⟨v',nY⟩:=g1 j A hA;rw [show 1+j=j+1 by omega] at nY;exact nY.arr (by simp) (by simp [uU])
  ·rw [if_neg e] at hs;exact (h.aO s j sl A hX hs hA).dJ ht (by simp [e])
 ·simp only [c',Cz.dJ,Option.map_eq_some_iff] at hb;obtain ⟨k,hk,e⟩:=hb;obtain ⟨h1,h2⟩:=h.owned b k hk;refine ⟨h1,h2.imp (fun e2 => ?_) id⟩;subst e2;rw [←e];rfl
theorem Hg {st:St} {d:Nat} {outs:List RV} (h:∀os,outs≠[.ptr os]):wP st (some d) outs=match nth st d with
  |some s=>some (lX (fun sl=>{ sl with v:=(match kH d (s.ag+1) 0 outs with | [v]=>v | vs=>.m9 vs),aO:=bu (outs.flatMap RV.wI),ag:=s.ag+1 }) st d)
  |none=>none:=by
 unfold wP;simp only
 cases nth st d with
 |none=>rfl
 |some s=>
  cases outs with
  |nil=>rfl
  |cons r l=>cases l with
   |cons _ _=>cases r<;>rfl
   |nil=>cases r with
    |one o=>rfl
    |agg os=>rfl
    |ptr os=>exact absurd rfl (h os)
theorem kQ.laid {X:Lb→Prop} {w0:World} {mu:Mu} {c:Cz} {st:St} {a:Act} {w:World} (h:kQ X w0 mu c st a w) {d:Option Nat} {outs:List RV} {v:Value} (hv:tX c w outs v) {aZ:St} (hl:wP st d outs=some aZ) (hd:∀k,d=some k→k<a.tmps.size) :
  ∃c',kQ X w0 mu c' aZ (a.put d v) w∧Fw c st w c' aZ w∧∀b l,l.real=true→c.own b=some l→c'.own b=some l:=by
 cases d with
 |none=>
  cases outs with
  |nil=>
   simp only [wP,Option.some.injEq] at hl;subst hl;exact ⟨c,h,Fw.refl c st w,fun _ _ _ h=>h⟩
  |cons _ _=>simp [wP] at hl
 |some d=>
  by_cases hp:∃os,outs=[.ptr os]
  ·obtain ⟨os,rfl⟩:=hp;unfold wP at hl;simp only at hl
   cases fT:nth st d with
   |none=>simp [fT] at hl
   |some s0=>
    simp only [fT,Option.some.injEq] at hl;subst hl;refine h.Sd fT ?_ (hd d rfl);rcases hv with ⟨r,h1,h2⟩ | ⟨h1,_⟩
    ·simp only [List.cons.injEq,and_true] at h1;subst h1;obtain ⟨v',l,e1,h3,_⟩:=h2;simp only [List.cons.injEq] at e1;rw [e1.1];exact h3
    ·exact absurd rfl h1
  rw [Hg (fun os e=>hp ⟨os,e⟩)] at hl
  cases fT:nth st d with
  |none=>simp [fT] at hl
  |some s0=>
   simp only [fT,Option.some.injEq] at hl;obtain ⟨vs,hR,hVV⟩:∃vs,lN c w 0 outs vs∧∀(c2:Cz) (gP:St) (g:Nat),(kH d g 0 outs).length=vs.length→(∀(k:Nat) (x:V) (u:Value),(kH d g 0 outs)[k]?=some x→vs[k]?=some u→Ah c2 gP w x u)→
     ej c2 gP w (match kH d g 0 outs with | [v]=>v | vs=>.m9 vs) v:=by
    rcases hv with ⟨r,rfl,h2⟩ | ⟨h1,vs,rfl,h2⟩
    ·refine ⟨[v],h2,fun c2 gP g hlen xe => ?_⟩;exact Ik (xe 0 _ v rfl rfl)
    ·refine ⟨vs.toList,h2,fun c2 gP g hlen xe => ?_⟩;have Va:ej c2 gP w (.m9 (kH d g 0 outs)) (.tuple vs):=⟨vs,rfl,by simpa using hlen,fun i x y hx hy=>xe i x y hx (by simpa using hy)⟩
     split
     ·rename_i x hx;obtain ⟨_,_,_,b3,_⟩:=lN.vals outs 0 vs.toList h2;have:=b3 d g;rw [hx] at this;exact absurd this.symm h1
     ·exact Va
   obtain ⟨lcs,g1,g2,g3,g4⟩:=lN.vals outs 0 vs hR
   let c':=c.dJ (AG d) c.bx (fun s j=>if s=d then lcs j else c.lc s j)
   let V0:=(match kH d (s0.ag+1) 0 outs with | [v]=>v | vs=>.m9 vs)
   have hn:∀s,nth aZ s=if s=d then some { s0 with v:=V0,aO:=bu (outs.flatMap RV.wI),ag:=s0.ag+1 } else nth st s:=by
    intro s;rw [←hl,cU]
    by_cases e:s=d
    ·subst e;rw [if_pos rfl,if_pos rfl,fT];rfl
    ·rw [if_neg e,if_neg e]
   have BJ:cK aZ d=s0.ag+1:=by unfold cK;rw [hn];simp
   have Ir:cK st d=s0.ag:=by unfold cK;rw [fT]
   have ht:=yL d;have fj:Fw c st w c' aZ w:={
    stays:=oe c w _ _ _
    refs:=fun a' j' g' A' hg ee=>by
     obtain ⟨sl,k1,k2,k3⟩:=bd ee;rw [hn] at k1
     by_cases e:a'=d
     ·rw [if_pos e] at k1
      cases k1
      subst e;simp only at k2;omega
     ·rw [if_neg e] at k1;exact ⟨A',oU k1 k2 k3,rfl,rfl,by show (if a'=d then _ else _)=_;rw [if_neg e],fun _=>⟨rfl,fun _ _ _ _=>rfl⟩⟩
    Bv:=fun b' g' lM hg JS=>by
     obtain ⟨sl,k1,k2,k3⟩:=im JS;rw [hn] at k1
     by_cases e:b'=d
     ·rw [if_pos e] at k1
      cases k1
      subst e;exact ⟨⟨lM,by unfold cZ;rw [fT];simp at k2 k3;simp [k2,k3]⟩,rfl⟩
     ·rw [if_neg e] at k1;exact ⟨⟨lM,by unfold cZ;rw [k1];simp [k2,k3]⟩,rfl⟩
    gA:=fun a'=>by
     by_cases e:a'=d
     ·subst e;rw [BJ,Ir];omega
     ·unfold cK;rw [hn,if_neg e];exact Nat.le_refl _
    gB:=fun a'=>by
     by_cases e:a'=d
     ·subst e;unfold ff;rw [hn,if_pos rfl,fT];exact Nat.le_refl _
     ·unfold ff;rw [hn,if_neg e];exact Nat.le_refl _
    gE:=fun a'=>by
     by_cases e:a'=d
     ·subst e;unfold j7;rw [hn,if_pos rfl,fT];exact Nat.le_refl _
     ·unfold j7;rw [hn,if_neg e];exact Nat.le_refl _ }
   have Is:∀k A,aX aZ d k (s0.ag+1)=some A→nth (bu (outs.flatMap RV.wI)) k=some (some A):=by
    intro k A hA;obtain ⟨sl,k1,k2,k3⟩:=bd hA;rw [hn,if_pos rfl] at k1
    cases k1
    exact k3
   have ua:∀t,ej c' aZ w (bV aZ t) ((a.put (some d) v).eval (.tmp t)):=by
    intro t;rw [eval_put]
    by_cases e:t=d
    ·subst e;rw [if_pos ⟨rfl,hd t rfl⟩];have:bV aZ t=V0:=by unfold bV;rw [hn,if_pos rfl]
     rw [this];refine hVV c' aZ (s0.ag+1) (by rw [g3,g2]) (g4 c' aZ t (s0.ag+1) (fun b hb=>Cz.lr.2 hb) (fun k _ => ?_) (fun k A _ hA=>Is k A (by simpa using hA)) (by rw [BJ];exact Nat.le_refl _));show (if t=t then _ else _)=_;rw [if_pos rfl]
    ·rw [if_neg (by rintro ⟨e2,_⟩;exact e (Option.some.inj e2).symm)];have:bV aZ t=bV st t:=by unfold bV;rw [hn,if_neg e]
     rw [this];exact fj.kP (h.ea t)
   refine ⟨c',⟨ua,fun s sl cs hX hs hb => ?_,fun s j sl A hX hs hA => ?_,fun b l hb => ?_,fun b hb h1=>h.free b hb (by unfold Cz.ok at *;simpa [c',Cz.dJ] using h1),h.kept,h.old,by simpa [Act.put] using h.plain,fun p hp=>fj.cV (h.cV p hp),fun b l hb=>by
   simp only [c',Cz.dJ,Option.map_eq_some_iff] at hb;obtain ⟨k,hk,_⟩:=hb;exact h.mq b k hk⟩,fj,fun b l hl hb => ?_⟩
   case refine_4=>
    show (c.own b).map (AG d)=_;rw [hb];simp [(yL d).other l (.inr hl)]
   ·rw [hn] at hs
    by_cases e:s=d
    ·subst e;rw [if_pos rfl] at hs
     cases hs
     exact (h.boxes s s0 cs hX fT hb).dJ ht fj rfl
    ·rw [if_neg e] at hs;exact (h.boxes s sl cs hX hs hb).dJ ht fj rfl
   ·rw [hn] at hs
    by_cases e:s=d
    ·subst e;rw [if_pos rfl] at hs
     cases hs
     obtain ⟨v',nY⟩:=g1 j A hA;exact nY.arr (by simp) (by simp [AG])
    ·rw [if_neg e] at hs;exact (h.aO s j sl A hX hs hA).dJ ht (by simp [e])
   ·simp only [c',Cz.dJ,Option.map_eq_some_iff] at hb;obtain ⟨k,hk,e⟩:=hb;obtain ⟨h1,h2⟩:=h.owned b k hk;refine ⟨h1,h2.imp (fun e2 => ?_) id⟩;subst e2;rw [←e];rfl
end Go.TM
namespace Go.TM
open Go Go.RowKit
theorem Gb {st:St} {own:Bool}:(cs:List CV)→{os:List OV}→{u:List (Option Lb)}→{r:List (Nat×Nat)}→eG st own cs=some (os,u,r)→∀l∈cg u,l∈cs.filterMap fun x=>match x with | .ref a j _ _=>some (Lb.sp a j) | _=>none
 | [],_,_,_,h=>by
  simp only [eG,Option.some.injEq,Prod.mk.injEq] at h;obtain ⟨_,rfl,_⟩:=h;simp [cg]
 |x::cs,os,u,r,h=>by
  unfold eG at h
  cases hc:eF st own x with
  |none=>simp [hc] at h
  |some p=>
   obtain ⟨o,u1,r1⟩:=p
   cases hq:eG st own cs with
   |none=>simp [hc,hq] at h
   |some q=>
    obtain ⟨Ax,us,rs⟩:=q;simp only [hc,hq,Option.some.injEq,Prod.mk.injEq] at h;obtain ⟨_,rfl,_⟩:=h;intro l hl;rw [gv] at hl;rcases List.mem_cons.1 hl with hl | hl
    ·refine List.mem_filterMap.2 ⟨x,List.mem_cons_self,?_⟩
     cases x with
     |ref a j g w=>
      unfold eF at hc;simp only at hc
      cases hA:aX st a j g with
      |none=>simp [hA] at hc
      |some A=>
       simp only [hA] at hc
       cases hm:A.md.Fc with
       |true=>simp [hm] at hc
       |false=>
       simp only [hm,cond_false] at hc
       cases hb:(own&&A.own&&(A.md.is .sh||(A.md.is .lz||w.isFull)))<;>simp only [hb,cond_true,cond_false,Option.some.injEq,Prod.mk.injEq] at hc<;>obtain ⟨_,rfl,_⟩:=hc
       ·cases hl
       ·exact hl.symm
     |JJ a j g e i k q ys=>
      unfold eF at hc;simp only at hc
      cases hA:aX st a j g with
      |none=>simp [hA] at hc
      |some A=>
       simp only [hA] at hc;obtain ⟨_,hc⟩:=aK hc;simp only [Option.some.injEq,Prod.mk.injEq] at hc;obtain ⟨_,rfl,_⟩:=hc
       cases hl
     |pr a j g e i k q ys=>
      unfold eF at hc;simp only at hc
      cases hA:aX st a j g with
      |none=>simp [hA] at hc
      |some A=>
       simp only [hA] at hc;obtain ⟨_,hc⟩:=aK hc;simp only [Option.some.injEq,Prod.mk.injEq] at hc;obtain ⟨_,rfl,_⟩:=hc
       cases hl
     |lL q y off=>obtain ⟨_,rfl,_⟩:=xa hc;cases hl
     |ti q y off=>obtain ⟨_,rfl,_⟩:=tY hc;cases hl
     |_=>
      simp only [eF,Option.some.injEq,Prod.mk.injEq,reduceCtorEq] at hc
      all_goals (obtain ⟨_,rfl,_⟩:=hc;cases hl)
    ·have:=Gb cs hq l (gv.2 hl);obtain ⟨y,h1,h2⟩:=List.mem_filterMap.1 this;exact List.mem_filterMap.2 ⟨y,List.mem_cons_of_mem _ h1,h2⟩
theorem J8 {st:St} {m:Pm} {v:V} {av:AV} {u q:List Lb} {r:List (Nat×Nat)} (h:eg st m v=some (av,u,q,r)):∀l∈u,(l∈q∧∃s j,l=.sp s j)∨l∈BK m v:=by
 have single:∀own cs,(match eG st own cs with | some (os,u,r)=>some (AV.val false os,cg u,cg u,r) | none=>none)=some (av,u,q,r)→∀l∈u,(l∈q∧∃s j,l=.sp s j)∨l∈BK m v:=by
  intro own cs h
  cases hq:eG st own cs with
  |none=>simp [hq] at h
  |some p=>
   obtain ⟨os,us,rs⟩:=p;simp only [hq,Option.some.injEq,Prod.mk.injEq] at h;obtain ⟨_,rfl,rfl,_⟩:=h;exact fun l hl=>.inl ⟨hl,x4 cs hq l hl⟩
 cases v with
 |m9 _=>simp [eg] at h
 |agg cs=>
  have other:(match eG st m.nd cs with | some (os,u,r)=>some (AV.val true os,cg u,cg u,r) | none=>none)=some (av,u,q,r)→∀l∈u,(l∈q∧∃s j,l=.sp s j)∨l∈BK m (.agg cs):=by
   intro h
   cases hq:eG st m.nd cs with
   |none=>simp [hq] at h
   |some p=>
    obtain ⟨os,us,rs⟩:=p;simp only [hq,Option.some.injEq,Prod.mk.injEq] at h;obtain ⟨_,rfl,rfl,_⟩:=h;exact fun l hl=>.inl ⟨hl,x4 cs hq l hl⟩
  unfold eg at h
  cases m with
  |shr=>exact other h
  |own=>exact other h
  |pick _=>exact other h
  |soft _=>exact other h
  |io=>exact other h
  |bR=>
   simp only at h
   cases hq:eG st true cs with
   |none=>simp [hq] at h
   |some p=>
    obtain ⟨os,us,rs⟩:=p;simp only [hq] at h;obtain ⟨_,h1⟩:=aK h;simp only [Option.some.injEq,Prod.mk.injEq] at h1;obtain ⟨_,rfl,_,_⟩:=h1;exact fun l hl=>.inr (Gb cs hq l hl)
 |one cx=>
  cases cx with
  |ptr b g off=>
   unfold eg at h;simp only at h
   cases hb:cZ st b g with
   |none=>simp [hb] at h
   |some cs=>
    simp only [hb] at h
    cases hq:eG st true cs with
    |none=>simp [hq] at h
    |some p=>
     obtain ⟨os,us,rs⟩:=p;simp only [hq] at h;obtain ⟨_,h1⟩:=aK h;simp only [Option.some.injEq,Prod.mk.injEq] at h1;obtain ⟨_,rfl,rfl,_⟩:=h1;intro l hl;rcases List.mem_cons.1 hl with rfl | hl
     ·exact .inr (by simp [BK])
     ·exact .inl ⟨hl,x4 cs hq l hl⟩
  |ref s j g vw=>
   unfold eg at h
   cases m with
   |shr=>exact single _ _ h
   |own=>exact single _ _ h
   |pick _=>exact single _ _ h
   |soft _=>exact single _ _ h
   |bR=>exact single _ _ h
   |io=>
    cases vw with
    |full=>
     cases hA:aX st s j g with
     |none=>simp [hA] at h
     |some A=>
      simp only [hA] at h;obtain ⟨_,h1⟩:=aK h;simp only [Option.some.injEq,Prod.mk.injEq] at h1;obtain ⟨_,rfl,_,_⟩:=h1;exact fun l hl=>.inr (by simpa [BK] using hl)
    |«from» _=>simp at h
    |sub _ _=>simp at h
  |_=>
   unfold eg at h;simp only at h
   split at h
   ·rename_i os us rs hq;simp only [Option.some.injEq,Prod.mk.injEq] at h;obtain ⟨_,rfl,rfl,_⟩:=h;exact fun l hl=>.inl ⟨hl,x4 _ hq l hl⟩
   ·cases h
theorem DY {st:St}:(ms:List (Pm×V))→{dX:List AV}→{u q:List Lb}→{r:List (Nat×Nat)}→iN st ms=some (dX,u,q,r)→∀l∈u,(l∈q∧∃s j,l=.sp s j)∨∃m∈ms,l∈BK m.1 m.2
 | [],_,_,_,_,h=>by
  simp only [iN,Option.some.injEq,Prod.mk.injEq] at h;obtain ⟨_,rfl,_⟩:=h;simp
 |(m,v)::ms,dX,u,q,r,h=>by
  unfold iN at h
  cases h1:eg st m v with
  |none=>simp [h1] at h
  |some p1=>
   obtain ⟨av,u1,q1,r1⟩:=p1
   cases h2:iN st ms with
   |none=>simp [h1,h2] at h
   |some p2=>
    obtain ⟨Sb,u2,q2,r2⟩:=p2;simp only [h1,h2,Option.some.injEq,Prod.mk.injEq] at h;obtain ⟨rfl,rfl,rfl,rfl⟩:=h;intro l hl;rcases List.mem_append.1 hl with hl | hl
    ·rcases J8 h1 l hl with ⟨h3,h4⟩ | h3
     ·exact .inl ⟨List.mem_append_left _ h3,h4⟩
     ·exact .inr ⟨(m,v),List.mem_cons_self,h3⟩
    ·rcases DY ms h2 l hl with ⟨h3,h4⟩ | ⟨m',h3,h4⟩
     ·exact .inl ⟨List.mem_append_right _ h3,h4⟩
     ·exact .inr ⟨m',List.mem_cons_of_mem _ h3,h4⟩
theorem CF {st:St}:(ms:List (Pm×V))→{dX:List AV}→{u q:List Lb}→{r:List (Nat×Nat)}→iN st ms=some (dX,u,q,r)→∀(k:Nat) (m:Pm×V) (av:AV),ms[k]?=some m→dX[k]?=some av→PH st m av
 | [],_,_,_,_,_=>by intro k m av hm;simp at hm
 |(m,v)::ms,dX,u,q,r,h=>by
  unfold iN at h
  cases h1:eg st m v with
  |none=>simp [h1] at h
  |some p1=>
   obtain ⟨av,u1,q1,r1⟩:=p1
   cases h2:iN st ms with
   |none=>simp [h1,h2] at h
   |some p2=>
    obtain ⟨Sb,u2,q2,r2⟩:=p2;simp only [h1,h2,Option.some.injEq,Prod.mk.injEq] at h;obtain ⟨rfl,rfl,rfl,rfl⟩:=h;intro k m' LO hm Ix
    cases k with
    |zero=>simp at hm Ix;subst hm Ix;exact ⟨u1,q1,r1,h1⟩
    |succ k=>exact CF ms h2 k m' LO (by simpa using hm) (by simpa using Ix)
theorem M6 (a b c:Pm) (l:List V):(wh a b c l).map (·.2)=l:=by
 rcases l with _ | ⟨x,_ | ⟨y,_ | ⟨z,l⟩⟩⟩<;>simp [wh,Function.comp_def]
theorem Cz.zi:(m:List (Nat×Nat))→(c:Cz)→{b:Nat}→{l:Lb}→c.own b=some l→(∀p∈m,l≠.sp p.1 p.2)→(c.drop m).own b=some l
 | [],_,_,_,h,_=>h
 |(s,j)::m,c,b,l,h,hm=>Cz.zi m (c.drop1 s j) (Cz.rp h (hm (s,j) List.mem_cons_self)) (fun p hp=>hm p (List.mem_cons_of_mem _ hp))
def og (P:Program) (S:kO):Prop:=
 ∀f a b c Cp,S f=some (a,b,c,Cp)→FnOk P f Cp∧∃fn,P.funcs[f]?=some fn∧(fn.name == "runtime.NumGoroutine")=false∧fn.body.isNone=false
theorem Iy {P:Program} {w0:World} {mu:Mu} {c:Cz} {st aZ:St} {a:Act} {w:World} (h:Rel w0 mu c st a w) {o:Oper} {f:FuncId} {vals:Array Value} (qE:(execOp a.eval o).run P w=.ok (.enter f vals) w)
  {Cp:wO} (M7:FnOk P f Cp) {ms:List (Pm×V)}
  (hlen:ms.length=vals.toList.length) (xe:∀(k:Nat) (m:Pm×V) (x:Value),ms[k]?=some m→vals.toList[k]?=some x→ej c st w m.2 x)
  {fin:St→N} (hv:(HV st o.dst Cp ms fin).val=some aZ) (hd:∀k,o.dst=some k→k<a.tmps.size) {kp:Bool} (Sa:kp=true→JQ st ms=true)
  (M8:∀(c5:Cz) (gP:St) (a2:Act) (w':World),Rel w0 mu c5 gP a2 w'→Fw c st w c5 gP w'→
   (∀dX u q r,iN st ms=some (dX,u,q,r)→∀b l,l.real=true→l∉u→(∀p∈r,l≠.sp p.1 p.2)→c.own b=some l→w'.heap[b]?=w.heap[b]?∧c5.own b=some l)→
   (fin gP).val=some aZ→∃c6,Rel w0 mu c6 aZ a2 w'):w9 P w0 mu aZ o a w kp:=by
  unfold HV at hv;unfold JQ at Sa
  cases he:iN st ms with
  |none=>simp [he,N.val] at hv
  |some p=>
   obtain ⟨dX,u,q,r⟩:=p;simp only [he] at hv Sa;obtain ⟨hc,hv⟩:=cN hv;rw [Bool.and_eq_true] at hc
   cases hs:Cp dX with
   |none=>simp [hs,N.val] at hv
   |some p=>
    simp only [hs] at hv
    cases hox:p.o with
    |none=>rw [hox] at hv;cases hv
    |some x=>
    rw [hox] at hv;have J9:=hv;clear hv;unfold N.val at J9;simp only at J9;generalize Bz:p.res x=res at J9
    cases ZS:uH (oQ (qt u 0 (bif res.plain then st else freeze st r)) q) ms res.exts with
    |none=>simp [ZS,N.val] at J9
    |some xU=>
     simp only [ZS] at J9
     cases hly:wP xU o.dst res.outs with
     |none=>simp [hly,N.val] at J9
     |some gP=>
      simp only [hly] at J9;have J9:(fin gP).val=some aZ:=J9;obtain ⟨CG,hqu,tb,PL,abb,Vb,hold⟩:=F7 h ms 0 _ hlen xe he;have Hb:=oT u CG hc.1;have Ff:∀p∈r,Lb.sp p.1 p.2∉u:=by
       intro p hp hm;have h1:=List.all_eq_true.1 hc.2 p hp;have h2:=List.all_eq_true.1 h1 _ hm;rw [(Lb.Ay rfl).2 rfl] at h2
       cases h2
      let lc:Nat→Nat→Loc:=fun k=>match ms[k]? with | some m=>CC c m.2 | none=>fun _=>.nil
      have mP:=Classical.propDecidable
      let ρ:Lb→Option Lb:=fun l=>match look tb l with | some y=>some y | none=>if (∃p∈r,l=.sp p.1 p.2) then none else some .out
      have AH:∀ {l y},look tb l=some y→l∈u∧y.kE=true:=by
       intro l y hl;have:=xZ tb hl;exact ⟨by rw [←PL];exact List.mem_map.2 ⟨_,this,rfl⟩,abb _ this⟩
      have hρr:∀p∈r,ρ (.sp p.1 p.2)=none:=by
       intro p hp;show (match look tb (.sp p.1 p.2) with | some y=>some y | none=>if (∃p'∈r,Lb.sp p.1 p.2=.sp p'.1 p'.2) then none else some .out)=none
       cases hl:look tb (.sp p.1 p.2) with
       |some y=>exact absurd (AH hl).1 (Ff p hp)
       |none=>simp only;rw [if_pos ⟨p,hp,rfl⟩]
      have hρt:∀p∈tb,ρ p.1=some p.2:=by
       intro p hp;have:=Az tb (by rw [PL];exact Hb) hp;show (match look tb p.1 with | some y=>some y | none=>_)=_;rw [this]
      have hρh:∀ {l y},ρ l=some y→y=.out∨(y.kE=true∧l∈u):=by
       intro l y hl;have hl:(match look tb l with | some y=>some y | none=>if (∃p∈r,l=.sp p.1 p.2) then none else some .out)=some y:=hl
       cases hk:look tb l with
       |some z=>
        rw [hk] at hl
        cases hl
        exact .inr ⟨(AH hk).2,(AH hk).1⟩
       |none=>
        rw [hk] at hl;simp only at hl
        split at hl
        ·cases hl
        ·cases hl;exact .inl rfl
      have hρn:∀ {l},ρ l=none→∃p∈r,l=.sp p.1 p.2:=by
       intro l hl;have hl:(match look tb l with | some y=>some y | none=>if (∃p∈r,l=.sp p.1 p.2) then none else some .out)=none:=hl
       cases hk:look tb l with
       |some z=>rw [hk] at hl;cases hl
       |none=>
        rw [hk] at hl;simp only at hl
        split at hl
        ·assumption
        ·cases hl
      let μ:Mu:={ m:=fun b=>∃l,(c.map ρ).own b=some l∧l.kE=true,ok:=fun b=>(c.map ρ).own b=none,an:=[],rs:=fun b=>(c.map ρ).rs b≠none }
      have hH:Handed (c.map ρ) w μ:={
       m:=fun b=>Iff.rfl
       ok:=fun b=>Iff.rfl
       lt:=fun b l hb=>by
        obtain ⟨k,hk,_⟩:=Cz.map_some hb;exact (h.owned b k hk).1
       lb:=fun b l hb=>by
        obtain ⟨k,hk,e⟩:=Cz.map_some hb;exact (hρh e).imp id (·.1)
       rs:=fun b l hb=>by
        obtain ⟨k,hk,_⟩:=Cz.sQ hb;exact ⟨(h.mq b k hk).1,by show (c.map ρ).rs b≠none;rw [hb];simp⟩ }
      have Pb:∀b,μ.rs b→c.own b=none∧∃l,c.rs b=some l∧l∈u:=by
       intro b hb;have hb:(c.map ρ).rs b≠none:=hb
       cases hq:(c.map ρ).rs b with
       |none=>exact absurd hq hb
       |some y=>
        obtain ⟨k,hk,e,ho,h0⟩:=Cz.sQ hq;refine ⟨h0,k,hk,?_⟩;rcases hρh e with e2 | e2
        ·subst e2;cases ho
        ·exact e2.2
      have hA:=hold ρ lc (fun k m hm=>by simp only [Nat.zero_add,lc,hm]) hρt hρr;have ma:=M7 (c.map ρ) w μ lc dX vals p x hH hA hs hox;rw [Bz] at ma;intro Q;unfold Oper.wp;rw [qE,Oper.upon_enter];refine ma.mono fun e w' PM => ?_
      obtain ⟨v,rfl,c1,AI,hV,hX⟩:=PM;obtain ⟨c2,s2,JT,hR2,hF2,hm2,agE,agF,agG,agH⟩:∃(c2:Cz) (s2:St),(bif res.plain then st else freeze st r)=s2∧Rel w0 mu c2 s2 a w∧Fw c st w c2 s2 w∧(∀b,μ.m b→∃l,c2.own b=some l∧l∈u)∧(∀b,c.own b=none→c2.own b=none)∧c2.rs=c.rs∧(res.plain=true∨∀b,μ.ok b→c2.own b=none)∧
        (∀b l,(∀p∈r,l≠.sp p.1 p.2)→c.own b=some l→c2.own b=some l):=by
       have hm:∀b,μ.m b→∃l,c.own b=some l∧l∈u:=by
        rintro b ⟨l,hl,hh⟩
        obtain ⟨k,hk,e⟩:=Cz.map_some hl;rcases hρh e with e2 | e2
        ·subst e2;cases hh
        ·exact ⟨k,hk,e2.2⟩
       cases hp:res.plain with
       |true=>exact ⟨c,st,rfl,h,Fw.refl c st w,hm,fun _ h=>h,rfl,.inl rfl,fun _ _ _ h=>h⟩
       |false=>
        refine ⟨c.drop r,freeze st r,rfl,Rel.freeze r h,Fw.freeze w r c st,fun b hb => ?_,fun b hb=>Cz.uO r c b hb,Cz.Dh r c,.inr fun b hb => ?_,fun b l hl hb=>Cz.zi r c hb hl⟩
        ·obtain ⟨l,h1,h2⟩:=hm b hb;exact ⟨l,Cz.zi r c h1 (fun p hp e=>Ff p hp (e▸h2)),h2⟩
        ·have hb:(c.own b).bind ρ=none:=hb
         cases hk:c.own b with
         |none=>exact Cz.uO r c b hk
         |some l=>
          rw [hk] at hb;obtain ⟨p,hp,e⟩:=hρn hb;subst e;exact Cz.xT r c b hk hp
      rw [JT] at ZS;obtain ⟨g1,g2,gfr,g3,g4,g5⟩:=hR2.aa8 AI (X:=fun l=>l∈u) hm2 (fun b hb=>by rw [agF];exact (Pb b hb).2) (fun l hl e=>by subst e;cases CG _ hl) (u:=u) (fun a j h=>M1 h);have Ka:(∀b,c1.ok b→(c2.merge c1 w.heap.size μ.m μ.rs).ok b)∨res.plain=true:=by
       rcases agG with h1 | h1
       ·exact .inr h1
       ·exact .inl (g4 h1)
      have PN:res.plain=true→res.outs.all (fun o=>o.wI.all OV.plain)=true∧res.exts.all XV.plain=true:=by
       intro hp;unfold Res.plain at hp
       rwa [Bool.and_eq_true] at hp
      have FX:∀b l,l.AD=some l→c1.yK (c2.merge c1 w.heap.size μ.m μ.rs) l b:=fun b l hl=>⟨g3 b l hl,fun h1 h2=>⟨?_,g5 b l hl h2⟩⟩
      rotate_left
      ·by_cases e:b<w.heap.size∧¬μ.m b
       ·rw [Cz.qX e];rcases (AI.mq b l h2).2 with q | q | q
        ·exact absurd e.1 (Nat.not_lt.2 q)
        ·exact absurd q e.2
        ·exact agE b (Pb b q).1
       ·rw [Cz.x5 e,h1];rfl
      have hV':tX (c2.merge c1 w.heap.size μ.m μ.rs) w' res.outs v:=hV.pass (fun b j=>FX b (.ja j) rfl) (Ka.imp id fun hp=>(PN hp).1);have F8:jk (c2.merge c1 w.heap.size μ.m μ.rs) w' lc 0 dX vals.toList res.exts:=jk.pass dX 0 (fun b k _=>g3 b (.sC k) rfl) (fun b k j _=>FX b (.cf k j) rfl) _ _ (Ka.imp id fun hp=>(PN hp).2) hX;obtain ⟨c3,k1,k2,k3,k4⟩:=zh q g1;have PO:∀b l,(c2.merge c1 w.heap.size μ.m μ.rs).yK c3 l b:=fun b l=>⟨fun h=>by rw [k3];exact h,fun h1 h2=>⟨by rw [k3];exact h1,by rw [k4];exact h2⟩⟩
      have abc:∀b,(c2.merge c1 w.heap.size μ.m μ.rs).ok b→c3.ok b:=fun b hb=>by unfold Cz.ok at *;rw [k3];exact hb
      have hV3:tX c3 w' res.outs v:=hV'.pass (fun b j=>PO b _) (.inl abc);have hX3:jk c3 w' lc 0 dX vals.toList res.exts:=jk.pass dX 0 (fun b k _ hb=>by rw [k3];exact hb) (fun b k j _=>PO b _) _ _ (.inl abc) F8;obtain ⟨c4,l1,l2,l3⟩:=DX ms 0 dX _ _ k1 ((hF2.trans g2).trans k2) xe (CF ms he) Vb.symm hlen (fun k m hm=>by simp only [Nat.zero_add,lc,hm]) hX3 ZS;have hV4:tX c4 w' res.outs v:=hV3.pass (fun b j=>l3.keeps (.inl ⟨j,rfl⟩) b) (.inl l3.ok);obtain ⟨c5,n1,n2,n3⟩:=l1.laid hV4 hly hd;have abd:Rel w0 mu c5 gP (a.put o.dst v) w':=by
       refine (n1.mono (X':=fun _=>False) (fun l hl => ?_)).rel;obtain ⟨⟨RD,R7⟩,hl3⟩:=hl;rcases DY ms he l RD with ⟨h1,s,j,e⟩ | ⟨m,h1,h2⟩
       ·subst e;exact R7 s j h1 rfl
       ·exact hl3 m h1 h2
      obtain ⟨c6,hc6⟩:=M8 c5 gP _ w' abd (l2.trans n2) (fun Sb u' q' r' MB b l RD R7 hl3 hb=>by
       rw [he] at MB;simp only [Option.some.injEq,Prod.mk.injEq] at MB;obtain ⟨rfl,rfl,rfl,rfl⟩:=MB;have PI:=agH b l hl3 hb;obtain ⟨f1,f2⟩:=gfr b l PI R7;refine ⟨f1,n3 b l RD (l3.cf b l (.inr RD) ?_)⟩;rw [k3,f2];exact PI) J9
      refine ⟨⟨c6,hc6,rE _ _ _⟩,fun agJ=>⟨AI.kept.2.2.2,fun k hk=>AI.old k hk (fun hmu => ?_)⟩⟩;have hu0:u=[]:=by simpa using Sa agJ
      obtain ⟨_,_,Db⟩:=hm2 k hmu;rw [hu0] at Db
      cases Db
end Go.TM
namespace Go.TM
open Go Go.RowKit
def xf (st:St) (n:Nat×Nat):Prop:=∃g A,aX st n.1 n.2 g=some A∧A.md.Fc=false
theorem M9 {st:St} {own:Bool} {x:CV} {o:OV} {u:Option Lb} {r:List (Nat×Nat)} (h:eF st own x=some (o,u,r)):(∀s j,u=some (.sp s j)→xf st (s,j))∧∀p∈r,xf st p:=by
 cases x with
 |ref a j g w=>
  unfold eF at h;simp only at h
  cases hA:aX st a j g with
  |none=>simp [hA] at h
  |some A=>
   simp only [hA] at h
   cases hm:A.md.Fc with
   |true=>simp [hm] at h
   |false=>
   have sM:=hm;simp only [hm,cond_false] at h
   cases hb:(own&&A.own&&(A.md.is .sh||(A.md.is .lz||w.isFull)))<;>simp only [hb,cond_true,cond_false,Option.some.injEq,Prod.mk.injEq] at h<;>obtain ⟨_,rfl,rfl⟩:=h
   ·exact ⟨by simp,fun p hp=>by simp at hp;subst hp;exact ⟨g,A,hA,sM⟩⟩
   ·refine ⟨fun s k e => ?_,by simp⟩;simp only [Option.some.injEq,Lb.sp.injEq] at e;obtain ⟨rfl,rfl⟩:=e;exact ⟨g,A,hA,sM⟩
 |JJ a j g e i k q ys=>
  unfold eF at h;simp only at h
  cases hA:aX st a j g with
  |none=>simp [hA] at h
  |some A=>
   simp only [hA] at h;obtain ⟨h1,h⟩:=aK h;rw [Bool.and_eq_true] at h1;have hm:=Md.je.1 h1.1;simp only [Option.some.injEq,Prod.mk.injEq] at h;obtain ⟨_,rfl,rfl⟩:=h;exact ⟨by simp,fun p hp=>by simp at hp;subst hp;exact ⟨g,A,hA,by rw [hm];rfl⟩⟩
 |pr a j g e i k q ys=>
  unfold eF at h;simp only at h
  cases hA:aX st a j g with
  |none=>simp [hA] at h
  |some A=>
   simp only [hA] at h;obtain ⟨h1,h⟩:=aK h;rw [Bool.and_eq_true] at h1;have hm:=Md.je.1 h1.1;simp only [Option.some.injEq,Prod.mk.injEq] at h;obtain ⟨_,rfl,rfl⟩:=h;exact ⟨by simp,fun p hp=>by simp at hp;subst hp;exact ⟨g,A,hA,by rw [hm];rfl⟩⟩
 |lL q y off=>obtain ⟨_,rfl,rfl⟩:=xa h;simp
 |ti q y off=>obtain ⟨_,rfl,rfl⟩:=tY h;simp
 |_=>simp [eF] at h<;>(try (obtain ⟨_,rfl,rfl⟩:=h;simp))
theorem ub {st:St} {own:Bool}:(cs:List CV)→{os:List OV}→{u:List (Option Lb)}→{r:List (Nat×Nat)}→eG st own cs=some (os,u,r)→(∀s j,.sp s j∈cg u→xf st (s,j))∧∀p∈r,xf st p
 | [],_,_,_,h=>by
  simp only [eG,Option.some.injEq,Prod.mk.injEq] at h;obtain ⟨_,rfl,rfl⟩:=h;simp [cg]
 |x::cs,os,u,r,h=>by
  unfold eG at h
  cases hc:eF st own x with
  |none=>simp [hc] at h
  |some p=>
   obtain ⟨o,u1,r1⟩:=p
   cases hq:eG st own cs with
   |none=>simp [hc,hq] at h
   |some q=>
    obtain ⟨Ax,us,rs⟩:=q;simp only [hc,hq,Option.some.injEq,Prod.mk.injEq] at h;obtain ⟨_,rfl,rfl⟩:=h;obtain ⟨a1,a2⟩:=M9 hc;obtain ⟨b1,b2⟩:=ub cs hq;refine ⟨fun s j hm => ?_,fun p hp => ?_⟩
    ·rw [gv] at hm;rcases List.mem_cons.1 hm with hm | hm
     ·exact a1 s j hm.symm
     ·exact b1 s j (gv.2 hm)
    ·rcases List.mem_append.1 hp with hp | hp
     ·exact a2 p hp
     ·exact b2 p hp
theorem Iz {st:St} {m:Pm} {v:V} {av:AV} {u q:List Lb} {r:List (Nat×Nat)} (h:eg st m v=some (av,u,q,r)):(∀s j,.sp s j∈u→xf st (s,j))∧∀p∈r,xf st p:=by
 have single:∀own cs ag,(match eG st own cs with | some (os,u,r)=>some (AV.val ag os,cg u,cg u,r) | none=>none)=some (av,u,q,r)→(∀s j,.sp s j∈u→xf st (s,j))∧∀p∈r,xf st p:=by
  intro own cs ag h
  cases hq:eG st own cs with
  |none=>simp [hq] at h
  |some p=>
   obtain ⟨os,us,rs⟩:=p;simp only [hq,Option.some.injEq,Prod.mk.injEq] at h;obtain ⟨_,rfl,rfl,rfl⟩:=h;exact ub cs hq
 cases v with
 |m9 _=>simp [eg] at h
 |agg cs=>
  unfold eg at h
  cases m with
  |shr=>exact single _ _ _ h
  |own=>exact single _ _ _ h
  |pick _=>exact single _ _ _ h
  |soft _=>exact single _ _ _ h
  |io=>exact single _ _ _ h
  |bR=>
   simp only at h
   cases hq:eG st true cs with
   |none=>simp [hq] at h
   |some p=>
    obtain ⟨os,us,rs⟩:=p;simp only [hq] at h;obtain ⟨_,h1⟩:=aK h;simp only [Option.some.injEq,Prod.mk.injEq] at h1;obtain ⟨_,rfl,_,rfl⟩:=h1;exact ub cs hq
 |one cx=>
  cases cx with
  |ptr b g off=>
   unfold eg at h;simp only at h
   cases hb:cZ st b g with
   |none=>simp [hb] at h
   |some cs=>
    simp only [hb] at h
    cases hq:eG st true cs with
    |none=>simp [hq] at h
    |some p=>
     obtain ⟨os,us,rs⟩:=p;simp only [hq] at h;obtain ⟨_,h1⟩:=aK h;simp only [Option.some.injEq,Prod.mk.injEq] at h1;obtain ⟨_,rfl,rfl,rfl⟩:=h1;obtain ⟨a1,a2⟩:=ub cs hq;refine ⟨fun s j hm => ?_,a2⟩;rcases List.mem_cons.1 hm with hm | hm
     ·cases hm
     ·exact a1 s j hm
  |ref s j g vw=>
   unfold eg at h
   cases m with
   |shr=>exact single _ _ _ h
   |own=>exact single _ _ _ h
   |pick _=>exact single _ _ _ h
   |soft _=>exact single _ _ _ h
   |bR=>exact single _ _ _ h
   |io=>
    cases vw with
    |full=>
     cases hA:aX st s j g with
     |none=>simp [hA] at h
     |some A=>
      simp only [hA] at h;obtain ⟨hb,h1⟩:=aK h;simp only [Option.some.injEq,Prod.mk.injEq] at h1;obtain ⟨_,rfl,_,rfl⟩:=h1;refine ⟨fun s' j' hm => ?_,by simp⟩;simp at hm;obtain ⟨rfl,rfl⟩:=hm;rw [Bool.and_eq_true] at hb;exact ⟨g,A,hA,by cases hh:A.md.Fc<;>simp_all⟩
    |«from» _=>simp at h
    |sub _ _=>simp at h
  |_=>
   unfold eg at h;simp only at h
   split at h
   ·rename_i os us rs hq;simp only [Option.some.injEq,Prod.mk.injEq] at h;obtain ⟨_,rfl,_,rfl⟩:=h;exact ub _ hq
   ·cases h
theorem CH {st:St}:(ms:List (Pm×V))→{dX:List AV}→{u q:List Lb}→{r:List (Nat×Nat)}→iN st ms=some (dX,u,q,r)→(∀s j,.sp s j∈u→xf st (s,j))∧∀p∈r,xf st p
 | [],_,_,_,_,h=>by
  simp only [iN,Option.some.injEq,Prod.mk.injEq] at h;obtain ⟨_,rfl,_,rfl⟩:=h;simp
 |(m,v)::ms,dX,u,q,r,h=>by
  unfold iN at h
  cases h1:eg st m v with
  |none=>simp [h1] at h
  |some p1=>
   obtain ⟨av,u1,q1,r1⟩:=p1
   cases h2:iN st ms with
   |none=>simp [h1,h2] at h
   |some p2=>
    obtain ⟨Sb,u2,q2,r2⟩:=p2;simp only [h1,h2,Option.some.injEq,Prod.mk.injEq] at h;obtain ⟨_,rfl,_,rfl⟩:=h;obtain ⟨a1,a2⟩:=Iz h1;obtain ⟨b1,b2⟩:=CH ms h2;refine ⟨fun s j hm => ?_,fun p hp => ?_⟩
    ·rcases List.mem_append.1 hm with hm | hm
     ·exact a1 s j hm
     ·exact b1 s j hm
    ·rcases List.mem_append.1 hp with hp | hp
     ·exact a2 p hp
     ·exact b2 p hp
theorem Dk:{l:List Nat}→G0 l=true→∀ {a b:Nat} {x y:Nat},l[a]?=some x→l[b]?=some y→a<b→x<y
 | [],_,a,b,x,y,h,_,_=>by simp at h
 | [z],_,a,b,x,y,h1,h2,hab=>by
  have:b=0:=by
   have:=(List.getElem?_eq_some_iff.1 h2).1;simpa using this
  omega
 |z::z'::l,h,a,b,x,y,h1,h2,hab=>by
  simp only [G0,Bool.and_eq_true] at h;have hz:z<z':=by have:=h.1;simp [Nat.blt] at this;omega
  cases b with
  |zero=>omega
  |succ b=>
   cases a with
   |succ a=>exact Dk h.2 (by simpa using h1) (by simpa using h2) (by omega)
   |zero=>
    simp at h1;subst h1
    cases b with
    |zero=>simp at h2;omega
    |succ b=>
     have:=Dk (a:=0) (b:=b+1) h.2 rfl (by simpa using h2) (by omega);omega
theorem PQ {l:List Nat} (h:G0 l=true) {a b x:Nat} (h1:l[a]?=some x) (h2:l[b]?=some x):a=b:=by
 rcases Nat.lt_trichotomy a b with h3 | h3 | h3
 ·have:=Dk h h1 h2 h3;omega
 ·exact h3
 ·have:=Dk h h2 h1 h3;omega
theorem DZ {k:Nat}:(n:Nat)→(l:List Dr)→(∃y∈l,y.k=k)→∃i y,posOf k n l=n+i∧l[i]?=some y∧y.k=k
 |n,[],h=>by obtain ⟨y,hy,_⟩:=h;cases hy
 |n,x::l,h=>by
  unfold posOf
  cases hb:Nat.beq x.k k with
  |true=>exact ⟨0,x,rfl,rfl,Nat.eq_of_beq_eq_true hb⟩
  |false=>
   have eH:x.k≠k:=by intro e;rw [e,Nat.beq_refl] at hb;cases hb
   obtain ⟨y,hy,e⟩:=h;rcases List.mem_cons.1 hy with rfl | hy
   ·exact absurd e eH
   ·obtain ⟨i,y',h1,h2,h3⟩:=DZ (n+1) l ⟨y,hy,e⟩;exact ⟨i+1,y',by rw [cond_false,h1];omega,by simpa using h2,h3⟩
theorem IA {l:List Dr} (hi:G0 (l.map (·.k))=true) {i:Nat} {y:Dr} (h:l[i]?=some y):posOf y.k 0 l=i:=by
 obtain ⟨i',y',h1,h2,h3⟩:=DZ (k:=y.k) 0 l ⟨y,List.mem_of_getElem? h,rfl⟩;rw [h1,Nat.zero_add];exact PQ hi (x:=y.k) (by rw [List.getElem?_map,h2];simp [h3]) (by rw [List.getElem?_map,h];rfl)
def Dr.cv (y:Dr):CV:=.pr y.a y.j y.g y.e y.i y.k y.q y.ys
theorem uV {y:Dr}:{cs:List CV}→y∈yU cs→y.cv∈cs
 | [],h=>by simp [yU] at h
 |c::cs,h=>by
  cases c with
  |pr a j g e i k q ys=>
   rcases List.mem_cons.1 h with rfl | h
   ·exact List.mem_cons_self
   ·exact List.mem_cons_of_mem _ (uV h)
  |_=>exact List.mem_cons_of_mem _ (uV h)
theorem D0 {a j g e i k:Nat} {q:RT} {ys:List (aA q)}:{cs:List CV}→CV.pr a j g e i k q ys∈cs→(⟨a,j,g,e,i,k,q,ys⟩:Dr)∈yU cs
 | [],h=>by cases h
 |c::cs,h=>by
  rcases List.mem_cons.1 h with rfl | h
  ·exact List.mem_cons_self
  ·have:=D0 (cs:=cs) h
   cases c with
   |pr _ _ _ _ _ _ _ _=>exact List.mem_cons_of_mem _ this
   |_=>exact this
theorem D1 {y:Dr}:{ms:List (Pm×V)}→y∈rh ms→∃m∈ms,(m=(.io,.one y.cv))∨∃cs,m=(.bR,.agg cs)∧y.cv∈cs
 | [],h=>by simp [rh] at h
 |(p,v)::ms,h=>by
  have rest:y∈rh ms→∃m∈(p,v)::ms,(m=(.io,.one y.cv))∨∃cs,m=(.bR,.agg cs)∧y.cv∈cs:=fun h=>by
   obtain ⟨m,hm,e⟩:=D1 h;exact ⟨m,List.mem_cons_of_mem _ hm,e⟩
  cases p with
  |io=>cases v with
   |one c=>
    rcases List.mem_append.1 h with h | h
    ·have:=uV h;simp at this;exact ⟨_,List.mem_cons_self,.inl (by rw [this])⟩
    ·exact rest h
   |_=>exact rest h
  |bR=>cases v with
   |agg cs=>
    rcases List.mem_append.1 h with h | h
    ·exact ⟨_,List.mem_cons_self,.inr ⟨cs,rfl,uV h⟩⟩
    ·exact rest h
   |_=>exact rest h
  |_=>exact rest (by cases v<;>exact h)
theorem Gc {a j g e i k:Nat} {q:RT} {ys:List (aA q)}:{ms:List (Pm×V)}→(.io,.one (.pr a j g e i k q ys))∈ms→(⟨a,j,g,e,i,k,q,ys⟩:Dr)∈rh ms
 | [],h=>by cases h
 |(p,v)::ms,h=>by
  rcases List.mem_cons.1 h with h | h
  ·cases h
   exact List.mem_append_left _ List.mem_cons_self
  ·have:=Gc (ms:=ms) h
   cases p<;>cases v<;>first | exact this | exact List.mem_append_right _ this
theorem CI {a j g e i k:Nat} {q:RT} {ys:List (aA q)} {cs:List CV} (hc:CV.pr a j g e i k q ys∈cs):{ms:List (Pm×V)}→(.bR,.agg cs)∈ms→(⟨a,j,g,e,i,k,q,ys⟩:Dr)∈rh ms
 | [],h=>by cases h
 |(p,v)::ms,h=>by
  rcases List.mem_cons.1 h with h | h
  ·cases h
   exact List.mem_append_left _ (D0 hc)
  ·have:=CI hc (ms:=ms) h
   cases p<;>cases v<;>first | exact this | exact List.mem_append_right _ this
theorem AJ {st:St} {ms:List (Pm×V)} {x:Dr} {A:gu} {l:List Dr} (h:mo st ms=some (x,A,l)) :
  l=rh ms∧aX st x.a x.j x.g=some A∧A.own=true∧A.md=.dp∧j7 st x.a=x.e∧(∀y∈l,y.a=x.a∧y.j=x.j∧y.g=x.g∧y.e=x.e∧y.i=x.i)∧G0 (l.map (·.k))=true∧x.a≠st.length-1:=by
 unfold mo at h
 cases hd:rh ms with
 |nil=>rw [hd] at h;cases h
 |cons y l'=>
  rw [hd] at h;simp only at h
  cases hA:aX st y.a y.j y.g with
  |none=>rw [hA] at h;cases h
  |some B=>
   rw [hA] at h;simp only at h;obtain ⟨h1,h⟩:=aK h;simp only [Option.some.injEq,Prod.mk.injEq] at h;obtain ⟨rfl,rfl,rfl⟩:=h;simp only [Bool.and_eq_true] at h1;obtain ⟨⟨⟨⟨⟨h1,h2⟩,h3⟩,h4⟩,h5⟩,h6⟩:=h1;refine ⟨rfl,hA,h1,Md.je.1 h2,(Nat.eq_of_beq_eq_true h3).symm,fun z hz => ?_,h5,fun e => ?_⟩
   ·rcases List.mem_cons.1 hz with rfl | hz
    ·exact ⟨rfl,rfl,rfl,rfl,rfl⟩
    ·have:=List.all_eq_true.1 h4 z hz;simp only [Bool.and_eq_true] at this;obtain ⟨⟨⟨⟨q1,q2⟩,q3⟩,q4⟩,q5⟩:=this;exact ⟨Nat.eq_of_beq_eq_true q1,Nat.eq_of_beq_eq_true q2,Nat.eq_of_beq_eq_true q3,Nat.eq_of_beq_eq_true q4,Nat.eq_of_beq_eq_true q5⟩
   ·rw [←e,Nat.beq_refl] at h6
    cases h6
theorem IB:(r:RT)→(x:aA r)→(k:Nat)→{p:(q:RT)×List (aA q)}→kR r x k=some p→k<r.width
 |.nil,_,_,_,h=>by simp [kR] at h
 |.cons t r,x,0,_,_=>by simp [RT.width]
 |.cons t r,x,k+1,p,h=>by
  have h':kR r x.2 k=some p:=by cases t<;>exact h
  have:=IB r x.2 k h';simp [RT.width];omega
noncomputable def Cz.split (c:Cz) (a j i P:Nat) (gg:Nat→List Nat) (l:List Dr) (OL:Nat→Loc):Cz:=
 {
  bx:=c.bx,lc:=fun s k=>if s=P then OL k else c.lc s k,
  own:=fun k=>have:=Classical.propDecidable (c.own k=some (.sp a j)∧∃y q,y∈l∧gg k=i::y.k::q);if c.own k=some (.sp a j)∧∃y q,y∈l∧gg k=i::y.k::q then some (.sp P (posOf ((gg k).getD 1 0) 0 l)) else c.own k,rs:=c.rs }
theorem Cz.oh {c:Cz} {a j i P:Nat} {gg:Nat→List Nat} {l:List Dr} {OL:Nat→Loc} {k:Nat} (h:¬(c.own k=some (.sp a j)∧∃y q,y∈l∧gg k=i::y.k::q)):(c.split a j i P gg l OL).own k=c.own k:=by
 unfold Cz.split;simp only;rw [if_neg h]
theorem Cz.IC {c:Cz} {a j i P:Nat} {gg:Nat→List Nat} {l:List Dr} {OL:Nat→Loc} (hi:G0 (l.map (·.k))=true) {k n:Nat} {y:Dr} {q:List Nat} (h:c.own k=some (.sp a j)) (hy:l[n]?=some y) (hg:gg k=i::y.k::q):(c.split a j i P gg l OL).own k=some (.sp P n):=by
 unfold Cz.split;simp only;rw [if_pos ⟨h,y,q,List.mem_of_getElem? hy,hg⟩,hg];have:(i::y.k::q).getD 1 0=y.k:=rfl;rw [this,IA hi hy]
theorem Cz.xg {c:Cz} {a j i P:Nat} {gg:Nat→List Nat} {l:List Dr} {OL:Nat→Loc} {k:Nat}:(c.split a j i P gg l OL).ok k↔c.ok k:=by
 unfold Cz.ok
 by_cases h:c.own k=some (.sp a j)∧∃y q,y∈l∧gg k=i::y.k::q
 ·have h0:=h.1;unfold Cz.split;simp only;rw [if_pos h,h0];simp
 ·rw [Cz.oh h]
theorem Cz.Kb {c:Cz} {a j i P:Nat} {gg:Nat→List Nat} {l:List Dr} {OL:Nat→Loc} {k:Nat} {lb:Lb} (h:(c.split a j i P gg l OL).own k=some lb):c.own k=some lb∨(c.own k=some (.sp a j)∧∃n,lb=.sp P n):=by
 by_cases h1:c.own k=some (.sp a j)∧∃y q,y∈l∧gg k=i::y.k::q
 ·unfold Cz.split at h;simp only at h;rw [if_pos h1] at h;exact .inr ⟨h1.1,_,(Option.some.inj h).symm⟩
 ·rw [Cz.oh h1] at h;exact .inl h
theorem xh {st:St} {x:Dr} {A:gu} {l:List Dr} (eH:x.a≠st.length-1) (s:Nat):nth (ev st x A l) s=if s=st.length-1 then (nth st s).map (fun z=>{ z with aO:=l.map (fun y=>some y.arr),ag:=z.ag+1,ep:=z.ep+1 }) else
  (if s=x.a then (nth st s).map (fun z=>{ z with aO:=lX (fun _=>some { A with md:=.ho x.i }) z.aO x.j,ep:=z.ep+1 }) else nth st s):=by
 unfold ev bl;rw [cU,cU]
 by_cases e:s=st.length-1
 ·rw [if_pos e,if_pos e,if_neg (show ¬(s=x.a) from fun e'=>eH (e'.symm.trans e))]
 ·rw [if_neg e,if_neg e]
end Go.TM
namespace Go.TM
open Go Go.RowKit
structure TS (c c1:Cz) (st:St) (w:World) (x:Dr) (A:gu) (l:List Dr) (gg:Nat→List Nat) (b o cap:Nat):Prop where
 lc:c.lc x.a x.j=.at b o cap
 lc1:c1.lc x.a x.j=.at b o cap
 own:c.own b=some (.sp x.a x.j)
 g0:gg b=[]
 rows:∀(i:Nat) z,A.xs[i]?=some z→eK w (fun p k=>c.own k=some (.sp x.a x.j)∧gg k=p) A.r [i] 0 b (o+i*A.r.width) z
 stay:∀k,c.own k=some (.sp x.a x.j)→(∀y∈l,∀q,gg k≠x.i::y.k::q)→c1.own k=some (.sp x.a x.j)
 out:∀n y,l[n]?=some y→∃v,w.cell? ⟨b,o+x.i*A.r.width+y.k,none⟩=some v∧v.oneCell'=true∧fh (c1.lc (st.length-1) n) y.q.width 0 y.ys.length v∧y.k<A.r.width
 len:x.i<A.xs.length
theorem xg {w0:World} {mu:Mu} {c:Cz} {st:St} {a:Act} {w:World} (h:Rel w0 mu c st a w) {ms:List (Pm×V)} {x:Dr} {A:gu} {l:List Dr} (hs:mo st ms=some (x,A,l)) (xe:∀m∈ms,∃v,ej c st w m.2 v) :
  ∃(c1:Cz) (gg:Nat→List Nat) (b o cap:Nat),Rel w0 mu c1 (ev st x A l) a w∧Fw c st w c1 (ev st x A l) w∧TS c c1 st w x A l gg b o cap∧
   ∀m∈ms,∀v,ej c st w m.2 v→ej c1 (ev st x A l) w (RN (st.length-1) (n4 st (st.length-1)+1) l m).2 v:=by
 obtain ⟨hl,hA,dR,sM,hep,mI,Na,eH⟩:=AJ hs;have pU:∀y∈l,∃v,jh c st w y.cv v:=by
  intro y hy;rw [hl] at hy;obtain ⟨m,hm,e | ⟨cs,e,hc⟩⟩:=D1 hy
  ·obtain ⟨v,hv⟩:=xe m hm;rw [e] at hv;exact ⟨v,hv⟩
  ·obtain ⟨v,hv⟩:=xe m hm;rw [e] at hv;obtain ⟨vs,rfl,hL⟩:=hv;obtain ⟨k,hk⟩:=List.mem_iff_getElem?.1 hc;have cA:k<vs.toList.length:=by rw [←hL.1];exact (List.getElem?_eq_some_iff.1 hk).1
   exact ⟨_,hL.2 k _ _ hk (List.getElem?_eq_getElem cA)⟩
 have abe:∀y∈l,∀v,jh c st w y.cv v→∃(gg:Nat→List Nat) (b o cap:Nat),c.lc x.a x.j=.at b o cap∧A.md=.dp∧gg b=[]∧w.cell? ⟨b,o+x.i*A.r.width+y.k,none⟩=some v∧
   (∀(i:Nat) z,A.xs[i]?=some z→eK w (fun p k=>c.own k=some (.sp x.a x.j)∧gg k=p) A.r [i] 0 b (o+i*A.r.width) z)∧(∃z,A.xs[x.i]?=some z∧kR A.r z y.k=some ⟨y.q,y.ys⟩):=by
  intro y hy v hv;obtain ⟨e1,e2,e3,e4,e5⟩:=mI y hy;obtain ⟨ya,yj,yg,ye,yi,yk,yq,yys⟩:=y;simp only at e1 e2 e3 e4 e5;subst e1 e2 e3 e4 e5;obtain ⟨gg,b,o,cap,h1,h2,h3,h4,h5,h6,_⟩:=DS hv hA hep (h.tR hA);exact ⟨gg,b,o,cap,h1,h2,h3,h4,h5,h6⟩
 have ee:=h.tR hA;obtain ⟨y0,hy0⟩:∃y,y∈l:=by
  cases R7:l with
  |cons y _=>exact ⟨y,List.mem_cons_self⟩
  |nil=>
   rw [R7] at hl;unfold mo at hs;rw [←hl] at hs
   cases hs
 obtain ⟨v0,hv0⟩:=pU y0 hy0;obtain ⟨gg,b,o,cap,gN,_,JC,_,yH,RE⟩:=abe y0 hy0 v0 hv0;have PR:∀y∈l,∀v,jh c st w y.cv v→w.cell? ⟨b,o+x.i*A.r.width+y.k,none⟩=some v∧(∃z,A.xs[x.i]?=some z∧kR A.r z y.k=some ⟨y.q,y.ys⟩):=by
  intro y hy v hv;obtain ⟨_,b',o',G3,h1,_,_,h4,_,h6⟩:=abe y hy v hv;rw [gN] at h1;injection h1 with e1 e2 e3;subst e1 e2 e3;exact ⟨h4,h6⟩
 have PS:∀n:Nat,∃lc:Loc,∀y,l[n]?=some y→∃v,w.cell? ⟨b,o+x.i*A.r.width+y.k,none⟩=some v∧v.oneCell'=true∧fh lc y.q.width 0 y.ys.length v∧
   ((lc=.nil∧y.ys=[])∨∃b' off G3,lc=.at b' off G3∧(c.own b'=some (.sp x.a x.j)∧gg b'=[x.i,y.k])∧y.ys.length≤G3∧(∃cur ty,w.heap[b']?=some (.cells cur ty (0,0))∧off+G3*y.q.width≤cur.size)∧
    ∀(i:Nat) z,y.ys[i]?=some z→eK w (fun p k=>c.own k=some (.sp x.a x.j)∧gg k=p) y.q ([x.i,y.k]++[i]) 0 b' (off+i*y.q.width) z):=by
  intro n
  cases hn:l[n]? with
  |none=>exact ⟨.nil,fun y hy=>by cases hy⟩
  |some y=>
   have hy:=List.mem_of_getElem? hn;obtain ⟨v,hv⟩:=pU y hy;obtain ⟨h4,z,Vc,Se⟩:=PR y hy v hv;obtain ⟨v',q1,q2⟩:=BG A.r [x.i] 0 _ z y.k (yH x.i z Vc) Se;rw [h4] at q1
   cases q1
   obtain ⟨lc,r1,r2,r3⟩:=(wV _ _ _ _ _ _).1 q2;refine ⟨lc,fun y' OK => ?_⟩
   cases OK
   exact ⟨v,h4,r2,r1,by simpa using r3⟩
 obtain ⟨OL,Vd⟩:=Classical.axiomOfChoice PS;have hb:c.own b=some (.sp x.a x.j):=by
  unfold bO at ee;rw [gN] at ee;have:=ee.1
  rwa [dR] at this
 let P:=st.length-1
 let c1:=c.split x.a x.j x.i P gg l OL
 have AK:=xh (A:=A) (l:=l) eH;obtain ⟨sla,TT,ha2,ha3⟩:=bd hA;have Ve:P<st.length:=by
  have:=G2 TT;show st.length-1<st.length;omega
 obtain ⟨slP,hP⟩:∃s,nth st P=some s:=⟨st[P],by rw [fX];exact List.getElem?_eq_getElem Ve⟩;have hgP:n4 st P=slP.ag:=by unfold n4;rw [hP]
 have Gd:∀s k,s≠P→c1.lc s k=c.lc s k:=fun s k e=>by show (if s=P then _ else _)=_;rw [if_neg e]
 have PT:∀k,c1.lc P k=OL k:=fun k=>by show (if P=P then _ else _)=_;rw [if_pos rfl]
 have BJ:∀s,cK st s≤cK (ev st x A l) s∧ff st s=ff (ev st x A l) s∧j7 st s≤j7 (ev st x A l) s∧(s=P∨s=x.a→nth st s≠none→j7 (ev st x A l) s≠j7 st s):=by
  intro s;unfold cK ff j7;rw [AK]
  by_cases e:s=st.length-1
  ·rw [if_pos e]
   cases nth st s with
   |none=>simp
   |some z=>refine ⟨by simp,rfl,by simp,fun _ _=>by simp⟩
  ·rw [if_neg e]
   by_cases e2:s=x.a
   ·rw [if_pos e2]
    cases nth st s with
    |none=>simp
    |some z=>refine ⟨by simp,rfl,by simp,fun _ _=>by simp⟩
   ·rw [if_neg e2];exact ⟨Nat.le_refl _,rfl,Nat.le_refl _,fun h=>absurd h (by rintro (h | h);exact e h;exact e2 h)⟩
 have abh:cK (ev st x A l) P=slP.ag+1:=by
  unfold cK;rw [AK,if_pos rfl,hP];rfl
 have fj:Fw c st w c1 (ev st x A l) w:={
  stays:=⟨Nat.le_refl _,fun _ _ _=>rfl,fun _ _ h=>Cz.xg.2 h⟩
  refs:=fun a' j' g' A2 hg J3=>by
   obtain ⟨sl,k1,k2,k3⟩:=bd J3;rw [AK] at k1
   by_cases e:a'=st.length-1
   ·rw [if_pos e] at k1;obtain ⟨z,hz,rfl⟩:=Option.map_eq_some_iff.1 k1;unfold cK at hg;rw [hz] at hg;simp only at k2 hg;omega
   ·rw [if_neg e] at k1
    by_cases e2:a'=x.a
    ·rw [if_pos e2] at k1;obtain ⟨z,hz,rfl⟩:=Option.map_eq_some_iff.1 k1;have abi:=(BJ a').2.2.2 (.inr e2) (by rw [hz];simp);simp only at k2 k3;rw [cU] at k3
     by_cases e3:j'=x.j
     ·rw [if_pos e3] at k3;subst e2 e3;rw [TT] at hz
      cases hz
      rw [ha3] at k3;simp only [Option.map_some,Option.some.injEq] at k3;subst k3;exact ⟨A,oU TT k2 ha3,rfl,rfl,Gd _ _ e,fun he=>absurd he abi⟩
     ·rw [if_neg e3] at k3;exact ⟨A2,oU hz k2 k3,rfl,rfl,Gd _ _ e,fun he=>absurd he abi⟩
    ·rw [if_neg e2] at k1;exact ⟨A2,oU k1 k2 k3,rfl,rfl,Gd _ _ e,fun _=>⟨rfl,fun _ _ _ _=>rfl⟩⟩
  Bv:=fun b' g' lM _ mr=>by
   refine ⟨⟨lM,?_⟩,rfl⟩;unfold cZ at mr ⊢;rw [AK] at mr
   by_cases e:b'=st.length-1
   ·rw [if_pos e] at mr
    cases hz:nth st b' with
    |none=>rw [hz] at mr;cases mr
    |some z=>rw [hz] at mr;exact mr
   ·rw [if_neg e] at mr
    by_cases e2:b'=x.a
    ·rw [if_pos e2] at mr
     cases hz:nth st b' with
     |none=>rw [hz] at mr;cases mr
     |some z=>rw [hz] at mr;exact mr
    ·rw [if_neg e2] at mr;exact mr
  gA:=fun s=>(BJ s).1
  gB:=fun s=>Nat.le_of_eq (BJ s).2.1
  gE:=fun s=>(BJ s).2.2.1 }
 have abj:∀t,bV (ev st x A l) t=bV st t:=by
  intro t;unfold bV;rw [AK]
  by_cases e:t=st.length-1
  ·rw [if_pos e];cases nth st t<;>rfl
  ·rw [if_neg e]
   by_cases e2:t=x.a
   ·rw [if_pos e2];cases nth st t<;>rfl
   ·rw [if_neg e2]
 have other:∀s k B,bO c w s k B→¬(s=x.a∧k=x.j)→s≠P→bO c1 w s k B:=by
  intro s k B hB hn hsP;refine hB.go fj.stays (Gd s k hsP) (fun kb hk=>⟨rfl,Cz.oh ?_⟩)
  rintro ⟨h1,_⟩
  rw [hk] at h1;injection h1 with h1;injection h1 with e1 e2;exact hn ⟨e1,e2⟩
 have agM:Rel w0 mu c1 (ev st x A l) a w:={
  ea:=fun t=>by rw [abj];exact fj.kP (h.ea t)
  boxes:=fun s sl cs hs mr=>by
   have:∃CA,nth st s=some CA∧CA.box=some cs:=by
    rw [AK] at hs
    by_cases e:s=st.length-1
    ·rw [if_pos e] at hs;obtain ⟨z,hz,rfl⟩:=Option.map_eq_some_iff.1 hs;exact ⟨z,hz,mr⟩
    ·rw [if_neg e] at hs
     by_cases e2:s=x.a
     ·rw [if_pos e2] at hs;obtain ⟨z,hz,rfl⟩:=Option.map_eq_some_iff.1 hs;exact ⟨z,hz,mr⟩
     ·rw [if_neg e2] at hs;exact ⟨sl,hs,mr⟩
   obtain ⟨CA,fT,UH⟩:=this;have Bq:=h.boxes s CA cs fT UH;refine Bq.go fj rfl (Cz.oh ?_) rfl
   rintro ⟨h1,_⟩
   rw [Bq.1] at h1
   cases h1
  aO:=fun s k sl B hs hB=>by
   rw [AK] at hs
   by_cases e:s=st.length-1
   ·rw [if_pos e] at hs;obtain ⟨z,hz,rfl⟩:=Option.map_eq_some_iff.1 hs;simp only at hB;rw [fX,List.getElem?_map] at hB
    cases hy:l[k]? with
    |none=>rw [hy] at hB;cases hB
    |some y=>
     rw [hy] at hB;simp only [Option.map_some,Option.some.injEq] at hB;subst hB;obtain ⟨v,r1,r2,r3,r4⟩:=Vd k y hy;have es:s=P:=e;rw [es];unfold bO;rw [PT];rcases r4 with ⟨e4,e5⟩ | ⟨b',off,G3,e4,⟨q1,q2⟩,q3,q4,q5⟩
     ·rw [e4];exact e5
     ·rw [e4];refine ⟨Cz.IC Na q1 hy (q:=[]) q2,q3,q4,?_⟩;unfold bq;show match (bif y.q.dZ then Md.dp else Md.sh) with | .sh=>_ | .dp=>_ | .ho _=>_ | .lz=>_
      cases Sf:y.q.dZ with
      |false=>exact fun i z hz=>eK.H0 _ _ _ _ _ z Sf (q5 i z hz)
      |true=>
       refine ⟨fun k=>(gg k).drop 2,by show List.drop 2 (gg b')=[];rw [q2];rfl,fun i z hz=>eK.go _ _ [i] (fun q kb hk=>⟨rfl,Cz.IC Na hk.1 hy (q:=[i]++q) (by rw [hk.2];simp),by show List.drop 2 (gg kb)=_;rw [hk.2];simp⟩) _ _ _ z rfl (q5 i z hz)⟩
   ·rw [if_neg e] at hs
    by_cases e2:s=x.a
    ·rw [if_pos e2] at hs;obtain ⟨z,hz,rfl⟩:=Option.map_eq_some_iff.1 hs;simp only at hB;rw [cU] at hB
     by_cases e3:k=x.j
     ·rw [if_pos e3] at hB;subst e2 e3;rw [TT] at hz
      cases hz
      rw [ha3] at hB;simp only [Option.map_some,Option.some.injEq] at hB;subst hB;unfold bO at ee ⊢;rw [Gd _ _ e,gN];rw [gN] at ee;obtain ⟨h0,h2,h3,_⟩:=ee;refine ⟨?_,h2,h3,fun _=>⟨gg,JC,fun i' z hq hz=>eK.go _ [i'] [i'] (fun q kb hk=>⟨rfl,(Cz.oh (by
       rintro ⟨_,y,q',_,hg⟩
       rw [hk.2] at hg;injection hg with e' _;exact hq e')).trans hk.1,hk.2⟩) _ _ _ z rfl (yH i' z hz)⟩⟩
      show match A.own with | true=>_ | false=>_
      rw [dR];show c1.own b=_;rw [Cz.oh]
      ·exact hb
      ·rintro ⟨_,y,q,_,hq⟩
       rw [JC] at hq
       cases hq
     ·rw [if_neg e3] at hB;exact other s k B (h.aO s k z B hz hB) (fun hh=>e3 hh.2) e
    ·rw [if_neg e2] at hs;exact other s k B (h.aO s k sl B hs hB) (fun hh=>e2 hh.1) e
  owned:=fun kb lb hk=>by
   rcases Cz.Kb hk with h1 | ⟨h1,n,rfl⟩
   ·exact h.owned kb lb h1
   ·obtain ⟨g1,g2⟩:=h.owned kb _ h1;exact ⟨g1,.inr (g2.resolve_left (by simp))⟩
  free:=fun kb cA hk=>h.free kb cA (Cz.xg.1 hk)
  kept:=h.kept
  old:=h.old
  plain:=h.plain
  cV:=fun p hp=>fj.cV (h.cV p hp)
  mq:=h.mq }
 refine ⟨c1,gg,b,o,cap,agM,fj,⟨gN,by rw [Gd _ _ eH];exact gN,hb,JC,yH,fun k hk hq => ?_,fun n y hn => ?_,?_⟩,?_⟩
 ·show c1.own k=_;rw [Cz.oh]
  ·exact hk
  ·rintro ⟨_,y,q,hy,hq'⟩
   exact hq y hy q hq'
 ·obtain ⟨v,r1,r2,r3,_⟩:=Vd n y hn;refine ⟨v,r1,r2,by rw [PT];exact r3,?_⟩;obtain ⟨v',nY⟩:=pU y (List.mem_of_getElem? hn);obtain ⟨_,z,_,Se⟩:=PR y (List.mem_of_getElem? hn) v' nY;exact IB _ _ _ Se
 ·obtain ⟨z,Vc,_⟩:=RE;exact (List.getElem?_eq_some_iff.1 Vc).1
 ·-- JA values Mv ZJ kE
  have cell:∀cv v,jh c st w cv v→(∀a j g e i k q ys,cv=.pr a j g e i k q ys→(⟨a,j,g,e,i,k,q,ys⟩:Dr)∈l)→jh c1 (ev st x A l) w (UG (st.length-1) (n4 st (st.length-1)+1) l cv) v:=by
   intro cv v hv hm
   cases cv with
   |pr a j g e i k q ys=>
    have hy:=hm _ _ _ _ _ _ _ _ rfl;obtain ⟨n,hn⟩:=List.mem_iff_getElem?.1 hy;have PU:posOf k 0 l=n:=IA Na hn;show jh c1 (ev st x A l) w (.ref P (posOf k 0 l) (n4 st P+1) .full) v;rw [PU];obtain ⟨v',r1,r2,r3,_⟩:=Vd n _ hn;have hvv:=(PR _ hy v hv).1;rw [r1] at hvv
    cases hvv
    refine ⟨r2,by rw [abh,hgP];exact Nat.le_refl _,fun B hB => ?_⟩;obtain ⟨sl,k1,k2,k3⟩:=bd hB;rw [AK,if_pos rfl] at k1;obtain ⟨z,hz,rfl⟩:=Option.map_eq_some_iff.1 k1;simp only at k3;rw [fX,List.getElem?_map,hn] at k3;simp only [Option.map_some,Option.some.injEq] at k3;subst k3;rw [PT];exact r3
   |_=>exact fj.O4 hv
  intro m hm v hv;obtain ⟨pm,mv⟩:=m
  cases pm with
  |io=>cases mv with
   |one cv=>
    exact cell cv v hv (fun a j g e i k q ys e1=>by rw [hl];subst e1;exact Gc hm)
   |_=>exact fj.kP hv
  |bR=>cases mv with
   |agg cs=>
    obtain ⟨vs,rfl,hL⟩:=hv;refine ⟨vs,rfl,by rw [List.length_map];exact hL.1,fun i y u hy hu => ?_⟩;rw [List.getElem?_map] at hy;obtain ⟨y0,hy0,rfl⟩:=Option.map_eq_some_iff.1 hy;exact cell y0 u (hL.2 i y0 u hy0 hu) (fun a j g e i k q ys e1=>by rw [hl];subst e1;exact CI (List.mem_of_getElem? hy0) hm)
   |_=>exact fj.kP hv
  |_=>cases mv<;>exact fj.kP hv
end Go.TM
namespace Go.TM
open Go Go.RowKit
theorem Rel.clear {w0:World} {mu:Mu} {c:Cz} {st:St} {a:Act} {w:World} (h:Rel w0 mu c st a w) (P:Nat):Rel w0 mu c (lX (fun s=>{ s with aO:=[],ep:=s.ep+1 }) st P) a w∧Fw c st w c (lX (fun s=>{ s with aO:=[],ep:=s.ep+1 }) st P) w:=by
 have hn:∀s,nth (lX (fun s=>{ s with aO:=[],ep:=s.ep+1 }) st P) s=if s=P then (nth st s).map (fun z=>{ z with aO:=[],ep:=z.ep+1 }) else nth st s:=fun s=>cU _ _ _ _
 generalize lX (fun s=>{ s with aO:=[],ep:=s.ep+1 }) st P=aZ at hn ⊢;have fj:Fw c st w c aZ w:={
  stays:=iD.refl w _
  refs:=fun a' j' g' A' _ ee=>by
   obtain ⟨sl,k1,k2,k3⟩:=bd ee;rw [hn] at k1
   by_cases e:a'=P
   ·rw [if_pos e] at k1;obtain ⟨z,hz,rfl⟩:=Option.map_eq_some_iff.1 k1;simp [nth] at k3
   ·rw [if_neg e] at k1;exact ⟨A',oU k1 k2 k3,rfl,rfl,rfl,fun _=>⟨rfl,fun _ _ _ _=>rfl⟩⟩
  Bv:=fun b' g' lM _ mr=>by
   refine ⟨⟨lM,?_⟩,rfl⟩;unfold cZ at mr ⊢;rw [hn] at mr
   by_cases e:b'=P
   ·rw [if_pos e] at mr
    cases hz:nth st b' with
    |none=>rw [hz] at mr;cases mr
    |some z=>rw [hz] at mr;exact mr
   ·rw [if_neg e] at mr;exact mr
  gA:=fun s=>by
   unfold cK;rw [hn]
   by_cases e:s=P
   ·rw [if_pos e];cases nth st s<;>simp
   ·rw [if_neg e];exact Nat.le_refl _
  gB:=fun s=>by
   unfold ff;rw [hn]
   by_cases e:s=P
   ·rw [if_pos e];cases nth st s<;>simp
   ·rw [if_neg e];exact Nat.le_refl _
  gE:=fun s=>by
   unfold j7;rw [hn]
   by_cases e:s=P
   ·rw [if_pos e];cases nth st s<;>simp
   ·rw [if_neg e];exact Nat.le_refl _ }
 refine ⟨{
  ea:=fun t=>by
   have:bV aZ t=bV st t:=by
    unfold bV;rw [hn]
    by_cases e:t=P
    ·rw [if_pos e];cases nth st t<;>rfl
    ·rw [if_neg e]
   rw [this];exact fj.kP (h.ea t)
  boxes:=fun s sl cs hs hb=>by
   rw [hn] at hs
   by_cases e:s=P
   ·rw [if_pos e] at hs;obtain ⟨z,hz,rfl⟩:=Option.map_eq_some_iff.1 hs;exact (h.boxes s z cs hz hb).go fj rfl rfl rfl
   ·rw [if_neg e] at hs;exact (h.boxes s sl cs hs hb).go fj rfl rfl rfl
  aO:=fun s j sl A hs hA=>by
   rw [hn] at hs
   by_cases e:s=P
   ·rw [if_pos e] at hs;obtain ⟨z,hz,rfl⟩:=Option.map_eq_some_iff.1 hs;simp [nth] at hA
   ·rw [if_neg e] at hs;exact h.aO s j sl A hs hA
  owned:=h.owned
  free:=h.free
  kept:=h.kept
  old:=h.old
  plain:=h.plain
  cV:=fun p hp=>fj.cV (h.cV p hp)
  mq:=h.mq },fj⟩
theorem Rel.swap {w0:World} {mu:Mu} {c:Cz} {st:St} {a:Act} {w:World} (h:Rel w0 mu c st a w) {s j g:Nat} {H B:gu} (hH:aX st s j g=some H) (hw:B.r.width=H.r.width) (hn:B.xs.length=H.xs.length) (hB:bO c w s j B) :
  Rel w0 mu (c.dJ id c.bx c.lc) (bl st s j (some B)) a w:=by
 have fj:Fw c st w (c.dJ id c.bx c.lc) (bl st s j (some B)) w:=BI (.inl hH) (fun _ e=>by cases e;exact ⟨hw,hn⟩) id;have hX:kQ (fun _=>False) w0 mu c st a w:=⟨h.ea,fun s sl cs _=>h.boxes s sl cs,fun s j sl A _=>h.aO s j sl A,h.owned,h.free,h.kept,h.old,h.plain,h.cV,h.mq⟩;refine (hX.dJ rH fj (fun t=>by rw [xd];exact fj.kP (h.ea t)) (fun k sl cs _ hs hb => ?_) (fun k i sl A _ hs hA => ?_)).rel
 ·obtain ⟨f,hf,hk⟩:=gR st s j (some B) k;rw [hk] at hs
  cases hx:nth st k with
  |none=>rw [hx] at hs;simp at hs
  |some x=>
   rw [hx] at hs;simp at hs;subst hs;rw [(hf x).2.1] at hb;exact (h.boxes k x cs hx hb).dJ rH fj rfl
 ·obtain ⟨f,hf,hk⟩:=gR st s j (some B) k;rw [hk] at hs
  cases hx:nth st k with
  |none=>rw [hx] at hs;simp at hs
  |some x=>
   rw [hx] at hs;simp at hs;subst hs;rw [(hf x).2.2.2.2.1 i] at hA
   by_cases e:k=s∧i=j
   ·rw [if_pos e] at hA;obtain ⟨rfl,rfl⟩:=e
    cases hq:nth x.aO i with
    |none=>simp [hq] at hA
    |some A1=>
     simp only [hq,Option.map_some,Option.some.injEq] at hA;subst hA;exact hB.dJ rH rfl
   ·rw [if_neg e] at hA;exact (h.aO k i x A hx hA).dJ rH rfl
def iO (w:World) (P:List Nat→Nat→Prop) (K:Nat→Prop):(r:RT)→(p:List Nat)→(k:Nat)→List Value→aA r→Prop
 |.nil,_,_,vs,_=>vs=[]
 |.cons t r,p,k,vs,x=>∃v l,vs=v::l∧(¬K k→dC w P t (p++[k]) v x.1)∧iO w P K r p (k+1) l x.2
theorem iO.of {w w':World} {P P':List Nat→Nat→Prop} {K:Nat→Prop}:(r:RT)→(p:List Nat)→(hP:∀k q b,¬K k→P (p++[k]++q) b→w'.heap[b]?=w.heap[b]?∧P' (p++[k]++q) b)→(k:Nat)→(vs:List Value)→(x:aA r)→cr w P r p k vs x→iO w' P' K r p k vs x
 |.nil,_,_,_,_,_,h=>h
 |.cons t r,p,hP,k,vs,x,h=>by
  obtain ⟨v,l,e,h1,h2⟩:=h;exact ⟨v,l,e,fun hk=>dC.go t (p++[k]) (p++[k]) (fun q b hb=>hP k q b hk hb) v x.1 h1,iO.of r p hP (k+1) l x.2 h2⟩
theorem iO.full {w:World} {P:List Nat→Nat→Prop} {K:Nat→Prop} (hK:∀k,¬K k):(r:RT)→(p:List Nat)→(k:Nat)→(vs:List Value)→(x:aA r)→iO w P K r p k vs x→cr w P r p k vs x
 |.nil,_,_,_,_,h=>h
 |.cons t r,p,k,vs,x,h=>by
  obtain ⟨v,l,e,h1,h2⟩:=h;exact ⟨v,l,e,h1 (hK k),iO.full hK r p (k+1) l x.2 h2⟩
theorem iO.mono {w:World} {P:List Nat→Nat→Prop} {K K':Nat→Prop}:(r:RT)→(p:List Nat)→(k:Nat)→(hK:∀c,k≤c→K c→K' c)→(vs:List Value)→(x:aA r)→iO w P K r p k vs x→iO w P K' r p k vs x
 |.nil,_,_,_,_,_,h=>h
 |.cons t r,p,k,hK,vs,x,h=>by
  obtain ⟨v,l,e,h1,h2⟩:=h;exact ⟨v,l,e,fun hk=>h1 fun h=>hk (hK k (Nat.le_refl _) h),iO.mono r p (k+1) (fun c hc=>hK c (by omega)) l x.2 h2⟩
theorem iO.set {w:World} {P:List Nat→Nat→Prop} {q:RT} {ys:List (aA q)} {v:Value}:{K:Nat→Prop}→(r:RT)→(p:List Nat)→(k0:Nat)→(vs:List Value)→(x:aA r)→(col:Nat)→{z:aA r}→iO w P K r p k0 vs x→nb r x col q ys=some z→vs[col]?=some v→dC w P (.sl q) (p++[k0+col]) v ys→
  iO w P (fun c=>K c∧c≠k0+col) r p k0 vs z
 |_,.nil,_,_,_,_,_,_,_,h,_,_=>by simp [nb] at h
 |K,.cons t r,p,k0,vs,x,0,z,hx,h,hv,hd=>by
  obtain ⟨v',l,rfl,h1,h2⟩:=hx
  cases t with
  |sl q'=>
   have h:(bH q' ys).map (fun zs=>((zs,x.2):aA (.cons (.sl q') r)))=some z:=h;obtain ⟨zs,hzs,hz⟩:=Option.map_eq_some_iff.1 h;obtain ⟨e,rfl⟩:=bm hzs;subst e;subst hz;simp only [List.getElem?_cons_zero,Option.some.injEq] at hv;subst hv;exact ⟨v',l,rfl,fun _=>hd,iO.mono r p (k0+1) (fun c hc hK=>⟨hK,by omega⟩) l x.2 h2⟩
  |int _=>simp [nb] at h
  |bool=>simp [nb] at h
  |str=>simp [nb] at h
 |K,.cons t r,p,k0,vs,x,col+1,z,hx,h,hv,hd=>by
  obtain ⟨v',l,rfl,h1,h2⟩:=hx;have h':(nb r x.2 col q ys).map (fun z=>((x.1,z):aA (.cons t r)))=some z:=by cases t<;>exact h
  obtain ⟨z',ZQ,hz⟩:=Option.map_eq_some_iff.1 h';subst hz;have:=iO.set r p (k0+1) l x.2 col h2 ZQ (by simpa using hv) (by rw [show k0+1+col=k0+(col+1) by omega];exact hd);refine ⟨v',l,rfl,fun hk=>h1 fun h=>hk ⟨h,by omega⟩,?_⟩
  rwa [show k0+1+col=k0+(col+1) by omega] at this
theorem Kc {w:World} {P:List Nat→Nat→Prop} {p:List Nat} {v:Value} {r s:RT} {xs:List (aA r)} {ys:List (aA s)} (h:bH s xs=some ys) (hd:dC w P (.sl r) p v xs):dC w P (.sl s) p v ys:=by
 obtain ⟨e,rfl⟩:=bm h;subst e;exact hd
theorem D2 {st:St} {P g:Nat} {r:RT} {w:World} {PP:List Nat→Nat→Prop} {p:List Nat} {vs:List Value}:(n:Nat)→(l:List Dr)→(z:aA r)→{z':aA r}→uI st P g r n l z=some z'→
  (∀m y,l[m]?=some y→∀B,aX st P (n+m) g=some B→B.own=true→B.md=y.q.md→B.r=y.q→∃v,vs[y.k]?=some v∧dC w PP (.sl B.r) (p++[y.k]) v B.xs)→
  iO w PP (fun c=>∃y∈l,y.k=c) r p 0 vs z→cr w PP r p 0 vs z'
 |n,[],z,z',h,_,hx=>by
  simp only [uI,Option.some.injEq] at h;subst h;exact iO.full (by simp) _ _ _ _ _ hx
 |n,y::l,z,z',h,hy,hx=>by
  unfold uI at h
  cases hB:aX st P n g with
  |none=>rw [hB] at h;cases h
  |some B=>
   rw [hB] at h;obtain ⟨h1,h2⟩:=aK h;clear h;rw [Bool.and_eq_true] at h1
   cases hc:bH y.q B.xs with
   |none=>rw [hc] at h2;cases h2
   |some ys=>
    rw [hc] at h2;simp only at h2
    cases hr:nb r z y.k y.q ys with
    |none=>rw [hr] at h2;cases h2
    |some z1=>
     rw [hr] at h2;simp only at h2;obtain ⟨e,he⟩:=bm hc;obtain ⟨v,hv,hd⟩:=hy 0 y rfl B hB h1.1 (Md.je.1 h1.2) e;have Ke:dC w PP (.sl y.q) (p++[0+y.k]) v ys:=by
      rw [Nat.zero_add];exact Kc hc hd
     refine D2 (n+1) l z1 h2 (fun m y' hm B' Fk=>hy (m+1) y' (by simpa using hm) B' (by rw [show n+(m+1)=n+1+m by omega];exact Fk)) ?_;have:=iO.set _ _ _ _ _ _ hx hr hv Ke;refine iO.mono _ _ _ (fun c _ hc => ?_) _ _ this;obtain ⟨⟨y',OK,e'⟩,eH⟩:=hc;rcases List.mem_cons.1 OK with rfl | OK
     ·exact absurd e'.symm (by omega)
     ·exact ⟨y',OK,e'⟩
theorem PV {w0:World} {mu:Mu} {c c1 c5:Cz} {st gP aZ:St} {a2:Act} {w w':World} {x:Dr} {A:gu} {l:List Dr} {gg:Nat→List Nat} {b o cap:Nat} (eH:x.a≠st.length-1) (FT:aX st x.a x.j x.g=some A) (dR:A.own=true) (sM:A.md=.dp)
  (hA:bO c w x.a x.j A) (Na:G0 (l.map (·.k))=true) (Ff:TS c c1 st w x A l gg b o cap) (h5:Rel w0 mu c5 gP a2 w') (fj:Fw c1 (ev st x A l) w c5 gP w')
  (JE:∀k,c1.own k=some (.sp x.a x.j)→w'.heap[k]?=w.heap[k]?∧c5.own k=some (.sp x.a x.j))
  (hv:(JP (st.length-1) (n4 st (st.length-1)+1) x A l gP).val=some aZ):∃c6,Rel w0 mu c6 aZ a2 w':=by
 unfold JP at hv
 cases hH:aX gP x.a x.j x.g with
 |none=>rw [hH] at hv;cases hv
 |some H=>
  rw [hH] at hv;simp only at hv;obtain ⟨_,hv⟩:=cN hv
  cases hz:A.xs[x.i]? with
  |none=>rw [hz] at hv;cases hv
  |some z=>
   rw [hz] at hv;have hv:(match uI gP (st.length-1) (n4 st (st.length-1)+1) A.r 0 l z with
    |some z'=>N.done (bl (lX (fun s=>{ s with aO:=[],ep:=s.ep+1 }) gP (st.length-1)) x.a x.j (some (A.put (A.xs.set x.i z'))))
    |none=>.fail).val=some aZ:=hv
   cases hj:uI gP (st.length-1) (n4 st (st.length-1)+1) A.r 0 l z with
   |none=>rw [hj] at hv;cases hv
   |some z'=>
    rw [hj] at hv;simp only [N.val,Option.some.injEq] at hv;subst hv;obtain ⟨P,hP⟩:∃P,P=st.length-1:=⟨_,rfl⟩;rw [←hP] at eH hj ⊢;have H9:=eH;rw [hP] at H9;have AK:=xh (A:=A) (l:=l) H9;rw [←hP] at AK;obtain ⟨sla,TT,ha2,ha3⟩:=bd FT;have hgA:x.g≤cK (ev st x A l) x.a:=by
     unfold cK;rw [AK,if_neg eH,if_pos rfl,TT];show x.g≤sla.ag;omega
    have hfa:∀B0,aX (ev st x A l) x.a x.j x.g=some B0→B0.r.width=A.r.width∧B0.xs.length=A.xs.length:=by
     intro B0 hB0;obtain ⟨sl,k1,k2,k3⟩:=bd hB0;rw [AK,if_neg eH,if_pos rfl,TT] at k1;simp only [Option.map_some,Option.some.injEq] at k1;subst k1;simp only at k3;rw [cU,if_pos rfl,ha3] at k3;simp only [Option.map_some,Option.some.injEq] at k3;subst k3;exact ⟨rfl,rfl⟩
    obtain ⟨B0,q1,q2,q3,q4,_⟩:=fj.refs x.a x.j x.g H hgA hH;obtain ⟨e1,e2⟩:=hfa B0 q1;have agN:c5.lc x.a x.j=.at b o cap:=q4.trans Ff.lc1;have hPs:∀n B,aX gP P n (n4 st P+1)=some B→∃y,l[n]?=some y∧B.xs.length=y.ys.length∧B.r.width=y.q.width∧c5.lc P n=c1.lc P n:=by
     intro n B hB;have hgP:n4 st P+1≤cK (ev st x A l) P:=by
      unfold cK;rw [AK,if_pos rfl];have Ve:P<st.length:=by have:=G2 TT;omega
      have:nth st P=some st[P]:=by rw [fX];exact List.getElem?_eq_getElem Ve
      rw [this];unfold n4;rw [this];exact Nat.le_refl _
     obtain ⟨B1,r1,r2,r3,r4,_⟩:=fj.refs P n _ B hgP hB;obtain ⟨sl,k1,k2,k3⟩:=bd r1;rw [AK,if_pos rfl] at k1;obtain ⟨zz,Vf,rfl⟩:=Option.map_eq_some_iff.1 k1;simp only at k3;rw [fX,List.getElem?_map] at k3
     cases hy:l[n]? with
     |none=>rw [hy] at k3;cases k3
     |some y=>
      rw [hy] at k3;simp only [Option.map_some,Option.some.injEq] at k3;subst k3;exact ⟨y,rfl,r3,r2,r4⟩
    have hG:∃G:Nat→Nat→List Nat,∀n B y,aX gP P n (n4 st P+1)=some B→B.own=true→B.md=B.r.md→l[n]?=some y→∀v,v.oneCell'=true→fh (c5.lc P n) B.r.width 0 B.xs.length v→
      ∀(PP:List Nat→Nat→Prop) (p:List Nat),(∀k,c5.own k=some (.sp P n)→PP (p++G n k) k)→dC w' PP (.sl B.r) p v B.xs:=by
     have:∀n,∃G:Nat→List Nat,∀B y,aX gP P n (n4 st P+1)=some B→B.own=true→B.md=B.r.md→l[n]?=some y→∀v,v.oneCell'=true→fh (c5.lc P n) B.r.width 0 B.xs.length v→
      ∀(PP:List Nat→Nat→Prop) (p:List Nat),(∀k,c5.own k=some (.sp P n)→PP (p++G k) k)→dC w' PP (.sl B.r) p v B.xs:=by
      intro n
      by_cases e:∃B,aX gP P n (n4 st P+1)=some B∧B.own=true∧B.md=B.r.md
      ·obtain ⟨B,hB,ho,hm⟩:=e
       by_cases e2:∃v:Value,v.oneCell'=true∧fh (c5.lc P n) B.r.width 0 B.xs.length v
       ·obtain ⟨v,yG,J9⟩:=e2;obtain ⟨g,hg⟩:=Pd (h5.tR hB) ho hm;refine ⟨g,fun B' y Fk _ _ _ v' h1 h2 PP p hP' => ?_⟩;rw [hB] at Fk
        cases Fk
        exact hg v' h1 h2 PP p hP'
       ·refine ⟨fun _=>[],fun B' y Fk _ _ _ v' h1 h2 => ?_⟩;rw [hB] at Fk
        cases Fk
        exact absurd ⟨v',h1,h2⟩ e2
      ·exact ⟨fun _=>[],fun B' y Fk h1 h2=>absurd ⟨B',Fk,h1,h2⟩ e⟩
     obtain ⟨G,hG⟩:=Classical.axiomOfChoice this;exact ⟨G,fun n=>hG n⟩
    obtain ⟨G,hG⟩:=hG;have Sg:∃g6:Nat→List Nat,(∀k,c5.own k=some (.sp x.a x.j)→g6 k=gg k)∧∀n y k,l[n]?=some y→c5.own k=some (.sp P n)→g6 k=[x.i]++[y.k]++G n k:=by
     have key:∀k,∃q:List Nat,(c5.own k=some (.sp x.a x.j)→q=gg k)∧∀n y,l[n]?=some y→c5.own k=some (.sp P n)→q=[x.i]++[y.k]++G n k:=by
      intro k
      by_cases e:∃n y,l[n]?=some y∧c5.own k=some (.sp P n)
      ·obtain ⟨n,y,f1,f2⟩:=e;refine ⟨[x.i]++[y.k]++G n k,fun h => ?_,fun n' y' h1 h2 => ?_⟩
       ·rw [f2] at h;injection h with h;injection h with h _;exact absurd h.symm eH
       ·rw [f2] at h2;injection h2 with h2;injection h2 with _ h2;subst h2;rw [f1] at h1
        cases h1
        rfl
      ·exact ⟨gg k,fun _=>rfl,fun n y h1 h2=>absurd ⟨n,y,h1,h2⟩ e⟩
     obtain ⟨g6,h⟩:=Classical.axiomOfChoice key;exact ⟨g6,fun k=>(h k).1,fun n y k=>(h k).2 n y⟩
    obtain ⟨g6,Vg,agO⟩:=Sg;obtain ⟨mP,anH⟩:=h5.clear P;have Pj:∀n∈(List.range l.length).map (fun n=>(P,n)),∀sl B,nth (lX (fun s=>{ s with aO:=[],ep:=s.ep+1 }) gP P) n.1=some sl→nth sl.aO n.2≠some (some B):=by
     intro n hn sl B hs;obtain ⟨m,_,rfl⟩:=List.mem_map.1 hn;rw [cU,if_pos rfl] at hs;obtain ⟨zz,_,rfl⟩:=Option.map_eq_some_iff.1 hs;simp [nth]
    have hrl:=mP.gQ Pj x.a x.j;have yx:∀n y,l[n]?=some y→(P,n)∈(List.range l.length).map (fun n=>(P,n)):=fun n y hn=>List.mem_map.2 ⟨n,List.mem_range.2 (List.getElem?_eq_some_iff.1 hn).1,rfl⟩
    have PW:∀k,c5.own k=some (.sp x.a x.j)→(c5.gQ ((List.range l.length).map (fun n=>(P,n))) (.sp x.a x.j)).own k=some (.sp x.a x.j):=by
     intro k hk;rw [Cz.mQ]
     ·exact hk
     ·intro n hn e;obtain ⟨m,_,rfl⟩:=List.mem_map.1 hn;rw [hk] at e;injection e with e;injection e with e _;exact eH e
    have hH':aX (lX (fun s=>{ s with aO:=[],ep:=s.ep+1 }) gP P) x.a x.j x.g=some H:=by
     obtain ⟨sl,k1,k2,k3⟩:=bd hH;exact oU (by rw [cU,if_neg eH];exact k1) k2 k3
    have RF:c1.own b=some (.sp x.a x.j):=Ff.stay b Ff.own (fun y _ q e=>by rw [Ff.g0] at e;cases e);obtain ⟨hbw,hb5⟩:=JE b RF;have Ph:∀(i:Nat) zz,(A.xs.set x.i z')[i]?=some zz→eK w' (fun p k=>(c5.gQ ((List.range l.length).map (fun n=>(P,n))) (.sp x.a x.j)).own k=some (.sp x.a x.j)∧g6 k=p) A.r [i] 0 b (o+i*A.r.width) zz:=by
     intro i zz Vf;rw [List.getElem?_set] at Vf
     by_cases e:x.i=i
     ·subst e;rw [if_pos rfl,if_pos Ff.len] at Vf
      cases Vf
      obtain ⟨vs,r1,r2⟩:=(fU _ _ _ _ _ _).1 (Ff.rows x.i z hz);have wL:=cr.length _ _ _ _ _ r2;refine (fU _ _ _ _ _ _).2 ⟨vs,fun k v hkv=>by rw [World.cell?_of_block (w:=w) hbw];exact r1 k v hkv,?_⟩;refine D2 0 l z hj (fun m y hm B hB US TJ hBr => ?_) ?_
      ·rw [Nat.zero_add] at hB;obtain ⟨v,u1,u2,u3,u4⟩:=Ff.out m y hm;obtain ⟨y',f1,f2,f3,f4⟩:=hPs m B hB;rw [hm] at f1
       cases f1
       have hk:y.k<vs.length:=by rw [wL];exact u4
       have hvk:vs[y.k]?=some vs[y.k]:=List.getElem?_eq_getElem hk;have:=r1 y.k _ hvk;rw [u1] at this;refine ⟨v,by rw [hvk,←Option.some.inj this],?_⟩;refine hG m B y hB US (by rw [TJ,hBr]) hm v u2 (by rw [f4,f2,f3,hP];exact u3) _ _ (fun k hk=>⟨Cz.l6 (yx m y hm) hk,?_⟩);exact agO m y k hm hk
      ·refine iO.of _ [x.i] (fun k q kb hK hk => ?_) 0 vs z r2;have rn:=Ff.stay kb hk.1 (fun y hy q' e=>hK ⟨y,hy,by
        have h2:=hk.2;rw [e] at h2;simp at h2;exact h2.1⟩)
       obtain ⟨f1,f2⟩:=JE kb rn;exact ⟨f1,PW kb f2,by rw [Vg kb f2];exact hk.2⟩
     ·rw [if_neg e] at Vf;refine eK.go _ [i] [i] (fun q kb hk => ?_) _ _ _ zz hbw (Ff.rows i zz Vf);have rn:=Ff.stay kb hk.1 (fun y _ q' e'=>e (by
       have h2:=hk.2;rw [e'] at h2;simp at h2;exact h2.1))
      obtain ⟨f1,f2⟩:=JE kb rn;exact ⟨f1,PW kb f2,by rw [Vg kb f2];exact hk.2⟩
    refine ⟨_,hrl.swap hH' (B:=A.put (A.xs.set x.i z')) (by rw [q2,e1];rfl) (by rw [q3,e2];show (A.xs.set x.i z').length=_;simp) ?_⟩;unfold bO at hA ⊢;show match c5.lc x.a x.j with | .nil=>_ | .at b off cap=>_
    rw [agN];rw [Ff.lc] at hA;obtain ⟨_,g2,⟨cur,ty,g3,g4⟩,_⟩:=hA;refine ⟨?_,by show (A.xs.set x.i z').length≤cap;simpa using g2,⟨cur,ty,by rw [hbw];exact g3,g4⟩,?_⟩
    ·show match A.own with | true=>_ | false=>_
     rw [dR];exact PW b hb5
    ·unfold bq;show match A.md with | .sh=>_ | .dp=>_ | .ho _=>_ | .lz=>_
     rw [sM];exact ⟨g6,by rw [Vg b hb5];exact Ff.g0,Ph⟩
theorem LP {α β:Type} (f:α→β):(l:List α)→(n:Nat)→nth (l.map f) n=(nth l n).map f
 | [],_=>rfl
 |_::_,0=>rfl
 |_::l,n+1=>LP f l n
theorem pz (st:St) (s:Nat):nth (uJ st) s=(nth st s).map (TH st):=LP _ _ _
theorem Ge (st:St) (a j g:Nat):aX (uJ st) a j g=aX st a j g:=by
 unfold aX;rw [pz]
 cases nth st a<;>rfl
theorem Gf (st:St) (a:Nat):cK (uJ st) a=cK st a:=by
 unfold cK;rw [pz]
 cases nth st a<;>rfl
theorem Gg (st:St) (a:Nat):ff (uJ st) a=ff st a:=by
 unfold ff;rw [pz]
 cases nth st a<;>rfl
theorem PZ (st:St) (a:Nat):j7 (uJ st) a=j7 st a:=by
 unfold j7;rw [pz]
 cases nth st a<;>rfl
theorem Gh (st:St) (b g:Nat):cZ (uJ st) b g=(cZ st b g).map fun cs=>cs.map (Cq st):=by
 unfold cZ;rw [pz]
 cases nth st b with
 |none=>rfl
 |some x=>
  show (bif Nat.beq x.bg g then x.box.map _ else none)=_;simp only
  cases Nat.beq x.bg g<;>rfl
theorem Fw.uJ (c:Cz) (st:St) (w:World):Fw c st w c (uJ st) w where
 stays:=iD.refl w _
 refs a j g A' _ ee:=by
  rw [Ge] at ee;exact ⟨A',ee,rfl,rfl,rfl,fun _=>⟨rfl,fun _ _ _ _=>rfl⟩⟩
 Bv b g lM _ h:=by
  rw [Gh] at h;obtain ⟨cs,h1,_⟩:=Option.map_eq_some_iff.1 h;exact ⟨⟨cs,h1⟩,rfl⟩
 gA a:=by rw [Gf];exact Nat.le_refl _
 gB a:=by rw [Gg];exact Nat.le_refl _
 gE a:=by rw [PZ];exact Nat.le_refl _
theorem ID {w0:World} {mu:Mu} {c:Cz} {st:St} {a:Act} {w:World} (h:Rel w0 mu c st a w) {x:CV} {v:Value} (hr:jh c st w x v):jh c st w (Cq st x) v:=by
 unfold Cq
 split
 ·split
  ·rename_i A hA
   cases ho:A.own with
   |true=>exact hr
   |false=>
    cases hm:A.md.is .sh with
    |false=>exact hr
    |true=>
     have hm:=Md.je.1 hm;exact Aj (h.tR hA) (hr.2.2 A hA) (ok:=c.ok) (fun b h=>h) (fun b q=>by
      rcases q with q | q
      ·rw [ho] at q;cases q
      ·rw [hm] at q;cases q) (by rw [hm];rfl)
  ·exact hr
 ·exact hr
theorem IE {w0:World} {mu:Mu} {c:Cz} {st:St} {a:Act} {w:World} (h:Rel w0 mu c st a w) {cs:List CV} {vs:List Value} (hr:eM c st w cs vs):eM c (uJ st) w (cs.map (Cq st)) vs:=by
 refine ⟨by rw [List.length_map];exact hr.1,fun i x v h1 h2 => ?_⟩;rw [List.getElem?_map] at h1;obtain ⟨y,hy,rfl⟩:=Option.map_eq_some_iff.1 h1;exact (Fw.uJ c st w).O4 (ID h (hr.2 i y v hy h2))
theorem P0 {w0:World} {mu:Mu} {c:Cz} {st:St} {a:Act} {w:World} (h:Rel w0 mu c st a w) {x:V} {v:Value} (hr:ej c st w x v):ej c (uJ st) w (O2 st x) v:=by
 cases x with
 |one x=>exact (Fw.uJ c st w).O4 (ID h hr)
 |agg cs=>
  obtain ⟨vs,h1,h2⟩:=hr;exact ⟨vs,h1,IE h h2⟩
 |m9 us=>exact (Fw.uJ c st w).kP hr
theorem Rel.uJ {w0:World} {mu:Mu} {c:Cz} {st:St} {a:Act} {w:World} (h:Rel w0 mu c st a w):Rel w0 mu c (uJ st) a w where
 ea t:=by
  have e:bV (Go.TM.uJ st) t=O2 st (bV st t):=by
   unfold bV;rw [pz]
   cases nth st t<;>rfl
  rw [e];exact P0 h (h.ea t)
 boxes s sl cs hs hb:=by
  rw [pz] at hs;obtain ⟨x,hx,rfl⟩:=Option.map_eq_some_iff.1 hs;have hb:x.box.map (fun cs=>cs.map (Cq st))=some cs:=hb;obtain ⟨GZ,hc,rfl⟩:=Option.map_eq_some_iff.1 hb;obtain ⟨k1,vs,ty,k2,k3⟩:=h.boxes s x GZ hx hc;exact ⟨k1,vs,ty,k2,IE h k3⟩
 aO s j sl A hs hb:=by
  rw [pz] at hs;obtain ⟨x,hx,rfl⟩:=Option.map_eq_some_iff.1 hs;exact h.aO s j x A hx hb
 owned:=h.owned
 free:=h.free
 kept:=h.kept
 old:=h.old
 plain:=h.plain
 mq:=h.mq
 cV p hp:=by
  have h0:=h.cV p hp
  cases p with
  |arr a j g W n l=>
   refine ⟨by rw [Gf];exact h0.1,fun A hA => ?_⟩;rw [Ge] at hA;exact h0.2 A hA
  |box b g n5=>
   refine ⟨by rw [Gg];exact h0.1,fun cs wJ => ?_⟩;rw [Gh] at wJ;obtain ⟨GZ,hc,_⟩:=Option.map_eq_some_iff.1 wJ;exact h0.2 GZ hc
theorem P1 {w0:World} {mu:Mu} {c:Cz} {st:St} {a:Act} {w:World} (h:Rel w0 mu c st a w) (s j:Nat):∃c',Rel w0 mu c' (Lw st s j) a w∧Fw c st w c' (Lw st s j) w:=by
 unfold Lw
 cases hs:nth st s with
 |none=>exact ⟨c,h,Fw.refl c st w⟩
 |some sl=>
  simp only
  cases hj:nth sl.aO j with
  |none=>exact ⟨c,h,Fw.refl c st w⟩
  |some o=>cases o with
   |none=>exact ⟨c,h,Fw.refl c st w⟩
   |some A=>
    simp only
    cases hb:A.own&&A.md.is .dp with
    |false=>exact ⟨c,h,Fw.refl c st w⟩
    |true=>
     rw [Bool.and_eq_true] at hb;obtain ⟨h1,h2⟩:=h.soft hs hj hb.1 (Md.je.1 hb.2);exact ⟨_,h1,h2⟩
theorem D3 {w0:World} {mu:Mu} {a:Act} {w:World}:(l:List (Nat×Nat))→{c:Cz}→{st:St}→Rel w0 mu c st a w→∃c',Rel w0 mu c' (FO st l) a w∧Fw c st w c' (FO st l) w
 | [],c,st,h=>⟨c,h,Fw.refl c st w⟩
 |(s,j)::l,c,st,h=>by
  obtain ⟨c1,h1,h2⟩:=P1 h s j;obtain ⟨c2,h3,h4⟩:=D3 l h1;exact ⟨c2,h3,h2.trans h4⟩
theorem P2 {w0:World} {mu:Mu} {c:Cz} {st:St} {a:Act} {w:World} (ms:List (Pm×V)) (h:Rel w0 mu c st a w):∃c',Rel w0 mu c' (Cr ms st) a w∧∀x v,ej c st w x v→ej c' (Cr ms st) w x v:=by
 unfold Cr;obtain ⟨c1,h1,h2⟩:=D3 (Dy st ms) h
 cases ms.any (fun m=>m.1.O3)
 ·exact ⟨c1,h1,fun _ _ hr=>h2.kP hr⟩
 ·exact ⟨c1,h1.uJ,fun _ _ hr=>(Fw.uJ c1 _ w).kP (h2.kP hr)⟩
theorem IF {P:Program} {S:kO} (hS:og P S) {w0:World} {mu:Mu} {c:Cz} {st aZ:St} {a:Act} {w:World} (h:Rel w0 mu c st a w) {o:Oper} {f:FuncId} {vals:Array Value} {xs:List V}
  (qE:∀fn,P.funcs[f]?=some fn→fn.name ≠ "runtime.NumGoroutine" → fn.body≠none→(execOp a.eval o).run P w=.ok (.enter f vals) w)
  (FV:xs.length=vals.toList.length) (abm:∀(k:Nat) (m:V) (x:Value),xs[k]?=some m→vals.toList[k]?=some x→ej c st w m x)
  (hv:(FP S st o.dst f xs).val=some aZ) (hd:∀k,o.dst=some k→k<a.tmps.size):w9 P w0 mu aZ o a w (qW S st f xs):=by
 unfold qW;unfold FP at hv
 cases hf:S f with
 |none=>simp [hf,N.val] at hv
 |some p=>
  obtain ⟨m1,m2,m3,Cp⟩:=p;simp only [hf] at hv ⊢;obtain ⟨M7,fn,P3,agP,abn⟩:=hS f m1 m2 m3 Cp hf;have qE:=qE fn P3 (by simpa using agP) (by intro e;rw [e] at abn;cases abn);have Vh:=M6 m1 m2 m3 xs;generalize wh m1 m2 m3 xs=ms at hv Vh ⊢;have hlen:ms.length=vals.toList.length:=by
   have:=congrArg List.length Vh;rw [List.length_map] at this;omega
  have xe:∀(k:Nat) (m:Pm×V) (x:Value),ms[k]?=some m→vals.toList[k]?=some x→ej c st w m.2 x:=by
   intro k m x hm hx;have h1:(ms.map (·.2))[k]?=some m.2:=by rw [List.getElem?_map,hm];rfl
   rw [Vh] at h1;exact abm k m.2 x h1 hx
  have hR:=h.freeze (Dx st ms);have AL:∀(k:Nat) (m:Pm×V) (x:Value),ms[k]?=some m→vals.toList[k]?=some x→ej (c.drop (Dx st ms)) (freeze st (Dx st ms)) w m.2 x:=fun k m x h1 h2=>(Fw.freeze w _ c st).kP (xe k m x h1 h2)
  generalize freeze st (Dx st ms)=abo at hv hR AL ⊢;generalize c.drop (Dx st ms)=c0 at hR AL;obtain ⟨c0',hR,hth⟩:=P2 ms hR;have AL:∀(k:Nat) (m:Pm×V) (x:Value),ms[k]?=some m→vals.toList[k]?=some x→ej c0' (Cr ms abo) w m.2 x:=fun k m x h1 h2=>hth _ _ (AL k m x h1 h2)
  clear hth;generalize c0'=c0 at hR AL;generalize Cr ms abo=wM at hv hR AL ⊢;unfold TG at hv
  cases tO:mo wM ms with
  |none=>
   rw [tO] at hv;exact Iy hR qE M7 hlen AL hv hd (fun h=>h) (fun c5 gP a2 w' hr _ _ M8=>by
    simp only [N.val,Option.some.injEq] at M8;subst M8;exact ⟨c5,hr⟩)
  |some p=>
   obtain ⟨x,A,l⟩:=p;rw [tO] at hv;simp only at hv ⊢;have abp:∀m∈ms,∃v,ej c0 wM w m.2 v:=by
    intro m hm;obtain ⟨k,hk⟩:=List.mem_iff_getElem?.1 hm;have cA:k<vals.toList.length:=by rw [←hlen];exact (List.getElem?_eq_some_iff.1 hk).1
    exact ⟨_,AL k m _ hk (List.getElem?_eq_getElem cA)⟩
   obtain ⟨c1,gg,b,oo,cap,hR1,hF1,Ff,IG⟩:=xg hR tO abp;obtain ⟨hl,hA,dR,sM,hep,mI,Na,eH⟩:=AJ tO;refine Iy hR1 qE M7 (by rw [List.length_map];exact hlen) (fun k m v h1 h2 => ?_) hv hd (fun h=>by cases h) (fun c5 gP a2 w' hr hf JE M8 => ?_)
   ·rw [List.getElem?_map] at h1;obtain ⟨m0,hm0,rfl⟩:=Option.map_eq_some_iff.1 h1;exact IG m0 (List.mem_of_getElem? hm0) v (AL k m0 v hm0 h2)
   ·refine PV eH hA dR sM (hR.tR hA) Na Ff hr hf (fun k hk => ?_) M8;have Nb:¬xf (ev wM x A l) (x.a,x.j):=by
     rintro ⟨g',B,hB,TJ⟩
     obtain ⟨sl,k1,k2,k3⟩:=bd hB;rw [xh eH,if_neg eH,if_pos rfl] at k1;obtain ⟨zz,Vf,rfl⟩:=Option.map_eq_some_iff.1 k1;simp only at k3;rw [cU,if_pos rfl] at k3
     cases hq:nth zz.aO x.j with
     |none=>rw [hq] at k3;cases k3
     |some B2=>
      rw [hq] at k3;simp only [Option.map_some,Option.some.injEq] at k3;subst k3
      cases TJ
    cases hex:iN (ev wM x A l) (ms.map (RN (wM.length-1) (n4 wM (wM.length-1)+1) l)) with
    |none=>
     unfold HV at hv;rw [hex] at hv
     cases hv
    |some pp=>
     obtain ⟨dX,u,q,r⟩:=pp;obtain ⟨l1,l2⟩:=CH _ hex;exact JE dX u q r hex k _ rfl (fun hm=>Nb (l1 _ _ hm)) (fun p hp e=>by
      injection e with e1 e2;exact Nb (by rw [e1,e2];exact l2 p hp)) hk
theorem P4 {P:Program} {S:kO} (hS:og P S) {w0:World} {mu:Mu} {c:Cz} {st aZ:St} {a:Act} {w:World} (h:Rel w0 mu c st a w) {o:Oper} {f:FuncId} {args:Array Operand} {J6:Array TypeId} (ho:o.op=.call { callee:=.value (.func f),args:=args,argTypes:=J6 })
  (hv:(FP S st o.dst f (args.toList.map (lY st))).val=some aZ) (hd:∀k,o.dst=some k→k<a.tmps.size):w9 P w0 mu aZ o a w (kindOk S st o .one):=by
 have hq0:kindOk S st o .one=qW S st f (args.toList.map (lY st)):=by unfold kindOk;simp only [ho]
 rw [hq0];refine IF (vals:=args.map a.eval) hS h (fun fn P3 q2 q3 => ?_) (by simp) (fun k m x hm hx => ?_) hv hd
 ·simp only [execOp,ho];simp [resolve,Act.eval,Deferred.ofValue,invoke,callFunc,Sem.run_bind,P3,q2,q3]
 ·rw [List.getElem?_map] at hm;rw [Array.toList_map,List.getElem?_map] at hx
  cases hy:args.toList[k]? with
  |none=>rw [hy] at hm;simp at hm
  |some y=>
   rw [hy] at hm hx;simp only [Option.map_some,Option.some.injEq] at hm hx;rw [←hm,←hx];exact bB h y
theorem P5 {P:Program} {S:kO} (hS:og P S) {w0:World} {mu:Mu} {c:Cz} {st aZ:St} {a:Act} {w:World} (h:Rel w0 mu c st a w) {o:Oper} {t g:Nat} {rs:RT} {xs:List (aA rs)} {x:aA rs} {args:Array Operand} {J6:Array TypeId} (ho:o.op=.call { callee:=.value (.tmp t),args:=args,argTypes:=J6 })
  (ht:bV st t=.one (.fn g rs xs)) (MI:xs[0]?=some x) (hv:(FP S st o.dst g (args.toList.map (lY st)++wi rs x)).val=some aZ) (hd:∀k,o.dst=some k→k<a.tmps.size):w9 P w0 mu aZ o a w (kindOk S st o .one):=by
 have hq0:kindOk S st o .one=qW S st g (args.toList.map (lY st)++wi rs x):=by unfold kindOk;simp only [ho,ht,MI]
 rw [hq0];have M7:=h.ea t;rw [ht] at M7;obtain ⟨wS,e,abr⟩:=M7;obtain ⟨k1,k2⟩:=Ii (st:=st) rs wS.toList x (abr x MI);refine IF (vals:=args.map a.eval++wS) hS h (fun fn P3 q2 q3 => ?_) (by simp [k1]) (fun k m y hm hy => ?_) hv hd
 ·simp only [execOp,ho];simp [resolve,e,Deferred.ofValue,invoke,callFunc,Sem.run_bind,P3,q2,q3]
 ·rw [Array.toList_append] at hy
  by_cases hk:k<args.size
  ·rw [List.getElem?_append_left (by simpa using hk)] at hm hy;rw [List.getElem?_map] at hm;rw [Array.toList_map,List.getElem?_map] at hy
   cases hz:args.toList[k]? with
   |none=>rw [hz] at hm;simp at hm
   |some z=>
    rw [hz] at hm hy;simp only [Option.map_some,Option.some.injEq] at hm hy;rw [←hm,←hy];exact bB h z
  ·rw [List.getElem?_append_right (by simp;omega)] at hm hy;simp only [List.length_map,Array.length_toList,Array.toList_map] at hm hy;exact k2 _ m y hm hy
theorem Kf {P:Program} {T:kG} (hT:fi P T) {S:kO} {w0:World} {mu:Mu} {c:Cz} {st aZ:St} {a:Act} {w:World} (h:Rel w0 mu c st a w) {o:Oper} (tO:HX st o=true)
  (hv:(JB T S st o).val=some aZ) (hd:∀k,o.dst=some k→k<a.tmps.size):w9 P w0 mu aZ o a w (kindOk S st o .one):=by
 unfold HX at tO
 cases ho:o.op with
 |call cl=>
  obtain ⟨callee,args,J6⟩:=cl;rw [ho] at tO
  cases callee with
  |builtin b=>
   cases b with
   |append=>
    unfold JB at hv;simp only [ho] at hv tO
    split at hv
    ·contradiction
    ·rename_i x y t u _ ha ht;obtain ⟨U1,yG⟩:=cN hv;have U1:=Nat.eq_of_beq_eq_true U1;subst U1;have ha:args = #[x,y]:=by rw [←Array.toArray_toList (xs:=args),ha]
     have ht:J6 = #[t,t]:=by rw [←Array.toArray_toList (xs:=J6),ht]
     subst ha ht;have tO:(mo st [(.io,lY st x)]).isSome=true:=tO;obtain ⟨p,hp⟩:=Option.isSome_iff_exists.1 tO;obtain ⟨z,A,l⟩:=p;unfold G1 at yG;rw [hp] at yG;obtain ⟨c1,gg,b,oo,cap,hR1,hF1,Ff,IG⟩:=xg h hp (fun m hm=>by
      rw [List.mem_singleton] at hm;subst hm;exact ⟨_,bB h x⟩)
     have hx:=IG _ (List.mem_singleton.2 rfl) _ (bB h x);have hy:=hF1.kP (bB h y);obtain ⟨v,w',h1,c',h2⟩:=DI (ty:=o.type) hT hR1 hx hy yG hd;exact rF (c':=c') (by simp only [execOp,ho];simp [resolve,invoke,builtin,Sem.run_bind,h1]) h2 (fun hk=>by simp [kindOk,ho] at hk)
    all_goals (first | contradiction | (simp [N.val] at hv))
   |_=>simp at tO
  |_=>simp at tO
 |_=>rw [ho] at tO;simp at tO
theorem AM {P:Program} {T:kG} (hT:fi P T) (hE:ze P T) {S:kO} (hS:og P S) (w0:World) (mu:Mu) (n:Nat):uS P T S w0 mu n:=by
 intro c st aZ a w o h hn hd hv;have Ke:∀k,o.dst=some k→k<a.tmps.size:=fun k hk=>by rw [hn];exact hd k hk
 by_cases hf:Op.J5 o.op=true
 ·cases ho:o.op with
  |call cl=>
   obtain ⟨callee,args,J6⟩:=cl
   cases callee with
   |value x=>
    cases x with
    |func f=>
     unfold JB at hv;simp only [ho] at hv;exact P4 hS h ho hv Ke
    |tmp t=>
     unfold JB at hv;simp only [ho] at hv
     split at hv
     ·rename_i g rs xs ht
      cases MI:xs[0]? with
      |none=>simp [MI,N.val] at hv
      |some x=>
       simp only [MI] at hv;exact P5 hS h ho ht MI hv Ke
     ·simp [N.val] at hv
    |_=>rw [ho] at hf;simp [Op.J5] at hf
   |_=>rw [ho] at hf;simp [Op.J5] at hf
  |_=>rw [ho] at hf;simp [Op.J5] at hf
 ·cases tO:HX st o with
  |false=>exact U0 hT hE h (by simpa using hf) tO hv Ke
  |true=>exact Kf hT h tO hv Ke
end Go.TM
namespace Go.TM
open Go Go.RowKit
inductive OP where
 |int (k:IntKind)
 |bool
 |str
 |own (r:RT) (d:Md:=.sh)
 |shr (r:RT)
 |lL (r:RT)
 |fn (g:Nat) (rs:RT)
inductive AP where
 |val (agg:Bool) (ps:List OP)
 |io (r:RT) (d:Md:=.sh)
 |box (Fh:Bool) (ps:List OP)
 |bR (ps:List OP)
def OP.ty:OP→Ty
 |.int k=>.int k
 |.bool=>.bool
 |.str=>.str
 |.own r _=>.sl r
 |.shr r=>.sl r
 |.lL r=>.sl r
 |.fn _ rs=>.sl rs
def OP.nd:OP→Bool
 |.own _ _=>true
 |_=>false
def mb:List OP→RT→RT
 | [],t=>t
 |p::ps,t=>.cons p.ty (mb ps t)
def AP.rt:AP→RT→RT
 |.val _ ps,t=>mb ps t
 |.io r _,t=>.cons (.sl r) t
 |.box _ ps,t=>mb ps t
 |.bR ps,t=>mb ps t
def aN:List (Option AP)→RT
 | []=>.nil
 |none::l=>aN l
 |some p::l=>p.rt (aN l)
def OP.ov:(p:OP)→den p.ty→OV
 |.int k,n=>.int k n
 |.bool,b=>.bool b
 |.str,s=>.str s
 |.own r d,xs=>.own { r:=r,own:=true,xs:=xs,md:=d }
 |.shr r,xs=>.shr r xs
 |.lL r,xs=>.lL r xs
 |.fn g rs,xs=>.fn g rs xs
def dM:(ps:List OP)→(t:RT)→aA (mb ps t)→List OV×aA t
 | [],_,x=>([],x)
 |p::ps,t,x=>(p.ov x.1::(dM ps t x.2).1,(dM ps t x.2).2)
def AP.av:(p:AP)→(t:RT)→aA (p.rt t)→AV×aA t
 |.val agg ps,t,x=>(.val agg (dM ps t x).1,(dM ps t x).2)
 |.io r d,_,x=>(.io { r:=r,own:=true,xs:=x.1,md:=d },x.2)
 |.box _ ps,t,x=>(.box (dM ps t x).1,(dM ps t x).2)
 |.bR ps,t,x=>(.bR (dM ps t x).1,(dM ps t x).2)
def cB:(l:List (Option AP))→aA (aN l)→List (Option AV)
 | [],_=>[]
 |none::l,x=>none::cB l x
 |some p::l,x=>some (p.av (aN l) x).1::cB l (p.av (aN l) x).2
def rJ:(p:OP)→OV→Option (den p.ty)
 |.int k,.int l n=>if k=l then some n else none
 |.bool,.bool b=>some b
 |.str,.str s=>some s
 |.own r d,.own A=>bif A.md.is d then bH r A.xs else none
 |.own _ _,.dO=>some ([]:List _)
 |.shr r,.shr _ xs=>bH r xs
 |.shr _,.dO=>some ([]:List _)
 |.lL r,.lL _ xs=>bH r xs
 |.fn g rs,.fn f _ xs=>bif Nat.beq f g then bH rs xs else none
 |_,_=>none
def dE:(ps:List OP)→(t:RT)→List OV→aA t→Option (aA (mb ps t))
 | [],_,[],y=>some y
 |p::ps,t,o::os,y=>match rJ p o,dE ps t os y with
  |some x,some z=>some (x,z)
  |_,_=>none
 |_,_,_,_=>none
def Gi:(p:AP)→(t:RT)→AV→aA t→Option (aA (p.rt t))
 |.val true ps,t,.val true os,y=>dE ps t os y
 |.val false ps,t,.val false os,y=>dE ps t os y
 |.io r d,_,.io A,y=>bif A.md.is d then (match bH r A.xs with
  |some xs=>some (xs,y)
  |none=>none) else none
 |.box _ ps,t,.box os,y=>dE ps t os y
 |.bR ps,t,.bR os,y=>dE ps t os y
 |_,_,_,_=>none
def fm:(l:List AP)→List AV→Option (aA (aN (l.map some)))
 | [],[]=>some ()
 |p::l,a::as=>match fm l as with
  |some y=>Gi p (aN (l.map some)) a y
  |none=>none
 |_,_=>none
def kT (st:St):(ps:List OP)→(t:RT)→List CV→aA t→Option (aA (mb ps t)×List (Option Lb)×List (Nat×Nat))
 | [],_,[],y=>some (y,[],[])
 |p::ps,t,c::cs,y=>match eF st p.nd c,kT st ps t cs y with
  |some (o,u,r),some (z,us,rs)=>match rJ p o with
   |some x=>some ((x,z),u::us,r++rs)
   |none=>none
  |_,_=>none
 |_,_,_,_=>none
def CJ (st:St) (k:Nat):(p:AP)→(t:RT)→V→aA t→Option (aA (p.rt t)×List Lb×List (Nat×Nat))
 |.val agg ps,t,v,y=>
  match agg,v with
  |true,.agg cs=>(kT st ps t cs y).map fun q=>(q.1,cg q.2.1,q.2.2)
  |false,.one c=>(kT st ps t [c] y).map fun q=>(q.1,cg q.2.1,q.2.2)
  |_,_=>none
 |.io r d,_,v,y=>
  match v with
  |.one (.ref a j g .full)=>bif Nat.beq a k&&(Nat.beq j 0&&Nat.beq g 1) then ((aX st a j g).bind fun A=>bif A.own&&A.md.is d then (bH r A.xs).map fun xs=>((xs,y),[.sp a j],[]) else none) else none
  |_=>none
 |.box Fh ps,t,v,y=>
  match v with
  |.one (.ptr b g off)=>bif Nat.beq off 0&&(!Fh||(Nat.beq b k&&Nat.beq g 1)) then ((cZ st b g).bind fun cs=>(kT st ps t cs y).map fun q=>(q.1,.box b::cg q.2.1,q.2.2)) else none
  |_=>none
 |.bR _,_,_,_=>none
def ni (st:St):(k:Nat)→(l:List (Option AP))→Option (aA (aN l)×List Lb×List (Nat×Nat))
 |_,[]=>some ((),[],[])
 |k,none::l=>ni st (k+1) l
 |k,some p::l=>match ni st (k+1) l with
  |some (y,us,rs)=>match CJ st k p (aN l) (bV st k) y with
   |some (x,u,r)=>some (x,u++us,r++rs)
   |none=>none
  |none=>none
def Sl.blank:Sl:={ v:=.one .bad,box:=.none,bg:=1,aO:=[],ag:=1 }
def da (k:Nat):Option AV→Sl
 |none=>Sl.blank
 |some (.bR os)=>{ v:=.agg (bf k 1 0 os),box:=none,bg:=1,aO:=bu os,ag:=1 }
 |some (.val true os)=>{ v:=.agg (bf k 1 0 os),box:=none,bg:=1,aO:=bu os,ag:=1 }
 |some (.val false os)=>{ v:=match bf k 1 0 os with | [c]=>.one c | _=>.one .bad,box:=none,bg:=1,aO:=bu os,ag:=1 }
 |some (.io A)=>{ v:=.one (.ref k 0 1 .full),box:=none,bg:=1,aO:=[some A],ag:=1 }
 |some (.box os)=>{ v:=.one (.ptr k 1 0),box:=some (bf k 1 0 os),bg:=1,aO:=bu os,ag:=1 }
def n6:(k:Nat)→List (Option AV)→St
 |_,[]=>[]
 |k,a::l=>da k a::n6 (k+1) l
theorem Gj:(l:List (Option AV))→(k i:Nat)→nth (n6 k l) i=(l[i]?).map (da (k+i))
 | [],_,_=>by simp [n6]
 |a::l,k,0=>by simp [n6,nth]
 |a::l,k,i+1=>by
  simp only [n6,nth,List.getElem?_cons_succ];rw [Gj l (k+1) i,show k+1+i=k+(i+1) by omega]
theorem IH {c:Cz} {w:World} {f:Nat→Lb} {j:Nat}:(p:OP)→(o:OV)→(x:den p.ty)→rJ p o=some x→{os Ax:List OV}→{vs:List Value}→(∀l,bF c w f (j+1) os l→bF c w f (j+1) Ax l)→bF c w f j (o::os) vs→bF c w f j (p.ov x::Ax) vs
 |.int k,.int l n,x,hx,os,Ax,vs,ru,h=>by
  have hx:(if k=l then some (n:Int) else none)=some (x:Int):=hx
  by_cases e:k=l
  ·rw [if_pos e] at hx;have hx:n=x:=Option.some.inj hx;obtain ⟨l',h1,h2⟩:=h;exact ⟨l',by rw [h1,e,hx],ru _ h2⟩
  ·rw [if_neg e] at hx
   cases hx
 |.bool,.bool b,x,hx,os,Ax,vs,ru,h=>by
  have hx:b=x:=Option.some.inj hx;subst hx;obtain ⟨l',h1,h2⟩:=h;exact ⟨l',h1,ru _ h2⟩
 |.str,.str b,x,hx,os,Ax,vs,ru,h=>by
  have hx:b=x:=Option.some.inj hx;subst hx;obtain ⟨l',h1,h2⟩:=h;exact ⟨l',h1,ru _ h2⟩
 |.own r d,.own A,x,hx,os,Ax,vs,ru,h=>by
  obtain ⟨v,l',h1,⟨lc,h2⟩,h3⟩:=h;have hx:(bif A.md.is d then bH r A.xs else none)=some x:=hx;obtain ⟨hd,hx⟩:=aK hx;have hd:=Md.je.1 hd;obtain ⟨e,rfl⟩:=bm hx;obtain ⟨r0,H8,pN,TL⟩:=A;simp only at e hd;subst e hd;have ho:H8=true:=h2.2.2.1;subst ho;exact ⟨v,l',h1,⟨lc,h2⟩,ru _ h3⟩
 |.own r _,.dO,x,hx,os,Ax,vs,ru,h=>by
  have hx:([]:List (aA r))=x:=Option.some.inj hx;subst hx;obtain ⟨l',h1,h2⟩:=h;exact ⟨_,l',h1,⟨.nil,rfl,⟨rfl,rfl⟩,rfl,rfl⟩,ru _ h2⟩
 |.shr r,.shr q xs,x,hx,os,Ax,vs,ru,h=>by
  obtain ⟨v,l',h1,h2,h3⟩:=h;have hx:bH r xs=some x:=hx;obtain ⟨e,rfl⟩:=bm hx;subst e;exact ⟨v,l',h1,h2,ru _ h3⟩
 |.shr r,.dO,x,hx,os,Ax,vs,ru,h=>by
  have hx:([]:List (aA r))=x:=Option.some.inj hx;subst hx;obtain ⟨l',h1,h2⟩:=h;exact ⟨_,l',h1,(nh _ _ _ _ _).2 (.inl ⟨rfl,rfl⟩),ru _ h2⟩
 |.lL r,.lL q xs,x,hx,os,Ax,vs,ru,h=>by
  obtain ⟨v,l',h1,h2,h3⟩:=h;have hx:bH r xs=some x:=hx;obtain ⟨e,rfl⟩:=bm hx;subst e;exact ⟨v,l',h1,h2,ru _ h3⟩
 |.fn g r,.fn f q xs,x,hx,os,Ax,vs,ru,h=>by
  obtain ⟨v,l',h1,h2,h3⟩:=h;have hx:(bif Nat.beq f g then bH r xs else none)=some x:=hx;obtain ⟨hfg,hx⟩:=aK hx;have hfg:=Nat.eq_of_beq_eq_true hfg;subst hfg;obtain ⟨e,rfl⟩:=bm hx;subst e;exact ⟨v,l',h1,h2,ru _ h3⟩
 |.int _,.bool _,_,hx,_,_,_,_,_=>by cases hx
 |.int _,.str _,_,hx,_,_,_,_,_=>by cases hx
 |.int _,.own _,_,hx,_,_,_,_,_=>by cases hx
 |.int _,.shr _ _,_,hx,_,_,_,_,_=>by cases hx
 |.int _,.dO,_,hx,_,_,_,_,_=>by cases hx
 |.int _,.lL _ _,_,hx,_,_,_,_,_=>by cases hx
 |.int _,.fn _ _ _,_,hx,_,_,_,_,_=>by cases hx
 |.bool,.int _ _,_,hx,_,_,_,_,_=>by cases hx
 |.bool,.str _,_,hx,_,_,_,_,_=>by cases hx
 |.bool,.own _,_,hx,_,_,_,_,_=>by cases hx
 |.bool,.shr _ _,_,hx,_,_,_,_,_=>by cases hx
 |.bool,.dO,_,hx,_,_,_,_,_=>by cases hx
 |.bool,.lL _ _,_,hx,_,_,_,_,_=>by cases hx
 |.bool,.fn _ _ _,_,hx,_,_,_,_,_=>by cases hx
 |.str,.int _ _,_,hx,_,_,_,_,_=>by cases hx
 |.str,.bool _,_,hx,_,_,_,_,_=>by cases hx
 |.str,.own _,_,hx,_,_,_,_,_=>by cases hx
 |.str,.shr _ _,_,hx,_,_,_,_,_=>by cases hx
 |.str,.dO,_,hx,_,_,_,_,_=>by cases hx
 |.str,.lL _ _,_,hx,_,_,_,_,_=>by cases hx
 |.str,.fn _ _ _,_,hx,_,_,_,_,_=>by cases hx
 |.own _ _,.int _ _,_,hx,_,_,_,_,_=>by cases hx
 |.own _ _,.bool _,_,hx,_,_,_,_,_=>by cases hx
 |.own _ _,.str _,_,hx,_,_,_,_,_=>by cases hx
 |.own _ _,.shr _ _,_,hx,_,_,_,_,_=>by cases hx
 |.own _ _,.lL _ _,_,hx,_,_,_,_,_=>by cases hx
 |.own _ _,.fn _ _ _,_,hx,_,_,_,_,_=>by cases hx
 |.shr _,.int _ _,_,hx,_,_,_,_,_=>by cases hx
 |.shr _,.bool _,_,hx,_,_,_,_,_=>by cases hx
 |.shr _,.str _,_,hx,_,_,_,_,_=>by cases hx
 |.shr _,.own _,_,hx,_,_,_,_,_=>by cases hx
 |.shr _,.lL _ _,_,hx,_,_,_,_,_=>by cases hx
 |.shr _,.fn _ _ _,_,hx,_,_,_,_,_=>by cases hx
 |.lL _,.int _ _,_,hx,_,_,_,_,_=>by cases hx
 |.lL _,.bool _,_,hx,_,_,_,_,_=>by cases hx
 |.lL _,.str _,_,hx,_,_,_,_,_=>by cases hx
 |.lL _,.own _,_,hx,_,_,_,_,_=>by cases hx
 |.lL _,.shr _ _,_,hx,_,_,_,_,_=>by cases hx
 |.lL _,.dO,_,hx,_,_,_,_,_=>by cases hx
 |.lL _,.fn _ _ _,_,hx,_,_,_,_,_=>by cases hx
 |.fn _ _,.int _ _,_,hx,_,_,_,_,_=>by cases hx
 |.fn _ _,.bool _,_,hx,_,_,_,_,_=>by cases hx
 |.fn _ _,.str _,_,hx,_,_,_,_,_=>by cases hx
 |.fn _ _,.own _,_,hx,_,_,_,_,_=>by cases hx
 |.fn _ _,.shr _ _,_,hx,_,_,_,_,_=>by cases hx
 |.fn _ _,.dO,_,hx,_,_,_,_,_=>by cases hx
 |.fn _ _,.lL _ _,_,hx,_,_,_,_,_=>by cases hx
theorem uc {c:Cz} {w:World} {f:Nat→Lb}:(ps:List OP)→(t:RT)→(os:List OV)→(y:aA t)→{x:aA (mb ps t)}→dE ps t os y=some x→(dM ps t x).2=y∧∀(j:Nat) (vs:List Value),bF c w f j os vs→bF c w f j (dM ps t x).1 vs
 | [],t,[],y,x,h=>by
  have h:y=x:=Option.some.inj h;subst h;exact ⟨rfl,fun _ _ h=>h⟩
 | [],_,_::_,_,_,h=>by simp [dE] at h
 |_::_,_,[],_,_,h=>by simp [dE] at h
 |p::ps,t,o::os,y,x,h=>by
  unfold dE at h
  cases h1:rJ p o with
  |none=>simp [h1] at h
  |some a=>
   cases h2:dE ps t os y with
   |none=>simp [h1,h2] at h
   |some z=>
    simp only [h1,h2] at h;have h:(a,z)=x:=Option.some.inj h;subst h;obtain ⟨g1,g2⟩:=uc (c:=c) (w:=w) (f:=f) ps t os y h2;exact ⟨g1,fun j vs hh=>IH p o a h1 (fun l=>g2 (j+1) l) hh⟩
theorem bF.P6 {c:Cz} {w:World} {f:Nat→Lb}:(os:List OV)→(j:Nat)→(vs:List Value)→bF c w f j os vs→vs.length=os.length∧∀(k:Nat) (o:OV) (u:Value),os[k]?=some o→vs[k]?=some u→bF c w f (j+k) [o] [u]
 | [],j,vs,h=>by
  subst h;exact ⟨rfl,fun k o u h=>by simp at h⟩
 |o::os,j,vs,h=>by
  obtain ⟨v,l,rfl,h1,h2⟩:∃v l,vs=v::l∧bF c w f j [o] [v]∧bF c w f (j+1) os l:=by
   cases o with
   |int k n=>obtain ⟨l,h1,h2⟩:=h;exact ⟨_,l,h1,⟨[],rfl,rfl⟩,h2⟩
   |bool b=>obtain ⟨l,h1,h2⟩:=h;exact ⟨_,l,h1,⟨[],rfl,rfl⟩,h2⟩
   |str b=>obtain ⟨l,h1,h2⟩:=h;exact ⟨_,l,h1,⟨[],rfl,rfl⟩,h2⟩
   |dO=>obtain ⟨l,h1,h2⟩:=h;exact ⟨_,l,h1,⟨[],rfl,rfl⟩,h2⟩
   |shr r xs=>obtain ⟨v,l,h1,h2,h3⟩:=h;exact ⟨v,l,h1,⟨v,[],rfl,h2,rfl⟩,h3⟩
   |lL r xs=>obtain ⟨v,l,h1,h2,h3⟩:=h;exact ⟨v,l,h1,⟨v,[],rfl,h2,rfl⟩,h3⟩
   |fn g r xs=>obtain ⟨v,l,h1,h2,h3⟩:=h;exact ⟨v,l,h1,⟨v,[],rfl,h2,rfl⟩,h3⟩
   |own A=>obtain ⟨v,l,h1,h2,h3⟩:=h;exact ⟨v,l,h1,⟨v,[],rfl,h2,rfl⟩,h3⟩
  obtain ⟨g1,g2⟩:=bF.P6 os (j+1) l h2;refine ⟨by simp [g1],fun k o' u ho hu => ?_⟩
  cases k with
  |zero=>
   simp only [List.getElem?_cons_zero,Option.some.injEq] at ho hu;subst ho hu;exact h1
  |succ k=>
   have:=g2 k o' u (by simpa using ho) (by simpa using hu)
   rwa [show j+1+k=j+(k+1) by omega] at this
theorem Gk:(ps:List OP)→(t:RT)→(os:List OV)→(y:aA t)→{x:aA (mb ps t)}→dE ps t os y=some x→∀(k:Nat) (o':OV),(dM ps t x).1[k]?=some o'→∃(p:OP) (o:OV) (z:den p.ty),os[k]?=some o∧rJ p o=some z∧o'=p.ov z
 | [],t,[],y,x,h=>by
  intro k o' hk;simp [dM] at hk
 | [],_,_::_,_,_,h=>by simp [dE] at h
 |_::_,_,[],_,_,h=>by simp [dE] at h
 |p::ps,t,o::os,y,x,h=>by
  unfold dE at h
  cases h1:rJ p o with
  |none=>simp [h1] at h
  |some a=>
   cases h2:dE ps t os y with
   |none=>simp [h1,h2] at h
   |some z=>
    simp only [h1,h2] at h;have h:(a,z)=x:=Option.some.inj h;subst h;intro k o' hk
    cases k with
    |zero=>
     have hk:some (p.ov a)=some o':=hk;simp only [Option.some.injEq] at hk;exact ⟨p,o,a,rfl,h1,hk.symm⟩
    |succ k=>
     have hk:(dM ps t z).1[k]?=some o':=hk;obtain ⟨p',o1,z',q1,q2,q3⟩:=Gk ps t os y h2 k o' hk;exact ⟨p',o1,z',by simpa using q1,q2,q3⟩
theorem Nc {p:OP} {o:OV} {z:den p.ty} (h:rJ p o=some z) {A:gu} (he:p.ov z=.own A):(∃B,o=.own B∧A.r=B.r∧A.own=true∧A.xs.length=B.xs.length∧(B.own=true→A=B))∨(o=.dO∧∃r d,A={ r:=r,own:=true,xs:=([]:List (aA r)),md:=d }):=by
 cases p with
 |own r d=>
  injection he with he;subst he
  cases o with
  |own B=>
   have h:(bif B.md.is d then bH r B.xs else none)=some z:=h;obtain ⟨hd,h⟩:=aK h;have hd:=Md.je.1 hd;obtain ⟨e,rfl⟩:=bm h;obtain ⟨r0,H8,pN,TL⟩:=B;simp only at e hd;subst e hd;exact .inl ⟨_,rfl,rfl,rfl,rfl,fun ho=>by simp only at ho;subst ho;rfl⟩
  |dO=>
   have h:([]:List (aA r))=z:=Option.some.inj h;subst h;exact .inr ⟨rfl,r,d,rfl⟩
  |_=>cases h
 |int _=>cases he
 |bool=>cases he
 |str=>cases he
 |shr _=>cases he
 |lL _=>cases he
 |fn _ _=>cases he
theorem II {p:OP} (z:den p.ty):p.ov z≠.dO:=by
 cases p<;>(intro h;cases h)
theorem IJ {c:Cz} {w:World} {i:Nat} {lc:Nat→Loc} {p:AP} {t:RT} {av:AV} {y:aA t} {x:aA (p.rt t)} (h:Gi p t av y=some x):(p.av t x).2=y∧∀v,sP c w i lc av v→sP c w i lc (p.av t x).1 v:=by
 cases p with
 |val agg ps=>
  cases agg with
  |true=>
   cases av with
   |val Sh os=>
    cases Sh with
    |true=>
     have h:dE ps t os y=some x:=h;obtain ⟨g1,g2⟩:=uc (c:=c) (w:=w) (f:=.cf i) ps t os y h;exact ⟨g1,fun v ⟨vs,hv,hl⟩=>⟨vs,hv,g2 0 _ hl⟩⟩
    |false=>cases h
   |_=>cases h
  |false=>
   cases av with
   |val Sh os=>
    cases Sh with
    |false=>
     have h:dE ps t os y=some x:=h;obtain ⟨g1,g2⟩:=uc (c:=c) (w:=w) (f:=.cf i) ps t os y h;exact ⟨g1,fun v hl=>g2 0 _ hl⟩
    |true=>cases h
   |_=>cases h
 |io r d=>
  cases av with
  |io A=>
   have h:(bif A.md.is d then (match bH r A.xs with | some xs=>some ((xs,y):aA (.cons (.sl r) t)) | none=>none) else none)=some x:=h;obtain ⟨hd,h⟩:=aK h;have hd:=Md.je.1 hd
   cases hc:bH r A.xs with
   |none=>rw [hc] at h;cases h
   |some xs=>
    rw [hc] at h
    cases h
    refine ⟨rfl,fun v hl => ?_⟩;obtain ⟨e,rfl⟩:=bm hc;obtain ⟨r0,H8,pN,TL⟩:=A;simp only at e hd;subst e hd;have ho:H8=true:=hl.2.2.1;subst ho;exact hl
  |_=>cases h
 |box Fh ps=>
  cases av with
  |box os=>
   have h:dE ps t os y=some x:=h;obtain ⟨g1,g2⟩:=uc (c:=c) (w:=w) (f:=.cf i) ps t os y h;exact ⟨g1,fun v ⟨n5,vs,ty,q1,q2,q3,q4⟩=>⟨n5,vs,ty,q1,q2,q3,g2 0 _ q4⟩⟩
  |_=>cases h
 |bR ps=>
  cases av with
  |bR os=>
   have h:dE ps t os y=some x:=h;obtain ⟨g1,g2⟩:=uc (c:=c) (w:=w) (f:=.cf i) ps t os y h;refine ⟨g1,fun v ⟨vs,q1,q2,q3⟩=>⟨vs,q1,g2 0 _ q2,fun j o u ho hu => ?_⟩⟩;obtain ⟨p,o0,z,k1,k2,rfl⟩:=Gk ps t os y h j o ho;have h0:=q3 j o0 u k1 hu;have hL:=(bF.P6 os 0 _ q2).2 j o0 u k1 hu;unfold PA at h0 ⊢
   cases he:p.ov z with
   |dO=>exact absurd he (II z)
   |own A=>
    rcases Nc k2 he with ⟨B,rfl,e1,e2,e3,e4⟩ | ⟨rfl,r,d,rfl⟩
    ·have h0:OwnAt c w (.cf i j) (lc j) B u:=h0;have:=e4 h0.2.2.1;subst this;exact h0
    ·have h0:lc j=.nil:=h0;obtain ⟨l,hl,_⟩:=hL;injection hl with hl _;subst hl;show OwnAt c w (.cf i j) (lc j) _ _;rw [h0];exact ⟨rfl,⟨rfl,rfl⟩,rfl,rfl⟩
   |_=>trivial
  |_=>cases h
end Go.TM
namespace Go.TM
open Go Go.RowKit
theorem xi {w0:World} {mu:Mu} {c:Cz} {st:St} {a:Act} {w:World} (h:Rel w0 mu c st a w) {ρ:Lb→Option Lb} {f:Nat→Lb} (hf:∀j,(f j).Aw=some (f j)):(ps:List OP)→(t:RT)→(cs:List CV)→(y:aA t)→(vs:List Value)→(j:Nat)→eM c st w cs vs→{x:aA (mb ps t)}→{u:List (Option Lb)}→{r:List (Nat×Nat)}→
  kT st ps t cs y=some (x,u,r)→(dM ps t x).2=y∧(∀l∈cg u,l.real=true)∧((∀k l,nth u k=some (some l)→ρ l=some (f (j+k)))→(∀p∈r,ρ (.sp p.1 p.2)=none)→bF (c.map ρ) w f j (dM ps t x).1 vs)
 | [],t,[],y,vs,j,hl,x,u,r,he=>by
  have he:some (y,([]:List (Option Lb)),([]:List (Nat×Nat)))=some (x,u,r):=he;injection he with he;injection he with e1 e2;injection e2 with e2 e3;subst e1 e2 e3;have:=hl.1;simp at this;exact ⟨rfl,by simp [cg],fun _ _=>List.length_eq_zero_iff.1 this.symm⟩
 | [],t,_::_,y,vs,j,hl,x,u,r,he=>by simp [kT] at he
 |_::_,t,[],y,vs,j,hl,x,u,r,he=>by simp [kT] at he
 |p::ps,t,cx::cs,y,vs,j,hl,x,u,r,he=>by
  obtain ⟨v,l,rfl,hx,wK⟩:=hl.TP;unfold kT at he
  cases hc:eF st p.nd cx with
  |none=>simp [hc] at he
  |some q1=>
   obtain ⟨o,u1,r1⟩:=q1
   cases hq:kT st ps t cs y with
   |none=>simp [hc,hq] at he
   |some q2=>
    obtain ⟨z,us,rs⟩:=q2;simp only [hc,hq] at he
    cases ho:rJ p o with
    |none=>simp [ho] at he
    |some a1=>
     simp only [ho] at he;injection he with he;injection he with e1 e2;injection e2 with e2 e3;subst e1 e2 e3;obtain ⟨g1,g2,g3⟩:=xi h (ρ:=ρ) (f:=f) hf ps t cs y l (j+1) wK hq;refine ⟨g1,fun l' hm => ?_,fun hu hr => ?_⟩
     ·rw [gv] at hm;rcases List.mem_cons.1 hm with hm | hm
      ·obtain ⟨s,k,rfl⟩:=F6 hc l' hm.symm;rfl
      ·exact g2 l' (gv.2 hm)
     ·have fe:=g3 (fun k' l' hk=>by
       have:=hu (k'+1) l' hk
       rwa [show j+(k'+1)=j+1+k' by omega] at this) (fun p hp=>hr p (List.mem_append_right _ hp))
      have h1:=LL h (f:=f) (j:=j) hx hc (fun l' wK=>hu 0 l' (by rw [wK];rfl)) (fun p hp=>hr p (List.mem_append_left _ hp)) fe hf;exact IH p o a1 ho (fun _ h=>h) h1
def BL (c:Cz) (w:World) (lc:Nat→Nat→Loc) (a:Act) (k:Nat) (l:List (Option AV)):Prop:=
 ∀i av,l[i]?=some (some av)→sP c w (k+i) (lc (k+i)) av (a.eval (.tmp (k+i)))
theorem AN {w0:World} {mu:Mu} {c:Cz} {st:St} {a:Act} {w:World} (h:Rel w0 mu c st a w) (k:Nat) {p:AP} {t:RT} {V:V} {y:aA t} {v:Value} (hV:ej c st w V v) {x:aA (p.rt t)} {u:List Lb} {r:List (Nat×Nat)} (he:CJ st k p t V y=some (x,u,r)) :
  (p.av t x).2=y∧(∀l∈u,l.real=true)∧∃tb:List (Lb×Lb),tb.map (·.1)=u∧(∀p∈tb,p.2.kE=true)∧∀ρ:Lb→Option Lb,(∀p∈tb,ρ p.1=some p.2)→(∀p∈r,ρ (.sp p.1 p.2)=none)→sP (c.map ρ) w k (c.lc k) (p.av t x).1 v:=by
 have vals:∀(ps:List OP) (cs:List CV) (x:aA (mb ps t)) (us:List (Option Lb)) (rs:List (Nat×Nat)) (vs:List Value),eM c st w cs vs→kT st ps t cs y=some (x,us,rs)→(dM ps t x).2=y∧(∀l∈cg us,l.real=true)∧
   ∀ρ:Lb→Option Lb,(∀p∈AA (.cf k) 0 us,ρ p.1=some p.2)→(∀p∈rs,ρ (.sp p.1 p.2)=none)→bF (c.map ρ) w (.cf k) 0 (dM ps t x).1 vs:=by
  intro ps cs x us rs vs hl hq;refine ⟨(xi h (ρ:=fun _=>none) (f:=.cf k) (fun _=>rfl) ps t cs y vs 0 hl hq).1,(xi h (ρ:=fun _=>none) (f:=.cf k) (fun _=>rfl) ps t cs y vs 0 hl hq).2.1,fun ρ hp hr=>(xi h (ρ:=ρ) (f:=.cf k) (fun _=>rfl) ps t cs y vs 0 hl hq).2.2 (fun k' l hk => ?_) hr⟩;have:=hp _ (xc (.cf k) 0 us k' l hk);simpa using this
 cases p with
 |val agg ps=>
  cases agg with
  |true=>
   cases V with
   |agg cs=>
    have he:(kT st ps t cs y).map (fun q=>(q.1,cg q.2.1,q.2.2))=some (x,u,r):=he
    cases hq:kT st ps t cs y with
    |none=>rw [hq] at he;cases he
    |some q=>
     obtain ⟨z,us,rs⟩:=q;rw [hq] at he;injection he with he;injection he with e1 e2;injection e2 with e2 e3;subst e1 e2 e3;obtain ⟨vs,rfl,hl⟩:=hV;obtain ⟨g1,g2,g3⟩:=vals _ _ _ _ _ _ hl hq;exact ⟨g1,g2,j2 k (.val true []) [] us,mG _ _ _ _,mH _ _ _ _,fun ρ hp hr=>⟨vs,rfl,g3 ρ (fun p m6=>hp p (by simpa [j2] using m6)) hr⟩⟩
   |one _=>cases he
   |m9 _=>cases he
  |false=>
   cases V with
   |one cx=>
    have he:(kT st ps t [cx] y).map (fun q=>(q.1,cg q.2.1,q.2.2))=some (x,u,r):=he
    cases hq:kT st ps t [cx] y with
    |none=>rw [hq] at he;cases he
    |some q=>
     obtain ⟨z,us,rs⟩:=q;rw [hq] at he;injection he with he;injection he with e1 e2;injection e2 with e2 e3;subst e1 e2 e3;obtain ⟨g1,g2,g3⟩:=vals _ _ _ _ _ [v] ⟨rfl,fun k y z hy hz=>by
      cases k with
      |zero=>simp at hy hz;subst hy hz;exact hV
      |succ k=>simp at hy⟩ hq
     exact ⟨g1,g2,j2 k (.val true []) [] us,mG _ _ _ _,mH _ _ _ _,fun ρ hp hr=>g3 ρ (fun p m6=>hp p (by simpa [j2] using m6)) hr⟩
   |agg _=>cases he
   |m9 _=>cases he
 |io rr d=>
  cases V with
  |one cx=>
   cases cx with
   |ref s j g vw=>
    cases vw with
    |full=>
     have he:(bif Nat.beq s k&&(Nat.beq j 0&&Nat.beq g 1) then ((aX st s j g).bind fun A=>bif A.own&&A.md.is d then (bH rr A.xs).map fun xs=>((xs,y),[Lb.sp s j],([]:List (Nat×Nat))) else none) else none)=some (x,u,r):=he;obtain ⟨h1,yy⟩:=aK he;clear he;rw [Bool.and_eq_true,Bool.and_eq_true] at h1;have e1:=Nat.eq_of_beq_eq_true h1.1;have e2:=Nat.eq_of_beq_eq_true h1.2.1;subst e1 e2
     cases hA:aX st s 0 g with
     |none=>rw [hA] at yy;cases yy
     |some A=>
      rw [hA] at yy;obtain ⟨ho,ZT⟩:=aK yy;rw [Bool.and_eq_true] at ho;have hd:=Md.je.1 ho.2;have ho:=ho.1
      cases hc:bH rr A.xs with
      |none=>rw [hc] at ZT;cases ZT
      |some xs=>
       rw [hc] at ZT;injection ZT with ZT;injection ZT with e1 e2;injection e2 with e2 e3;subst e1 e2 e3;refine ⟨rfl,by simp [Lb.real],[(.sp s 0,.cf s 0)],rfl,by simp [Lb.kE],fun ρ hp _ => ?_⟩;have ha:=uT h hA;have hs:=hV.2.2 A hA;have hρ:ρ (.sp s 0)=some (.cf s 0):=hp (.sp s 0,.cf s 0) (by simp);obtain ⟨e,rfl⟩:=bm hc;obtain ⟨r0,H8,pN,TL⟩:=A;simp only at e hd;subst e hd;have ho:H8=true:=by first | exact ho | exact ho.1
       subst ho;refine ⟨hV.1,hs,rfl,?_⟩;unfold bO at ha
       cases gN:c.lc s 0 with
       |nil=>rw [gN] at ha;exact ha
       |«at» b off cap=>
        rw [gN] at ha;obtain ⟨h0,h2,h3,h4⟩:=ha;exact ⟨(Cz.kI h0).trans hρ,h2,h3,h4.map hρ⟩
    |«from» _=>cases he
    |sub _ _=>cases he
   |_=>cases he
  |agg _=>cases he
  |m9 _=>cases he
 |box Fh ps=>
  cases V with
  |one cx=>
   cases cx with
   |ptr b g off=>
    have he:(bif Nat.beq off 0&&(!Fh||(Nat.beq b k&&Nat.beq g 1)) then ((cZ st b g).bind fun cs=>(kT st ps t cs y).map fun q=>(q.1,Lb.box b::cg q.2.1,q.2.2)) else none)=some (x,u,r):=he;obtain ⟨h1,yy⟩:=aK he;clear he;rw [Bool.and_eq_true] at h1;have e1:=Nat.eq_of_beq_eq_true h1.1;subst e1
    cases hb:cZ st b g with
    |none=>rw [hb] at yy;cases yy
    |some cs=>
     rw [hb] at yy;simp only [Option.bind_some] at yy
     cases hq:kT st ps t cs y with
     |none=>rw [hq] at yy;cases yy
     |some q=>
      obtain ⟨z,us,rs⟩:=q;rw [hq] at yy;injection yy with yy;injection yy with e1 e2;injection e2 with e2 e3;subst e1 e2 e3;obtain ⟨sl,k1,k2,k3⟩:=im hb;obtain ⟨h1,vs,ty,h2,h3⟩:=h.boxes b sl cs k1 k3;obtain ⟨g1,g2,g3⟩:=vals _ _ _ _ _ _ h3 hq;refine ⟨g1,fun l hl => ?_,j2 k (.box []) [.box b] us,by rw [mG];rfl,mH _ _ _ _,fun ρ hp hr=>⟨c.bx b,vs,ty,hV.2.2 cs hb,?_,h2,g3 ρ (fun p m6=>hp p (List.mem_append_right _ m6)) hr⟩⟩
      ·rcases List.mem_cons.1 hl with rfl | hl
       ·rfl
       ·exact g2 l hl
      ·exact (Cz.kI h1).trans (hp (.box b,.sC k) (by simp [j2]))
   |_=>cases he
  |agg _=>cases he
  |m9 _=>cases he
 |bR ps=>cases he
theorem xj {w0:World} {mu:Mu} {c:Cz} {st:St} {a:Act} {w:World} (h:Rel w0 mu c st a w):(l:List (Option AP))→(k:Nat)→{x:aA (aN l)}→{u:List Lb}→{r:List (Nat×Nat)}→ni st k l=some (x,u,r)→
  (∀l∈u,l.real=true)∧∃tb:List (Lb×Lb),tb.map (·.1)=u∧(∀p∈tb,p.2.kE=true)∧∀ρ:Lb→Option Lb,(∀p∈tb,ρ p.1=some p.2)→(∀p∈r,ρ (.sp p.1 p.2)=none)→BL (c.map ρ) w c.lc a k (cB l x)
 | [],k,x,u,r,he=>by
  have he:some ((),([]:List Lb),([]:List (Nat×Nat)))=some (x,u,r):=he;injection he with he;injection he with _ e2;injection e2 with e2 e3;subst e2 e3;exact ⟨by simp,[],rfl,by simp,fun ρ _ _ i av hi=>by simp [cB] at hi⟩
 |none::l,k,x,u,r,he=>by
  obtain ⟨g1,tb,g2,g3,g4⟩:=xj h l (k+1) he;refine ⟨g1,tb,g2,g3,fun ρ hp hr i av hi => ?_⟩
  cases i with
  |zero=>simp [cB] at hi
  |succ i=>
   have:=g4 ρ hp hr i av (by simpa [cB] using hi)
   rwa [show k+1+i=k+(i+1) by omega] at this
 |some p::l,k,x,u,r,he=>by
  unfold ni at he
  cases h1:ni st (k+1) l with
  |none=>simp [h1] at he
  |some q1=>
   obtain ⟨y,us,rs⟩:=q1;simp only [h1] at he
   cases h2:CJ st k p (aN l) (bV st k) y with
   |none=>simp [h2] at he
   |some q2=>
    obtain ⟨x1,u1,r1⟩:=q2;simp only [h2] at he;injection he with he;injection he with e1 e2;injection e2 with e2 e3;subst e1 e2 e3;obtain ⟨g1,tb,g2,g3,g4⟩:=xj h l (k+1) h1;obtain ⟨a1,a2,ta,a3,a4,a5⟩:=AN h k (h.ea k) h2;refine ⟨fun l' hl => ?_,ta++tb,by simp [a3,g2],fun p hp => ?_,fun ρ hp hr i av hi => ?_⟩
    ·rcases List.mem_append.1 hl with hl | hl
     ·exact a2 l' hl
     ·exact g1 l' hl
    ·rcases List.mem_append.1 hp with hp | hp
     ·exact a4 p hp
     ·exact g3 p hp
    ·cases i with
     |zero=>
      have hi:some (some (p.av (aN l) x1).1)=some (some av):=hi;simp only [Option.some.injEq] at hi;subst hi;exact a5 ρ (fun p m6=>hp p (List.mem_append_left _ m6)) (fun p m6=>hr p (List.mem_append_left _ m6))
     |succ i=>
      have hi:(cB l (p.av (aN l) x1).2)[i]?=some (some av):=hi;rw [a1] at hi;have:=g4 ρ (fun p m6=>hp p (List.mem_append_right _ m6)) (fun p m6=>hr p (List.mem_append_right _ m6)) i av hi
      rwa [show k+1+i=k+(i+1) by omega] at this
end Go.TM
namespace Go.TM
open Go Go.RowKit
def P7 (L:List (Option AV)) (lc:Nat→Nat→Loc) (a:Act):MA→Prop
 |.arr i j g W n l=>g=1∧i<L.length∧∀av,L[i]?=some (some av)→(∃A,av=.io A∧(j=0→A.r.width=W∧A.xs.length=n∧lc i 0=l))∨∃os,av=.bR os∧∀A,os[j]?=some (.own A)→A.r.width=W∧A.xs.length=n∧lc i j=l
 |.box i g n5=>g=1∧i<L.length∧∀os,L[i]?=some (some (.box os))→a.eval (.tmp i)=.pointer (some ⟨n5,0,none⟩)
def P8:Lb→Lb
 |.cf i j=>.sp i j
 |.sC i=>.box i
 |l=>l
structure P9 (c:Cz) (w:World) (k:Nat) (av:Option AV) (u:Value) (lio:Nat→Loc) (n5:Nat) (lcs:Nat→Loc):Prop where
 arr:∀j A,nth (da k av).aO j=some (some A)→∃v,OwnAt c w (.cf k j) (lcs j) A v
 reg:∀(c2:Cz) (gP:St),(∀b,c.ok b→c2.ok b)→c2.bx k=n5→c2.lc k=lcs→nth gP k=some (da k av)→ej c2 gP w (da k av).v u
 box:∀cs,(da k av).box=some cs→u=.pointer (some ⟨n5,0,none⟩)∧c.own n5=some (.sC k)∧∃vs ty,w.heap[n5]?=some (.cells vs ty (0,0))∧
  ∀(c2:Cz) (gP:St),(∀b,c.ok b→c2.ok b)→c2.lc k=lcs→nth gP k=some (da k av)→eM c2 gP w cs vs.toList
 io:∀A,av=some (.io A)→lcs 0=lio 0
 bR:∀os,av=some (.bR os)→lcs=lio
theorem qY {st:St} {k j:Nat} {av:Option AV} {A:gu} (h:nth st k=some (da k av)) (hA:aX st k j 1=some A):nth (da k av).aO j=some (some A):=by
 obtain ⟨sl,h1,_,h3⟩:=bd hA;rw [h] at h1;cases h1;exact h3
theorem qZ {st:St} {k:Nat} {av:Option AV} (h:nth st k=some (da k av)):cK st k=1:=by
 unfold cK;rw [h]
 cases av with
 |none=>rfl
 |some av=>cases av with
  |val agg os=>cases agg<;>rfl
  |io A=>rfl
  |box os=>rfl
  |bR os=>rfl
theorem Gl {st:St} {k:Nat} {av:Option AV} (h:nth st k=some (da k av)):ff st k=1:=by
 unfold ff;rw [h]
 cases av with
 |none=>rfl
 |some av=>cases av with
  |val agg os=>cases agg<;>rfl
  |io A=>rfl
  |box os=>rfl
  |bR os=>rfl
theorem AO:(os:List OV)→(j:Nat)→{A:gu}→nth (bu os) j=some (some A)→os[j]?=some (.own A)
 | [],_,_,h=>by simp [bu] at h
 |o::os,0,A,h=>by
  simp only [bu,nth,Option.some.injEq] at h
  cases o with
  |own B=>injection h with h;subst h;rfl
  |_=>cases h
 |o::os,j+1,A,h=>by
  have:=AO os j (A:=A) h;simpa using this
theorem Gm {d g:Nat}:(os:List OV)→(j k:Nat)→(o:OV)→os[k]?=some o→∃x,bf d g (j+k) [o]=[x]∧(bf d g j os)[k]?=some x
 | [],_,_,_,h=>by simp at h
 |o::os,j,0,o',h=>by
  simp only [List.getElem?_cons_zero,Option.some.injEq] at h;subst h
  cases o<;>exact ⟨_,rfl,rfl⟩
 |o::os,j,k+1,o',h=>by
  obtain ⟨x,h1,h2⟩:=Gm (d:=d) (g:=g) os (j+1) k o' (by simpa using h);rw [show j+1+k=j+(k+1) by omega] at h1;refine ⟨x,h1,?_⟩
  cases o<;>simpa [bf] using h2
theorem D4 {d g:Nat}:(os:List OV)→(j:Nat)→(bf d g j os).length=os.length
 | [],_=>rfl
 |o::os,j=>by cases o<;>simp [bf,D4 os (j+1)]
theorem bF.Qa {c:Cz} {w:World} {f:Nat→Lb} {os:List OV} {vs:List Value} (h:bF c w f 0 os vs) (lcs:Nat→Loc) (ho:∀k A u,os[k]?=some (.own A)→vs[k]?=some u→∃l,OwnAt c w l (lcs k) A u)
  (c2:Cz) (gP:St) (d g:Nat) (fZ:∀b,c.ok b→c2.ok b) (gN:∀k,c2.lc d k=lcs k) (BH:∀k A,aX gP d k g=some A→os[k]?=some (.own A)) (hg:g≤cK gP d):eM c2 gP w (bf d g 0 os) vs:=by
 obtain ⟨h1,h2⟩:=bF.P6 os 0 vs h;refine ⟨by rw [D4,h1],fun k x v hx hv => ?_⟩;have cA:k<os.length:=by rw [←h1];exact (List.getElem?_eq_some_iff.1 hv).1
 have Ka:os[k]?=some os[k]:=List.getElem?_eq_getElem cA;obtain ⟨y,q1,q2⟩:=Gm (d:=d) (g:=g) os 0 k _ Ka;rw [q2] at hx
 cases hx
 have hL:=h2 k _ v Ka hv;rw [Nat.zero_add] at q1;generalize os[k]=o at *
 cases o with
 |own A=>
  simp only [bf,List.cons.injEq,and_true] at q1;subst q1;obtain ⟨l,hO⟩:=ho k A v Ka hv;refine ⟨hO.1,hg,fun A' ee => ?_⟩;have:=BH k A' ee;rw [Ka] at this
  cases this
  rw [gN];exact hO.2.1
 |shr r xs=>
  simp only [bf,List.cons.injEq,and_true] at q1;subst q1;obtain ⟨v',l,e,h3,_⟩:=hL
  cases e
  exact bY.stays ⟨Nat.le_refl _,fun _ _ _=>rfl,fun b _ hb=>fZ b hb⟩ _ _ _ h3
 |lL r xs=>
  simp only [bf,List.cons.injEq,and_true] at q1;subst q1;obtain ⟨v',l,e,⟨b,oo,e1,e2,e3,e4⟩,_⟩:=hL
  cases e
  exact ⟨b,oo,e1,e2,fZ b e3,fun x hx=>cE.stays ⟨Nat.le_refl _,fun _ _ _=>rfl,fun b _ hb=>fZ b hb⟩ _ _ _ _ rfl (e4 x hx)⟩
 |fn fg r xs=>
  simp only [bf,List.cons.injEq,and_true] at q1;subst q1;obtain ⟨v',l,e,h3,_⟩:=hL
  cases e
  exact h3.stays ⟨Nat.le_refl _,fun _ _ _=>rfl,fun b _ hb=>fZ b hb⟩
 |_=>
  simp only [bf,List.cons.injEq,and_true] at q1;subst q1;obtain ⟨l,e,_⟩:=hL
  cases e
  rfl
theorem Si {c:Cz} {w:World} {k:Nat} {lio:Nat→Loc} {av:Option AV} {u:Value} (h:∀v,av=some v→sP c w k lio v u):∃n5 lcs,P9 c w k av u lio n5 lcs:=by
 cases av with
 |none=>exact ⟨0,fun _=>.nil,fun j A hA=>by simp [da,Sl.blank] at hA,fun c2 gP _ _ _ _=>trivial,fun cs wJ=>by simp [da,Sl.blank] at wJ,fun A hA=>(by cases hA),fun A hA=>(by cases hA)⟩
 |some av=>
  have h:=h av rfl
  cases av with
  |val agg os=>
   cases agg with
   |true=>
    obtain ⟨vs,rfl,hl⟩:=h;obtain ⟨lcs,g1,g2⟩:=bF.cells os 0 _ hl;simp only [Nat.zero_add] at g1 g2;refine ⟨0,lcs,fun j A hA=>g1 j A hA,fun c2 gP fZ _ gN hn=>⟨vs,rfl,?_⟩,fun cs wJ=>by simp [da] at wJ,fun A hA=>(by cases hA),fun A hA=>(by cases hA)⟩;exact g2 c2 gP k 1 fZ (fun j _=>by rw [gN]) (fun j A _ hA=>qY hn hA) (by rw [qZ hn];exact Nat.le_refl _)
   |false=>
    have hl:bF c w (.cf k) 0 os [u]:=h;obtain ⟨lcs,g1,g2⟩:=bF.cells os 0 _ hl;simp only [Nat.zero_add] at g1 g2;refine ⟨0,lcs,fun j A hA=>g1 j A hA,fun c2 gP fZ _ gN hn => ?_,fun cs wJ=>by simp [da] at wJ,fun A hA=>(by cases hA),fun A hA=>(by cases hA)⟩;have hR:=g2 c2 gP k 1 fZ (fun j _=>by rw [gN]) (fun j A _ hA=>qY hn hA) (by rw [qZ hn];exact Nat.le_refl _);show ej c2 gP w (match bf k 1 0 os with | [c]=>.one c | _=>.one .bad) u;have h1:=hR.1
    cases hc:bf k 1 0 os with
    |nil=>trivial
    |cons x l=>cases l with
     |nil=>rw [hc] at hR;exact hR.2 0 x u rfl rfl
     |cons _ _=>trivial
  |io A=>
   have hO:OwnAt c w (.cf k 0) (lio 0) A u:=h;refine ⟨0,lio,fun j A' ee => ?_,fun c2 gP fZ _ gN hn => ?_,fun cs wJ=>by simp [da] at wJ,fun A hA=>rfl,fun A hA=>by cases hA⟩
   ·cases j with
    |zero=>simp [da,nth] at ee;subst ee;exact ⟨u,hO⟩
    |succ j=>simp [da,nth] at ee
   ·refine ⟨hO.1,by rw [qZ hn];exact Nat.le_refl _,fun A' ee => ?_⟩;have:=qY hn ee;simp [da,nth] at this;subst this;rw [gN];exact hO.2.1
  |bR os=>
   obtain ⟨vs,rfl,hl,PS⟩:=h;have dR:∀j A u,os[j]?=some (.own A)→vs.toList[j]?=some u→OwnAt c w (.cf k j) (lio j) A u:=fun j A u h1 h2=>PS j _ u h1 h2
   obtain ⟨n1,_⟩:=bF.P6 os 0 _ hl;refine ⟨0,lio,fun j A' ee => ?_,fun c2 gP fZ _ gN hn=>⟨vs,rfl,?_⟩,fun cs wJ=>by simp [da] at wJ,fun A hA=>(by cases hA),fun Ax _=>rfl⟩
   ·have hj:=AO os j ee;have cA:j<vs.toList.length:=by rw [n1];exact (List.getElem?_eq_some_iff.1 hj).1
    exact ⟨_,dR j A' _ hj (List.getElem?_eq_getElem cA)⟩
   ·exact bF.Qa hl lio (fun j A u h1 h2=>⟨_,dR j A u h1 h2⟩) c2 gP k 1 fZ (fun j=>by rw [gN]) (fun j A hA=>AO os j (qY hn hA)) (by rw [qZ hn];exact Nat.le_refl _)
  |box os=>
   obtain ⟨n5,vs,ty,h1,h2,h3,hl⟩:=h;obtain ⟨lcs,g1,g2⟩:=bF.cells os 0 _ hl;simp only [Nat.zero_add] at g1 g2;refine ⟨n5,lcs,fun j A hA=>g1 j A hA,fun c2 gP fZ Bq gN hn=>⟨by rw [h1];rfl,by rw [Gl hn];exact Nat.le_refl _,fun cs _=>by rw [Bq];exact h1⟩,fun cs wJ=>⟨h1,h2,vs,ty,h3,fun c2 gP fZ gN hn => ?_⟩,fun A hA=>(by cases hA),fun A hA=>(by cases hA)⟩;simp only [da,Option.some.injEq] at wJ;subst wJ;exact g2 c2 gP k 1 fZ (fun j _=>by rw [gN]) (fun j A _ hA=>qY hn hA) (by rw [qZ hn];exact Nat.le_refl _)
theorem Rel.LQ {w0:World} {mu:Mu} {c:Cz} {a:Act} {w:World} {L:List (Option AV)} {lc:Nat→Nat→Loc} (hb:Dj w0 mu c w) (hd:a.defers=[]) (hL:BL c w lc a 0 L) (hA:∀p∈mu.an,P7 L lc a p):∃c',Rel w0 mu c' (n6 0 L) a w:=by
 have Sf:∀k,∃q:Nat×(Nat→Loc),P9 c w k ((L[k]?).getD none) (a.eval (.tmp k)) (lc k) q.1 q.2:=by
  intro k;obtain ⟨n5,lcs,h⟩:=Si (c:=c) (w:=w) (k:=k) (lio:=lc k) (av:=(L[k]?).getD none) (u:=a.eval (.tmp k)) (fun v hv=>by
   have:=hL k v (by
    cases hq:L[k]? with
    |none=>rw [hq] at hv;cases hv
    |some o=>rw [hq] at hv;simp at hv;rw [hv])
   simpa using this)
  exact ⟨(n5,lcs),h⟩
 obtain ⟨q,hq⟩:=Classical.axiomOfChoice Sf;have hn:∀k,nth (n6 0 L) k=(L[k]?).map (da k):=fun k=>by have:=Gj L 0 k;simpa using this
 have MJ:∀k sl,nth (n6 0 L) k=some sl→∃o,L[k]?=some o∧sl=da k o∧nth (n6 0 L) k=some (da k ((L[k]?).getD none))∧(L[k]?).getD none=o:=by
  intro k sl h;rw [hn] at h
  cases ho:L[k]? with
  |none=>rw [ho] at h;cases h
  |some o=>
   rw [ho] at h
   cases h
   refine ⟨o,rfl,rfl,?_,rfl⟩;rw [hn,ho];rfl
 let c':=c.dJ P8 (fun k=>(q k).1) (fun k=>(q k).2)
 have fZ:∀b,c.ok b→c'.ok b:=fun b hb=>Cz.lr.2 hb
 refine ⟨c',fun t => ?_,fun s sl cs hs Bq => ?_,fun s j sl A hs ee => ?_,fun b l hl => ?_,fun b cA hl=>hb.free b cA (by simpa [c',Cz.dJ] using hl),hb.kept,hb.old,hd,fun p hp => ?_,fun b l hl=>by
  simp only [c',Cz.dJ,Option.map_eq_some_iff] at hl;obtain ⟨k,hk,_⟩:=hl;exact hb.mq b k hk⟩
 ·cases hs:nth (n6 0 L) t with
  |none=>
   have:bV (n6 0 L) t=.one .bad:=by unfold bV;rw [hs]
   rw [this];trivial
  |some sl=>
   obtain ⟨o,h1,rfl,h3,h4⟩:=MJ t sl hs;have:bV (n6 0 L) t=(da t ((L[t]?).getD none)).v:=by unfold bV;rw [h3]
   rw [this];exact (hq t).reg c' (n6 0 L) fZ rfl rfl h3
 ·obtain ⟨o,h1,rfl,h3,h4⟩:=MJ s sl hs;rw [←h4] at Bq;obtain ⟨g1,g2,vs,ty,g3,g4⟩:=(hq s).box cs Bq;refine ⟨?_,vs,ty,g3,g4 c' (n6 0 L) fZ rfl h3⟩;show (c.own (q s).1).map P8=_;rw [g2];rfl
 ·obtain ⟨o,h1,rfl,h3,h4⟩:=MJ s sl hs;rw [←h4] at ee;obtain ⟨v,hv⟩:=(hq s).arr j A ee;exact hv.arr rfl rfl
 ·simp only [c',Cz.dJ,Option.map_eq_some_iff] at hl;obtain ⟨k,hk,e⟩:=hl;obtain ⟨h1,h2⟩:=hb.owned b k hk;refine ⟨h1,h2.imp (fun e2 => ?_) id⟩;subst e2;rw [←e];rfl
 ·have hf:=hA p hp
  cases p with
  |arr i j g W n l=>
   obtain ⟨rfl,hi,Ix⟩:=hf;have hs:nth (n6 0 L) i=some (da i ((L[i]?).getD none)):=by rw [hn];simp [List.getElem?_eq_getElem hi]
   refine ⟨by rw [qZ hs];exact Nat.le_refl _,fun A ee => ?_⟩;have h3:=qY hs ee
   cases ho:L[i]? with
   |none=>rw [ho] at h3;simp [da,Sl.blank] at h3
   |some o=>cases o with
    |none=>rw [ho] at h3;simp [da,Sl.blank] at h3
    |some av=>
     rcases Ix av ho with ⟨A0,rfl,h5⟩ | ⟨os,rfl,h5⟩
     case inr=>
      rw [ho] at h3;obtain ⟨e1,e2,e3⟩:=h5 A (AO os j h3);refine ⟨e1,e2,?_⟩;rw [←e3];have:=(hq i).bR os (by rw [ho];rfl);show (q i).2 j=lc i j;rw [this]
     rw [ho] at h3
     cases j with
     |zero=>
      simp [da,nth] at h3;subst h3;obtain ⟨e1,e2,e3⟩:=h5 rfl;exact ⟨e1,e2,((hq i).io A0 (by rw [ho];rfl)).trans e3⟩
     |succ j=>simp [da,nth] at h3
  |box i g n5=>
   obtain ⟨rfl,hi,Ix⟩:=hf;have hs:nth (n6 0 L) i=some (da i ((L[i]?).getD none)):=by rw [hn];simp [List.getElem?_eq_getElem hi]
   refine ⟨by rw [Gl hs];exact Nat.le_refl _,fun cs wJ => ?_⟩;obtain ⟨sl,k1,k2,k3⟩:=im wJ;rw [hs] at k1;cases k1;obtain ⟨g1,_⟩:=(hq i).box cs k3;have ru:∃os,L[i]?=some (some (.box os)):=by
    cases ho:L[i]? with
    |none=>rw [ho] at k3;simp [da,Sl.blank] at k3
    |some o=>cases o with
     |none=>rw [ho] at k3;simp [da,Sl.blank] at k3
     |some av=>cases av with
      |val agg os=>rw [ho] at k3;cases agg<;>simp [da] at k3
      |io A=>rw [ho] at k3;simp [da] at k3
      |bR os=>rw [ho] at k3;simp [da] at k3
      |box os=>exact ⟨os,rfl⟩
   obtain ⟨os,ru⟩:=ru;have:=Ix os ru;rw [this] at g1;injection g1 with g1;injection g1 with g1;injection g1 with g1;exact g1.symm
end Go.TM
namespace Go.TM
open Go Go.RowKit
inductive Src where
 |tmp (t:Nat)
 |cell (t:Nat)
 |ptr (t:Nat)  -- JA struct behind a pointer,aaJ is kE back
structure RP where
 src:Src
 agg:Bool
 ps:List OP
def dn:List RP→RT→RT
 | [],t=>t
 |r::rs,t=>mb r.ps (dn rs t)
def rK:List OP→RT→RT
 | [],t=>t
 |.own r _::ps,t=>.cons (.sl r) (rK ps t)
 |.int _::ps,t=>rK ps t
 |.bool::ps,t=>rK ps t
 |.str::ps,t=>rK ps t
 |.shr _::ps,t=>rK ps t
 |.lL _::ps,t=>rK ps t
 |.fn _ _::ps,t=>rK ps t
def cj:List AP→RT
 | []=>.nil
 |.val _ _::l=>cj l
 |.io r _::l=>.cons (.sl r) (cj l)
 |.box _ ps::l=>mb ps (cj l)
 |.bR ps::l=>rK ps (cj l)
def RP.cells (st:St) (r:RP):Option (List CV):=
 match r.src with
 |.tmp t=>match bV st t with
  |.agg cs=>bif r.agg then some cs else none
  |.one c=>bif r.agg then none else some [c]
  |.m9 _=>none
 |.cell t=>match bV st t with
  |.one (.ptr b g off)=>bif Nat.beq off 0 then cZ st b g else none
  |_=>none
 |.ptr t=>match bV st t with
  |.one (.ptr b g off)=>bif Nat.beq off 0 then cZ st b g else none
  |_=>none
def RP.ZU (st:St) (r:RP):List (Option Lb):=
 match r.src with
 |.ptr t=>(match bV st t with | .one (.ptr b _ _)=>[some (.box b)] | _=>[])
 |_=>[]
def D5 (st:St):(rs:List RP)→(t:RT)→aA t→Option (aA (dn rs t)×List (Option Lb)×List (Nat×Nat))
 | [],_,y=>some (y,[],[])
 |r::rs,t,y=>(r.cells st).bind fun cs=>(D5 st rs t y).bind fun q=>(kT st r.ps (dn rs t) cs q.1).map fun p=>(p.1,r.ZU st++(p.2.1++q.2.1),p.2.2++q.2.2)
def mc (st:St) (i:Nat):(j:Nat)→(ps:List OP)→(t:RT)→aA t→Option (aA (rK ps t)×List Lb)
 |_,[],_,y=>some (y,[])
 |j,.own r d::ps,t,y=>(mc st i (j+1) ps t y).bind fun q=>(aX st i j 1).bind fun A=>bif A.own&&A.md.is d then (bH r A.xs).map fun xs=>((xs,q.1),.sp i j::q.2) else none
 |j,.int _::ps,t,y=>mc st i (j+1) ps t y
 |j,.bool::ps,t,y=>mc st i (j+1) ps t y
 |j,.str::ps,t,y=>mc st i (j+1) ps t y
 |j,.shr _::ps,t,y=>mc st i (j+1) ps t y
 |j,.lL _::ps,t,y=>mc st i (j+1) ps t y
 |j,.fn _ _::ps,t,y=>mc st i (j+1) ps t y
def tl (st:St):(i:Nat)→(ps:List AP)→Option (aA (cj ps)×List Lb×List (Nat×Nat))
 |_,[]=>some ((),[],[])
 |i,.val _ _::l=>tl st (i+1) l
 |i,.io r d::l=>(tl st (i+1) l).bind fun q=>(CJ st i (.io r d) (cj l) (.one (.ref i 0 1 .full)) q.1).map fun p=>(p.1,p.2.1++q.2.1,p.2.2++q.2.2)
 |i,.box _ ps::l=>(tl st (i+1) l).bind fun q=>(CJ st i (.box true ps) (cj l) (.one (.ptr i 1 0)) q.1).map fun p=>(p.1,p.2.1++q.2.1,p.2.2++q.2.2)
 |i,.bR ps::l=>(tl st (i+1) l).bind fun q=>(mc st i 0 ps (cj l) q.1).map fun p=>(p.1,p.2++q.2.1,q.2.2)
def Fq (rs:List RP) (ps:List AP):Ex→St→Option (aA (dn rs (cj ps)))
 |.exit _,_=>none
 |_,st=>(tl st 0 ps).bind fun x=>(D5 st rs (cj ps) x.1).bind fun q=>bif uG (cg q.2.1++x.2.1)&&apart (cg q.2.1++x.2.1) (q.2.2++x.2.2) then some q.1 else none
def RP.rv (r:RP) (os:List OV):RV:=
 match r.src with
 |.ptr _=>.ptr os
 |_=>match r.agg,os with
  |false,[o]=>.one o
  |_,os=>.agg os
def iP:(rs:List RP)→(t:RT)→aA (dn rs t)→List RV×aA t
 | [],_,x=>([],x)
 |r::rs,t,x=>(r.rv (dM r.ps (dn rs t) x).1::(iP rs t (dM r.ps (dn rs t) x).2).1,(iP rs t (dM r.ps (dn rs t) x).2).2)
def mS:(ps:List OP)→(t:RT)→aA (rK ps t)→List (Option gu)×aA t
 | [],_,x=>([],x)
 |.own r d::ps,t,x=>(some { r:=r,own:=true,xs:=x.1,md:=d }::(mS ps t x.2).1,(mS ps t x.2).2)
 |.int _::ps,t,x=>(none::(mS ps t x).1,(mS ps t x).2)
 |.bool::ps,t,x=>(none::(mS ps t x).1,(mS ps t x).2)
 |.str::ps,t,x=>(none::(mS ps t x).1,(mS ps t x).2)
 |.shr _::ps,t,x=>(none::(mS ps t x).1,(mS ps t x).2)
 |.lL _::ps,t,x=>(none::(mS ps t x).1,(mS ps t x).2)
 |.fn _ _::ps,t,x=>(none::(mS ps t x).1,(mS ps t x).2)
def om:(ps:List AP)→aA (cj ps)→List XV
 | [],_=>[]
 |.val _ _::l,x=>om l x
 |.io r d::l,x=>.io { r:=r,own:=true,xs:=x.1,md:=d }::om l x.2
 |.box _ ps::l,x=>.box (dM ps (cj l) x).1::om l (dM ps (cj l) x).2
 |.bR ps::l,x=>.bR (mS ps (cj l) x).1::om l (mS ps (cj l) x).2
def nj (ps:List AP) (rs:List RP) (t:aA (aN (ps.map some))→Option (aA (dn rs (cj ps)))):wO:=fun dX=>
 match fm ps dX with
 |some x=>some { r:=dn rs (cj ps),o:=t x,res:=fun y=>{ outs:=(iP rs (cj ps) y).1,exts:=om ps (iP rs (cj ps) y).2 } }
 |none=>none
theorem jR {st:St} {i:Nat}:(ps:List OP)→(j:Nat)→(t:RT)→(y:aA t)→{x:aA (rK ps t)}→{u:List Lb}→mc st i j ps t y=some (x,u)→(mS ps t x).2=y∧(∀l∈u,∃k,l=.sp i k)∧
  ∀(k:Nat) (r:RT) (d:Md),ps[k]?=some (.own r d)→∃A xs,aX st i (j+k) 1=some A∧A.own=true∧A.md=d∧bH r A.xs=some xs∧nth (mS ps t x).1 k=some (some { r:=r,own:=true,xs:=xs,md:=d })∧.sp i (j+k)∈u
 | [],j,t,y,x,u,h=>by
  injection h with h;injection h with e1 e2;subst e1 e2;exact ⟨rfl,by simp,fun k r d hk=>by simp at hk⟩
 |.own r d::ps,j,t,y,x,u,h=>by
  unfold mc at h;obtain ⟨q,hq,h⟩:=Option.bind_eq_some_iff.1 h;obtain ⟨A,hA,h⟩:=Option.bind_eq_some_iff.1 h;obtain ⟨ho,h⟩:=aK h;rw [Bool.and_eq_true] at ho;obtain ⟨xs,TU,h⟩:=Option.map_eq_some_iff.1 h;injection h with e1 e2;subst e1 e2;obtain ⟨z,us⟩:=q;obtain ⟨g1,g2,g3⟩:=jR ps (j+1) t y hq;refine ⟨g1,fun l hl => ?_,fun k r' d' hk => ?_⟩
  ·rcases List.mem_cons.1 hl with rfl | hl
   ·exact ⟨j,rfl⟩
   ·exact g2 l hl
  ·cases k with
   |zero=>
    simp only [List.getElem?_cons_zero,Option.some.injEq,OP.own.injEq] at hk;obtain ⟨rfl,rfl⟩:=hk;exact ⟨A,xs,hA,ho.1,Md.je.1 ho.2,TU,rfl,List.mem_cons_self⟩
   |succ k=>
    obtain ⟨A',xs',k1,k2,kd,k3,k4,k5⟩:=g3 k r' d' (by simpa using hk);rw [show j+1+k=j+(k+1) by omega] at k1 k5;exact ⟨A',xs',k1,k2,kd,k3,k4,List.mem_cons_of_mem _ k5⟩
 |.int _::ps,j,t,y,x,u,h=>ko (jR ps (j+1) t y h) (by simp) (fun k=>rfl)
 |.bool::ps,j,t,y,x,u,h=>ko (jR ps (j+1) t y h) (by simp) (fun k=>rfl)
 |.str::ps,j,t,y,x,u,h=>ko (jR ps (j+1) t y h) (by simp) (fun k=>rfl)
 |.shr _::ps,j,t,y,x,u,h=>ko (jR ps (j+1) t y h) (by simp) (fun k=>rfl)
 |.lL _::ps,j,t,y,x,u,h=>ko (jR ps (j+1) t y h) (by simp) (fun k=>rfl)
 |.fn _ _::ps,j,t,y,x,u,h=>ko (jR ps (j+1) t y h) (by simp) (fun k=>rfl)
where
 ko {st:St} {i j:Nat} {p:OP} {ps:List OP} {D:Type} {y z:D} {L L':List (Option gu)} {u:List Lb} (h:z=y∧(∀l∈u,∃k,l=.sp i k)∧∀(k:Nat) (r:RT) (d:Md),ps[k]?=some (.own r d)→∃A xs,aX st i (j+1+k) 1=some A∧A.own=true∧A.md=d∧bH r A.xs=some xs∧nth L k=some (some { r:=r,own:=true,xs:=xs,md:=d })∧.sp i (j+1+k)∈u)
   (hp:∀r d,p≠.own r d) (hL:∀k,nth L' (k+1)=nth L k):z=y∧(∀l∈u,∃k,l=.sp i k)∧∀(k:Nat) (r:RT) (d:Md),(p::ps)[k]?=some (.own r d)→∃A xs,aX st i (j+k) 1=some A∧A.own=true∧A.md=d∧bH r A.xs=some xs∧nth L' k=some (some { r:=r,own:=true,xs:=xs,md:=d })∧.sp i (j+k)∈u:=by
  obtain ⟨h1,h2,h3⟩:=h;refine ⟨h1,h2,fun k r d hk => ?_⟩
  cases k with
  |zero=>
   simp only [List.getElem?_cons_zero,Option.some.injEq] at hk;exact absurd hk (hp r d)
  |succ k=>
   obtain ⟨A',xs',k1,k2,kd,k3,k4,k5⟩:=h3 k r d (by simpa using hk);rw [show j+1+k=j+(k+1) by omega] at k1 k5;exact ⟨A',xs',k1,k2,kd,k3,by rw [hL];exact k4,k5⟩
theorem Gn {st:St}:(ps:List OP)→(t:RT)→(cs:List CV)→(y:aA t)→{x:aA (mb ps t)}→{u:List (Option Lb)}→{r:List (Nat×Nat)}→kT st ps t cs y=some (x,u,r)→u.length=ps.length∧cs.length=ps.length∧(dM ps t x).1.length=ps.length
 | [],t,[],y,x,u,r,h=>by
  injection h with h;injection h with e1 e2;injection e2 with e2 e3;subst e1 e2 e3;exact ⟨rfl,rfl,rfl⟩
 | [],t,_::_,y,x,u,r,h=>by simp [kT] at h
 |_::_,t,[],y,x,u,r,h=>by simp [kT] at h
 |p::ps,t,c::cs,y,x,u,r,h=>by
  unfold kT at h
  cases hc:eF st p.nd c with
  |none=>simp [hc] at h
  |some q1=>
   obtain ⟨o,u1,r1⟩:=q1
   cases hq:kT st ps t cs y with
   |none=>simp [hc,hq] at h
   |some q2=>
    obtain ⟨z,us,rs⟩:=q2;simp only [hc,hq] at h
    cases ho:rJ p o with
    |none=>simp [ho] at h
    |some a1=>
     simp only [ho] at h;injection h with h;injection h with e1 e2;injection e2 with e2 e3;subst e1 e2 e3;obtain ⟨g1,g2,g3⟩:=Gn ps t cs y hq;exact ⟨by simp [g1],by simp [g2],by simp [dM,g3]⟩
def Qb (T:kG) (fr:Array Value):ResultVar→RP→Prop
 |.tmp t,r=>r.src=.tmp t∨r.src=.ptr t
 |.cell t ty,r=>r.src=.cell t∧T.cells ty=some r.ps.length∧T.agg ty=r.agg
def D6 (tm:Array Value):ResultVar→Sem Value
 |.tmp t=>pure (tm.getD t undef)
 |.cell a t=>do loadVar t (←asAddr (tm.getD a undef))
theorem RP.Qc {P:Program} {T:kG} (hT:fi P T) {w0:World} {mu:Mu} {c:Cz} {st:St} {a:Act} {w:World} (h:Rel w0 mu c st a w) {r:RP} {rv:ResultVar} (hr:Qb T a.tmps rv r) {cs:List CV} (hc:r.cells st=some cs) (hn:cs.length=r.ps.length) :
  ∃vs v,eM c st w cs vs∧(D6 a.tmps rv).run P w=.ok v w∧(((∀t,r.src≠.ptr t)∧((r.agg=true∧v=.agg vs.toArray)∨(r.agg=false∧(vs=[v]))))∨
   (∃t b ty us,r.src=.ptr t∧r.ZU st=[some (.box b)]∧v=.pointer (some ⟨c.bx b,0,none⟩)∧c.own (c.bx b)=some (.box b)∧w.heap[c.bx b]?=some (.cells us ty (0,0))∧vs=us.toList)):=by
 unfold RP.cells at hc
 cases rv with
 |tmp t=>
  rcases (hr:r.src=.tmp t∨r.src=.ptr t) with hs | hs
  case inr=>
   rw [hs] at hc;have ua:=h.ea t;simp only at hc
   cases hv:bV st t with
   |m9 _=>rw [hv] at hc;cases hc
   |agg l=>rw [hv] at hc;cases hc
   |one x=>
    cases x with
    |ptr b g off=>
     rw [hv] at hc ua;obtain ⟨ho,hb⟩:=aK hc;have ho:=Nat.eq_of_beq_eq_true ho;subst ho;obtain ⟨sl,k1,k2,k3⟩:=im hb;obtain ⟨q1,vs,ty',q2,q3⟩:=h.boxes b sl cs k1 k3;have e:a.tmps.getD t undef=.pointer (some ⟨c.bx b,0,none⟩):=ua.2.2 cs hb;refine ⟨vs.toList,a.tmps.getD t undef,q3,rfl,.inr ⟨t,b,ty',vs,hs,?_,e,q1,q2,rfl⟩⟩;unfold RP.ZU;rw [hs];simp only [hv]
    |_=>rw [hv] at hc;cases hc
  rw [hs] at hc;have ua:=h.ea t;simp only at hc
  cases hv:bV st t with
  |m9 _=>rw [hv] at hc;cases hc
  |agg l=>
   rw [hv] at hc ua;obtain ⟨LR,hc1⟩:=aK hc
   cases hc1
   obtain ⟨vs,e,hl⟩:=ua;exact ⟨vs.toList,a.eval (.tmp t),hl,rfl,.inl ⟨fun t' e'=>(by rw [hs] at e';cases e'),.inl ⟨LR,by rw [e]⟩⟩⟩
  |one x=>
   rw [hv] at hc ua;simp only at hc
   cases LR:r.agg with
   |true=>rw [LR] at hc;cases hc
   |false=>
    rw [LR] at hc
    cases hc
    refine ⟨[a.eval (.tmp t)],a.eval (.tmp t),⟨rfl,fun i y z hy hz => ?_⟩,rfl,.inl ⟨fun t' e'=>(by rw [hs] at e';cases e'),.inr ⟨rfl,rfl⟩⟩⟩
    cases i with
    |zero=>simp at hy hz;subst hy hz;exact ua
    |succ i=>simp at hy
 |cell t ty=>
  obtain ⟨hs,h1,h2⟩:=hr;rw [hs] at hc;have ua:=h.ea t;simp only at hc
  cases hv:bV st t with
  |m9 _=>rw [hv] at hc;cases hc
  |agg l=>rw [hv] at hc;cases hc
  |one x=>
   cases x with
   |ptr b g off=>
    rw [hv] at hc ua;obtain ⟨ho,hb⟩:=aK hc;have ho:=Nat.eq_of_beq_eq_true ho;subst ho;obtain ⟨sl,k1,k2,k3⟩:=im hb;obtain ⟨q1,vs,ty',q2,q3⟩:=h.boxes b sl cs k1 k3;have e:a.tmps.getD t undef=.pointer (some ⟨c.bx b,0,none⟩):=ua.2.2 cs hb;have Vi:w.rangeAt (c.bx b) 0 vs.toList:=by
     have:=Cs (off:=0) q2 vs.toList.length
     rwa [List.drop_zero,List.take_length] at this
    have hlen:vs.toList.length=r.ps.length:=by rw [←q3.1,hn]
    have qE:=sL (P:=P) hT h1 w (c.bx b) 0 vs.toList Vi hlen;refine ⟨vs.toList,valOf (T.agg ty) vs.toList,q3,?_,.inl ⟨fun t' e'=>(by rw [hs] at e';cases e'),?_⟩⟩
    ·simp [D6,e,asAddr,Sem.run_bind,qE]
    ·rw [h2]
     cases LR:r.agg with
     |true=>exact .inl ⟨rfl,by simp [valOf]⟩
     |false=>
      obtain ⟨_,_,_,za⟩:=hT.agg ty _ h1;have h3:=za (by rw [h2,LR]);refine .inr ⟨rfl,?_⟩;have:vs.toList.length=1:=by rw [hlen,h3]
      cases wX:vs.toList with
      |nil=>rw [wX] at this;cases this
      |cons x l=>cases l with
       |nil=>rfl
       |cons _ _=>rw [wX] at this;simp at this
   |_=>rw [hv] at hc;cases hc
end Go.TM
namespace Go.TM
open Go Go.RowKit
def zj (T:kG) (tm:Array Value):List ResultVar→List RP→Prop
 | [],[]=>True
 |v::vs,r::rs=>Qb T tm v r∧zj T tm vs rs
 |_,_=>False
theorem Gp {P:Program} {T:kG} (hT:fi P T) {w0:World} {mu:Mu} {c:Cz} {st:St} {a:Act} {w:World} (h:Rel w0 mu c st a w):(rvs:List ResultVar)→(rs:List RP)→zj T a.tmps rvs rs→(t:RT)→(y:aA t)→{x:aA (dn rs t)}→{u:List (Option Lb)}→{r:List (Nat×Nat)}→D5 st rs t y=some (x,u,r)→
  (iP rs t x).2=y∧(iP rs t x).1.length=rs.length∧(∀l∈cg u,l.real=true)∧∃vals:List Value,(rvs.mapM (D6 a.tmps)).run P w=.ok vals w∧vals.length=rvs.length∧
   ∀(ρ:Lb→Option Lb) (j:Nat),(∀k l,nth u k=some (some l)→ρ l=some (.ja (j+k)))→(∀p∈r,ρ (.sp p.1 p.2)=none)→lN (c.map ρ) w j (iP rs t x).1 vals
 | [],[],_,t,y,x,u,r,he=>by
  injection he with he;injection he with e1 e2;injection e2 with e2 e3;subst e1 e2 e3;exact ⟨rfl,rfl,by simp [cg],[],rfl,rfl,fun _ _ _ _=>rfl⟩
 | [],_::_,hf,_,_,_,_,_,_=>hf.elim
 |_::_,[],hf,_,_,_,_,_,_=>hf.elim
 |rv::rvs,rr::rs,hf,t,y,x,u,r,he=>by
  unfold D5 at he;obtain ⟨cs,hc,he⟩:=Option.bind_eq_some_iff.1 he;obtain ⟨q,hq,he⟩:=Option.bind_eq_some_iff.1 he;obtain ⟨p,hp,he⟩:=Option.map_eq_some_iff.1 he;obtain ⟨x2,u2,r2⟩:=q;obtain ⟨x1,u1,r1⟩:=p;injection he with e1 e2;injection e2 with e2 e3;subst e1 e2 e3;obtain ⟨l1,l2,l3⟩:=Gn rr.ps _ cs _ hp;obtain ⟨vs,v,g1,g2,g3⟩:=RP.Qc hT h hf.1 hc l2;obtain ⟨k1,k2,k3,vals,k4,k5,k6⟩:=Gp hT h rvs rs hf.2 t y hq;have h0:=fun (ρ:Lb→Option Lb) (j:Nat)=>xi h (ρ:=ρ) (f:=.ja) (fun _=>rfl) rr.ps (dn rs t) cs x2 vs j g1 hp
  have e0:=(h0 (fun _=>none) 0).1;refine ⟨?_,?_,fun l hl => ?_,v::vals,?_,by simp [k5],fun ρ j hu hr => ?_⟩
  ·show (iP rs t (dM rr.ps (dn rs t) x1).2).2=y;rw [e0];exact k1
  ·show (iP rs t (dM rr.ps (dn rs t) x1).2).1.length+1=_;rw [e0,k2];rfl
  ·rw [gv] at hl;rcases List.mem_append.1 hl with hl | hl
   ·unfold RP.ZU at hl
    split at hl
    ·split at hl
     ·simp only [List.mem_singleton,Option.some.injEq] at hl;subst hl;rfl
     ·cases hl
    ·cases hl
   ·rcases List.mem_append.1 hl with hl | hl
    ·exact (h0 (fun _=>none) 0).2.1 l (gv.2 hl)
    ·exact k3 l (gv.2 hl)
  ·rw [List.mapM_cons];simp [Sem.run_bind,g2,k4]
  ·have e:(iP (rr::rs) t x1).1=rr.rv (dM rr.ps (dn rs t) x1).1::(iP rs t x2).1:=by
    show rr.rv (dM rr.ps (dn rs t) x1).1::(iP rs t (dM rr.ps (dn rs t) x1).2).1=_;rw [e0]
   show lN (c.map ρ) w j (iP (rr::rs) t x1).1 (v::vals);rw [e];rcases g3 with ⟨hnp,g3⟩ | ⟨tt,b,ty,us,Vj,Vk,hv,dR,PK,wX⟩
   ·have Vk:rr.ZU st=[]:=by
     unfold RP.ZU
     split
     ·rename_i t' e';exact absurd e' (hnp t')
     ·rfl
    rw [Vk,List.nil_append] at hu;have hL:=(h0 ρ j).2.2 (fun k l hk=>hu k l (by
     rw [mF,if_pos (G2 hk)];exact hk)) (fun p hp=>hr p (List.mem_append_left _ hp))
    have fe:=k6 ρ (j+rr.ps.length) (fun k l hk=>by
     have:=hu (rr.ps.length+k) l (by rw [mF,l1,if_neg (by omega),Nat.add_sub_cancel_left];exact hk);rw [Nat.add_assoc];exact this) (fun p hp=>hr p (List.mem_append_right _ hp))
    have hrv:∀os,rr.rv os=(match rr.agg,os with | false,[o]=>RV.one o | _,os=>RV.agg os):=by
     intro os;unfold RP.rv
     split
     ·rename_i t' e';exact absurd e' (hnp t')
     ·rfl
    rcases g3 with ⟨ha,rfl⟩ | ⟨ha,rfl⟩
    ·have er:rr.rv (dM rr.ps (dn rs t) x1).1=.agg (dM rr.ps (dn rs t) x1).1:=by rw [hrv,ha]
     rw [er];exact ⟨vs.toArray,vals,rfl,by simpa using hL,by rw [l3];exact fe⟩
    ·have hlen:cs.length=1:=g1.1;have:(dM rr.ps (dn rs t) x1).1.length=1:=by rw [l3,←l2,hlen]
     cases ho:(dM rr.ps (dn rs t) x1).1 with
     |nil=>rw [ho] at this;cases this
     |cons o l=>cases l with
      |cons _ _=>rw [ho] at this;simp at this
      |nil=>
       have er:rr.rv [o]=.one o:=by rw [hrv,ha]
       rw [er];rw [ho] at hL;refine ⟨v,vals,rfl,hL,?_⟩;rw [←l2,hlen] at fe;exact fe
   ·rw [Vk] at hu;have hb:=hu 0 (.box b) rfl;have hL:=(h0 ρ (j+1)).2.2 (fun k l hk=>by
     have:=hu (k+1) l (by
      show nth (u1++u2) k=_;rw [mF,if_pos (G2 hk)];exact hk)
     rwa [show j+(k+1)=j+1+k by omega] at this) (fun p hp=>hr p (List.mem_append_left _ hp))
    have fe:=k6 ρ (j+(rr.ps.length+1)) (fun k l hk=>by
     have:=hu (rr.ps.length+k+1) l (by
      show nth (u1++u2) (rr.ps.length+k)=_;rw [mF,l1,if_neg (by omega),Nat.add_sub_cancel_left];exact hk)
     rwa [show j+(rr.ps.length+k+1)=j+(rr.ps.length+1)+k by omega] at this) (fun p hp=>hr p (List.mem_append_right _ hp))
    have er:rr.rv (dM rr.ps (dn rs t) x1).1=.ptr (dM rr.ps (dn rs t) x1).1:=by unfold RP.rv;rw [Vj]
    rw [er];subst wX;refine ⟨v,vals,rfl,⟨c.bx b,us,ty,hv,?_,PK,hL⟩,by rw [l3];exact fe⟩;rw [Nat.add_zero] at hb;exact (Cz.kI dR).trans hb
def Hh (mu:Mu) (lc:Nat→Nat→Loc) (i:Nat) (ps:List AP) (dX:List AV) (vs:List Value):Prop:=
 ∀(k:Nat) (p:AP) (av:AV) (v:Value),ps[k]?=some p→dX[k]?=some av→vs[k]?=some v→match p,av with
  |.io _ _,.io A=>v.oneCell'=true∧fh (lc (i+k) 0) A.r.width 0 A.xs.length v∧MA.arr (i+k) 0 1 A.r.width A.xs.length (lc (i+k) 0)∈mu.an
  |.box _ _,.box _=>∃n5,v=.pointer (some ⟨n5,0,none⟩)∧MA.box (i+k) 1 n5∈mu.an
  |.val _ _,.val _ _=>True
  |.bR qs,.bR os=>∃us,v=.agg us∧∀j A,os[j]?=some (.own A)→(∃r d,qs[j]?=some (.own r d))∧∃u,us.toList[j]?=some u∧u.oneCell'=true∧fh (lc (i+k) j) A.r.width 0 A.xs.length u∧MA.arr (i+k) j 1 A.r.width A.xs.length (lc (i+k) j)∈mu.an
  |_,_=>False
theorem ud {w0:World} {mu:Mu} {c:Cz} {st:St} {a:Act} {w:World} (h:Rel w0 mu c st a w) {lc:Nat→Nat→Loc}:(ps:List AP)→(i:Nat)→(dX:List AV)→(vs:List Value)→ps.length=dX.length→ps.length=vs.length→Hh mu lc i ps dX vs→{x:aA (cj ps)}→{u:List Lb}→{r:List (Nat×Nat)}→tl st i ps=some (x,u,r)→
  (∀l∈u,l.real=true)∧∃tb:List (Lb×Lb),tb.map (·.1)=u∧(∀p∈tb,p.2.kE=true)∧∀ρ:Lb→Option Lb,(∀p∈tb,ρ p.1=some p.2)→(∀p∈r,ρ (.sp p.1 p.2)=none)→jk (c.map ρ) w lc i dX vs (om ps x)
 | [],i,dX,vs,h1,h2,_,x,u,r,he=>by
  injection he with he;injection he with e1 e2;injection e2 with e2 e3;subst e2 e3;have:dX=[]:=by simpa using h1.symm
  subst this;exact ⟨by simp,[],rfl,by simp,fun _ _ _=>rfl⟩
 |p::ps,i,[],vs,h1,_,_,_,_,_,_=>by simp at h1
 |p::ps,i,_::_,[],_,h2,_,_,_,_,_=>by simp at h2
 |p::ps,i,av::dX,v::vs,h1,h2,hl,x,u,r,he=>by
  have wK:Hh mu lc (i+1) ps dX vs:=fun k p' LO v' e1 e2 e3=>by
   have:=hl (k+1) p' LO v' (by simpa using e1) (by simpa using e2) (by simpa using e3)
   rwa [show i+(k+1)=i+1+k by omega] at this
  have UO:ps.length=dX.length:=by simpa using h1
  have h2':ps.length=vs.length:=by simpa using h2
  have h0:=hl 0 p av v rfl rfl rfl
  cases p with
  |val agg qs=>
   cases av with
   |val Sh os=>
    obtain ⟨g1,tb,g2,g3,g4⟩:=ud h ps (i+1) dX vs UO h2' wK he;exact ⟨g1,tb,g2,g3,fun ρ hp hr=>g4 ρ hp hr⟩
   |io _=>exact h0.elim
   |box _=>exact h0.elim
   |bR _=>exact h0.elim
  |io rr dd=>
   cases av with
   |val _ _=>exact h0.elim
   |box _=>exact h0.elim
   |bR _=>exact h0.elim
   |io A=>
    obtain ⟨q1,q2,q3⟩:=h0;simp only [Nat.add_zero] at q2 q3;unfold tl at he;obtain ⟨q,hq,he⟩:=Option.bind_eq_some_iff.1 he;obtain ⟨p,hp,he⟩:=Option.map_eq_some_iff.1 he;obtain ⟨x2,u2,r2⟩:=q;obtain ⟨x1,u1,r1⟩:=p;injection he with e1 e2;injection e2 with e2 e3;subst e1 e2 e3;obtain ⟨g1,tb,g2,g3,g4⟩:=ud h ps (i+1) dX vs UO h2' wK hq;have Sj:=h.cV _ q3;have hV:ej c st w (.one (.ref i 0 1 .full)) v:=⟨q1,Sj.1,fun A' ee=>by
     obtain ⟨e1,e2,e3⟩:=Sj.2 A' ee;rw [e1,e3];show fh (lc i 0) A.r.width 0 A'.xs.length v;rw [e2];exact q2⟩
    obtain ⟨a1,a2,ta,a3,a4,a5⟩:=AN h i hV hp;obtain ⟨A',ee,abu⟩:∃A',aX st i 0 1=some A'∧∃xs,bH rr A'.xs=some xs∧x1.1=xs:=by
     have hp:(bif Nat.beq i i&&(Nat.beq 0 0&&Nat.beq 1 1) then ((aX st i 0 1).bind fun A=>bif A.own&&A.md.is dd then (bH rr A.xs).map fun xs=>((xs,x2),[Lb.sp i 0],([]:List (Nat×Nat))) else none) else none)=some (x1,u1,r1):=hp;obtain ⟨_,hp1⟩:=aK hp;obtain ⟨A',ee,hp2⟩:=Option.bind_eq_some_iff.1 hp1;obtain ⟨_,hp3⟩:=aK hp2;obtain ⟨xs,TU,e⟩:=Option.map_eq_some_iff.1 hp3;injection e with e _;exact ⟨A',ee,xs,TU,by rw [←e]⟩
    obtain ⟨xs,TU,ex⟩:=abu;obtain ⟨e1,e2,e3⟩:=Sj.2 A' ee;refine ⟨fun l hl => ?_,ta++tb,by simp [a3,g2],fun p hp => ?_,fun ρ hp hr => ?_⟩
    ·rcases List.mem_append.1 hl with hl | hl
     ·exact a2 l hl
     ·exact g1 l hl
    ·rcases List.mem_append.1 hp with hp | hp
     ·exact a4 p hp
     ·exact g3 p hp
    ·have ZV:=a5 ρ (fun p m6=>hp p (List.mem_append_left _ m6)) (fun p m6=>hr p (List.mem_append_left _ m6));have fe:=g4 ρ (fun p m6=>hp p (List.mem_append_right _ m6)) (fun p m6=>hr p (List.mem_append_right _ m6));have ZV:OwnAt (c.map ρ) w (.cf i 0) (c.lc i 0) { r:=rr,own:=true,xs:=x1.1,md:=dd } v:=ZV;rw [e3] at ZV;obtain ⟨er,OM⟩:=bm TU;refine ⟨{ r:=rr,own:=true,xs:=x1.1,md:=dd },om ps x1.2,rfl,?_,?_,ZV,?_⟩
     ·show rr.width=A.r.width;rw [←er];exact e1
     ·show List.length (x1.1:List (aA rr))=A.xs.length;rw [ex,OM,←e2]
      cases er
      rfl
     ·have:x1.2=x2:=a1;rw [this];exact fe
  |bR qs=>
   cases av with
   |val _ _=>exact h0.elim
   |io _=>exact h0.elim
   |box _=>exact h0.elim
   |bR os=>
    obtain ⟨us,rfl,q1⟩:=h0;simp only [Nat.add_zero] at q1;unfold tl at he;obtain ⟨q,hq,he⟩:=Option.bind_eq_some_iff.1 he;obtain ⟨p,hp,he⟩:=Option.map_eq_some_iff.1 he;obtain ⟨x2,u2,r2⟩:=q;obtain ⟨x1,u1⟩:=p;injection he with e1 e2;injection e2 with e2 e3;subst e1 e2 e3;obtain ⟨g1,tb,g2,g3,g4⟩:=ud h ps (i+1) dX vs UO h2' wK hq;obtain ⟨a1,a2,a3⟩:=jR qs 0 (cj ps) x2 hp
    let f:Lb→Lb×Lb:=fun l=>(l,match l with | .sp x y=>.cf x y | l=>l)
    refine ⟨fun l hl => ?_,u1.map f++tb,?_,fun p hp => ?_,fun ρ hp hr => ?_⟩
    ·rcases List.mem_append.1 hl with hl | hl
     ·obtain ⟨k,rfl⟩:=a2 l hl;rfl
     ·exact g1 l hl
    ·rw [List.map_append,List.map_map,g2]
     congr 1
     exact List.map_id u1
    ·rcases List.mem_append.1 hp with hp | hp
     ·obtain ⟨l,hl,rfl⟩:=List.mem_map.1 hp;obtain ⟨k,rfl⟩:=a2 l hl;rfl
     ·exact g3 p hp
    ·have fe:=g4 ρ (fun p m6=>hp p (List.mem_append_right _ m6)) hr;refine ⟨(mS qs (cj ps) x1).1,om ps (mS qs (cj ps) x1).2,rfl,⟨us,rfl,fun j A hj => ?_⟩,by rw [a1];exact fe⟩;obtain ⟨⟨r,dd,hqr⟩,u,b1,b2,b3,b4⟩:=q1 j A hj;obtain ⟨A',xs,c1,c2,cd,c3,c4,c5⟩:=a3 j r dd hqr;rw [Nat.zero_add] at c1 c5;obtain ⟨e1,e2,e3⟩:=(h.cV _ b4).2 A' c1;obtain ⟨er,OM⟩:=bm c3;have ha:=uT h c1;have hρ:ρ (.sp i j)=some (.cf i j):=hp (.sp i j,.cf i j) (List.mem_append_left _ (List.mem_map.2 ⟨_,c5,rfl⟩));have hw:r.width=A.r.width:=by rw [←er];exact e1
     have hn:xs.length=A.xs.length:=by
      rw [←e2,OM]
      cases er
      rfl
     refine ⟨_,u,c4,b1,hw,hn,b2,?_,rfl,?_⟩
     ·show fh (lc i j) r.width 0 xs.length u;rw [hw,hn];exact b3
     ·show match lc i j with
       |.nil=>xs=[]
       |.at b off cap=>_
      obtain ⟨rA,anP,xsA,mdA⟩:=A';simp only at er c2 cd;subst er c2 cd;have OM:xs=xsA:=OM;subst OM;unfold bO at ha;have e3:c.lc i j=lc i j:=e3;rw [e3] at ha
      cases gN:lc i j with
      |nil=>rw [gN] at ha;exact ha
      |«at» b off cap=>
       rw [gN] at ha;obtain ⟨k0,k2,k3,k4⟩:=ha;exact ⟨(Cz.kI k0).trans hρ,k2,k3,k4.map hρ⟩
  |box Fh qs=>
   cases av with
   |val _ _=>exact h0.elim
   |io _=>exact h0.elim
   |bR _=>exact h0.elim
   |box os=>
    obtain ⟨n5,q1,q2⟩:=h0;simp only [Nat.add_zero] at q2;unfold tl at he;obtain ⟨q,hq,he⟩:=Option.bind_eq_some_iff.1 he;obtain ⟨p,hp,he⟩:=Option.map_eq_some_iff.1 he;obtain ⟨x2,u2,r2⟩:=q;obtain ⟨x1,u1,r1⟩:=p;injection he with e1 e2;injection e2 with e2 e3;subst e1 e2 e3;obtain ⟨g1,tb,g2,g3,g4⟩:=ud h ps (i+1) dX vs UO h2' wK hq;have Sj:=h.cV _ q2;have hV:ej c st w (.one (.ptr i 1 0)) v:=⟨by rw [q1];rfl,Sj.1,fun cs wJ=>by rw [Sj.2 cs wJ,q1]⟩;obtain ⟨a1,a2,ta,a3,a4,a5⟩:=AN h i hV hp;refine ⟨fun l hl => ?_,ta++tb,by simp [a3,g2],fun p hp => ?_,fun ρ hp hr => ?_⟩
    ·rcases List.mem_append.1 hl with hl | hl
     ·exact a2 l hl
     ·exact g1 l hl
    ·rcases List.mem_append.1 hp with hp | hp
     ·exact a4 p hp
     ·exact g3 p hp
    ·have ZV:=a5 ρ (fun p m6=>hp p (List.mem_append_left _ m6)) (fun p m6=>hr p (List.mem_append_left _ m6));have fe:=g4 ρ (fun p m6=>hp p (List.mem_append_right _ m6)) (fun p m6=>hr p (List.mem_append_right _ m6));refine ⟨(dM qs (cj ps) x1).1,om ps (dM qs (cj ps) x1).2,rfl,ZV,?_⟩;have:(dM qs (cj ps) x1).2=x2:=a1;rw [this];exact fe
end Go.TM
namespace Go.TM
open Go Go.RowKit
def start (n:Nat) (ps:List AP) (x:aA (aN (ps.map some))):St:=n6 0 (cB (ps.map some) x++List.replicate (n+1-ps.length) none)
theorem qF:(l:List (Option AP))→(x:aA (aN l))→(cB l x).length=l.length
 | [],_=>rfl
 |none::l,x=>by
  show (cB l x).length+1=l.length+1;rw [qF l x]
 |some p::l,x=>by
  show (cB l (p.av (aN l) x).2).length+1=l.length+1;rw [qF l _]
theorem BM {c:Cz} {w:World} {lc:Nat→Nat→Loc}:(ps:List AP)→(i:Nat)→(dX:List AV)→(vs:List Value)→{x:aA (aN (ps.map some))}→fm ps dX=some x→zg c w lc i dX vs→
  ps.length=dX.length∧ps.length=vs.length∧∀k av,(cB (ps.map some) x)[k]?=some (some av)→∃v,vs[k]?=some v∧sP c w (i+k) (lc (i+k)) av v
 | [],i,[],vs,x,hx,h=>by
  have:vs=[]:=h;subst this;exact ⟨rfl,rfl,fun k av hk=>by
   have hk:([]:List (Option AV))[k]?=some (some av):=hk;simp at hk⟩
 | [],_,_::_,_,_,hx,_=>by simp [fm] at hx
 |_::_,_,[],_,_,hx,_=>by simp [fm] at hx
 |p::ps,i,av::dX,vs,x,hx,h=>by
  obtain ⟨v,l,rfl,h1,h2⟩:=h;unfold fm at hx
  cases hy:fm ps dX with
  |none=>simp [hy] at hx
  |some y=>
   simp only [hy] at hx;obtain ⟨g1,g2,g3⟩:=BM ps (i+1) dX l hy h2;obtain ⟨q1,q2⟩:=IJ (c:=c) (w:=w) (i:=i) (lc:=lc i) hx;refine ⟨by simp [g1],by simp [g2],fun k LO hk => ?_⟩
   cases k with
   |zero=>
    have hk:some (some (p.av (aN (ps.map some)) x).1)=some (some LO):=hk;simp only [Option.some.injEq] at hk;subst hk;exact ⟨v,rfl,q2 v h1⟩
   |succ k=>
    have hk:(cB (ps.map some) (p.av (aN (ps.map some)) x).2)[k]?=some (some LO):=hk;rw [q1] at hk;obtain ⟨v',h3,h4⟩:=g3 k LO hk;exact ⟨v',by simpa using h3,by rw [show i+(k+1)=i+1+k by omega];exact h4⟩
def jm (lc:Nat→Loc) (i:Nat):(j:Nat)→List OV→List MA
 |_,[]=>[]
 |j,.own A::os=>.arr i j 1 A.r.width A.xs.length (lc j)::jm lc i (j+1) os
 |j,.int _ _::os=>jm lc i (j+1) os
 |j,.bool _::os=>jm lc i (j+1) os
 |j,.str _::os=>jm lc i (j+1) os
 |j,.shr _ _::os=>jm lc i (j+1) os
 |j,.lL _ _::os=>jm lc i (j+1) os
 |j,.fn _ _ _::os=>jm lc i (j+1) os
 |j,.dO::os=>jm lc i (j+1) os
theorem AQ {lc:Nat→Loc} {i:Nat}:(os:List OV)→(j:Nat)→∀p∈jm lc i j os,∃k A,os[k]?=some (.own A)∧p=.arr i (j+k) 1 A.r.width A.xs.length (lc (j+k))
 | [],j,p,h=>by simp [jm] at h
 |o::os,j,p,h=>by
  have rest:p∈jm lc i (j+1) os→∃k A,(o::os)[k]?=some (.own A)∧p=.arr i (j+k) 1 A.r.width A.xs.length (lc (j+k)):=by
   intro h;obtain ⟨k,A,h1,h2⟩:=AQ os (j+1) p h;refine ⟨k+1,A,by simpa using h1,?_⟩;rw [h2,show j+1+k=j+(k+1) by omega]
  cases o with
  |own A=>
   rcases List.mem_cons.1 h with h | h
   ·exact ⟨0,A,rfl,h⟩
   ·exact rest h
  |_=>exact rest h
theorem CK {lc:Nat→Loc} {i:Nat}:(os:List OV)→(j:Nat)→∀(k:Nat) (A:gu),os[k]?=some (.own A)→MA.arr i (j+k) 1 A.r.width A.xs.length (lc (j+k))∈jm lc i j os
 | [],j,k,A,h=>by simp at h
 |o::os,j,0,A,h=>by
  simp only [List.getElem?_cons_zero,Option.some.injEq] at h;subst h;exact List.mem_cons_self
 |o::os,j,k+1,A,h=>by
  have:=CK (lc:=lc) (i:=i) os (j+1) k A (by simpa using h);rw [show j+1+k=j+(k+1) by omega] at this
  cases o with
  |own A=>exact List.mem_cons_of_mem _ this
  |_=>exact this
def D7 (lc:Nat→Nat→Loc):(i:Nat)→List AV→List Value→List MA
 |_,[],_=>[]
 |_,_::_,[]=>[]
 |i,.val _ _::as,_::vs=>D7 lc (i+1) as vs
 |i,.io A::as,_::vs=>.arr i 0 1 A.r.width A.xs.length (lc i 0)::D7 lc (i+1) as vs
 |i,.bR os::as,_::vs=>jm (lc i) i 0 os++D7 lc (i+1) as vs
 |i,.box _::as,v::vs=>.box i 1 (match v with | .pointer (some ad)=>ad.block | _=>0)::D7 lc (i+1) as vs
theorem ue {lc:Nat→Nat→Loc}:(i:Nat)→(as:List AV)→(vs:List Value)→∀p∈D7 lc i as vs,∃k av v,as[k]?=some av∧vs[k]?=some v∧((∃A,av=.io A∧p=.arr (i+k) 0 1 A.r.width A.xs.length (lc (i+k) 0))∨(∃os,av=.box os∧p=.box (i+k) 1 (match v with | .pointer (some ad)=>ad.block | _=>0))∨∃os j A,av=.bR os∧os[j]?=some (.own A)∧p=.arr (i+k) j 1 A.r.width A.xs.length (lc (i+k) j))
 |_,[],_,p,h=>by simp [D7] at h
 |_,_::_,[],p,h=>by simp [D7] at h
 |i,.val _ _::as,_::vs,p,h=>by
  obtain ⟨k,av,v,h1,h2,h3⟩:=ue (i+1) as vs p h;exact ⟨k+1,av,v,by simpa using h1,by simpa using h2,by rw [show i+(k+1)=i+1+k by omega];exact h3⟩
 |i,.io A::as,v0::vs,p,h=>by
  rcases List.mem_cons.1 h with h | h
  ·exact ⟨0,.io A,v0,rfl,rfl,.inl ⟨A,rfl,h⟩⟩
  ·obtain ⟨k,av,v,h1,h2,h3⟩:=ue (i+1) as vs p h;exact ⟨k+1,av,v,by simpa using h1,by simpa using h2,by rw [show i+(k+1)=i+1+k by omega];exact h3⟩
 |i,.box os::as,v0::vs,p,h=>by
  rcases List.mem_cons.1 h with h | h
  ·exact ⟨0,.box os,v0,rfl,rfl,.inr (.inl ⟨os,rfl,h⟩)⟩
  ·obtain ⟨k,av,v,h1,h2,h3⟩:=ue (i+1) as vs p h;exact ⟨k+1,av,v,by simpa using h1,by simpa using h2,by rw [show i+(k+1)=i+1+k by omega];exact h3⟩
 |i,.bR os::as,v0::vs,p,h=>by
  rcases List.mem_append.1 h with h | h
  ·obtain ⟨j,A,h1,h2⟩:=AQ os 0 p h;rw [Nat.zero_add] at h2;exact ⟨0,.bR os,v0,rfl,rfl,.inr (.inr ⟨os,j,A,rfl,h1,h2⟩)⟩
  ·obtain ⟨k,av,v,h1,h2,h3⟩:=ue (i+1) as vs p h;exact ⟨k+1,av,v,by simpa using h1,by simpa using h2,by rw [show i+(k+1)=i+1+k by omega];exact h3⟩
theorem LS {lc:Nat→Nat→Loc}:(i:Nat)→(as:List AV)→(vs:List Value)→as.length=vs.length→∀k av v,as[k]?=some av→vs[k]?=some v→(∀A,av=.io A→MA.arr (i+k) 0 1 A.r.width A.xs.length (lc (i+k) 0)∈D7 lc i as vs)∧(∀os,av=.box os→MA.box (i+k) 1 (match v with | .pointer (some ad)=>ad.block | _=>0)∈D7 lc i as vs)∧(∀os,av=.bR os→∀j A,os[j]?=some (.own A)→MA.arr (i+k) j 1 A.r.width A.xs.length (lc (i+k) j)∈D7 lc i as vs)
 |_,[],_,_,k,av,v,h,_=>by simp at h
 |_,_::_,[],hn,_,_,_,_,_=>by simp at hn
 |i,a0::as,v0::vs,hn,0,av,v,h1,h2=>by
  simp only [List.getElem?_cons_zero,Option.some.injEq] at h1 h2;subst h1 h2;refine ⟨fun A e => ?_,fun os e => ?_,fun os e j A hj => ?_⟩
  ·subst e;exact List.mem_cons_self
  ·subst e;exact List.mem_cons_self
  ·subst e;have:=CK (lc:=lc i) (i:=i) os 0 j A hj;rw [Nat.zero_add] at this;exact List.mem_append_left _ this
 |i,a0::as,v0::vs,hn,k+1,av,v,h1,h2=>by
  obtain ⟨g1,g2,g3⟩:=LS (i+1) as vs (by simpa using hn) k av v (by simpa using h1) (by simpa using h2);have e:i+(k+1)=i+1+k:=by omega
  rw [e]
  cases a0 with
  |val _ _=>exact ⟨g1,g2,g3⟩
  |io _=>exact ⟨fun A h=>List.mem_cons_of_mem _ (g1 A h),fun os h=>List.mem_cons_of_mem _ (g2 os h),fun os h j A hj=>List.mem_cons_of_mem _ (g3 os h j A hj)⟩
  |box _=>exact ⟨fun A h=>List.mem_cons_of_mem _ (g1 A h),fun os h=>List.mem_cons_of_mem _ (g2 os h),fun os h j A hj=>List.mem_cons_of_mem _ (g3 os h j A hj)⟩
  |bR _=>exact ⟨fun A h=>List.mem_append_right _ (g1 A h),fun os h=>List.mem_append_right _ (g2 os h),fun os h j A hj=>List.mem_append_right _ (g3 os h j A hj)⟩
def mz (ps:List AP) (mu:Mu):Prop:=
 ∀p∈mu.an,(∃i r W n l,p=.arr i 0 1 W n l∧∃d,ps[i]?=some (.io r d))∨(∃i n5 b qs,p=.box i 1 n5∧ps[i]?=some (.box b qs))∨∃i j W n l qs,p=.arr i j 1 W n l∧ps[i]?=some (.bR qs)
theorem D8:(ps:List OP)→(t:RT)→(os:List OV)→(y:aA t)→{x:aA (mb ps t)}→dE ps t os y=some x→∀(j:Nat) (A:gu),os[j]?=some (.own A)→(∃r d,ps[j]?=some (.own r d))∧∃B:gu,(dM ps t x).1[j]?=some (.own B)∧B.r.width=A.r.width∧B.xs.length=A.xs.length
 | [],t,[],y,x,h=>by intro k A hk;simp at hk
 | [],_,_::_,_,_,h=>by simp [dE] at h
 |_::_,_,[],_,_,h=>by simp [dE] at h
 |p::ps,t,o::os,y,x,h=>by
  unfold dE at h
  cases h1:rJ p o with
  |none=>simp [h1] at h
  |some a=>
   cases h2:dE ps t os y with
   |none=>simp [h1,h2] at h
   |some z=>
    simp only [h1,h2] at h;have h:(a,z)=x:=Option.some.inj h;subst h;intro j A hj
    cases j with
    |succ j=>
     obtain ⟨⟨r,d,q1⟩,B,q2,q3⟩:=D8 ps t os y h2 j A (by simpa using hj);exact ⟨⟨r,d,by simpa using q1⟩,B,(by show (dM ps t z).1[j]?=_;exact q2),q3⟩
    |zero=>
     simp only [List.getElem?_cons_zero,Option.some.injEq] at hj;subst hj
     cases p with
     |own r d=>
      have h1:(bif A.md.is d then bH r A.xs else none)=some a:=h1;obtain ⟨_,h1⟩:=aK h1;obtain ⟨er,OM⟩:=bm h1;refine ⟨⟨r,d,rfl⟩,{ r:=r,own:=true,xs:=a,md:=d },rfl,by show r.width=_;rw [←er],?_⟩;show List.length (a:List (aA r))=_;rw [OM]
      cases er
      rfl
     |_=>cases h1
theorem CL:(ps:List AP)→(dX:List AV)→{x:aA (aN (ps.map some))}→fm ps dX=some x→∀(k:Nat) (av:AV),dX[k]?=some av→∃p:AP,ps[k]?=some p∧match p,av with
  |.io _ _,.io A=>∃B:gu,(cB (ps.map some) x)[k]?=some (some (.io B))∧B.r.width=A.r.width∧B.xs.length=A.xs.length
  |.box _ _,.box _=>True
  |.val _ _,.val _ _=>True
  |.bR qs,.bR os=>∃Ax:List OV,(cB (ps.map some) x)[k]?=some (some (AV.bR Ax))∧∀(j:Nat) (A:gu),os[j]?=some (OV.own A)→(∃r d,qs[j]?=some (OP.own r d))∧∃B:gu,Ax[j]?=some (OV.own B)∧B.r.width=A.r.width∧B.xs.length=A.xs.length
  |_,_=>False
 | [],[],_,_=>by intro k av h;simp at h
 | [],_::_,_,hx=>by simp [fm] at hx
 |_::_,[],_,hx=>by simp [fm] at hx
 |p::ps,av::dX,x,hx=>by
  unfold fm at hx
  cases hy:fm ps dX with
  |none=>simp [hy] at hx
  |some y=>
   simp only [hy] at hx;have e2:(p.av (aN (ps.map some)) x).2=y:=(IJ (c:=⟨fun _=>0,fun _ _=>.nil,fun _=>none,fun _=>none⟩) (w:=default) (i:=0) (lc:=fun _=>.nil) hx).1;intro k LO hk
   cases k with
   |zero=>
    simp only [List.getElem?_cons_zero,Option.some.injEq] at hk;subst hk;refine ⟨p,rfl,?_⟩
    cases p with
    |val agg qs=>cases av with
     |val _ _=>trivial
     |io _=>cases agg<;>cases hx
     |box _=>cases agg<;>cases hx
     |bR _=>cases agg<;>cases hx
    |io r d=>cases av with
     |val _ _=>cases hx
     |box _=>cases hx
     |bR _=>cases hx
     |io A=>
      have hx:(bif A.md.is d then (match bH r A.xs with | some xs=>some ((xs,y):aA (.cons (.sl r) (aN (ps.map some)))) | none=>none) else none)=some x:=hx;obtain ⟨_,hx⟩:=aK hx
      cases hc:bH r A.xs with
      |none=>rw [hc] at hx;cases hx
      |some xs=>
       rw [hc] at hx;injection hx with hx;obtain ⟨er,OM⟩:=bm hc;refine ⟨{ r:=r,own:=true,xs:=x.1,md:=d },rfl,by show r.width=_;rw [←er],?_⟩;show List.length (x.1:List (aA r))=_;rw [←hx];show xs.length=_;rw [OM]
       cases er
       rfl
    |box b qs=>cases av with
     |val _ _=>cases hx
     |io _=>cases hx
     |bR _=>cases hx
     |box _=>trivial
    |bR qs=>cases av with
     |val _ _=>cases hx
     |io _=>cases hx
     |box _=>cases hx
     |bR os=>
      have hx:dE qs (aN (ps.map some)) os y=some x:=hx;exact ⟨_,rfl,D8 qs _ os y hx⟩
   |succ k=>
    obtain ⟨p',h1,h2⟩:=CL ps dX hy k LO (by simpa using hk);refine ⟨p',by simpa using h1,?_⟩;have eh:(cB ((p::ps).map some) x)[k+1]?=(cB (ps.map some) y)[k]?:=by
     show (cB (ps.map some) (p.av (aN (ps.map some)) x).2)[k]?=_;rw [e2]
    cases p'<;>cases LO<;>simp only at h2 ⊢ <;> (try exact h2)
    ·obtain ⟨B,q1,q2,q3⟩:=h2;exact ⟨B,eh.trans q1,q2,q3⟩
    ·obtain ⟨Ax,q1,q2⟩:=h2;exact ⟨Ax,eh.trans q1,q2⟩
end Go.TM
