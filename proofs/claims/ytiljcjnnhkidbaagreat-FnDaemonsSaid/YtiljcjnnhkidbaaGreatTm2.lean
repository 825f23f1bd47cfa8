/- A machine over trees: an evaluator of the code, and that what it finds is so; part 2. -/
import Derived.Test.YtiljcjnnhkidbaaGreatTm1
import Derived.Laws.BytesString
import Derived.Tactics
set_option linter.unusedSimpArgs false
set_option linter.unusedVariables false
namespace Go.TM
open Go Go.RowKit
theorem Fw.grow {w0:World} {mu:Mu} {c:Cz} {st:St} {a:Act} {w:World} (h:Rel w0 mu c st a w) (o:Obj):Fw c st w c st (w.alloc o) where
 stays:=Al w _ _ _ fun _ _ h=>h
 refs a' j g A' _ ig:=⟨A',ig,rfl,rfl,rfl,fun _=>⟨rfl,fun b oo cap m9=>heap_alloc_old w _ b ((h.JA (g:=g) ig).lt m9)⟩⟩
 GD _ _ rW _ hb:=⟨⟨rW,hb⟩,rfl⟩
 gA _:=Nat.le_refl _
 gB _:=Nat.le_refl _
 gE _:=Nat.le_refl _
theorem Rel.grow {w0:World} {mu:Mu} {c:Cz} {st:St} {a:Act} {w:World} (h:Rel w0 mu c st a w) (o:Obj):Rel w0 mu c st a (w.alloc o) where
 iX t:=(Fw.grow h o).uY (h.iX t)
 boxes s sl cs hs hb:=by
  have hb0:=h.boxes s sl cs hs hb;exact hb0.go (Fw.grow h o) rfl rfl (heap_alloc_old w _ _ (h.x9 hb0.1))
 bQ s j sl A hs hA:=(h.bQ s j sl A hs hA).go (Fw.grow h o).stays rfl fun b hb=>⟨heap_alloc_old w _ b (h.x9 hb),rfl⟩
 owned b l hb:=⟨Nat.lt_of_lt_of_le (h.owned b l hb).1 (by simp),(h.owned b l hb).2⟩
 free:=h.free
 kept:=⟨h.kept.1,h.kept.2.1,h.kept.2.2.1,Nat.le_trans h.kept.2.2.2 (by simp)⟩
 old k hk hm:=by
  rw [heap_alloc_old w _ k (Nat.lt_of_lt_of_le hk h.kept.2.2.2)];exact h.old k hk hm
 gS p hp:=(Fw.grow h o).gS (h.gS p hp)
 plain:=h.plain
theorem iG.agM {c:Cz} {st:St} {w:World} {x:CV} {cs:List CV} {vs:List Value} (h:iG c st w (x::cs) vs):∃v l,vs=v::l∧pR c st w x v∧iG c st w cs l:=by
 obtain ⟨h1,h2⟩:=h
 cases vs with
 |nil=>simp at h1
 |cons v l=>exact ⟨v,l,rfl,h2 0 x v rfl rfl,by simpa using h1,fun i y u hy hu=>h2 (i+1) y u (by simpa using hy) (by simpa using hu)⟩
theorem XP {w:World} {ok:Nat→Prop} {b off:Nat} (x:aO .nil):fx w ok .nil b off x:=by unfold fx;trivial
theorem C9 {w:World} {ok:Nat→Prop} {t:Ty} {r:RT} {b off:Nat} {x:aO (.cons t r)}:fx w ok (.cons t r) b off x↔(∃v,w.cell? ⟨b,off,none⟩=some v∧ef w ok t v x.1)∧fx w ok r b (off+1) x.2:=by
 constructor
 ·intro h;unfold fx at h;exact h
 ·intro h;unfold fx;exact h
theorem pC {c:Cz} {st:St} {w w':World} {ok:Nat→Prop} (hs:kV w w' c.ok ok) {b:Nat}:(cs:List CV)→{r:RT}→{x:aO r}→fU cs=some ⟨r,x⟩→(vs:List Value)→(off:Nat)→iG c st w cs vs→(∀(i:Nat) v,vs[i]?=some v→w'.cell? ⟨b,off+i,none⟩=some v)→fx w' ok r b off x
 | [],r,x,h,vs,off,_,_=>by
  unfold fU at h
  cases h
  exact XP _
 |cx::cs,r,x,h,vs,off,hl,hc=>by
  obtain ⟨v,l,rfl,hx,Bn⟩:=hl.agM;have h0:=hc 0 v rfl;rw [Nat.add_zero] at h0;have gG:∀(i:Nat) u,l[i]?=some u→w'.cell? ⟨b,off+1+i,none⟩=some u:=fun i u hu=>by
   have:=hc (i+1) u hu
   rwa [show off+(i+1)=off+1+i by omega] at this
  cases cx with
  |int k n=>
   unfold fU at h
   cases hq:fU cs with
   |none=>rw [hq] at h;cases h
   |some p=>
    obtain ⟨r0,x0⟩:=p;rw [hq] at h
    cases h
    have ih:=pC hs cs hq l (off+1) Bn gG;exact C9.2 ⟨⟨v,h0,x7.2 hx⟩,ih⟩
  |bool n=>
   unfold fU at h
   cases hq:fU cs with
   |none=>rw [hq] at h;cases h
   |some p=>
    obtain ⟨r0,x0⟩:=p;rw [hq] at h
    cases h
    have ih:=pC hs cs hq l (off+1) Bn gG;exact C9.2 ⟨⟨v,h0,Bl.2 hx⟩,ih⟩
  |str n=>
   unfold fU at h
   cases hq:fU cs with
   |none=>rw [hq] at h;cases h
   |some p=>
    obtain ⟨r0,x0⟩:=p;rw [hq] at h
    cases h
    have ih:=pC hs cs hq l (off+1) Bn gG;exact C9.2 ⟨⟨v,h0,Ep.2 hx⟩,ih⟩
  |shr q xs=>
   unfold fU at h
   cases hq:fU cs with
   |none=>rw [hq] at h;cases h
   |some p=>
    obtain ⟨r0,x0⟩:=p;rw [hq] at h
    cases h
    have ih:=pC hs cs hq l (off+1) Bn gG;exact C9.2 ⟨⟨v,h0,ef.stays hs _ _ _ hx⟩,ih⟩
  |_=>simp [fU] at h
def Cz.zL (c:Cz) (s:Nat):Cz:=
 { c with own:=fun k=>match c.own k with | some (.box t)=>if t=s then none else some (.box t) | l=>l }
theorem Cz.Ux {c:Cz} {s b:Nat} (h:c.ok b):(c.zL s).ok b:=by
 unfold Cz.ok Cz.zL at *;simp [h]
theorem Cz.JH {c:Cz} {s b:Nat} (h:c.own b=some (.box s)):(c.zL s).ok b:=by
 unfold Cz.ok Cz.zL;simp [h]
theorem Cz.GY {c:Cz} {s b:Nat} {l:Lb} (h:c.own b=some l) (mK:l≠.box s):(c.zL s).own b=some l:=by
 unfold Cz.zL;simp only [h]
 cases l with
 |box t=>
  simp only;rw [if_neg]
  rintro rfl
  exact mK rfl
 |_=>rfl
theorem Cz.OR {c:Cz} {s b:Nat} {l:Lb} (h:(c.zL s).own b=some l):c.own b=some l:=by
 unfold Cz.zL at h;simp only at h
 cases hc:c.own b with
 |none=>simp [hc] at h
 |some l'=>cases l' with
  |box t=>
   simp only [hc] at h
   by_cases e:t=s
   ·simp [e] at h
   ·rw [if_neg e] at h;exact h
  |_=>simp [hc] at h;rw [h]
theorem wy (st:St) (b s:Nat):nth (iB st b) s=if s=b then (nth st s).map (fun x=>{ x with box:=none }) else nth st s:=by
 unfold iB;rw [kS]
theorem nL (st:St) (b s:Nat):dF (iB st b) s=dF st s∧gD (iB st b) s=gD st s∧jO (iB st b) s=jO st s∧wk (iB st b) s=wk st s∧∀j g,cE (iB st b) s j g=cE st s j g:=by
 unfold dF gD jO wk cE;rw [wy]
 by_cases e:s=b
 ·rw [if_pos e]
  cases nth st s<;>simp
 ·rw [if_neg e];simp
theorem Lm {st:St} {b s g:Nat} {cs:List CV} (h:fL (iB st b) s g=some cs):s≠b∧fL st s g=some cs:=by
 unfold fL at h ⊢;rw [wy] at h
 by_cases e:s=b
 ·rw [if_pos e] at h
  cases hx:nth st s with
  |none=>rw [hx] at h;cases h
  |some x=>
   rw [hx] at h;simp only [Option.map_some] at h
   cases hb:Nat.beq x.bg g<;>rw [hb] at h<;>cases h
 ·rw [if_neg e] at h;exact ⟨e,h⟩
theorem Fw.iB (c:Cz) (st:St) (w:World) (s:Nat):Fw c st w (c.zL s) (iB st s) w where
 stays:=⟨Nat.le_refl _,fun _ _ _=>rfl,fun _ _ h=>Cz.Ux h⟩
 refs a' j' g A' _ ig:=⟨A',by rwa [(nL st s a').2.2.2.2] at ig,rfl,rfl,rfl,fun _=>⟨rfl,fun _ _ _ _=>rfl⟩⟩
 GD b g rW _ h:=⟨⟨rW,(Lm h).2⟩,rfl⟩
 gA b:=by rw [(nL st s b).2.1];exact Nat.le_refl _
 gB b:=by rw [(nL st s b).2.2.1];exact Nat.le_refl _
 gE b:=by rw [(nL st s b).2.2.2.1];exact Nat.le_refl _
theorem Rel.iB {w0:World} {mu:Mu} {c:Cz} {st:St} {a:Act} {w:World} (h:Rel w0 mu c st a w) (s:Nat):Rel w0 mu (c.zL s) (iB st s) a w where
 iX t:=by rw [(nL st s t).1];exact (Fw.iB c st w s).uY (h.iX t)
 boxes b sl cs hs hb:=by
  rw [wy] at hs
  by_cases e:b=s
  ·rw [if_pos e] at hs
   cases hx:nth st b with
   |none=>rw [hx] at hs;cases hs
   |some x=>rw [hx] at hs;simp at hs;subst hs;cases hb
  ·rw [if_neg e] at hs;have h0:=h.boxes b sl cs hs hb;exact h0.go (Fw.iB c st w s) rfl (by rw [h0.1];exact Cz.GY h0.1 (by intro e';injection e' with e';exact e e')) rfl
 bQ b i sl A hs hb:=by
  rw [wy] at hs;have h0:fy c w b i A:=by
   by_cases e:b=s
   ·rw [if_pos e] at hs
    cases hx:nth st b with
    |none=>rw [hx] at hs;cases hs
    |some x=>rw [hx] at hs;simp at hs;subst hs;exact h.bQ b i x A hx hb
   ·rw [if_neg e] at hs;exact h.bQ b i sl A hs hb
  exact h0.go (Fw.iB c st w s).stays rfl fun k h1=>⟨rfl,by rw [h1];exact Cz.GY h1 (by intro e;cases e)⟩
 owned b l hb:=h.owned b l (Cz.OR hb)
 free b hb h1:=by
  cases hc:c.own b with
  |none=>exact h.free b hb hc
  |some l=>
   rcases (h.owned b l hc).2 with h2 | h2 | h2
   ·subst h2;unfold Cz.zL at h1;simp [hc] at h1
   ·omega
   ·exact .inl h2
 kept:=h.kept
 old:=h.old
 gS p hp:=(Fw.iB c st w s).gS (h.gS p hp)
 plain:=h.plain
theorem MG {w:World} {b:Nat} {vs:Array Value} {ty:TypeId} (h:w.heap[b]?=some (.cells vs ty (0,0))) {i:Nat} {v:Value} (hv:vs.toList[i]?=some v):w.cell? ⟨b,i,none⟩=some v:=by
 unfold World.cell?;simp [h];simpa using hv
theorem Er (st:St) (b g:Nat) (r:RT) (x:aO r):(s:Nat)→nth (pP st b g r x) s=(nth st s).map fun z=>{ z with v:=rnV b g r x z.v }:=by
 unfold pP
 induction st with
 |nil=>intro s;rfl
 |cons y st ih=>intro s;cases s with
  |zero=>rfl
  |succ s=>exact ih s
theorem rh (st:St) (b g:Nat) (r:RT) (x:aO r) (s:Nat):dF (pP st b g r x) s=rnV b g r x (dF st s)∧gD (pP st b g r x) s=gD st s∧jO (pP st b g r x) s=jO st s∧wk (pP st b g r x) s=wk st s∧(∀j g',cE (pP st b g r x) s j g'=cE st s j g')∧∀g',fL (pP st b g r x) s g'=fL st s g':=by
 unfold dF gD jO wk cE fL;rw [Er]
 cases nth st s with
 |none=>exact ⟨rfl,rfl,rfl,rfl,fun _ _=>rfl,fun _=>rfl⟩
 |some z=>exact ⟨rfl,rfl,rfl,rfl,fun _ _=>rfl,fun _=>rfl⟩
theorem Fw.pP (c:Cz) (st:St) (w:World) (b g:Nat) (r:RT) (x:aO r):Fw c st w c (pP st b g r x) w where
 stays:=⟨Nat.le_refl _,fun _ _ _=>rfl,fun _ _ h=>h⟩
 refs a' j' g' A' _ ig:=⟨A',by rwa [(rh st b g r x a').2.2.2.2.1] at ig,rfl,rfl,rfl,fun _=>⟨rfl,fun _ _ _ _=>rfl⟩⟩
 GD b' g' rW _ h:=⟨⟨rW,by rwa [(rh st b g r x b').2.2.2.2.2] at h⟩,rfl⟩
 gA s:=by rw [(rh st b g r x s).2.1];exact Nat.le_refl _
 gB s:=by rw [(rh st b g r x s).2.2.1];exact Nat.le_refl _
 gE s:=by rw [(rh st b g r x s).2.2.2.1];exact Nat.le_refl _
theorem Rel.pP {w0:World} {mu:Mu} {c:Cz} {st:St} {a:Act} {w:World} (h:Rel w0 mu c st a w) {b g:Nat} {r:RT} {x:aO r} (hp:∀t off,dF st t=.one (.ptr b g off)→pR c st w (.nK r x off) (a.eval (.tmp t))):Rel w0 mu c (pP st b g r x) a w where
 iX t:=by
  rw [(rh st b g r x t).1];have h0:=(Fw.pP c st w b g r x).uY (h.iX t)
  cases hv:dF st t with
  |one cv=>cases cv with
   |ptr b' g' off=>
    rw [hv] at h0;show gR c (TM.pP st b g r x) w (bif Nat.beq b' b&&Nat.beq g' g then .one (.nK r x off) else .one (.ptr b' g' off)) (a.eval (.tmp t))
    cases hb:Nat.beq b' b&&Nat.beq g' g with
    |false=>exact h0
    |true=>
     rw [Bool.and_eq_true] at hb;have e1:=Nat.eq_of_beq_eq_true hb.1;have e2:=Nat.eq_of_beq_eq_true hb.2;subst e1 e2;exact hp t off hv
   |_=>rw [hv] at h0;exact h0
  |agg _=>rw [hv] at h0;exact h0
  |pM _=>rw [hv] at h0;exact h0
 boxes s sl cs hs hb:=by
  rw [Er] at hs;obtain ⟨z,hz,rfl⟩:=Option.map_eq_some_iff.1 hs;have h0:=h.boxes s z cs hz hb;exact h0.go (Fw.pP c st w b g r x) rfl (by rw [h0.1]) rfl
 bQ s j sl A hs hA:=by
  rw [Er] at hs;obtain ⟨z,hz,rfl⟩:=Option.map_eq_some_iff.1 hs;exact h.bQ s j z A hz hA
 owned:=h.owned
 free:=h.free
 kept:=h.kept
 old:=h.old
 plain:=h.plain
 gS p hp:=(Fw.pP c st w b g r x).gS (h.gS p hp)
theorem XQ {w0:World} {mu:Mu} {c:Cz} {st bN:St} {a:Act} {w:World} (h:Rel w0 mu c st a w) {t:Nat} {r:RT} {ys:List (aO r)} (hc:XB st t=some (bN,⟨r,ys⟩)) :
  ∃c',Rel w0 mu c' bN a w∧Fw c st w c' bN w∧Jz w c'.ok r (a.eval (.tmp t)) ys:=by
 have hx:=h.iX t;unfold XB at hc
 split at hc
 ·rename_i r' x' off e;obtain ⟨h1,hc⟩:=bH hc;have h1:=Nat.eq_of_beq_eq_true h1;subst h1
  cases hc
  rw [e] at hx;obtain ⟨b,o,e1,e2,e3,e4⟩:=hx;refine ⟨c,h,Fw.refl c st w,b,o,e1,e2,e3,fun y hy => ?_⟩;simp at hy;subst hy;exact e4
 ·rename_i r' xs off e;obtain ⟨h1,hc⟩:=bH hc;have h1:=Nat.eq_of_beq_eq_true h1;subst h1
  cases hc
  rw [e] at hx;obtain ⟨b,o,e1,e2,e3,e4⟩:=hx;exact ⟨c,h,Fw.refl c st w,b,o,e1,e2,e3,e4⟩
 ·rename_i b g off e
  cases hb:fL st b g with
  |none=>rw [hb] at hc;cases hc
  |some cs=>
   rw [hb] at hc;simp only at hc;obtain ⟨h1,hc⟩:=bH hc;have h1:=Nat.eq_of_beq_eq_true h1;subst h1
   cases hp:fU cs with
   |none=>rw [hp] at hc;cases hc
   |some p=>
    obtain ⟨r0,x0⟩:=p;rw [hp] at hc
    cases hc
    rw [e] at hx;have hu:=hx.2.2 cs hb;obtain ⟨sl,GF,Rx,GG⟩:=jR hb;obtain ⟨ho,vs,ty,hh,hl⟩:=h.boxes b sl cs GF GG;have GH:fx w (c.zL b).ok r (c.bx b) 0 x0:=by
     refine pC (Fw.iB c st w b).stays cs hp vs.toList 0 hl fun i v hv => ?_
     rw [Nat.zero_add];exact MG hh hv
    refine ⟨_,(h.iB b).pP (fun t' atQ hv => ?_),(Fw.iB c st w b).trans (Fw.pP _ _ w _ _ _ _),c.bx b,0,hu,h.x9 ho,Cz.JH ho,fun y hy => ?_⟩
    ·rw [(nL st b t').1] at hv;have h2:=h.iX t';rw [hv] at h2;have hu2:=h2.2.2 cs hb;exact ⟨c.bx b,0,by rw [Nat.zero_add];exact hu2,h.x9 ho,Cz.JH ho,GH⟩
    ·simp at hy;subst hy;exact GH
 ·cases hc
theorem MH {w0:World} {mu:Mu} {a:Act} {w:World}:(l:List Operand)→{c:Cz}→{st bN:St}→Rel w0 mu c st a w→{rs:RT}→{x:aO rs}→BW st l=some (bN,⟨rs,x⟩)→
  ∃c',Rel w0 mu c' bN a w∧Fw c st w c' bN w∧x8 w c'.ok rs (l.map a.eval) x
 | [],c,st,bN,h,rs,x,hc=>by
  unfold BW at hc
  cases hc
  exact ⟨c,h,Fw.refl c st w,rfl⟩
 |.tmp t::l,c,st,bN,h,rs,x,hc=>by
  unfold BW at hc
  cases h1:XB st t with
  |none=>rw [h1] at hc;cases hc
  |some p=>
   obtain ⟨GL,r,y⟩:=p;rw [h1] at hc;simp only at hc
   cases h2:BW GL l with
   |none=>rw [h2] at hc;cases hc
   |some p=>
    obtain ⟨lK,rs0,ys⟩:=p;rw [h2] at hc
    cases hc
    obtain ⟨c1,k1,k2,k3⟩:=XQ h h1;obtain ⟨c2,g1,g2,g3⟩:=MH l k1 h2;exact ⟨c2,g1,k2.trans g2,_,_,rfl,k3.stays g2.stays,g3⟩
 |.const _::_,_,_,_,_,_,_,hc=>by simp [BW] at hc
 |.func _::_,_,_,_,_,_,_,hc=>by simp [BW] at hc
 |.global _::_,_,_,_,_,_,_,hc=>by simp [BW] at hc
theorem MI {c:Cz} {st:St} {w:World}:(rs:RT)→(vs:List Value)→(x:aO rs)→x8 w c.ok rs vs x→(zK rs x).length=vs.length∧∀(k:Nat) v u,(zK rs x)[k]?=some v→vs[k]?=some u→gR c st w v u
 |.nil,vs,x,h=>by
  subst h;exact ⟨rfl,fun k v u hv=>by simp [zK] at hv⟩
 |.cons (.sl r) rs,vs,x,h=>by
  obtain ⟨v0,l,rfl,⟨b,o,e1,e2,e3,e4⟩,h2⟩:=h;obtain ⟨g1,g2⟩:=MI (c:=c) (st:=st) rs l x.2 h2;refine ⟨by simp [zK,g1],fun k v u hv hu => ?_⟩
  cases k with
  |zero=>
   simp only [zK,List.getElem?_cons_zero,Option.some.injEq] at hv hu;subst hv hu;exact ⟨b,o,by rw [Nat.add_zero];exact e1,e2,e3,e4⟩
  |succ k=>exact g2 k v u (by simpa [zK] using hv) (by simpa using hu)
 |.cons (.int _) _,_,_,h=>h.elim
 |.cons .bool _,_,_,h=>h.elim
 |.cons .str _,_,_,h=>h.elim
end Go.TM
namespace Go.TM
open Go Go.RowKit
def zV (P:Program) (T:n9):Prop:=
 ∀t,T.eq t=true→∀(c:Cz) (st:St) (w:World) (l m:List CV) (us vs:Array Value) (b:Bool) (op:BinOp) (ox oy:Operand),T.fits t l=true→pN l m=some b→
  iG c st w l us.toList→iG c st w m vs.toList→∀w':World,(eqGuard op t ox oy (.agg us) (.agg vs)).run P w'=.ok () w'∧(Op.equal t (.agg us) (.agg vs)).run P w'=.ok b w'
def BZ (P:Program) (w0:World) (mu:Mu) (bN:St) (o:Oper) (a:Act) (w:World) (kp:Bool):Prop:=
 ∀Q:Exit→Act→World→Prop,o.wp P a w (fun a' w'=>(∃c',Rel w0 mu c' bN a' w'∧a'.tmps.size=a.tmps.size)∧(kp=true→kW w w')) Q
theorem u6 (a:Act) (d:Option Tmp) (v:Value):(a.put d v).tmps.size=a.tmps.size:=by
 cases d<;>simp [Act.put]
theorem yc {P:Program} {w0:World} {mu:Mu} {c':Cz} {bN:St} {o:Oper} {a:Act} {w w':World} {v:Value} {kp:Bool} (hr:(execOp a.eval o).run P w=.ok (.value v) w') (h:Rel w0 mu c' bN (a.put o.dst v) w') (hk:kp=true→kW w w') :
  BZ P w0 mu bN o a w kp:=by
 intro Q;unfold Oper.wp;rw [hr];exact ⟨⟨c',h,u6 a _ _⟩,hk⟩
theorem u7 {P:Program} {s:Sem Value} {w w':World} {v:Value} (h:s.run P w=.ok v w'):(do pure (Next.value (←s)):Sem Next).run P w=.ok (.value v) w':=by
 simp [Sem.run_bind,h]
theorem MJ {w0:World} {mu:Mu} {c:Cz} {st:St} {a:Act} {w:World} (h:Rel w0 mu c st a w) (parts:Array (Nat×Operand)) :
  su c st w (parts.toList.map fun p=>(p.1,pz st p.2)) (parts.map fun (i,x)=>(i,a.eval x)).toList:=by
 refine ⟨by simp,fun i p u hp hu => ?_⟩;simp only [List.getElem?_map,Array.toList_map] at hp hu
 cases hq:parts.toList[i]? with
 |none=>simp [hq] at hp
 |some q=>
  simp only [hq,Option.map_some,Option.some.injEq] at hp hu;subst hp hu;exact ⟨rfl,cP h q.2⟩
theorem Zc {w0:World} {mu:Mu} {c:Cz} {st:St} {a:Act} {w:World} (h:Rel w0 mu c st a w) (x:Option Operand):MF c st w (x.map (pz st)) (x.map a.eval):=by
 cases x with
 |none=>rfl
 |some x=>exact ⟨_,rfl,cP h x⟩
theorem RH {P:Program} {w:World} {ok:Nat→Prop} {u:Value} {ys:List (aO (.cons (.int .u8) .nil))} (h:RdS w ok (.cons (.int .u8) .nil) u ys):(Conv.bytesToString u).run P w=.ok (.string (bytesOf ys)) w:=by
 rcases h with ⟨rfl,rfl⟩ | ⟨a,cap,rfl,hs,hr⟩
 ·rfl
 ·have key:=run_bytesToString (P:=P) w a ys.length cap (ys.map Qz) (by
   have h1:((ys.map Qz).map (Value.int .u8)).length=ys.length:=by simp
   have h2:=run_loadCells_list (P:=P) (w:=w) a ((ys.map Qz).map (Value.int .u8)) (by
    intro j v hv;rw [List.map_map,List.getElem?_map] at hv
    cases hy:ys[j]? with
    |none=>rw [hy] at hv;cases hv
    |some y=>
     rw [hy] at hv;simp only [Option.map_some,Option.some.injEq,Function.comp] at hv;subst hv;have h3:=hr j y hy;unfold fx at h3;obtain ⟨⟨v,h4,h5⟩,_⟩:=h3;have h5:=x7.1 h5;subst h5;have mK:ys≠[]:=by intro e;rw [e] at hy;simp at hy
     have Ox:=hs mK;have e:a.add j=⟨a.block,a.off+j*(RT.cons (.int .u8) .nil).width,none⟩:=by
      simp only [RT.width,Nat.zero_add,Nat.mul_one];unfold Addr.add
      split
      ·rename_i h0;subst h0;obtain ⟨b,o,s⟩:=a;simp at Ox;subst Ox;rfl
      ·rfl
     rw [e];exact h4)
   rw [h1] at h2;exact h2)
  rw [key]
  congr 2
  unfold bytesOf;rw [List.foldl_map]
def Op.OS:Op→Bool
 |.call { callee:=.value (.func _),.. }=>true
 |.call { callee:=.value (.tmp _),.. }=>true
 |_=>false
theorem MK {c:Cz} {st:St} {w:World} {x:V} {v:Value} (h:CX c st w x v):gR c st w x v:=by
 cases x with
 |one _=>exact h
 |agg _=>exact h
 |pM _=>exact h.elim
theorem QG {P:Program} {T:n9} (hT:jx P T) (hE:zV P T) {S:mI} {w0:World} {mu:Mu} {c:Cz} {st:St} {a:Act} {w:World} (h:Rel w0 mu c st a w) {o:Oper} (hk:kindOk S st o .any=true)
  {bN:St} (hv:(QA T S st o).val=some bN) (hd:∀k,o.dst=some k→k<a.tmps.size):∃v,(∀w':World,(execOp a.eval o).run P w'=.ok (.value v) w')∧Rel w0 mu c bN (a.put o.dst v) w:=by
 have one:∀(v:Value),Rel w0 mu c bN (a.put o.dst v) w→(∀w':World,(execOp a.eval o).run P w'=.ok (.value v) w')→∃v,(∀w':World,(execOp a.eval o).run P w'=.ok (.value v) w')∧Rel w0 mu c bN (a.put o.dst v) w:=
  fun v h1 h2=>⟨v,h2,h1⟩
 unfold QA at hv;unfold kindOk at hk
 cases ho:o.op with
 |move x=>
  simp only [ho,N.val,Option.some.injEq] at hv;subst hv;exact one _ (h.bP (cP h x) hd) (fun w'=>by simp [execOp,ho])
 |assign x=>
  simp only [ho,N.val,Option.some.injEq] at hv;subst hv;exact one _ (h.bP (cP h x) hd) (fun w'=>by simp [execOp,ho])
 |pick x y z=>
  simp only [ho] at hv;have hx:=cP h x
  cases hq:pz st x with
  |agg _=>simp [hq,N.val] at hv
  |pM _=>simp [hq,N.val] at hv
  |one cx=>cases cx with
   |bool b=>
    rw [hq] at hx;have e:a.eval x=.bool b:=hx;simp only [hq] at hv;rcases xr hv with ⟨hb,GQ⟩ | ⟨hb,GQ⟩
    ·simp only [N.val,Option.some.injEq] at GQ;rw [←GQ] at one ⊢;subst hb;exact one _ (h.bP (cP h y) hd) (fun w'=>by simp [execOp,ho,e,asBool])
    ·simp only [N.val,Option.some.injEq] at GQ;rw [←GQ] at one ⊢;subst hb;exact one _ (h.bP (cP h z) hd) (fun w'=>by simp [execOp,ho,e,asBool])
   |_=>simp [hq,N.val] at hv
 |build t parts=>
  simp only [ho] at hv
  cases hr:T.row t with
  |none=>simp [hr,N.val] at hv
  |some r=>cases hg:T.agg t with
   |false=>simp [hr,hg,N.val] at hv
   |true=>
    simp only [hr,hg] at hv
    cases hfc:rb T t (q9 r) (parts.toList.map fun p=>(p.1,pz st p.2)) with
    |none=>simp [hfc,N.val] at hv
    |some cs=>
     simp only [hfc,N.val,Option.some.injEq] at hv;subst hv;obtain ⟨v,h1,h2⟩:=Uu hT h hr hg (MJ h parts) hfc hd;exact one v (h2) (fun w'=>by simp only [execOp,ho];exact u7 (h1 w'))
 |nilCheck x=>
  simp only [ho] at hv;have hx:=cP h x
  cases hq:pz st x with
  |agg _=>simp [hq,N.val] at hv
  |pM _=>simp [hq,N.val] at hv
  |one cx=>cases cx with
   |ptr b g off=>
    rw [hq] at hx;simp only [hq] at hv
    cases GM:fL st b g with
    |none=>simp [GM,N.val] at hv
    |some cs=>
     simp only [GM,N.val,Option.some.injEq] at hv;subst hv;have e:=hx.2.2 cs GM;exact one _ (h.bP (v:=.one (.ptr b g off)) hx hd) (fun w'=>by simp [execOp,ho,e])
   |Mv a' j g i off=>
    rw [hq] at hx;simp only [hq] at hv
    cases hA:cE st a' j g with
    |none=>simp [hA,N.val] at hv
    |some A=>
     simp only [hA,N.val,Option.some.injEq] at hv;subst hv;obtain ⟨_,b,o',cap,_,e⟩:=hx.2.2 A hA;exact one _ (h.bP (v:=.one (.Mv a' j g i off)) hx hd) (fun w'=>by simp [execOp,ho,e])
   |_=>simp [hq,N.val] at hv
 |binOp op t x y t2=>
  simp only [ho] at hv;obtain ⟨v,h1,h2⟩:=XN hT h (fun t ht l m us vs b op ox oy=>hE t ht c st w l m us vs b op ox oy) (ox:=x) (oy:=y) (cP h x) (cP h y) hv hd;exact one v (h2) (fun w'=>by simp only [execOp,ho];exact u7 (h1 w'))
 |unOp op t x=>
  cases op with
  |not=>
   simp only [ho] at hv;have hx:=cP h x
   cases hq:pz st x with
   |agg _=>simp [hq,N.val] at hv
   |pM _=>simp [hq,N.val] at hv
   |one cx=>cases cx with
    |bool b=>
     rw [hq] at hx;have e:a.eval x=.bool b:=hx;simp only [hq,N.val,Option.some.injEq] at hv;subst hv;exact one (.bool (!b)) (h.bP (v:=.one (.bool (!b))) rfl hd) (fun w'=>by simp [execOp,ho,e,Op.unary])
    |_=>simp [hq,N.val] at hv
  |_=>simp [ho,N.val] at hv
 |convert t1 t2 x=>
  simp only [ho] at hv;have hx:=cP h x
  split at hv
  ·rename_i k1 k2 k n h1 h2 hq;rw [hq] at hx;have e:a.eval x=.int k n:=hx;simp only [N.val,Option.some.injEq] at hv;subst hv;obtain ⟨d1,g1,_⟩:=hT.kind _ _ h1;obtain ⟨d2,g2,e2⟩:=hT.kind _ _ h2;simp only [descOf] at e2;subst e2;refine one (.int k2 (k2.wrap n)) (h.bP (v:=.one (.int k2 (k2.wrap n))) rfl hd) (fun w' => ?_);simp only [execOp,ho];refine u7 ?_;simp [convert,run_underlying g1,run_underlying g2,e,Conv.intToInt]
  ·rename_i b h1 h2 hq;rw [hq] at hx;have e:a.eval x=.string b:=hx;simp only [N.val,Option.some.injEq] at hv;subst hv;obtain ⟨d1,g1,e1⟩:=hT.kind _ _ h1;obtain ⟨d2,g2,e2⟩:=hT.kind _ _ h2;simp only [descOf] at e2 e1;subst e2 e1;refine one (.string b) (h.bP (v:=.one (.str b)) rfl hd) (fun w' => ?_);simp only [execOp,ho];refine u7 ?_;simp [convert,run_underlying g1,run_underlying g2,e]
  ·rename_i cx _ _ hq;rw [ho] at hk;simp only [hq] at hk
   split at hv
   ·cases cx<;>first | (simp [oA,N.val] at hv;done) | (simp at hk;done)
   ·simp [N.val] at hv
  ·simp [N.val] at hv
 |slice t x lo hi mx=>
  cases mx with
  |some _=>simp [ho,N.val] at hv
  |none=>
   simp only [ho] at hv;obtain ⟨v,h1,h2⟩:=RE hT h (cP h x) (Zc h lo) (Zc h hi) hv hd;exact one v (h2) (fun w'=>by simp only [execOp,ho];exact u7 (h1 w'))
 |fieldAddr t x f=>
  simp only [ho] at hv;have hx:=cP h x;have place:∀(b q k:Nat),T.off t f=some k→a.eval x=.pointer (some ⟨b,q,none⟩)→∀w':World,(execOp a.eval o).run P w'=.ok (.value (.pointer (some ⟨b,q+k,none⟩))) w':=by
   intro b q k hk e w';obtain ⟨fs,JB,n,g1,g2,g3,g4⟩:=hT.off t f k hk
   cases hi:P.info? JB.type with
   |none=>simp [hi] at g4
   |some i=>
    simp only [hi,Option.map_some,Option.some.injEq] at g4;simp only [execOp,ho];refine u7 ?_;subst g3;simp [Instr.fieldAt,run_underlying g1,g2,e,Instr.sureAddr,fieldPlace,sizeOf,typeInfo,hi,g4,Addr.add]
  split at hv
  ·rename_i b g off k hq hk;rw [hq] at hx
   cases GM:fL st b g with
   |none=>simp [GM,N.val] at hv
   |some cs=>
    simp only [GM,N.val,Option.some.injEq] at hv;subst hv;have e:=hx.2.2 cs GM;refine one (.pointer (some ⟨c.bx b,off+k,none⟩)) (h.bP (v:=.one (.ptr b g (off+k))) ⟨rfl,hx.2.1,fun rW OI=>rfl⟩ hd) (place _ _ k hk e)
  ·rename_i a' j g i off k hq hk;rw [hq] at hx
   cases hA:cE st a' j g with
   |none=>simp [hA,N.val] at hv
   |some A=>
    simp only [hA,N.val,Option.some.injEq] at hv;subst hv;obtain ⟨hi,b,o',cap,hl,e⟩:=hx.2.2 A hA;refine one (.pointer (some ⟨b,o'+i*A.r.width+off+k,none⟩)) (h.bP (v:=.one (.Mv a' j g i (off+k))) ⟨rfl,hx.2.1,fun A' ig => ?_⟩ hd) (place _ _ k hk e);rw [hA] at ig
    cases ig
    exact ⟨hi,b,o',cap,hl,by rw [Nat.add_assoc]⟩
  ·rename_i r y off k hq hk;rw [hq] at hx;simp only [N.val,Option.some.injEq] at hv;subst hv;obtain ⟨b,o',e,h1,h2,h3⟩:=hx;exact one (.pointer (some ⟨b,o'+off+k,none⟩)) (h.bP (v:=.one (.nK r y (off+k))) ⟨b,o',by rw [Nat.add_assoc],h1,h2,h3⟩ hd) (place _ _ k hk e)
  ·rename_i r ys off k hq hk;rw [hq] at hx;simp only [N.val,Option.some.injEq] at hv;subst hv;obtain ⟨b,o',e,h1,h2,h3⟩:=hx;exact one (.pointer (some ⟨b,o'+off+k,none⟩)) (h.bP (v:=.one (.xn r ys (off+k))) ⟨b,o',by rw [Nat.add_assoc],h1,h2,h3⟩ hd) (place _ _ k hk e)
  ·simp [N.val] at hv
 |indexAddr t x i=>
  simp only [ho] at hv;obtain ⟨v,h1,h2⟩:=RB hT h (cP h x) (cP h i) hv hd;exact one v (h2) (fun w'=>by simp only [execOp,ho];exact u7 (h1 w'))
 |index t x i=>
  simp only [ho] at hv;have hx:=cP h x;have hi:=cP h i
  split at hv
  ·rename_i s k n h1 Uy MC;rw [Uy] at hx;rw [MC] at hi;have e1:a.eval x=.string s:=hx;have e2:a.eval i=.int k n:=hi;obtain ⟨OK,hv⟩:=jy hv;obtain ⟨hn1,hv⟩:=jy hv;have OK:=of_decide_eq_true OK;have hn1:=of_decide_eq_true hn1;simp only [N.val,Option.some.injEq] at hv;subst hv;obtain ⟨d1,g1,e3⟩:=hT.kind _ _ h1;simp only [descOf] at e3;subst e3;have dS:n.toNat<s.size:=by omega
   have hb:s[n.toNat]?=some s[n.toNat]:=getElem?_pos s n.toNat dS;refine one (.int .u8 (K9 s n)) (h.bP (v:=.one (.int .u8 (K9 s n))) rfl hd) (fun w' => ?_);simp only [execOp,ho];refine u7 ?_;simp [Instr.index,e1,e2,asIntOf,run_underlying g1,OK,hb,K9]
  ·simp [N.val] at hv
 |field t x f=>
  simp only [ho] at hv;have hx:=cP h x
  cases hq:pz st x with
  |one _=>simp [hq,N.val] at hv
  |pM _=>simp [hq,N.val] at hv
  |agg cs=>
   rw [hq] at hx;simp only [hq] at hv
   cases IT:T.off t f with
   |none=>simp [IT,N.val] at hv
   |some k=>
    simp only [IT] at hv;obtain ⟨h1,hv⟩:=ji hv
    cases hn:nth cs k with
    |none=>simp [hn,N.val] at hv
    |some u=>
     simp only [hn,N.val,Option.some.injEq] at hv;subst hv;obtain ⟨vs,e,hl,he⟩:=hx;rw [ng] at hn;have dS:k<vs.size:=by rw [←Array.length_toList,←hl];exact (List.getElem?_eq_some_iff.1 hn).1
     have hg:vs[k]?=some vs[k]:=Array.getElem?_eq_getElem dS;obtain ⟨fs,JB,d1,g1,g2,g3,g4⟩:=hT.one t f h1;obtain ⟨fs',atT,_,g1',g2',g5,_⟩:=hT.off t f k IT;rw [g1] at g1';injection g1' with g1';injection g1' with g1';subst g1';rw [g2] at g2';injection g2' with g2';subst g2';refine one vs[k] (h.bP (v:=.one u) (he k u _ hn (by rw [Array.getElem?_toList];exact hg)) hd) (fun w' => ?_);simp only [execOp,ho];refine u7 ?_;have Z1:(isAgg JB.type).run P w'=.ok false w':=by
      unfold isAgg;rw [Sem.run_bind,run_underlying g3 w']
      cases d1<;>simp_all [TypeDesc.isRow]
     simp [Instr.field,e,run_underlying g1,g2,part,asAgg,Z1,g5,hg]
 |extract t i=>
  simp only [ho] at hv;have hx:=cP h t
  cases hq:pz st t with
  |one _=>simp [hq,N.val] at hv
  |agg _=>simp [hq,N.val] at hv
  |pM vs=>
   rw [hq] at hx;simp only [hq] at hv
   cases hn:nth vs i with
   |none=>simp [hn,N.val] at hv
   |some u=>
    simp only [hn,N.val,Option.some.injEq] at hv;subst hv;obtain ⟨us,e,hl,he⟩:=hx;rw [ng] at hn;have dS:i<us.size:=by rw [←hl];exact (List.getElem?_eq_some_iff.1 hn).1
    have hg:us[i]?=some us[i]:=Array.getElem?_eq_getElem dS;refine one us[i] (h.bP (MK (he i u _ hn hg)) hd) (fun w' => ?_);simp only [execOp,ho];refine u7 ?_;simp [Instr.extract,e,hg]
 |call cl=>
  obtain ⟨callee,args,T0⟩:=cl
  cases callee with
  |invoke r n=>simp [ho,N.val] at hv
  |value x=>
   cases x with
   |func f=>simp [ho] at hk
   |tmp f=>simp [ho] at hk
   |_=>simp [ho,N.val] at hv
  |builtin b=>
   have hx:=fun x=>cP h x
   simp only [ho] at hv;have QH:∀x y,args.toList=[x,y]→args = #[x,y]:=fun x y e=>by rw [←Array.toArray_toList (xs:=args),e]
   split at hv
   ·rename_i x t ha ht;have ha:args = #[x]:=by rw [←Array.toArray_toList (xs:=args),ha]
    have ht:T0 = #[t]:=by rw [←Array.toArray_toList (xs:=T0),ht]
    subst ha ht;obtain ⟨v,h1,h2⟩:=XO (ty:=o.type) hT h (cP h x) hv hd;exact one v (h2) (fun w'=>by simp only [execOp,ho];simp [resolve,invoke,builtin,Sem.run_bind,h1 w'])
   ·rename_i x y t u ha ht;simp [ho] at hk
   ·rename_i ts x y ha;have ha:=QH x y ha;subst ha
    split at hv
    ·rename_i k p l q Uy MC;have e1:=cP h x;have e2:=cP h y;rw [Uy] at e1;rw [MC] at e2;have e1:a.eval x=.int k p:=e1;have e2:a.eval y=.int l q:=e2;simp only [N.val,Option.some.injEq] at hv;subst hv;exact one _ (h.bP (v:=.one (.int k (if q<p then q else p))) (u:=.int k (if q<p then q else p)) rfl hd) (fun w'=>by simp only [execOp,ho];simp [resolve,invoke,builtin,Sem.run_bind,Builtin.min_,Builtin.min2,e1,e2])
    ·simp [N.val] at hv
   ·rename_i ts x y ha;have ha:=QH x y ha;subst ha
    split at hv
    ·rename_i k p l q Uy MC;have e1:=cP h x;have e2:=cP h y;rw [Uy] at e1;rw [MC] at e2;have e1:a.eval x=.int k p:=e1;have e2:a.eval y=.int l q:=e2;simp only [N.val,Option.some.injEq] at hv;subst hv;exact one _ (h.bP (v:=.one (.int k (if q>p then q else p))) (u:=.int k (if q>p then q else p)) rfl hd) (fun w'=>by simp only [execOp,ho];simp [resolve,invoke,builtin,Sem.run_bind,Builtin.max_,Builtin.max2,e1,e2])
    ·simp [N.val] at hv
   ·rename_i ts x y z ha;have ha:args = #[x,y,z]:=by rw [←Array.toArray_toList (xs:=args),ha]
    subst ha
    split at hv
    ·rename_i k p l q m s Uy MC hq3;have e1:=cP h x;have e2:=cP h y;have e3:=cP h z;rw [Uy] at e1;rw [MC] at e2;rw [hq3] at e3;have e1:a.eval x=.int k p:=e1;have e2:a.eval y=.int l q:=e2;have e3:a.eval z=.int m s:=e3;simp only [N.val,Option.some.injEq] at hv;subst hv;exact one _ (h.bP (v:=.one (.int k (if s<(if q<p then q else p) then s else (if q<p then q else p)))) (u:=.int k (if s<(if q<p then q else p) then s else (if q<p then q else p))) rfl hd) (fun w'=>by simp only [execOp,ho];simp [resolve,invoke,builtin,Sem.run_bind,Builtin.min_,Builtin.min2,e1,e2,e3])
    ·simp [N.val] at hv
   ·simp [ho] at hk
   ·simp [N.val] at hv
 |_=>simp [ho] at hk
theorem aaf {P:Program} {T:n9} (hT:jx P T) (hE:zV P T) {S:mI} {w0:World} {mu:Mu} {c:Cz} {st:St} {a:Act} {w:World} (h:Rel w0 mu c st a w) {o:Oper} (hf:Op.OS o.op=false)
  {bN:St} (hv:(QA T S st o).val=some bN) (hd:∀k,o.dst=some k→k<a.tmps.size):BZ P w0 mu bN o a w (kindOk S st o .one):=by
 by_cases hp:kindOk S st o .any=true
 ·obtain ⟨v,h1,h2⟩:=QG hT hE h hp hv hd;exact yc (h1 w) h2 (fun _=>kW.refl w)
 have one:∀(v:Value) (w':World),(∃c',Rel w0 mu c' bN (a.put o.dst v) w')→kW w w'→(execOp a.eval o).run P w=.ok (.value v) w'→BZ P w0 mu bN o a w (kindOk S st o .one):=
  fun v w' ⟨c',h'⟩ hk hr=>yc hr h' (fun _=>hk)
 unfold kindOk at hp;unfold QA at hv
 cases ho:o.op with
 |alloc t=>
  simp only [ho] at hv
  cases hr:T.row t with
  |none=>simp [hr,N.val] at hv
  |some r=>
   simp only [hr] at hv;obtain ⟨k,s0,hk,mL,rfl⟩:=Fu hv;obtain ⟨i,z,hi,hz,Ow⟩:=hT.row t r hr;refine one _ _ ⟨_,hk▸h.kz (ty:=t) mL (hd k hk) (Aq Ow)⟩ (kW.alloc _ _) ?_;simp [execOp,ho,Instr.alloc,zeroValue,typeInfo,hi,hz,newVar,newRow]
 |box t x=>
  simp only [ho] at hv
  cases hn:T.cells t with
  |none=>simp [hn,N.val] at hv
  |some n=>
   simp only [hn] at hv;obtain ⟨hc,hv⟩:=ji hv;rw [Bool.and_eq_true] at hc;obtain ⟨Ap,_⟩:=(cP h x).cells hc.1
   cases lE:(bif T.cap t then fU (pz st x).cells else none) with
   |none=>
    rw [lE] at hv;obtain ⟨k,s0,hk,mL,rfl⟩:=Fu hv;refine one _ _ ⟨_,hk▸h.kz (ty:=t) mL (hd k hk) Ap⟩ (kW.alloc _ _) ?_;simp [execOp,ho,Instr.box,newVar,newRow]
   |some p=>
    obtain ⟨r,y⟩:=p;rw [lE] at hv;simp only [N.val,Option.some.injEq] at hv;subst hv;have hp2:fU (pz st x).cells=some ⟨r,y⟩:=by
     cases hcp:T.cap t with
     |true=>rw [hcp] at lE;exact lE
     |false=>rw [hcp] at lE;cases lE
    have GZ:c.ok w.heap.size:=by
     unfold Cz.ok
     cases hq:c.own w.heap.size with
     |none=>rfl
     |some l=>exact absurd (h.owned _ l hq).1 (Nat.lt_irrefl _)
    have B9:gR c st (w.alloc (.cells (a.eval x).cells t (0,0))) (.one (.nK r y 0)) (.pointer (some ⟨w.heap.size,0,none⟩)):=
     ⟨w.heap.size,0,rfl,by simp,GZ,pC (Fw.grow h _).stays _ hp2 _ 0 Ap fun i v hv=>by
      rw [Nat.zero_add];exact MG (heap_alloc_new w _) hv⟩
    refine one (.pointer (some ⟨w.heap.size,0,none⟩)) (w.alloc (.cells (a.eval x).cells t (0,0))) ⟨c,(h.grow _).bP B9 hd⟩ (kW.alloc _ _) ?_;simp [execOp,ho,Instr.box,newVar,newRow]
 |makeFunc fn first Aj=>
  cases fn with
  |func g=>
   simp only [ho] at hv;obtain ⟨alY,hv⟩:=ji hv
   cases hc:BW st Aj.toList with
   |none=>simp [hc,N.val] at hv
   |some p=>
    obtain ⟨GL,rs,x⟩:=p;rw [hc] at hv;simp only [N.val,Option.some.injEq] at hv;subst hv;obtain ⟨c1,h1,h2,h3⟩:=MH _ h hc;have hf0:first = #[]:=by simpa using alY
    subst hf0;have B9:gR c1 GL w (.one (.fn g rs [x])) (.func (.func g) #[] (Aj.map a.eval)):=
     ⟨_,rfl,fun y hy=>by
      simp at hy;subst hy;rw [Array.toList_map];exact h3⟩
    exact one _ w ⟨c1,h1.bP B9 hd⟩ (kW.refl w) (by simp [execOp,ho,Instr.makeFunc])
  |_=>simp [ho,N.val] at hv
 |buildSlice t len parts=>
  simp only [ho] at hv;obtain ⟨v,w',h1,XR,c',h2⟩:=GW hT h (MJ h parts) hv hd;exact one v w' ⟨c',h2⟩ XR (by simp only [execOp,ho];exact u7 h1)
 |makeSlice t l cp=>
  simp only [ho] at hv;obtain ⟨v,w',h1,XR,c',h2⟩:=Us hT h (cP h l) (cP h cp) hv hd;exact one v w' ⟨c',h2⟩ XR (by simp only [execOp,ho];exact u7 h1)
 |load t x=>
  simp only [ho] at hv;obtain ⟨v,h1,h2⟩:=Mw hT h (cP h x) hv hd;exact one v w ⟨c,h2⟩ (kW.refl w) (by simp only [execOp,ho];exact u7 (h1 w (kW.refl w)))
 |store t x y=>
  simp only [ho] at hv
  cases wm:o.dst with
  |some _=>simp [wm,N.val] at hv
  |none=>
   simp only [wm] at hv;obtain ⟨w',h1,c',h2⟩:=RA hT h (cP h x) (cP h y) hv;intro Q;have hr:(execOp a.eval o).run P w=.ok .skip w':=by simp [execOp,ho,Sem.run_bind,h1]
   unfold Oper.wp;rw [hr];refine ⟨⟨c',?_,u6 a _ _⟩,fun hk => ?_⟩
   ·rw [wm];exact h2
   ·simp [kindOk,ho] at hk
 |call cl=>
  obtain ⟨callee,args,T0⟩:=cl
  cases callee with
  |invoke r n=>simp [ho,N.val] at hv
  |value x=>
   cases x with
   |func f=>simp [ho,Op.OS] at hf
   |tmp f=>simp [ho,Op.OS] at hf
   |_=>simp [ho,N.val] at hv
  |builtin b=>
   simp only [ho] at hv;have QH:∀x y,args.toList=[x,y]→args = #[x,y]:=fun x y e=>by rw [←Array.toArray_toList (xs:=args),e]
   split at hv
   ·simp [ho] at hp
   ·rename_i x y t u ha ht;obtain ⟨htu,GQ⟩:=ji hv;have htu:=Nat.eq_of_beq_eq_true htu;subst htu;have ha:=QH x y ha;have ht:T0 = #[t,t]:=by rw [←Array.toArray_toList (xs:=T0),ht]
    subst ha ht;obtain ⟨v,w',h1,c',h2⟩:=ON (ty:=o.type) hT h (cP h x) (cP h y) GQ hd;exact yc (c':=c') (by simp only [execOp,ho];simp [resolve,invoke,builtin,Sem.run_bind,h1]) h2 (fun hk=>by simp [kindOk,ho] at hk)
   ·simp [ho] at hp
   ·simp [ho] at hp
   ·simp [ho] at hp
   ·rename_i x t ha ht;have ha:args = #[x]:=by rw [←Array.toArray_toList (xs:=args),ha]
    have ht:T0 = #[t]:=by rw [←Array.toArray_toList (xs:=T0),ht]
    subst ha ht
    cases wm:o.dst with
    |some _=>simp [wm,N.val] at hv
    |none=>
     simp only [wm] at hv;obtain ⟨w',h1,c',h2⟩:=RF (ty:=o.type) hT h (cP h x) hv;have hr:(execOp a.eval o).run P w=.ok (.value (.tuple #[])) w':=by simp only [execOp,ho];simp [resolve,invoke,builtin,Sem.run_bind,h1]
     exact yc (c':=c') hr (by rw [wm];exact h2) (fun hk=>by simp [kindOk,ho] at hk)
   ·simp [N.val] at hv
 |move _=>simp [ho] at hp
 |assign _=>simp [ho] at hp
 |pick _ _ _=>simp [ho] at hp
 |build _ _=>simp [ho] at hp
 |nilCheck _=>simp [ho] at hp
 |binOp _ _ _ _ _=>simp [ho] at hp
 |unOp _ _ _=>simp [ho] at hp
 |convert t1 t2 x=>
  simp only [ho] at hv hp;have hx:=cP h x
  split at hv
  ·rename_i hq;simp [hq] at hp
  ·rename_i hq;simp [hq] at hp
  ·rename_i cx h1 h2 hq
   split at hv
   ·rename_i b he;rw [hq] at hx;obtain ⟨ys,h3,h4⟩:=Ft h hx hv;simp only [N.val,Option.some.injEq] at h3;subst h3;obtain ⟨e,i,z,g1,g2,g3,g4,g5,_⟩:=hT.elem _ _ _ he;obtain ⟨d2,q2,e2⟩:=hT.kind _ _ h2;simp only [descOf] at e2;subst e2;have hu8:P.underlying e=some (.int .u8):=hT.u8 t1 e b he g1;have hr:=RH (P:=P) h4;refine one (.string (bytesOf ys)) w ⟨c,h.bP (v:=.one (.str (bytesOf ys))) rfl hd⟩ (kW.refl w) ?_;simp only [execOp,ho];refine u7 ?_;rcases h4 with ⟨hn,_⟩ | ⟨a0,cap,hn,_⟩
    ·rw [hn] at hr ⊢;rw [run_convert_bytes_string w t1 t2 e none 0 0 g1 hu8 q2];exact hr
    ·rw [hn] at hr ⊢;rw [run_convert_bytes_string w t1 t2 e (some a0) _ cap g1 hu8 q2];exact hr
   ·simp [N.val] at hv
  ·simp [N.val] at hv
 |slice _ _ _ _ _=>simp [ho] at hp
 |fieldAddr _ _ _=>simp [ho] at hp
 |indexAddr _ _ _=>simp [ho] at hp
 |index _ _ _=>simp [ho] at hp
 |extract _ _=>simp [ho] at hp
 |field _ _ _=>simp [ho] at hp
 |_=>simp [ho,N.val] at hv
end Go.TM
namespace Go.TM
open Go Go.RowKit
def wz (P:Program) (T:n9) (S:mI) (w0:World) (mu:Mu) (n:Nat):Prop:=
 ∀ {c:Cz} {st bN:St} {a:Act} {w:World} {o:Oper},Rel w0 mu c st a w→a.tmps.size=n→(∀k,o.dst=some k→k<n)→(QA T S st o).val=some bN→BZ P w0 mu bN o a w (kindOk S st o .one)
theorem G0 (a:Act) (d:Nat) (v:Value) (hd:d<a.tmps.size) (h:a.eval (.tmp d)=v):a.put (some d) v=a:=by
 obtain ⟨tm,df⟩:=a;simp only [Act.put,Act.mk.injEq,and_true];simp only [Act.eval,Array.getD_eq_getD_getElem?,Array.getElem?_eq_getElem hd,Option.getD_some] at h;apply Array.ext
 ·simp
 ·intro i h1 h2;rw [Array.getElem_setIfInBounds h2]
  split
  ·rename_i e;subst e;exact h.symm
  ·rfl
theorem Bo {w0:World} {mu:Mu} {c:Cz} {st:St} {a:Act} {w:World} (h:Rel w0 mu c st a w) {d:Nat} {b:Bool} (hg:dF st d=.one (.bool b)) :
  d<a.tmps.size∧a.eval (.tmp d)=.bool b:=by
 have h1:=h.iX d;rw [hg] at h1;have h1:a.eval (.tmp d)=.bool b:=h1;refine ⟨?_,h1⟩;rcases Nat.lt_or_ge d a.tmps.size with h2 | h2
 ·exact h2
 ·simp [Act.eval,Array.getD_eq_getD_getElem?,Array.getElem?_eq_none h2,undef] at h1
theorem Rel.agO {w0:World} {mu:Mu} {c:Cz} {st:St} {a:Act} {w:World} (h:Rel w0 mu c st a w) {d:Nat} {b:Bool} (hg:dF st d=.one (.bool b)) :
  Rel w0 mu c (TM.bP st (some d) (.one (.bool b))) a w:=by
 obtain ⟨h1,h2⟩:=Bo h hg;have:=h.bP (d:=some d) (v:=.one (.bool b)) (u:=.bool b) rfl (fun t e=>by cases e;exact h1)
 rwa [G0 a d _ h1 h2] at this
theorem G2 {ops:Array Oper} {a:Act} {j d:Nat} {b:Bool} (hj:(nth ops.toList j).bind (·.dst)=some d) (hd:d<a.tmps.size) (h:a.eval (.tmp d)=.bool b):yielded ops a.tmps j=some b:=by
 rw [ng,Array.getElem?_toList] at hj;unfold yielded;rw [hj];simp only [Act.eval,Array.getD_eq_getD_getElem?,Array.getElem?_eq_getElem hd,Option.getD_some] at h;simp [Array.getElem?_eq_getElem hd,h]
theorem Bp:(st:St)→(d:Nat)→{v:V}→dF st d=v→TM.bP st (some d) v=st
 | [],_,_,_=>rfl
 |s::l,0,v,h=>by
  have h:s.v=v:=h;subst h;rfl
 |s::l,d+1,v,h=>congrArg (s :: ·) (Bp l d h)
theorem ML {S:mI} {st:St} {o:Oper} {d:Nat} {b:Bool} {k:Kd} (h:dF st d=.one (.bool b)):kindOk S (TM.bP st (some d) (.one (.bool b))) o k=kindOk S st o k:=by
 rw [Bp st d h]
theorem Bq (c:Cz) (st:St) (w:World):gR c st w (.pM []) undef:=⟨#[],rfl,rfl,fun i x y hx=>by simp at hx⟩
theorem B0 {ops:Array Oper} {a:Act} {j d:Nat} (hj:(nth ops.toList j).bind (·.dst)=some d) (h:a.eval (.tmp d)=undef):yielded ops a.tmps j=none:=by
 rw [ng,Array.getElem?_toList] at hj;unfold yielded;rw [hj];simp only [Act.eval,Array.getD_eq_getD_getElem?] at h
 cases ht:a.tmps[d]? with
 |none=>simp [ht]
 |some v=>
  rw [ht] at h;simp only [Option.getD_some] at h;subst h;simp [ht,undef]
theorem G3 {w0:World} {mu:Mu} {c:Cz} {st:St} {a:Act} {w:World} (h:Rel w0 mu c st a w) {d:Nat} (hg:dF st d=.pM []):a.eval (.tmp d)=undef:=by
 have h1:=h.iX d;rw [hg] at h1;obtain ⟨vs,e,hl,_⟩:=h1;have:vs = #[]:=Array.eq_empty_of_size_eq_zero hl.symm;rw [e,this];rfl
theorem MM {P:Program} {T:n9} {S:mI} {w0:World} {mu:Mu} {n:Nat} (IZ:wz P T S w0 mu n) {c:Cz} {st bN:St} {a:Act} {w:World} {ops:Array Oper} {o:Oper} (h:Rel w0 mu c st a w) (hn:a.tmps.size=n)
  (hd:∀k,o.dst=some k→k<n) (hv:(Eo T S ops.toList st o).val=some bN) :
  (Region.wanted o (yielded ops a.tmps)=true∧BZ P w0 mu bN o a w (kindOk S st o .one))∨(Region.wanted o (yielded ops a.tmps)=false∧Rel w0 mu c bN (a.put o.dst undef) w):=by
 unfold Eo at hv;unfold Region.wanted
 cases hg:o.guard with
 |none=>
  simp only [hg] at hv ⊢;exact .inl ⟨trivial,IZ h hn hd hv⟩
 |some p=>
  obtain ⟨j,want⟩:=p;simp only [hg] at hv ⊢
  cases hj:(nth ops.toList j).bind (·.dst) with
  |none=>simp [hj,N.val] at hv
  |some d=>
   simp only [hj] at hv
   split at hv
   ·rename_i b Uz;obtain ⟨h1,h2⟩:=Bo h Uz;have hy:=G2 (ops:=ops) hj h1 h2;rw [hy];have hk:=h.agO Uz;have yes:(QA T S (TM.bP st (some d) (.one (.bool b))) o).val=some bN→BZ P w0 mu bN o a w (kindOk S st o .one):=fun e=>(ML Uz)▸IZ hk hn hd e
    have no:(N.done (TM.bP (TM.bP st (some d) (.one (.bool b))) o.dst (.pM []))).val=some bN→Rel w0 mu c bN (a.put o.dst undef) w:=by
     intro e;simp only [N.val,Option.some.injEq] at e;subst e;exact hk.bP (Bq _ _ _) (fun k IT=>by rw [hn];exact hd k IT)
    rcases xr hv with ⟨hb,GQ⟩ | ⟨hb,GQ⟩
    ·subst hb
     cases want
     ·exact .inr ⟨rfl,no GQ⟩
     ·exact .inl ⟨rfl,yes GQ⟩
    ·subst hb
     cases want
     ·exact .inl ⟨rfl,yes GQ⟩
     ·exact .inr ⟨rfl,no GQ⟩
   ·rename_i Uz;simp only [N.val,Option.some.injEq] at hv;subst hv;rw [B0 (ops:=ops) hj (G3 h Uz)];exact .inr ⟨by cases want<;>rfl,h.bP (Bq _ _ _) (fun k IT=>by rw [hn];exact hd k IT)⟩
   ·simp [N.val] at hv
def Ca (n:Nat) (ops:List Oper):Bool:=ops.all fun o=>match o.dst with | some k=>Nat.blt k n | none=>true
theorem Es {n:Nat} {ops:List Oper} (h:Ca n ops=true) {o:Oper} (ho:o∈ops):∀k,o.dst=some k→k<n:=by
 intro k hk;have:=List.all_eq_true.1 h o ho;rw [hk] at this;exact Nat.le_of_ble_eq_true this
def Next {R:Type} (w0:World) (mu:Mu) (n:Nat) (r:R) (k:St→Option R) (K:Act→World→Prop):Prop:=
 ∀ {c:Cz} {st:St} {a:Act} {w:World},Rel w0 mu c st a w→a.tmps.size=n→k st=some r→K a w
theorem Ln {R:Type} {P:Program} {T:n9} {S:mI} {w0:World} {mu:Mu} {n:Nat} (IZ:wz P T S w0 mu n) {ops:Array Oper} {Q:Exit→Act→World→Prop} {k:St→Option R} {r:R} (hk:Next w0 mu n r k (Q .normal)) :
  (l:List Oper)→Ca n l=true→{c:Cz}→{st:St}→{a:Act}→{w:World}→Rel w0 mu c st a w→a.tmps.size=n→XC T S ops.toList l st k=some r→wpList P ops Q l a w
 | [],_,_,_,_,_,h,hn,hv=>hk h hn hv
 |o::l,hl,c,st,a,w,h,hn,hv=>by
  unfold XC at hv;rw [N.fold_eq] at hv;obtain ⟨bN,h1,h2⟩:=Option.bind_eq_some_iff.1 hv;have hd:=Es hl (o:=o) List.mem_cons_self;have Bn:Ca n l=true:=by
   unfold Ca at hl ⊢;rw [List.all_cons,Bool.and_eq_true] at hl;exact hl.2
  refine wpList_step fun K hK => ?_
  rcases MM IZ h hn hd h1 with ⟨hw,hs⟩ | ⟨hw,hs⟩
  ·rw [if_pos hw];refine Oper.wp_mono (fun a' w' ⟨⟨c',hr,oU⟩,_⟩=>hK a' w' ?_) (hs Q);exact Ln IZ hk l Bn hr (oU.trans hn) h2
  ·rw [if_neg (by rw [hw];decide)];exact hK _ _ (Ln IZ hk l Bn hs ((u6 _ _ _).trans hn) h2)
def Ex.go:Ex→Exit
 |.normal=>.normal
 |.exit n=>.exit n
 |.ret=>.ret
def QI {R:Type} (w0:World) (mu:Mu) (n:Nat) (r:R) (k:Ex→St→Option R) (Q:Exit→Act→World→Prop):Prop:=
 ∀ {e:Ex} {c:Cz} {st:St} {a:Act} {w:World},Rel w0 mu c st a w→a.tmps.size=n→k e st=some r→Q e.go a w
def hJ (n:Nat):Code→Bool
 |.region _ ops _=>Ca n ops.toList
 |.seq a b=>hJ n a&&hJ n b
 |.cond _ a b=>hJ n a&&hJ n b
 |.block _ a=>hJ n a
 |.loop a=>hJ n a
 |_=>true
def pf {R:Type} (P:Program) (w0:World) (mu:Mu) (n:Nat) (L:pA R) (r:R) (id:Nat) (b:Code):Prop:=
 ∀ {k:Ex→St→Option R} {Q:Exit→Act→World→Prop},QI w0 mu n r k Q→∀ {c:Cz} {st:St} {a:Act} {w:World},Rel w0 mu c st a w→a.tmps.size=n→
  L id b st k=some r→(Code.block id (.loop b)).wp P Q a w
def fF (ok:Nat→Code→Prop):Code→Prop
 |.seq a b=>fF ok a∧fF ok b
 |.cond _ a b=>fF ok a∧fF ok b
 |.block id (.loop b)=>ok id b
 |.block _ a=>fF ok a
 |_=>True
def uH (R:Type) (P:Program) (T:n9) (S:mI) (D:mV) (w0:World) (mu:Mu) (n:Nat) (ok:Nat→Array Oper→Prop):Prop:=
 ∀ {id:Nat} {ops:Array Oper} {Q:Exit→Act→World→Prop} {k:St→Option R} {r:R},ok id ops→Ca n ops.toList=true→Next w0 mu n r k (Q .normal)→∀ {c:Cz} {st:St} {a:Act} {w:World},Rel w0 mu c st a w→a.tmps.size=n→
  wS T S ops.toList (D id) st k=some r→(Code.region id ops true).wp P Q a w
def fV (ok:Nat→Array Oper→Prop):Code→Prop
 |.region id ops true=>ok id ops
 |.seq a b=>fV ok a∧fV ok b
 |.cond _ a b=>fV ok a∧fV ok b
 |.block _ (.loop _)=>True
 |.block _ a=>fV ok a
 |_=>True
theorem Da {R:Type} {P:Program} {T:n9} {S:mI} {D:mV} {L:pA R} {w0:World} {mu:Mu} {n:Nat} {r:R} {ok:Nat→Array Oper→Prop} (IZ:wz P T S w0 mu n) (hD:uH R P T S D w0 mu n ok) :
  (cd:Code)→hJ n cd=true→fF (pf P w0 mu n L r) cd→fV ok cd→{k:Ex→St→Option R}→{Q:Exit→Act→World→Prop}→QI w0 mu n r k Q→
  {c:Cz}→{st:St}→{a:Act}→{w:World}→Rel w0 mu c st a w→a.tmps.size=n→gF T S D L cd st k=some r→cd.wp P Q a w:=by
 intro cd
 induction cd with
 |skip=>
  intro _ _ _ k Q hk c st a w h hn hv;unfold gF at hv;exact wp_skip (hk h hn hv)
 |region id ops draw=>
  intro hd hL hw k Q hk c st a w h hn hv
  cases draw with
  |false=>
   unfold gF at hv;exact wp_region_list (Ln IZ (Q:=Q) (k:=fun bN=>k .normal bN) (fun h1 h2 h3=>hk h1 h2 h3) ops.toList hd h hn hv)
  |true=>
   unfold gF at hv;exact hD hw hd (k:=fun bN=>k .normal bN) (fun h1 h2 h3=>hk h1 h2 h3) h hn hv
 |seq x y ihx ihy=>
  intro hd hL hw k Q hk c st a w h hn hv;unfold gF at hv;unfold hJ at hd;rw [Bool.and_eq_true] at hd;refine wp_seq (ihx hd.1 hL.1 hw.1 (fun {e} {c} {st} {a} {w} h1 h2 h3 => ?_) h hn hv)
  cases e with
  |normal=>exact ihy hd.2 hL.2 hw.2 hk h1 h2 h3
  |exit m=>exact hk h1 h2 h3
  |ret=>exact hk h1 h2 h3
 |cond x y z ihy ihz=>
  intro hd hL hw k Q hk c st a w h hn hv;unfold hJ at hd;rw [Bool.and_eq_true] at hd
  cases x with
  |tmp t=>
   unfold gF at hv
   split at hv
   ·rename_i b hg;obtain ⟨_,h2⟩:=Bo h hg;have hkn:=h.agO hg
    cases b with
    |true=>exact wp_cond_true h2 (ihy hd.1 hL.1 hw.1 hk hkn hn hv)
    |false=>exact wp_cond_false h2 (ihz hd.2 hL.2 hw.2 hk hkn hn hv)
   ·cases hv
  |_=>unfold gF at hv;cases hv
 |block id b ih=>
  intro hd hL hw k Q hk c st a w h hn hv
  by_cases hb:∃b',b=.loop b'
  ·obtain ⟨b',rfl⟩:=hb;unfold gF at hv;exact hL hk h hn hv
  ·have wU:gF T S D L b st (fun e bN=>match e with
     |.exit n=>bif Nat.beq n id then k .normal bN else k (.exit n) bN
     |e=>k e bN)=some r:=by
    cases b with
    |loop b'=>exact absurd ⟨b',rfl⟩ hb
    |_=>unfold gF at hv;exact hv
   have hw':fV ok b:=by
    cases b with
    |loop b'=>exact absurd ⟨b',rfl⟩ hb
    |_=>unfold fV at hw;exact hw
   have hL':fF (pf P w0 mu n L r) b:=by
    cases b with
    |loop b'=>exact absurd ⟨b',rfl⟩ hb
    |_=>unfold fF at hL;exact hL
   refine wp_block (ih hd hL' hw' (fun {e} {c} {st} {a} {w} h1 h2 h3 => ?_) h hn wU)
   cases e with
   |normal=>exact hk h1 h2 h3
   |ret=>exact hk h1 h2 h3
   |exit m=>
    simp only at h3;unfold Exit.inBlock;simp only [Ex.go]
    cases hm:Nat.beq m id with
    |true=>
     rw [hm] at h3;rw [if_pos (Nat.eq_of_beq_eq_true hm)];exact hk h1 h2 h3
    |false=>
     rw [hm] at h3;rw [if_neg (Nat.ne_of_beq_eq_false hm)];exact hk (e:=.exit m) h1 h2 h3
 |exit id=>
  intro _ _ _ k Q hk c st a w h hn hv;unfold gF at hv;exact wp_exit (hk h hn hv)
 |ret=>
  intro _ _ _ k Q hk c st a w h hn hv;unfold gF at hv;exact wp_ret (hk h hn hv)
 |_=>
  intro _ _ _ k Q hk c st a w h hn hv;unfold gF at hv
  cases hv
end Go.TM
namespace Go.TM
open Go Go.RowKit
def OwnAt (c:Cz) (w:World) (l:Lb) (lc:Loc) (A:nd) (v:Value):Prop:=
 v.oneCell'=true∧oB lc A.r.width 0 A.xs.length v∧A.own=true∧
 match lc with
 |.nil=>A.xs=[]
 |.at b off cap=>c.own b=some l∧A.xs.length≤cap∧(∃cur ty,w.heap[b]?=some (.cells cur ty (0,0))∧off+cap*A.r.width≤cur.size)∧
   dU c w l A b off
def cD (c:Cz) (w:World) (f:Nat→Lb):(j:Nat)→List OV→List Value→Prop
 |_,[],vs=>vs=[]
 |j,.int k n::os,vs=>∃l,vs=.int k n::l∧cD c w f (j+1) os l
 |j,.bool b::os,vs=>∃l,vs=.bool b::l∧cD c w f (j+1) os l
 |j,.str s::os,vs=>∃l,vs=.string s::l∧cD c w f (j+1) os l
 |j,.gg::os,vs=>∃l,vs=.slice none 0 0::l∧cD c w f (j+1) os l
 |j,.shr r xs::os,vs=>∃v l,vs=v::l∧ef w c.ok (.sl r) v xs∧cD c w f (j+1) os l
 |j,.own A::os,vs=>∃v l,vs=v::l∧(∃lc,OwnAt c w (f j) lc A v)∧cD c w f (j+1) os l
 |j,.nK r xs::os,vs=>∃v l,vs=v::l∧Jz w c.ok r v xs∧cD c w f (j+1) os l
 |j,.fn g rs xs::os,vs=>∃v l,vs=v::l∧FnAt w c.ok g rs v xs∧cD c w f (j+1) os l
def JI (c:Cz) (w:World) (i:Nat) (os:List OV) (v:Value):Prop:=
 ∃qZ vs ty,v=.pointer (some ⟨qZ,0,none⟩)∧c.own qZ=some (.xo i)∧w.heap[qZ]?=some (.cells vs ty (0,0))∧cD c w (.dw i) 0 os vs.toList
def UA (c:Cz) (w:World) (i:Nat) (lc:Nat→Loc) (j:Nat) (o:OV) (u:Value):Prop:=
 match o with
 |.own A=>OwnAt c w (.dw i j) (lc j) A u
 |.gg=>lc j=.nil
 |_=>True
def wA (c:Cz) (w:World) (i:Nat) (lc:Nat→Loc):AV→Value→Prop
 |.val false os,v=>cD c w (.dw i) 0 os [v]
 |.val true os,v=>∃vs,v=.agg vs∧cD c w (.dw i) 0 os vs.toList
 |.io A,v=>OwnAt c w (.dw i 0) (lc 0) A v
 |.box os,v=>JI c w i os v
 |.dO os,v=>∃vs,v=.agg vs∧cD c w (.dw i) 0 os vs.toList∧∀j o u,os[j]?=some o→vs.toList[j]?=some u→UA c w i lc j o u
def Cb (c:Cz) (w:World) (lc:Nat→Nat→Loc):(i:Nat)→List AV→List Value→Prop
 |_,[],vs=>vs=[]
 |i,a::as,vs=>∃v l,vs=v::l∧wA c w i (lc i) a v∧Cb c w lc (i+1) as l
def QJ (c:Cz) (w:World) (i:Nat) (lc:Nat→Loc) (os:List OV) (us:List Value) (As:List (Option nd)):Prop:=
 ∀j A,os[j]?=some (.own A)→∃B u,nth As j=some (some B)∧us[j]?=some u∧B.r.width=A.r.width∧B.xs.length=A.xs.length∧OwnAt c w (.dw i j) (lc j) B u
def kj (c:Cz) (w:World) (lc:Nat→Nat→Loc):(i:Nat)→List AV→List Value→List XV→Prop
 |_,[],_,xs=>xs=[]
 |_,_::_,[],_=>False
 |i,.val _ _::as,_::vs,xs=>kj c w lc (i+1) as vs xs
 |i,.io A::as,v::vs,xs=>∃B l,xs=.io B::l∧B.r.width=A.r.width∧B.xs.length=A.xs.length∧OwnAt c w (.dw i 0) (lc i 0) B v∧kj c w lc (i+1) as vs l
 |i,.box _::as,v::vs,xs=>∃os l,xs=.box os::l∧JI c w i os v∧kj c w lc (i+1) as vs l
 |i,.dO os::as,v::vs,xs=>∃As l,xs=.dO As::l∧(∃us,v=.agg us∧QJ c w i (lc i) os us.toList As)∧kj c w lc (i+1) as vs l
def oa (c:Cz) (w:World):(j:Nat)→List RV→List Value→Prop
 |_,[],vs=>vs=[]
 |j,.one o::rs,vs=>∃v l,vs=v::l∧cD c w .ky j [o] [v]∧oa c w (j+1) rs l
 |j,.agg os::rs,vs=>∃us l,vs=.agg us::l∧cD c w .ky j os us.toList∧oa c w (j+os.length) rs l
 |j,.ptr os::rs,vs=>∃v l,vs=v::l∧(∃qZ us ty,v=.pointer (some ⟨qZ,0,none⟩)∧c.own qZ=some (.ky j)∧w.heap[qZ]?=some (.cells us ty (0,0))∧cD c w .ky (j+1) os us.toList)∧oa c w (j+(os.length+1)) rs l
def u9 (c:Cz) (w:World) (rs:List RV) (v:Value):Prop:=
 (∃r,rs=[r]∧oa c w 0 [r] [v])∨(rs.length≠1∧∃vs,v=.tuple vs∧oa c w 0 rs vs.toList)
structure Fx (w0:World) (mu:Mu) (c:Cz) (w:World):Prop where
 owned:∀b l,c.own b=some l→b<w.heap.size∧(l=.out∨w0.heap.size≤b∨mu.m b)
 free:∀b,b<w0.heap.size→c.own b=none→mu.m b∨mu.ok b
 kept:w.os=w0.os∧w.tape=w0.tape∧w.output=w0.output∧w0.heap.size≤w.heap.size
 old:∀k,k<w0.heap.size→¬mu.m k→w.heap[k]?=w0.heap[k]?
def Lb.nh:Lb→Bool
 |.dw _ _=>true
 |.xo _=>true
 |_=>false
structure Handed (c:Cz) (w:World) (mu:Mu):Prop where
 m:∀b,mu.m b↔∃l,c.own b=some l∧l.nh=true
 ok:∀b,mu.ok b↔c.own b=none
 lt:∀b l,c.own b=some l→b<w.heap.size
 lb:∀b l,c.own b=some l→l=.out∨l.nh=true
def FnOk (P:Program) (f:FuncId) (F8:Ag):Prop:=
 ∀(c:Cz) (w:World) (mu:Mu) (lc:Nat→Nat→Loc) (fP:List AV) (args:Array Value) (A:Ans) (x:aO A.r),Handed c w mu→Cb c w lc 0 fP args.toList→F8 fP=some A→A.o=some x→
  Calls P f args w fun e w'=>∃v,e=.returned v∧∃c',Fx w mu c' w'∧u9 c' w' (A.res x).outs v∧kj c' w' lc 0 fP args.toList (A.res x).exts
mutual
theorem ef.plain {w:World} {ok CW:Nat→Prop}:(t:Ty)→(v:Value)→(x:den t)→RT.pe (.cons t .nil)=false→ef w ok t v x→ef w CW t v x
 |.int _,_,_,_,h=>by unfold ef at h ⊢;exact h
 |.bool,_,_,_,h=>by unfold ef at h ⊢;exact h
 |.str,_,_,_,h=>by unfold ef at h ⊢;exact h
 |.sl _,_,_,hs,_=>by simp [RT.pe] at hs
theorem fx.plain {w:World} {ok CW:Nat→Prop}:(r:RT)→(b off:Nat)→(x:aO r)→r.pe=false→fx w ok r b off x→fx w CW r b off x
 |.nil,_,_,_,_,_=>by unfold fx;trivial
 |.cons t r,b,off,x,hs,h=>by
  unfold fx at h ⊢;obtain ⟨⟨v,h1,h2⟩,h3⟩:=h;refine ⟨⟨v,h1,ef.plain t v x.1 ?_ h2⟩,fx.plain r b (off+1) x.2 ?_ h3⟩
  ·cases t<;>simp_all [RT.pe]
  ·cases t<;>simp_all [RT.pe]
end
structure Pass (c c':Cz) (pd:Lb→Prop):Prop where
 dw:∀b l,pd l→c.own b=some l→c'.own b=some l
 ok:∀b,c.ok b→c'.ok b
theorem OwnAt.pass {c c':Cz} {w:World} {l:Lb} {lc:Loc} {A:nd} {v:Value} (hp:∀b,c.own b=some l→c'.own b=some l) (ho:(∀b,c.ok b→c'.ok b)∨(!A.r.pe)=true) (h:OwnAt c w l lc A v):OwnAt c' w l lc A v:=by
 unfold OwnAt at h ⊢;obtain ⟨h1,h2,h3,h4⟩:=h;refine ⟨h1,h2,h3,?_⟩
 cases lc with
 |nil=>exact h4
 |«at» b off cap=>
  obtain ⟨g1,g2,g3,g4⟩:=h4;refine ⟨hp b g1,g2,g3,?_⟩
  by_cases XM:A.md=.sh∧A.r.pe=false
  ·exact (dU.sh XM.1).2 fun i x hx=>fx.plain _ _ _ _ XM.2 ((dU.sh XM.1).1 g4 i x hx)
  ·refine g4.go (fun hm => ?_) rfl (fun _ k hk=>⟨rfl,hp k hk⟩);rcases ho with ho | ho
   ·exact ⟨Nat.le_refl _,fun _ _ _=>rfl,fun b _ h=>ho b h⟩
   ·exact absurd ⟨hm,by simpa using ho⟩ XM
theorem cD.pass {c c':Cz} {w:World} {f:Nat→Lb} (hp:∀b j,c.own b=some (f j)→c'.own b=some (f j)):(os:List OV)→((∀b,c.ok b→c'.ok b)∨os.all OV.plain=true)→(j:Nat)→(vs:List Value)→cD c w f j os vs→cD c' w f j os vs
 | [],_,_,_,h=>h
 |.int k n::os,ho,j,vs,h=>by
  obtain ⟨l,h1,h2⟩:=h;exact ⟨l,h1,cD.pass hp os (ho.imp id fun h=>by simp at h;simpa using h.2) (j+1) l h2⟩
 |.bool k::os,ho,j,vs,h=>by
  obtain ⟨l,h1,h2⟩:=h;exact ⟨l,h1,cD.pass hp os (ho.imp id fun h=>by simp at h;simpa using h.2) (j+1) l h2⟩
 |.str k::os,ho,j,vs,h=>by
  obtain ⟨l,h1,h2⟩:=h;exact ⟨l,h1,cD.pass hp os (ho.imp id fun h=>by simp at h;simpa using h.2) (j+1) l h2⟩
 |.gg::os,ho,j,vs,h=>by
  obtain ⟨l,h1,h2⟩:=h;exact ⟨l,h1,cD.pass hp os (ho.imp id fun h=>by simp at h;simpa using h.2) (j+1) l h2⟩
 |.shr r xs::os,ho,j,vs,h=>by
  obtain ⟨v,l,h1,h2,h3⟩:=h;refine ⟨v,l,h1,?_,cD.pass hp os (ho.imp id fun h=>by simp at h;simpa using h.2) (j+1) l h3⟩;rcases ho with ho | ho
  ·exact ef.stays ⟨Nat.le_refl _,fun _ _ _=>rfl,fun b _ h=>ho b h⟩ _ _ _ h2
  ·simp [OV.plain] at ho
 |.nK r xs::os,ho,j,vs,h=>by
  obtain ⟨v,l,h1,h2,h3⟩:=h;refine ⟨v,l,h1,?_,cD.pass hp os (ho.imp id fun h=>by simp at h;simpa using h.2) (j+1) l h3⟩;rcases ho with ho | ho
  ·exact h2.stays ⟨Nat.le_refl _,fun _ _ _=>rfl,fun b _ h=>ho b h⟩
  ·simp [OV.plain] at ho
 |.fn g rs xs::os,ho,j,vs,h=>by
  obtain ⟨v,l,h1,h2,h3⟩:=h;refine ⟨v,l,h1,?_,cD.pass hp os (ho.imp id fun h=>by simp at h;simpa using h.2) (j+1) l h3⟩;rcases ho with ho | ho
  ·exact h2.stays ⟨Nat.le_refl _,fun _ _ _=>rfl,fun b _ h=>ho b h⟩
  ·simp [OV.plain] at ho
 |.own A::os,ho,j,vs,h=>by
  obtain ⟨v,l,h1,⟨lc,h2⟩,h3⟩:=h;refine ⟨v,l,h1,⟨lc,h2.pass (fun b=>hp b j) (ho.imp id fun h => ?_)⟩,cD.pass hp os (ho.imp id fun h=>by simp at h;simpa using h.2) (j+1) l h3⟩;rw [List.all_cons,Bool.and_eq_true] at h;exact h.1
theorem JI.pass {c c':Cz} {w:World} {i:Nat} {os:List OV} {v:Value} (hb:∀b,c.own b=some (.xo i)→c'.own b=some (.xo i)) (hp:∀b j,c.own b=some (.dw i j)→c'.own b=some (.dw i j)) (ho:(∀b,c.ok b→c'.ok b)∨os.all OV.plain=true) (h:JI c w i os v):JI c' w i os v:=by
 obtain ⟨qZ,vs,ty,h1,h2,h3,h4⟩:=h;exact ⟨qZ,vs,ty,h1,hb _ h2,h3,cD.pass hp os ho 0 _ h4⟩
theorem oa.pass {c c':Cz} {w:World} (hp:∀b j,c.own b=some (.ky j)→c'.own b=some (.ky j)):(rs:List RV)→((∀b,c.ok b→c'.ok b)∨rs.all (fun o=>o.Ae.all OV.plain)=true)→(j:Nat)→(vs:List Value)→oa c w j rs vs→oa c' w j rs vs
 | [],_,_,_,h=>h
 |.one o::rs,ho,j,vs,h=>by
  obtain ⟨v,l,h1,h2,h3⟩:=h;exact ⟨v,l,h1,cD.pass hp [o] (ho.imp id fun h=>by simp [RV.Ae] at h;simpa using h.1) _ _ h2,oa.pass hp rs (ho.imp id fun h=>by simp at h;simpa using h.2) _ _ h3⟩
 |.agg os::rs,ho,j,vs,h=>by
  obtain ⟨v,l,h1,h2,h3⟩:=h;exact ⟨v,l,h1,cD.pass hp os (ho.imp id fun h=>by simp [RV.Ae] at h;simpa using h.1) _ _ h2,oa.pass hp rs (ho.imp id fun h=>by simp at h;simpa using h.2) _ _ h3⟩
 |.ptr os::rs,ho,j,vs,h=>by
  obtain ⟨v,l,h1,⟨qZ,us,ty,g1,g2,g3,g4⟩,h3⟩:=h;exact ⟨v,l,h1,⟨qZ,us,ty,g1,hp _ _ g2,g3,cD.pass hp os (ho.imp id fun h=>by simp [RV.Ae] at h;simpa using h.1.2) _ _ g4⟩,oa.pass hp rs (ho.imp id fun h=>by simp at h;simpa using h.2) _ _ h3⟩
theorem u9.pass {c c':Cz} {w:World} (hp:∀b j,c.own b=some (.ky j)→c'.own b=some (.ky j)) {rs:List RV} (ho:(∀b,c.ok b→c'.ok b)∨rs.all (fun o=>o.Ae.all OV.plain)=true) {v:Value} (h:u9 c w rs v):u9 c' w rs v:=by
 rcases h with ⟨r,h1,h2⟩ | ⟨h1,vs,h2,h3⟩
 ·subst h1;exact .inl ⟨r,rfl,oa.pass hp _ ho _ _ h2⟩
 ·exact .inr ⟨h1,vs,h2,oa.pass hp _ ho _ _ h3⟩
theorem QJ.pass {c c':Cz} {w:World} {i:Nat} {lc:Nat→Loc} {os:List OV} {us:List Value} {As:List (Option nd)} (hp:∀b j,c.own b=some (.dw i j)→c'.own b=some (.dw i j)) (ho:(∀b,c.ok b→c'.ok b)∨XV.plain (.dO As)=true) (h:QJ c w i lc os us As):QJ c' w i lc os us As:=by
 intro j A hA;obtain ⟨B,u,h1,h2,h3,h4,h5⟩:=h j A hA;refine ⟨B,u,h1,h2,h3,h4,h5.pass (fun b=>hp b j) (ho.imp id fun h => ?_)⟩;have hm:some B∈As:=by rw [ng] at h1;exact List.mem_of_getElem? h1
 have:=List.all_eq_true.1 h _ hm;simpa using this
theorem kj.pass {c c':Cz} {w:World} {lc:Nat→Nat→Loc}:(as:List AV)→(i:Nat)→(hb:∀b k,i≤k→c.own b=some (.xo k)→c'.own b=some (.xo k))→(hp:∀b k j,i≤k→c.own b=some (.dw k j)→c'.own b=some (.dw k j))→(vs:List Value)→(xs:List XV)→((∀b,c.ok b→c'.ok b)∨xs.all XV.plain=true)→kj c w lc i as vs xs→kj c' w lc i as vs xs
 | [],_,_,_,_,_,_,h=>h
 |_::_,_,_,_,[],_,_,h=>h.elim
 |.val _ _::as,i,hb,hp,_::vs,xs,ho,h=>kj.pass as (i+1) (fun b k hk=>hb b k (by omega)) (fun b k j hk=>hp b k j (by omega)) vs xs ho h
 |.io A::as,i,hb,hp,v::vs,xs,ho,h=>by
  obtain ⟨B,l,h1,h2,h3,h4,h5⟩:=h;subst h1;refine ⟨B,l,rfl,h2,h3,h4.pass (fun b=>hp b i 0 (Nat.le_refl _)) (ho.imp id fun h=>by rw [List.all_cons,Bool.and_eq_true] at h;exact h.1),kj.pass as (i+1) (fun b k hk=>hb b k (by omega)) (fun b k j hk=>hp b k j (by omega)) vs l (ho.imp id fun h=>by simp at h;simpa using h.2) h5⟩
 |.dO _::as,i,hb,hp,v::vs,xs,ho,h=>by
  obtain ⟨As,l,h1,⟨us,h2,h3⟩,h4⟩:=h;subst h1;refine ⟨As,l,rfl,⟨us,h2,h3.pass (fun b j=>hp b i j (Nat.le_refl _)) (ho.imp id fun h=>by rw [List.all_cons,Bool.and_eq_true] at h;exact h.1)⟩,kj.pass as (i+1) (fun b k hk=>hb b k (by omega)) (fun b k j hk=>hp b k j (by omega)) vs l (ho.imp id fun h=>by rw [List.all_cons,Bool.and_eq_true] at h;exact h.2) h4⟩
 |.box _::as,i,hb,hp,v::vs,xs,ho,h=>by
  obtain ⟨os,l,h1,h2,h3⟩:=h;subst h1;refine ⟨os,l,rfl,h2.pass (fun b=>hb b i (Nat.le_refl _)) (fun b j=>hp b i j (Nat.le_refl _)) (ho.imp id fun h=>by simp [XV.plain] at h;simpa using h.1),kj.pass as (i+1) (fun b k hk=>hb b k (by omega)) (fun b k j hk=>hp b k j (by omega)) vs l (ho.imp id fun h=>by simp at h;simpa using h.2) h3⟩
end Go.TM
namespace Go.TM
open Go Go.RowKit
def Cz.map (c:Cz) (ρ:Lb→Option Lb):Cz:={ bx:=c.bx,lc:=c.lc,own:=fun b=>(c.own b).bind ρ }
theorem Cz.wV {c:Cz} {ρ:Lb→Option Lb} {b:Nat} (h:c.ok b):(c.map ρ).ok b:=by
 unfold Cz.ok Cz.map at *;simp [h]
theorem Cz.map_some {c:Cz} {ρ:Lb→Option Lb} {b:Nat} {l:Lb} (h:(c.map ρ).own b=some l):∃k,c.own b=some k∧ρ k=some l:=by
 unfold Cz.map at h;exact Option.bind_eq_some_iff.1 h
theorem Cz.nM {c:Cz} {ρ:Lb→Option Lb} {b:Nat} {l:Lb} (h:c.own b=some l):(c.map ρ).own b=ρ l:=by
 unfold Cz.map;simp [h]
theorem dU.map {c:Cz} {w:World} {l l':Lb} {A:nd} {b off:Nat} (h:dU c w l A b off) {ρ:Lb→Option Lb} (hρ:ρ l=some l'):dU (c.map ρ) w l' A b off:=
 h.go (fun _=>⟨Nat.le_refl _,fun _ _ _=>rfl,fun b _ hb=>Cz.wV hb⟩) rfl (fun _ _ hk=>⟨rfl,(Cz.nM hk).trans hρ⟩)
theorem UB {c:Cz} {w:World} {s j:Nat} {A:nd} (h:fy c w s j A) (ho:A.own=true) {vw:View} {u:Value} (h1:u.oneCell'=true) (hu:oB (c.lc s j) A.r.width vw.lo (vw.app A.xs).length u)
  {ρ:Lb→Option Lb} {l:Lb} (hρ:ρ (.sp s j)=some l) (IU:A.md.is .sh=true∨vw.isFull=true):∃lc,OwnAt (c.map ρ) w l lc { A with xs:=vw.app A.xs } u:=by
 cases hl:c.lc s j with
 |nil=>
  unfold oB at hu;rw [hl] at hu;exact ⟨.nil,h1,hu,ho,List.length_eq_zero_iff.1 hu.2⟩
 |«at» b off cap=>
  unfold oB at hu;rw [hl] at hu;obtain ⟨a,k,rfl,hk,BD,ha⟩:=hu;unfold fy at h;rw [hl] at h;obtain ⟨h0,_,⟨cur,ty,h3,h4⟩,h5⟩:=h;rw [ho] at h0;refine ⟨.at b (off+vw.lo*A.r.width) k,h1,⟨a,k,rfl,hk,by omega,by simpa using ha⟩,ho,(Cz.nM h0).trans hρ,hk,⟨cur,ty,h3,?_⟩,?_⟩
  ·have:(vw.lo+k)*A.r.width≤cap*A.r.width:=Nat.mul_le_mul_right _ BD;rw [Nat.add_mul] at this;show off+vw.lo*A.r.width+k*A.r.width≤cur.size;omega
  ·have hmm:A.md=.sh∨A.md≠.sh:=Classical.em _;rcases hmm with hm | hm
   ·refine dU.Uo hm fun i x hi => ?_
    have:=(dU.sh hm).1 h5 _ x (View.Bm vw A.xs hi);have e:off+vw.lo*A.r.width+i*A.r.width=off+(vw.lo+i)*A.r.width:=by rw [Nat.add_mul];omega
    rw [e];exact fx.stays ⟨Nat.le_refl _,fun _ _ _=>rfl,fun b _ hb=>Cz.wV hb⟩ _ _ _ x rfl this
   ·have hf:vw=.full:=by
     rcases IU with IU | IU
     ·exact absurd (Md.wQ.1 IU) hm
     ·cases vw with
      |full=>rfl
      |«from» _=>cases IU
      |sub _ _=>cases IU
    subst hf;have:=h5.go (c':=c.map ρ) (w':=w) (l':=l) (fun e=>absurd e hm) rfl (fun _ k hk=>⟨rfl,(Cz.nM hk).trans hρ⟩);simpa [View.lo,View.app] using this
theorem iG.Zd {c:Cz} {st:St} {w:World} {x:CV} {cs:List CV} {vs:List Value} (h:iG c st w (x::cs) vs):∃v l,vs=v::l∧pR c st w x v∧iG c st w cs l:=by
 obtain ⟨h1,h2⟩:=h
 cases vs with
 |nil=>simp at h1
 |cons v l=>exact ⟨v,l,rfl,h2 0 x v rfl rfl,by simpa using h1,fun i y u hy hu=>h2 (i+1) y u (by simpa using hy) (by simpa using hu)⟩
theorem pg {α:Type} (l m:List α) (n:Nat):nth (l++m) n=if n<l.length then nth l n else nth m (n-l.length):=by
 simp only [ng]
 by_cases h:n<l.length
 ·rw [if_pos h,List.getElem?_append_left h]
 ·rw [if_neg h,List.getElem?_append_right (by omega)]
theorem Db {w0:World} {mu:Mu} {c:Cz} {st:St} {a:Act} {w:World} (h:Rel w0 mu c st a w) {s j g:Nat} {A:nd} (hA:cE st s j g=some A):fy c w s j A:=by
 obtain ⟨sl,h1,_,h3⟩:=du hA;exact h.bQ s j sl A h1 h3
theorem Dc {st:St} {own:Bool} {q:RT} {y:aO q} {off:Nat} {o:OV} {u:Option Lb} {r:List (Nat×Nat)} (h:kU st own (.nK q y off)=some (o,u,r)):o=.nK q [y]∧u=none∧r=[]:=by
 unfold kU at h;obtain ⟨_,h⟩:=bH h;simp only [Option.some.injEq,Prod.mk.injEq] at h;exact ⟨h.1.symm,h.2.1.symm,h.2.2.symm⟩
theorem Br {st:St} {own:Bool} {q:RT} {y:List (aO q)} {off:Nat} {o:OV} {u:Option Lb} {r:List (Nat×Nat)} (h:kU st own (.xn q y off)=some (o,u,r)):o=.nK q y∧u=none∧r=[]:=by
 unfold kU at h;obtain ⟨_,h⟩:=bH h;simp only [Option.some.injEq,Prod.mk.injEq] at h;exact ⟨h.1.symm,h.2.1.symm,h.2.2.symm⟩
theorem QK {w0:World} {mu:Mu} {c:Cz} {st:St} {a:Act} {w:World} (h:Rel w0 mu c st a w) {own:Bool} {ρ:Lb→Option Lb} {f:Nat→Lb} {j:Nat} {x:CV} {v:Value} (hx:pR c st w x v) {o:OV} {u:Option Lb} {r:List (Nat×Nat)}
  (hc:kU st own x=some (o,u,r)) (hu:∀l,u=some l→ρ l=some (f j)) (hr:∀p∈r,ρ (.sp p.1 p.2)=none) {os:List OV} {l:List Value} (hh:cD (c.map ρ) w f (j+1) os l):cD (c.map ρ) w f j (o::os) (v::l):=by
 cases x with
 |int k n=>
  simp only [kU,Option.some.injEq,Prod.mk.injEq] at hc;obtain ⟨rfl,rfl,_⟩:=hc;have e:v=.int k n:=hx;exact ⟨l,by rw [e],hh⟩
 |bool n=>
  simp only [kU,Option.some.injEq,Prod.mk.injEq] at hc;obtain ⟨rfl,rfl,_⟩:=hc;have e:v=.bool n:=hx;exact ⟨l,by rw [e],hh⟩
 |str n=>
  simp only [kU,Option.some.injEq,Prod.mk.injEq] at hc;obtain ⟨rfl,rfl,_⟩:=hc;have e:v=.string n:=hx;exact ⟨l,by rw [e],hh⟩
 |gg=>
  simp only [kU,Option.some.injEq,Prod.mk.injEq] at hc;obtain ⟨rfl,rfl,_⟩:=hc;have e:v=.slice none 0 0:=hx;exact ⟨l,by rw [e],hh⟩
 |shr q xs=>
  simp only [kU,Option.some.injEq,Prod.mk.injEq] at hc;obtain ⟨rfl,rfl,_⟩:=hc;have e:ef w c.ok (.sl q) v xs:=hx;exact ⟨v,l,rfl,ef.stays ⟨Nat.le_refl _,fun _ _ _=>rfl,fun b _ hb=>Cz.wV hb⟩ _ _ _ e,hh⟩
 |nn q xs=>
  simp only [kU,Option.some.injEq,Prod.mk.injEq] at hc;obtain ⟨rfl,rfl,_⟩:=hc;have e:ef w c.ok (.sl q) v xs:=hx.1;exact ⟨v,l,rfl,ef.stays ⟨Nat.le_refl _,fun _ _ _=>rfl,fun b _ hb=>Cz.wV hb⟩ _ _ _ e,hh⟩
 |ref s k g vw=>
  unfold kU at hc;simp only at hc
  cases hA:cE st s k g with
  |none=>simp [hA] at hc
  |some A=>
   simp only [hA] at hc;have ha:=Db h hA;have hs:=hx.2.2 A hA;have agP:A.md.Ro=false:=by cases hm:A.md<;>simp_all [Md.Ro]
   have Gn:=agP;simp only [agP,cond_false] at hc
   cases hb:(own&&A.own&&(A.md.is .sh||vw.isFull)) with
   |true=>
    simp only [hb,cond_true,Option.some.injEq,Prod.mk.injEq] at hc;obtain ⟨rfl,rfl,rfl⟩:=hc;rw [Bool.and_eq_true,Bool.and_eq_true,Bool.or_eq_true] at hb;obtain ⟨lc,g1⟩:=UB ha hb.1.2 hx.1 hs (hu _ rfl) hb.2;exact ⟨v,l,rfl,⟨lc,g1⟩,hh⟩
   |false=>
    simp only [hb,cond_false,Option.some.injEq,Prod.mk.injEq] at hc;obtain ⟨rfl,rfl,rfl⟩:=hc;refine ⟨v,l,rfl,?_,hh⟩;refine CY ha hs (fun b hb=>Cz.wV hb) (fun b _ hk => ?_) Gn;exact (Cz.nM hk).trans (hr (s,k) (by simp))
 |bad=>simp [kU] at hc
 |OA=>simp [kU] at hc
 |ptr _ _ _=>simp [kU] at hc
 |Mv _ _ _ _ _=>simp [kU] at hc
 |nK q y off=>
  unfold kU at hc;obtain ⟨h1,hc⟩:=bH hc;have h1:=Nat.eq_of_beq_eq_true h1;subst h1;simp only [Option.some.injEq,Prod.mk.injEq] at hc;obtain ⟨rfl,rfl,_⟩:=hc;obtain ⟨b,o,e1,e2,e3,e4⟩:=hx;refine ⟨v,l,rfl,⟨b,o,e1,e2,Cz.wV e3,fun z hz => ?_⟩,hh⟩;simp at hz;subst hz;exact fx.stays ⟨Nat.le_refl _,fun _ _ _=>rfl,fun b _ hb=>Cz.wV hb⟩ _ _ _ _ rfl e4
 |xn q ys off=>
  unfold kU at hc;obtain ⟨h1,hc⟩:=bH hc;have h1:=Nat.eq_of_beq_eq_true h1;subst h1;simp only [Option.some.injEq,Prod.mk.injEq] at hc;obtain ⟨rfl,rfl,_⟩:=hc;obtain ⟨b,o,e1,e2,e3,e4⟩:=hx;exact ⟨v,l,rfl,⟨b,o,e1,e2,Cz.wV e3,fun z hz=>fx.stays ⟨Nat.le_refl _,fun _ _ _=>rfl,fun b _ hb=>Cz.wV hb⟩ _ _ _ _ rfl (e4 z hz)⟩,hh⟩
 |fn g rs ys=>
  simp only [kU,Option.some.injEq,Prod.mk.injEq] at hc;obtain ⟨rfl,rfl,_⟩:=hc;have hx:FnAt w c.ok g rs v ys:=hx;exact ⟨v,l,rfl,hx.stays ⟨Nat.le_refl _,fun _ _ _=>rfl,fun b _ hb=>Cz.wV hb⟩,hh⟩
theorem QL {w0:World} {mu:Mu} {c:Cz} {st:St} {a:Act} {w:World} (h:Rel w0 mu c st a w) {own:Bool} {ρ:Lb→Option Lb} {f:Nat→Lb}:(cs:List CV)→(vs:List Value)→(j:Nat)→iG c st w cs vs→{os:List OV}→{u:List (Option Lb)}→{r:List (Nat×Nat)}→
  jh st own cs=some (os,u,r)→(∀k l,nth u k=some (some l)→ρ l=some (f (j+k)))→(∀p∈r,ρ (.sp p.1 p.2)=none)→cD (c.map ρ) w f j os vs
 | [],vs,j,hl,os,u,r,he,_,_=>by
  simp only [jh,Option.some.injEq,Prod.mk.injEq] at he;obtain ⟨rfl,rfl,rfl⟩:=he;have:=hl.1;simp at this;exact List.length_eq_zero_iff.1 this.symm
 |x::cs,vs,j,hl,os,u,r,he,hu,hr=>by
  obtain ⟨v,l,rfl,hx,Bn⟩:=hl.Zd;unfold jh at he
  cases hc:kU st own x with
  |none=>simp [hc] at he
  |some p=>
   obtain ⟨o,u1,r1⟩:=p
   cases hq:jh st own cs with
   |none=>simp [hc,hq] at he
   |some q=>
    obtain ⟨Em,us,rs⟩:=q;simp only [hc,hq,Option.some.injEq,Prod.mk.injEq] at he;obtain ⟨rfl,rfl,rfl⟩:=he;refine QK h hx hc (fun l hl=>hu 0 l (by rw [hl];rfl)) (fun p hp=>hr p (List.mem_append_left _ hp)) ?_;refine QL h cs l (j+1) Bn hq (fun k' l' hk => ?_) (fun p hp=>hr p (List.mem_append_right _ hp));have:=hu (k'+1) l' hk
    rwa [show j+(k'+1)=j+1+k' by omega] at this
end Go.TM
namespace Go.TM
open Go Go.RowKit
def Lb.real:Lb→Bool
 |.box _=>true
 |.sp _ _=>true
 |_=>false
theorem Lb.Dd {x y:Lb} (hx:x.real=true):Lb.same x y=true↔x=y:=by
 cases x<;>cases y<;>simp [Lb.same,Lb.real] at hx ⊢
theorem rZ:(l:List Lb)→(∀x∈l,x.real=true)→x4 l=true→l.Nodup
 | [],_,_=>List.nodup_nil
 |x::l,hr,h=>by
  simp only [x4,Bool.and_eq_true,List.all_eq_true] at h;refine List.nodup_cons.2 ⟨fun hm => ?_,rZ l (fun y hy=>hr y (List.mem_cons_of_mem _ hy)) h.2⟩;have:=h.1 x hm;rw [(Lb.Dd (hr x List.mem_cons_self)).2 rfl] at this
  cases this
noncomputable def look:List (Lb×Lb)→Lb→Option Lb
 | [],_=>none
 |(x,y)::t,l=>have:=Classical.propDecidable (x=l);if x=l then some y else look t l
theorem De:(t:List (Lb×Lb))→(t.map (·.1)).Nodup→{p:Lb×Lb}→p∈t→look t p.1=some p.2
 | [],_,_,h=>by simp at h
 |(x,y)::t,hn,p,h=>by
  unfold look;simp only [List.map_cons,List.nodup_cons] at hn
  by_cases e:x=p.1
  ·rw [if_pos e];rcases List.mem_cons.1 h with rfl | h
   ·rfl
   ·exact absurd (List.mem_map.2 ⟨p,h,e.symm⟩) hn.1
  ·rw [if_neg e];rcases List.mem_cons.1 h with rfl | h
   ·exact absurd rfl e
   ·exact De t hn.2 h
theorem Bs:(t:List (Lb×Lb))→{l y:Lb}→look t l=some y→(l,y)∈t
 | [],_,_,h=>by simp [look] at h
 |(x,z)::t,l,y,h=>by
  unfold look at h
  by_cases e:x=l
  ·rw [if_pos e] at h
   cases h
   subst e;exact List.mem_cons_self
  ·rw [if_neg e] at h;exact List.mem_cons_of_mem _ (Bs t h)
def Df (f:Nat→Lb):(j:Nat)→List (Option Lb)→List (Lb×Lb)
 |_,[]=>[]
 |j,some l::ls=>(l,f j)::Df f (j+1) ls
 |j,none::ls=>Df f (j+1) ls
theorem Dg (f:Nat→Lb):(j:Nat)→(ls:List (Option Lb))→(Df f j ls).map (·.1)=dG ls
 |_,[]=>rfl
 |j,some l::ls=>by simp [Df,dG,Dg f (j+1) ls]
 |j,none::ls=>by simp [Df,dG,Dg f (j+1) ls]
theorem G4 (f:Nat→Lb):(j:Nat)→(ls:List (Option Lb))→∀p∈Df f j ls,∃k,p.2=f k
 |_,[],p,h=>by simp [Df] at h
 |j,some l::ls,p,h=>by
  simp only [Df,List.mem_cons] at h;rcases h with rfl | h
  ·exact ⟨j,rfl⟩
  ·exact G4 f (j+1) ls p h
 |j,none::ls,p,h=>G4 f (j+1) ls p h
theorem Ar (f:Nat→Lb):(j:Nat)→(ls:List (Option Lb))→∀k l,nth ls k=some (some l)→(l,f (j+k))∈Df f j ls
 |_,[],k,l,h=>by simp at h
 |j,x::ls,0,l,h=>by
  simp only [nth,Option.some.injEq] at h;subst h;exact List.mem_cons_self
 |j,x::ls,k+1,l,h=>by
  have:=Ar f (j+1) ls k l h;rw [show j+(k+1)=j+1+k by omega]
  cases x with
  |none=>exact this
  |some x=>exact List.mem_cons_of_mem _ this
theorem kX {l:Lb}:{ls:List (Option Lb)}→l∈dG ls↔some l∈ls
 | []=>by simp [dG]
 |none::ls=>by simp [dG,kX (ls:=ls)]
 |some x::ls=>by simp [dG,kX (ls:=ls)]
def OT (c:Cz):Option CV→Loc
 |some (.ref a j _ _)=>c.lc a j
 |_=>.nil
def Fy (c:Cz):V→Nat→Loc
 |.one (.ref a j _ _)=>fun _=>c.lc a j
 |.agg cs=>fun k=>OT c cs[k]?
 |_=>fun _=>.nil
theorem QM {st:St} {own:Bool}:(cs:List CV)→{os:List OV}→{u:List (Option Lb)}→{r:List (Nat×Nat)}→jh st own cs=some (os,u,r)→∀(k:Nat) (o:OV),os[k]?=some o→∃x u' r',cs[k]?=some x∧kU st own x=some (o,u',r')∧nth u k=some u'
 | [],_,_,_,h=>by
  simp only [jh,Option.some.injEq,Prod.mk.injEq] at h;obtain ⟨rfl,rfl,_⟩:=h;intro k o hk;simp at hk
 |x::cs,os,u,r,h=>by
  unfold jh at h
  cases hc:kU st own x with
  |none=>simp [hc] at h
  |some p=>
   obtain ⟨o,u1,r1⟩:=p
   cases hq:jh st own cs with
   |none=>simp [hc,hq] at h
   |some q=>
    obtain ⟨Em,us,rs⟩:=q;simp only [hc,hq,Option.some.injEq,Prod.mk.injEq] at h;obtain ⟨rfl,rfl,_⟩:=h;intro k o' hk
    cases k with
    |zero=>
     simp only [List.getElem?_cons_zero,Option.some.injEq] at hk;subst hk;exact ⟨x,u1,r1,rfl,hc,rfl⟩
    |succ k=>
     obtain ⟨y,u',r',h1,h2,h3⟩:=QM cs hq k o' (by simpa using hk);exact ⟨y,u',r',by simpa using h1,h2,h3⟩
theorem UC {st:St} {own:Bool} {x:CV} {A:nd} {u:Option Lb} {r:List (Nat×Nat)} (h:kU st own x=some (.own A,u,r)):∃a j g w B,x=.ref a j g w∧cE st a j g=some B∧A={ B with xs:=w.app B.xs }∧u=some (.sp a j)∧B.own=true:=by
 cases x with
 |ref a j g w=>
  unfold kU at h;simp only at h
  cases hA:cE st a j g with
  |none=>simp [hA] at h
  |some B=>
   simp only [hA] at h
   cases hm:B.md.Ro with
   |true=>simp [hm] at h
   |false=>
   simp only [hm,cond_false] at h
   cases hb:(own&&B.own&&(B.md.is .sh||w.isFull)) with
   |false=>simp [hb] at h
   |true=>
    simp only [hb,cond_true,Option.some.injEq,Prod.mk.injEq] at h;obtain ⟨h1,rfl,_⟩:=h;injection h1 with h1;rw [Bool.and_eq_true,Bool.and_eq_true] at hb;exact ⟨a,j,g,w,B,rfl,hA,h1.symm,rfl,hb.1.2⟩
 |nK q y off=>exact absurd (Dc h).1 (by simp)
 |xn q y off=>exact absurd (Br h).1 (by simp)
 |_=>simp [kU] at h
theorem RI {st:St} {own:Bool} {x:CV} {u:Option Lb} {r:List (Nat×Nat)} (h:kU st own x=some (.gg,u,r)):x=.gg:=by
 cases x with
 |ref a j g w=>
  unfold kU at h;simp only at h
  cases hA:cE st a j g with
  |none=>simp [hA] at h
  |some B=>
   simp only [hA] at h
   cases hm:B.md.Ro with
   |true=>simp [hm] at h
   |false=>
   simp only [hm,cond_false] at h
   cases hb:(own&&B.own&&(B.md.is .sh||w.isFull))<;>simp [hb] at h
 |gg=>rfl
 |nK q y off=>exact absurd (Dc h).1 (by simp)
 |xn q y off=>exact absurd (Br h).1 (by simp)
 |_=>simp [kU] at h
theorem JJ {st:St} {own:Bool} {x:CV} {o:OV} {u:Option Lb} {r:List (Nat×Nat)} (h:kU st own x=some (o,u,r)):∀l,u=some l→∃s j,l=.sp s j:=by
 cases x with
 |ref a j g w=>
  unfold kU at h;simp only at h
  cases hA:cE st a j g with
  |none=>simp [hA] at h
  |some A=>
   simp only [hA] at h
   cases hm:A.md.Ro with
   |true=>simp [hm] at h
   |false=>
   simp only [hm,cond_false] at h
   cases hb:(own&&A.own&&(A.md.is .sh||w.isFull))<;>simp only [hb,cond_true,cond_false,Option.some.injEq,Prod.mk.injEq] at h<;>obtain ⟨_,rfl,_⟩:=h<;>simp
 |nK q y off=>obtain ⟨_,rfl,_⟩:=Dc h;simp
 |xn q y off=>obtain ⟨_,rfl,_⟩:=Br h;simp
 |_=>simp [kU] at h<;>(try (obtain ⟨_,rfl,_⟩:=h;simp))
theorem Bt {st:St} {own:Bool}:(cs:List CV)→{os:List OV}→{u:List (Option Lb)}→{r:List (Nat×Nat)}→jh st own cs=some (os,u,r)→∀l∈dG u,∃s j,l=.sp s j
 | [],_,_,_,h=>by
  simp only [jh,Option.some.injEq,Prod.mk.injEq] at h;obtain ⟨_,rfl,_⟩:=h;simp [dG]
 |x::cs,os,u,r,h=>by
  unfold jh at h
  cases hc:kU st own x with
  |none=>simp [hc] at h
  |some p=>
   obtain ⟨o,u1,r1⟩:=p
   cases hq:jh st own cs with
   |none=>simp [hc,hq] at h
   |some q=>
    obtain ⟨Em,us,rs⟩:=q;simp only [hc,hq,Option.some.injEq,Prod.mk.injEq] at h;obtain ⟨_,rfl,_⟩:=h;intro l hl;rw [kX] at hl;rcases List.mem_cons.1 hl with hl | hl
    ·exact JJ hc l hl.symm
    ·exact Bt cs hq l (kX.2 hl)
theorem RJ {st:St} {own:Bool} (cs:List CV) {os:List OV} {u:List (Option Lb)} {r:List (Nat×Nat)} (h:jh st own cs=some (os,u,r)):∀l∈dG u,l.real=true:=by
 intro l hl;obtain ⟨s,j,rfl⟩:=Bt cs h l hl;rfl
def lS (i:Nat) (av:AV) (bx:List Lb) (u:List (Option Lb)):List (Lb×Lb):=
 bx.map (fun l=>(l,.xo i))++Df (.dw i) 0 u
theorem ph (i:Nat) (av:AV) (bx:List Lb) (u:List (Option Lb)):(lS i av bx u).map (·.1)=bx++dG u:=by
 unfold lS;rw [List.map_append,Dg,List.map_map]
 congr 1
 exact List.map_id bx
theorem pj (i:Nat) (av:AV) (bx:List Lb) (u:List (Option Lb)):∀p∈lS i av bx u,p.2.nh=true:=by
 intro p hp;unfold lS at hp;rcases List.mem_append.1 hp with hp | hp
 ·obtain ⟨l,_,rfl⟩:=List.mem_map.1 hp;rfl
 ·obtain ⟨k,e⟩:=G4 _ _ _ p hp;rw [e];rfl
theorem RK {w0:World} {mu:Mu} {c:Cz} {st:St} {a:Act} {w:World} (h:Rel w0 mu c st a w) {m:Pm} {v:V} {x:Value} (hx:gR c st w v x) {av:AV} {u q:List Lb} {r:List (Nat×Nat)} (he:jw st m v=some (av,u,q,r)) (i:Nat) :
  (∀l∈u,l.real=true)∧(∀l∈q,l∈u)∧∃tb:List (Lb×Lb),tb.map (·.1)=u∧(∀p∈tb,p.2.nh=true)∧∀ρ:Lb→Option Lb,(∀p∈tb,ρ p.1=some p.2)→(∀p∈r,ρ (.sp p.1 p.2)=none)→wA (c.map ρ) w i (Fy c v) av x:=by
 have vals:∀(own:Bool) (cs:List CV) (os:List OV) (us:List (Option Lb)) (rs:List (Nat×Nat)) (vs:List Value),iG c st w cs vs→jh st own cs=some (os,us,rs)→(∀l∈dG us,l.real=true)∧
   ∀ρ:Lb→Option Lb,(∀p∈Df (.dw i) 0 us,ρ p.1=some p.2)→(∀p∈rs,ρ (.sp p.1 p.2)=none)→cD (c.map ρ) w (.dw i) 0 os vs:=by
  intro own cs os us rs vs hl hq;refine ⟨RJ cs hq,fun ρ hp hr=>QL h cs vs 0 hl hq (fun k l hk => ?_) hr⟩;have:=hp _ (Ar (.dw i) 0 us k l hk);simpa using this
 have single:∀(own:Bool) (cx:CV) (os:List OV) (us:List (Option Lb)) (rs:List (Nat×Nat)),pR c st w cx x→jh st own [cx]=some (os,us,rs)→(∀l∈dG us,l.real=true)∧(∀l∈dG us,l∈dG us)∧
   ∃tb:List (Lb×Lb),tb.map (·.1)=dG us∧(∀p∈tb,p.2.nh=true)∧∀ρ:Lb→Option Lb,(∀p∈tb,ρ p.1=some p.2)→(∀p∈rs,ρ (.sp p.1 p.2)=none)→wA (c.map ρ) w i (Fy c (.one cx)) (.val false os) x:=by
  intro own cx os us rs hl hq;obtain ⟨g1,g2⟩:=vals own [cx] os us rs [x] ⟨rfl,fun k y z hy hz=>by
   cases k with
   |zero=>simp at hy hz;subst hy hz;exact hl
   |succ k=>simp at hy⟩ hq
  exact ⟨g1,fun _ h=>h,lS i (.val false os) [] us,ph _ _ _ _,pj _ _ _ _,fun ρ hp hr=>g2 ρ (fun p lE=>hp p (by simpa [lS] using lE)) hr⟩
 cases v with
 |pM _=>simp [jw] at he
 |agg cs=>
  obtain ⟨vs,rfl,hl⟩:=hx;have other:(match jh st m.qX cs with | some (os,u,r)=>some (AV.val true os,dG u,dG u,r) | none=>none)=some (av,u,q,r)→(∀l∈u,l.real=true)∧(∀l∈q,l∈u)∧
    ∃tb:List (Lb×Lb),tb.map (·.1)=u∧(∀p∈tb,p.2.nh=true)∧∀ρ:Lb→Option Lb,(∀p∈tb,ρ p.1=some p.2)→(∀p∈r,ρ (.sp p.1 p.2)=none)→wA (c.map ρ) w i (Fy c (.agg cs)) av (.agg vs):=by
   intro he
   cases hq:jh st m.qX cs with
   |none=>simp [hq] at he
   |some p=>
    obtain ⟨os,us,rs⟩:=p;simp only [hq,Option.some.injEq,Prod.mk.injEq] at he;obtain ⟨rfl,rfl,rfl,rfl⟩:=he;obtain ⟨g1,g2⟩:=vals _ _ _ _ _ _ hl hq;exact ⟨g1,fun _ h=>h,lS i (.val true os) [] us,ph _ _ _ _,pj _ _ _ _,fun ρ hp hr=>⟨vs,rfl,g2 ρ (fun p lE=>hp p (by simpa [lS] using lE)) hr⟩⟩
  unfold jw at he
  cases m with
  |shr=>exact other he
  |own=>exact other he
  |pick _=>exact other he
  |io=>exact other he
  |dO=>
   simp only at he
   cases hq:jh st true cs with
   |none=>simp [hq] at he
   |some p=>
    obtain ⟨os,us,rs⟩:=p;simp only [hq] at he;obtain ⟨ri,BE⟩:=bH he;simp only [Option.some.injEq,Prod.mk.injEq] at BE;obtain ⟨rfl,rfl,rfl,rfl⟩:=BE;obtain ⟨g1,g2⟩:=vals _ _ _ _ _ _ hl hq;refine ⟨g1,by simp,lS i (.val true os) [] us,ph _ _ _ _,pj _ _ _ _,fun ρ hp hr=>⟨vs,rfl,g2 ρ (fun p lE=>hp p (by simpa [lS] using lE)) hr,fun j o x ho hxj => ?_⟩⟩;obtain ⟨cx,u',r',k1,k2,k3⟩:=QM cs hq j o ho;show UA (c.map ρ) w i (fun k=>OT c cs[k]?) j o x
    cases o with
    |gg=>
     have:=RI k2;subst this;show OT c cs[j]?=.nil;rw [k1];rfl
    |own A=>
     obtain ⟨s,k,g,vw,B,rfl,hA,rfl,rfl,hB⟩:=UC k2;have Ga:CV.ref s k g vw∈cs:=List.mem_of_getElem? k1;have IU:=List.all_eq_true.1 ri _ Ga;have UD:vw=.full:=by
      unfold Ue at IU;rw [Bool.and_eq_true] at IU
      cases vw with
      |full=>rfl
      |«from» _=>cases IU.1
      |sub _ _=>cases IU.1
     subst UD;have hxr:=hl.2 j _ _ k1 hxj;have hs:=hxr.2.2 B hA;have ha:=Db h hA;have hρ:ρ (.sp s k)=some (.dw i j):=hp (.sp s k,.dw i j) (by
      have:=Ar (.dw i) 0 us j (.sp s k) k3;simpa [lS] using this)
     have al1:(fun k=>OT c cs[k]?) j=c.lc s k:=by
      show OT c cs[j]?=_;rw [k1];rfl
     show OwnAt (c.map ρ) w (.dw i j) ((fun k=>OT c cs[k]?) j) { B with xs:=View.full.app B.xs } x;rw [al1];refine ⟨hxr.1,hs,hB,?_⟩;show match c.lc s k with
      |.nil=>B.xs=[]
      |.at b off cap=>_
     unfold fy at ha
     cases m9:c.lc s k with
     |nil=>rw [m9] at ha;exact ha
     |«at» b off cap=>
      rw [m9] at ha;obtain ⟨h0,h2,h3,h4⟩:=ha;rw [hB] at h0;exact ⟨(Cz.nM h0).trans hρ,h2,h3,h4.map hρ⟩
    |_=>trivial
 |one cx=>
  cases cx with
  |ptr b g off=>
   unfold jw at he;simp only at he
   cases hb:fL st b g with
   |none=>simp [hb] at he
   |some cs=>
    simp only [hb] at he
    cases hq:jh st true cs with
    |none=>simp [hq] at he
    |some p=>
     obtain ⟨os,us,rs⟩:=p;simp only [hq] at he;obtain ⟨ho,BE⟩:=bH he;have ho1:=Nat.eq_of_beq_eq_true ho;simp only [Option.some.injEq,Prod.mk.injEq] at BE;obtain ⟨rfl,rfl,rfl,rfl⟩:=BE;subst ho1;obtain ⟨sl,k1,k2,k3⟩:=jR hb;obtain ⟨h1,vs,ty,h2,h3⟩:=h.boxes b sl cs k1 k3;obtain ⟨g1,g2⟩:=vals _ _ _ _ _ _ h3 hq;refine ⟨fun l hl => ?_,fun l hl=>List.mem_cons_of_mem _ hl,lS i (.box os) [.box b] us,by rw [ph];rfl,pj _ _ _ _,fun ρ hp hr=>⟨c.bx b,vs,ty,hx.2.2 cs hb,?_,h2,g2 ρ (fun p lE=>hp p (List.mem_append_right _ lE)) hr⟩⟩
     ·rcases List.mem_cons.1 hl with rfl | hl
      ·rfl
      ·exact g1 l hl
     ·exact (Cz.nM h1).trans (hp (.box b,.xo i) (by simp [lS]))
  |ref s j g vw=>
   unfold jw at he;have other:(match jh st m.qX [.ref s j g vw] with | some (os,u,r)=>some (AV.val false os,dG u,dG u,r) | none=>none)=some (av,u,q,r)→(∀l∈u,l.real=true)∧(∀l∈q,l∈u)∧
     ∃tb:List (Lb×Lb),tb.map (·.1)=u∧(∀p∈tb,p.2.nh=true)∧∀ρ:Lb→Option Lb,(∀p∈tb,ρ p.1=some p.2)→(∀p∈r,ρ (.sp p.1 p.2)=none)→wA (c.map ρ) w i (Fy c (.one (.ref s j g vw))) av x:=by
    intro he
    cases hq:jh st m.qX [.ref s j g vw] with
    |none=>simp [hq] at he
    |some p=>
     obtain ⟨os,us,rs⟩:=p;simp only [hq,Option.some.injEq,Prod.mk.injEq] at he;obtain ⟨rfl,rfl,rfl,rfl⟩:=he;exact single _ _ _ _ _ hx hq
   cases m with
   |shr=>exact other he
   |own=>exact other he
   |pick _=>exact other he
   |dO=>exact other he
   |io=>
    cases vw with
    |full=>
     cases hA:cE st s j g with
     |none=>simp [hA] at he
     |some A=>
      simp only [hA] at he;obtain ⟨ho,BE⟩:=bH he;rw [Bool.and_eq_true] at ho;have ho:=ho.1;simp only [Option.some.injEq,Prod.mk.injEq] at BE;obtain ⟨rfl,rfl,rfl,rfl⟩:=BE;refine ⟨by simp [Lb.real],by simp,[(.sp s j,.dw i 0)],rfl,by simp [Lb.nh],fun ρ hp _ => ?_⟩;have ha:=Db h hA;have hs:=hx.2.2 A hA;have hρ:ρ (.sp s j)=some (.dw i 0):=hp (.sp s j,.dw i 0) (by simp);refine ⟨hx.1,hs,ho,?_⟩;show match c.lc s j with
       |.nil=>A.xs=[]
       |.at b off cap=>_
      unfold fy at ha
      cases m9:c.lc s j with
      |nil=>rw [m9] at ha;exact ha
      |«at» b off cap=>
       rw [m9] at ha;obtain ⟨h0,h2,h3,h4⟩:=ha;rw [ho] at h0;exact ⟨(Cz.nM h0).trans hρ,h2,h3,h4.map hρ⟩
    |«from» _=>simp at he
    |sub _ _=>simp at he
  |_=>
   unfold jw at he;simp only at he
   split at he
   ·rename_i os us rs hq;simp only [Option.some.injEq,Prod.mk.injEq] at he;obtain ⟨rfl,rfl,rfl,rfl⟩:=he;exact single _ _ _ _ _ hx hq
   ·cases he
theorem JK {w0:World} {mu:Mu} {c:Cz} {st:St} {a:Act} {w:World} (h:Rel w0 mu c st a w):(ms:List (Pm×V))→(i:Nat)→(xs:List Value)→ms.length=xs.length→(∀(k:Nat) (m:Pm×V) (x:Value),ms[k]?=some m→xs[k]?=some x→gR c st w m.2 x)→
  {fP:List AV}→{u q:List Lb}→{r:List (Nat×Nat)}→oe st ms=some (fP,u,q,r)→
  (∀l∈u,l.real=true)∧(∀l∈q,l∈u)∧∃tb:List (Lb×Lb),tb.map (·.1)=u∧(∀p∈tb,p.2.nh=true)∧fP.length=ms.length∧
   ∀(ρ:Lb→Option Lb) (lc:Nat→Nat→Loc),(∀(k:Nat) (m:Pm×V),ms[k]?=some m→lc (i+k)=Fy c m.2)→(∀p∈tb,ρ p.1=some p.2)→(∀p∈r,ρ (.sp p.1 p.2)=none)→Cb (c.map ρ) w lc i fP xs
 | [],i,xs,hl,hx,fP,u,q,r,he=>by
  simp only [oe,Option.some.injEq,Prod.mk.injEq] at he;obtain ⟨rfl,rfl,rfl,rfl⟩:=he;simp at hl;exact ⟨by simp,by simp,[],rfl,by simp,rfl,fun ρ lc _ _ _=>List.length_eq_zero_iff.1 hl.symm⟩
 |(m,v)::ms,i,xs,hl,hx,fP,u,q,r,he=>by
  cases xs with
  |nil=>simp at hl
  |cons x xs=>
   unfold oe at he
   cases h1:jw st m v with
   |none=>simp [h1] at he
   |some p1=>
    obtain ⟨av,u1,q1,r1⟩:=p1
    cases h2:oe st ms with
    |none=>simp [h1,h2] at he
    |some p2=>
     obtain ⟨aah,u2,q2,r2⟩:=p2;simp only [h1,h2,Option.some.injEq,Prod.mk.injEq] at he;obtain ⟨rfl,rfl,rfl,rfl⟩:=he;obtain ⟨a1,a2,ta,a4,a5,a3⟩:=RK h (hx 0 (m,v) x rfl rfl) h1 i;obtain ⟨b1,b2,tb,b3,b4,b6,b5⟩:=JK h ms (i+1) xs (by simpa using hl) (fun k m x hm QC=>hx (k+1) m x (by simpa using hm) (by simpa using QC)) h2;refine ⟨fun l hl => ?_,fun l hl => ?_,ta++tb,by simp [a4,b3],fun p hp => ?_,by simp [b6],fun ρ lc m9 hp hr => ?_⟩
     ·rcases List.mem_append.1 hl with hl | hl
      ·exact a1 l hl
      ·exact b1 l hl
     ·rcases List.mem_append.1 hl with hl | hl
      ·exact List.mem_append_left _ (a2 l hl)
      ·exact List.mem_append_right _ (b2 l hl)
     ·rcases List.mem_append.1 hp with hp | hp
      ·exact a5 p hp
      ·exact b4 p hp
     ·refine ⟨x,xs,rfl,?_,b5 ρ lc (fun k m hm => ?_) (fun p lE=>hp p (List.mem_append_right _ lE)) (fun p lE=>hr p (List.mem_append_right _ lE))⟩
      ·have:=m9 0 (m,v) rfl;simp only [Nat.add_zero] at this;rw [this];exact a3 ρ (fun p lE=>hp p (List.mem_append_left _ lE)) (fun p lE=>hr p (List.mem_append_left _ lE))
      ·have:=m9 (k+1) m (by simpa using hm)
       rwa [show i+(k+1)=i+1+k by omega] at this
end Go.TM
namespace Go.TM
open Go Go.RowKit
structure ni (X:Lb→Prop) (w0:World) (mu:Mu) (c:Cz) (st:St) (a:Act) (w:World):Prop where
 iX:∀t,gR c st w (dF st t) (a.eval (.tmp t))
 boxes:∀s sl cs,¬X (.box s)→nth st s=some sl→sl.box=some cs→Ak c st w s cs
 bQ:∀s j sl A,¬X (.sp s j)→nth st s=some sl→nth sl.bQ j=some (some A)→fy c w s j A
 owned:∀b l,c.own b=some l→b<w.heap.size∧(l=.out∨w0.heap.size≤b∨mu.m b)
 free:∀b,b<w0.heap.size→c.own b=none→mu.m b∨mu.ok b
 kept:w.os=w0.os∧w.tape=w0.tape∧w.output=w0.output∧w0.heap.size≤w.heap.size
 old:∀k,k<w0.heap.size→¬mu.m k→w.heap[k]?=w0.heap[k]?
 plain:a.defers=[]
 gS:∀p∈mu.an,XE c st p
theorem ni.rel {w0:World} {mu:Mu} {c:Cz} {st:St} {a:Act} {w:World} (h:ni (fun _=>False) w0 mu c st a w):Rel w0 mu c st a w:=
 ⟨h.iX,fun s sl cs=>h.boxes s sl cs id,fun s j sl A=>h.bQ s j sl A id,h.owned,h.free,h.kept,h.old,h.plain,h.gS⟩
structure Fz (ρ:Lb→Lb):Prop where
 other:∀l,(l=.out∨l.real=true)→ρ l=l
def Cz.gT (c:Cz) (ρ:Lb→Lb) (bx:Nat→Nat) (lc:Nat→Nat→Loc):Cz:={ bx:=bx,lc:=lc,own:=fun b=>(c.own b).map ρ }
theorem Cz.sa {c:Cz} {ρ:Lb→Lb} {bx:Nat→Nat} {lc:Nat→Nat→Loc} {b:Nat}:(c.gT ρ bx lc).ok b↔c.ok b:=by
 unfold Cz.ok Cz.gT;simp
theorem rj (c:Cz) (w:World) (ρ:Lb→Lb) (bx:Nat→Nat) (lc:Nat→Nat→Loc):kV w w c.ok (c.gT ρ bx lc).ok:=⟨Nat.le_refl _,fun _ _ _=>rfl,fun _ _ h=>Cz.sa.2 h⟩
theorem ni.gT {X X':Lb→Prop} {w0:World} {mu:Mu} {c:Cz} {st bN:St} {a:Act} {w:World} (h:ni X w0 mu c st a w) {ρ:Lb→Lb} {bx:Nat→Nat} {lc:Nat→Nat→Loc} (hρ:Fz ρ)
  (lJ:Fw c st w (c.gT ρ bx lc) bN w) (agQ:∀t,gR (c.gT ρ bx lc) bN w (dF bN t) (a.eval (.tmp t)))
  (al2:∀s sl cs,¬X' (.box s)→nth bN s=some sl→sl.box=some cs→Ak (c.gT ρ bx lc) bN w s cs)
  (Et:∀s j sl A,¬X' (.sp s j)→nth bN s=some sl→nth sl.bQ j=some (some A)→fy (c.gT ρ bx lc) w s j A):ni X' w0 mu (c.gT ρ bx lc) bN a w where
 iX:=agQ
 boxes:=al2
 bQ:=Et
 owned b l hb:=by
  unfold Cz.gT at hb;simp only [Option.map_eq_some_iff] at hb;obtain ⟨k,hk,e⟩:=hb;obtain ⟨h1,h2⟩:=h.owned b k hk;refine ⟨h1,h2.imp (fun e2 => ?_) id⟩;subst e2;rw [←e];exact hρ.other _ (.inl rfl)
 free b hb h1:=h.free b hb (by unfold Cz.gT at h1;simpa using h1)
 kept:=h.kept
 old:=h.old
 plain:=h.plain
 gS p hp:=lJ.gS (h.gS p hp)
theorem lT (st:St) (s j:Nat) (A:Option nd) (k:Nat):∃f:Sl→Sl,(∀x,(f x).v=x.v∧(f x).box=x.box∧(f x).bg=x.bg∧(f x).ag=x.ag∧
   (∀i,nth (f x).bQ i=if k=s∧i=j then (nth x.bQ i).map (fun _=>A) else nth x.bQ i)∧(f x).ep=if k=s then x.ep+1 else x.ep)∧nth (eS st s j A) k=(nth st k).map f:=by
 unfold eS
 by_cases e:k=s
 ·subst e;refine ⟨fun s=>{ s with bQ:=sM (fun _=>A) s.bQ j,ep:=s.ep+1 },fun x=>⟨rfl,rfl,rfl,rfl,fun i => ?_,by simp⟩,pQ _ _ _⟩;simp only [kS,true_and]
 ·refine ⟨id,fun x=>⟨rfl,rfl,rfl,rfl,fun i => ?_,by simp [e]⟩,by rw [uX _ _ e];simp⟩;simp [e]
theorem G5 (st:St) (s j:Nat) (A:Option nd) (t:Nat):wk st t≤wk (eS st s j A) t∧(wk (eS st s j A) t=wk st t→t≠s∨nth st t=none):=by
 obtain ⟨f,hf,hk⟩:=lT st s j A t;unfold wk;rw [hk]
 cases nth st t with
 |none=>simp
 |some x=>
  simp only [Option.map_some];rw [(hf x).2.2.2.2.2]
  by_cases e:t=s
  ·rw [if_pos e];exact ⟨by omega,fun h=>by omega⟩
  ·rw [if_neg e];exact ⟨Nat.le_refl _,fun _=>.inl e⟩
theorem FA (st:St) (s j:Nat) (A:Option nd) (t:Nat):dF (eS st s j A) t=dF st t:=by
 obtain ⟨f,hf,hk⟩:=lT st s j A t;unfold dF;rw [hk]
 cases nth st t with
 |none=>rfl
 |some x=>exact (hf x).1
theorem G6 (st:St) (s j:Nat) (A:Option nd) (t:Nat):gD (eS st s j A) t=gD st t∧jO (eS st s j A) t=jO st t:=by
 obtain ⟨f,hf,hk⟩:=lT st s j A t;unfold gD jO;rw [hk]
 cases nth st t with
 |none=>exact ⟨rfl,rfl⟩
 |some x=>exact ⟨(hf x).2.2.2.1,(hf x).2.2.1⟩
theorem MN (st:St) (s j:Nat) (A:Option nd) (b g:Nat):fL (eS st s j A) b g=fL st b g:=by
 obtain ⟨f,hf,hk⟩:=lT st s j A b;unfold fL;rw [hk]
 cases nth st b with
 |none=>rfl
 |some x=>simp [(hf x).2.1,(hf x).2.2.1]
theorem Bu {st:St} {a j g:Nat} {sl:Sl} {A:nd} (h1:nth st a=some sl) (h2:sl.ag=g) (h3:nth sl.bQ j=some (some A)):cE st a j g=some A:=by
 unfold cE;rw [h1];simp [h2,h3]
theorem JL {c:Cz} {st:St} {w:World} {s j g:Nat} {A:Option nd} {A0:nd} (h0:cE st s j g=some A0∨A=none) (hA:∀B,A=some B→B.r.width=A0.r.width∧B.xs.length=A0.xs.length) (ρ:Lb→Lb) :
  Fw c st w (c.gT ρ c.bx c.lc) (eS st s j A) w where
 stays:=rj c w ρ _ _
 refs a' j' g' A' hg ig:=by
  obtain ⟨sl,k1,k2,k3⟩:=du ig;obtain ⟨f,hf,hk⟩:=lT st s j A a';rw [hk] at k1
  cases hx:nth st a' with
  |none=>rw [hx] at k1;simp at k1
  |some x=>
   rw [hx] at k1;simp at k1;subst k1;rw [(hf x).2.2.2.1] at k2;rw [(hf x).2.2.2.2.1 j'] at k3
   by_cases e:a'=s∧j'=j
   ·rw [if_pos e] at k3;obtain ⟨rfl,rfl⟩:=e
    cases hq:nth x.bQ j' with
    |none=>simp [hq] at k3
    |some A1=>
     simp only [hq,Option.map_some,Option.some.injEq] at k3;rcases h0 with h0 | h0
     ·obtain ⟨sl,k1',k2',k3'⟩:=du h0;rw [hx] at k1';cases k1';obtain ⟨e1,e2⟩:=hA A' k3;refine ⟨A0,Bu hx k2 k3',e1,e2,rfl,fun he => ?_⟩;rcases (G5 st a' j' A a').2 he with h | h
      ·exact absurd rfl h
      ·rw [hx] at h;cases h
     ·rw [h0] at k3;cases k3
   ·rw [if_neg e] at k3;exact ⟨A',Bu hx k2 k3,rfl,rfl,rfl,fun _=>⟨rfl,fun _ _ _ _=>rfl⟩⟩
 GD b g' cs _ h:=⟨⟨cs,by rwa [MN] at h⟩,rfl⟩
 gA a':=by rw [(G6 st s j A a').1];exact Nat.le_refl _
 gB a':=by rw [(G6 st s j A a').2];exact Nat.le_refl _
 gE a':=(G5 st s j A a').1
theorem Ak.gT {c:Cz} {st bN:St} {w:World} {ρ:Lb→Lb} {bx:Nat→Nat} {lc:Nat→Nat→Loc} (hρ:Fz ρ) (lJ:Fw c st w (c.gT ρ bx lc) bN w) {s:Nat} {cs:List CV} (h:Ak c st w s cs) (hb:bx s=c.bx s):Ak (c.gT ρ bx lc) bN w s cs:=by
 refine h.go lJ hb ?_ rfl;unfold Cz.gT;simp only;rw [h.1];simp [hρ.other (.box s) (.inr rfl)]
theorem fy.gT {c:Cz} {w:World} {ρ:Lb→Lb} {bx:Nat→Nat} {lc:Nat→Nat→Loc} (hρ:Fz ρ) {s j:Nat} {A:nd} (h:fy c w s j A) (hl:lc s j=c.lc s j):fy (c.gT ρ bx lc) w s j A:=by
 refine h.go (rj c w ρ bx lc) hl (fun b h0=>⟨rfl,?_⟩);unfold Cz.gT;simp only;rw [h0];simp [hρ.other (.sp s j) (.inr rfl)]
theorem G7:Fz id:=⟨fun _ _=>rfl⟩
theorem ni.kill {X:Lb→Prop} {w0:World} {mu:Mu} {c:Cz} {st:St} {a:Act} {w:World} (h:ni X w0 mu c st a w) (s j:Nat):ni (fun l=>X l∧l≠.sp s j) w0 mu (c.gT id c.bx c.lc) (eS st s j none) a w∧Fw c st w (c.gT id c.bx c.lc) (eS st s j none) w:=by
 have lJ:Fw c st w (c.gT id c.bx c.lc) (eS st s j none) w:=JL (g:=0) (A0:={ r:=.nil,own:=false,xs:=[] }) (.inr rfl) (fun _ e=>by cases e) id;refine ⟨h.gT G7 lJ (fun t=>by rw [FA];exact lJ.uY (h.iX t)) (fun k sl cs hX hs hb => ?_) (fun k i sl A hX hs hA => ?_),lJ⟩
 ·obtain ⟨f,hf,hk⟩:=lT st s j none k;rw [hk] at hs
  cases hx:nth st k with
  |none=>rw [hx] at hs;simp at hs
  |some x=>
   rw [hx] at hs;simp at hs;subst hs;rw [(hf x).2.1] at hb;exact (h.boxes k x cs (fun RL=>hX ⟨RL,by simp⟩) hx hb).gT G7 lJ rfl
 ·obtain ⟨f,hf,hk⟩:=lT st s j none k;rw [hk] at hs
  cases hx:nth st k with
  |none=>rw [hx] at hs;simp at hs
  |some x=>
   rw [hx] at hs;simp at hs;subst hs;rw [(hf x).2.2.2.2.1 i] at hA
   by_cases e:k=s∧i=j
   ·rw [if_pos e] at hA
    cases hq:nth x.bQ i<;>simp [hq] at hA
   ·rw [if_neg e] at hA;exact (h.bQ k i x A (fun RL=>hX ⟨RL,by rintro e';injection e' with e1 e2;exact e ⟨e1,e2⟩⟩) hx hA).gT G7 rfl
theorem ni.mono {X X':Lb→Prop} {w0:World} {mu:Mu} {c:Cz} {st:St} {a:Act} {w:World} (h:ni X w0 mu c st a w) (hX:∀l,X l→X' l):ni X' w0 mu c st a w:=
 ⟨h.iX,fun s sl cs hn=>h.boxes s sl cs (fun h=>hn (hX _ h)),fun s j sl A hn=>h.bQ s j sl A (fun h=>hn (hX _ h)),h.owned,h.free,h.kept,h.old,h.plain,h.gS⟩
def wW (i z s j:Nat):Lb→Lb
 |.dw x y=>if x=i∧y=z then .sp s j else .dw x y
 |l=>l
def tT (i b:Nat):Lb→Lb
 |.dw x y=>if x=i then .sp b y else .dw x y
 |.xo x=>if x=i then .box b else .xo x
 |l=>l
theorem Lo (i z s j:Nat):Fz (wW i z s j):=⟨fun l h=>by cases l<;>simp [wW,Lb.real] at h ⊢⟩
theorem I0 (i b:Nat):Fz (tT i b):=⟨fun l h=>by cases l<;>simp [tT,Lb.real] at h ⊢⟩
theorem OwnAt.arr {c:Cz} {w:World} {l:Lb} {lc':Loc} {A:nd} {v:Value} (h:OwnAt c w l lc' A v) {ρ:Lb→Lb} {bx:Nat→Nat} {lc:Nat→Nat→Loc} {s j:Nat} (hl:lc s j=lc') (hρ:ρ l=.sp s j):fy (c.gT ρ bx lc) w s j A:=by
 obtain ⟨_,_,h3,h4⟩:=h;unfold fy;show match lc s j with | .nil=>_ | .at b off cap=>_
 rw [hl]
 cases lc' with
 |nil=>exact h4
 |«at» b off cap=>
  obtain ⟨g1,g2,g3,g4⟩:=h4;rw [h3];have hq:∀k,c.own k=some l→(c.gT ρ bx lc).own k=some (.sp s j):=by
   intro k hk;show (c.own k).map ρ=_;rw [hk];simp [hρ]
  exact ⟨hq b g1,g2,g3,g4.go (fun _=>rj c w ρ bx lc) rfl (fun _ k hk=>⟨rfl,hq k hk⟩)⟩
theorem ni.io {X:Lb→Prop} {w0:World} {mu:Mu} {c:Cz} {st:St} {a:Act} {w:World} (h:ni X w0 mu c st a w) {s j g i z:Nat} {A B:nd} {v:Value} (hA:cE st s j g=some A) (hw:B.r.width=A.r.width) (hn:B.xs.length=A.xs.length)
  (hB:OwnAt c w (.dw i z) (c.lc s j) B v):ni (fun l=>X l∧l≠.sp s j) w0 mu (c.gT (wW i z s j) c.bx c.lc) (eS st s j (some B)) a w∧Fw c st w (c.gT (wW i z s j) c.bx c.lc) (eS st s j (some B)) w:=by
 have lJ:Fw c st w (c.gT (wW i z s j) c.bx c.lc) (eS st s j (some B)) w:=JL (.inl hA) (fun _ e=>by cases e;exact ⟨hw,hn⟩) _;have ht:=Lo i z s j;refine ⟨h.gT ht lJ (fun t=>by rw [FA];exact lJ.uY (h.iX t)) (fun k sl cs hX hs hb => ?_) (fun k q sl A' hX hs ig => ?_),lJ⟩
 ·obtain ⟨f,hf,hk⟩:=lT st s j (some B) k;rw [hk] at hs
  cases hx:nth st k with
  |none=>rw [hx] at hs;simp at hs
  |some x=>
   rw [hx] at hs;simp at hs;subst hs;rw [(hf x).2.1] at hb;exact (h.boxes k x cs (fun RL=>hX ⟨RL,by simp⟩) hx hb).gT ht lJ rfl
 ·obtain ⟨f,hf,hk⟩:=lT st s j (some B) k;rw [hk] at hs
  cases hx:nth st k with
  |none=>rw [hx] at hs;simp at hs
  |some x=>
   rw [hx] at hs;simp at hs;subst hs;rw [(hf x).2.2.2.2.1 q] at ig
   by_cases e:k=s∧q=j
   ·rw [if_pos e] at ig;obtain ⟨rfl,rfl⟩:=e
    cases hq:nth x.bQ q with
    |none=>simp [hq] at ig
    |some A1=>
     simp only [hq,Option.map_some,Option.some.injEq] at ig;subst ig;exact hB.arr rfl (by simp [wW])
   ·rw [if_neg e] at ig;exact (h.bQ k q x A' (fun RL=>hX ⟨RL,by rintro e';injection e' with e1 e2;exact e ⟨e1,e2⟩⟩) hx ig).gT ht rfl
theorem cD.cells {c:Cz} {w:World} {f:Nat→Lb}:(os:List OV)→(j:Nat)→(vs:List Value)→cD c w f j os vs→
  ∃lcs:Nat→Loc,(∀k A,nth (cj os) k=some (some A)→∃v,OwnAt c w (f (j+k)) (lcs (j+k)) A v)∧
   ∀(c2:Cz) (lK:St) (d g:Nat),(∀b,c.ok b→c2.ok b)→(∀k,k<os.length→c2.lc d (j+k)=lcs (j+k))→(∀k A,k<os.length→cE lK d (j+k) g=some A→nth (cj os) k=some (some A))→g≤gD lK d→iG c2 lK w (bT d g j os) vs
 | [],j,vs,h=>by
  subst h;exact ⟨fun _=>.nil,fun k A hA=>by simp [cj] at hA,fun _ _ _ _ _ _ _ _=>⟨rfl,fun i x v hx=>by simp [bT] at hx⟩⟩
 |o::os,j,vs,h=>by
  obtain ⟨v,l,rfl,hh,GP⟩:∃v l,vs=v::l∧cD c w f (j+1) os l∧∃lc,(∀A,o.arr=some A→OwnAt c w (f j) lc A v)∧∀(c2:Cz) (lK:St) (d g:Nat),(∀b,c.ok b→c2.ok b)→c2.lc d j=lc→(∀A,cE lK d j g=some A→o.arr=some A)→g≤gD lK d→
    ∃x,bT d g j (o::os)=x::bT d g (j+1) os∧pR c2 lK w x v:=by
   cases o with
   |int k n=>obtain ⟨l,h1,h2⟩:=h;exact ⟨_,l,h1,h2,.nil,(fun _ e=>by cases e),fun c2 lK d g _ _ _ _=>⟨_,rfl,rfl⟩⟩
   |bool b=>obtain ⟨l,h1,h2⟩:=h;exact ⟨_,l,h1,h2,.nil,(fun _ e=>by cases e),fun c2 lK d g _ _ _ _=>⟨_,rfl,rfl⟩⟩
   |str b=>obtain ⟨l,h1,h2⟩:=h;exact ⟨_,l,h1,h2,.nil,(fun _ e=>by cases e),fun c2 lK d g _ _ _ _=>⟨_,rfl,rfl⟩⟩
   |gg=>obtain ⟨l,h1,h2⟩:=h;exact ⟨_,l,h1,h2,.nil,(fun _ e=>by cases e),fun c2 lK d g _ _ _ _=>⟨_,rfl,rfl⟩⟩
   |shr r xs=>
    obtain ⟨v,l,h1,h2,h3⟩:=h;exact ⟨v,l,h1,h3,.nil,(fun _ e=>by cases e),fun c2 lK d g iR _ _ _=>⟨.shr r xs,rfl,ef.stays ⟨Nat.le_refl _,fun _ _ _=>rfl,fun b _ hb=>iR b hb⟩ _ _ _ h2⟩⟩
   |nK r xs=>
    obtain ⟨v,l,h1,⟨b,o,e1,e2,e3,e4⟩,h3⟩:=h;exact ⟨v,l,h1,h3,.nil,(fun _ e=>by cases e),fun c2 lK d g iR _ _ _=>⟨.xn r xs 0,rfl,b,o,e1,e2,iR b e3,fun x hx=>fx.stays ⟨Nat.le_refl _,fun _ _ _=>rfl,fun b _ hb=>iR b hb⟩ _ _ _ _ rfl (e4 x hx)⟩⟩
   |fn g rs xs=>
    obtain ⟨v,l,h1,h2,h3⟩:=h;exact ⟨v,l,h1,h3,.nil,(fun _ e=>by cases e),fun c2 lK d g' iR _ _ _=>⟨.fn g rs xs,rfl,h2.stays ⟨Nat.le_refl _,fun _ _ _=>rfl,fun b _ hb=>iR b hb⟩⟩⟩
   |own A=>
    obtain ⟨v,l,h1,⟨lc,h2⟩,h3⟩:=h;refine ⟨v,l,h1,h3,lc,(fun A' e=>by cases e;exact h2),fun c2 lK d g _ m9 Et hg=>⟨.ref d j g .full,rfl,h2.1,hg,fun A' ig => ?_⟩⟩;have e:=Et A' ig
    cases e
    rw [m9];exact h2.2.1
  obtain ⟨lc,q1,q2⟩:=GP;obtain ⟨lcs,g1,g2⟩:=cD.cells os (j+1) l hh;refine ⟨fun k=>if k=j then lc else lcs k,fun k A' ig => ?_,fun c2 lK d g iR m9 Et hg => ?_⟩
  ·cases k with
   |zero=>
    simp only [cj,nth,Option.some.injEq] at ig;exact ⟨v,by simpa using q1 A' ig⟩
   |succ k=>
    have:=g1 k A' ig;rw [show j+1+k=j+(k+1) by omega] at this;show ∃v,OwnAt c w (f (j+(k+1))) (if j+(k+1)=j then lc else lcs (j+(k+1))) A' v;rw [if_neg (by omega)];exact this
  ·have gG:=g2 c2 lK d g iR (fun k hk=>by
    have:c2.lc d (j+(k+1))=if j+(k+1)=j then lc else lcs (j+(k+1)):=m9 (k+1) (by simp;exact hk)
    rw [if_neg (by omega)] at this;rw [show j+1+k=j+(k+1) by omega];exact this) (fun k A' hk ig=>by
     have:=Et (k+1) A' (by simp;exact hk) (by rw [show j+(k+1)=j+1+k by omega];exact ig);exact this) hg
   have h0:c2.lc d j=lc:=by
    have:=m9 0 (by simp);simpa using this
   obtain ⟨x,e1,e2⟩:=q2 c2 lK d g iR h0 (fun A hA=>by
    have:=Et 0 A (by simp) hA;simpa [cj,nth] using this) hg
   rw [e1];refine ⟨by simp [gG.1],fun k y z hy hz => ?_⟩
   cases k with
   |zero=>
    simp only [List.getElem?_cons_zero,Option.some.injEq] at hy hz;subst hy hz;exact e2
   |succ k=>exact gG.2 k y z (by simpa using hy) (by simpa using hz)
theorem ni.boxed {X:Lb→Prop} {w0:World} {mu:Mu} {c:Cz} {st:St} {a:Act} {w:World} (h:ni X w0 mu c st a w) {b g i:Nat} {s0:Sl} {TY:List CV} {os:List OV} {v:Value} (mL:nth st b=some s0) (GM:fL st b g=some TY) (hv:v=.pointer (some ⟨c.bx b,0,none⟩))
  (hB:JI c w i os v):∃c',ni (fun l=>X l∧l≠.box b) w0 mu c' (sM (fun s=>{ s with box:=some (bT b (s0.ag+1) 0 os),bQ:=cj os,ag:=s0.ag+1 }) st b) a w∧
   Fw c st w c' (sM (fun s=>{ s with box:=some (bT b (s0.ag+1) 0 os),bQ:=cj os,ag:=s0.ag+1 }) st b) w∧Pass c c' (fun l=>(∀y,l≠.dw i y)∧l≠.xo i):=by
 obtain ⟨qZ,vs,ty,h1,h2,h3,h4⟩:=hB;obtain ⟨lcs,g1,g2⟩:=cD.cells os 0 _ h4;rw [hv] at h1;have e:c.bx b=qZ:=by injection h1 with h1;injection h1 with h1;injection h1
 obtain ⟨_,agR,Z2,XS⟩:=jR GM;rw [mL] at agR;cases agR
 let c':=c.gT (tT i b) c.bx (fun s j=>if s=b then lcs j else c.lc s j)
 let bN:=sM (fun s=>{ s with box:=some (bT b (s0.ag+1) 0 os),bQ:=cj os,ag:=s0.ag+1 }) st b
 have hn:∀s,nth bN s=if s=b then some { s0 with box:=some (bT b (s0.ag+1) 0 os),bQ:=cj os,ag:=s0.ag+1 } else nth st s:=by
  intro s;show nth (sM _ st b) s=_;rw [kS]
  by_cases e:s=b
  ·subst e;simp [mL]
  ·simp [e]
 have MO:gD bN b=s0.ag+1:=by unfold gD;rw [hn];simp
 have MP:gD st b=s0.ag:=by unfold gD;rw [mL]
 have ht:=I0 i b;have lJ:Fw c st w c' bN w:={
  stays:=rj c w _ _ _
  refs:=fun a' j' g' A' hg ig=>by
   obtain ⟨sl,k1,k2,k3⟩:=du ig;rw [hn] at k1
   by_cases e:a'=b
   ·rw [if_pos e] at k1
    cases k1
    subst e;simp only at k2;omega
   ·rw [if_neg e] at k1;exact ⟨A',Bu k1 k2 k3,rfl,rfl,by show (if a'=b then _ else _)=_;rw [if_neg e],fun _=>⟨rfl,fun _ _ _ _=>rfl⟩⟩
  GD:=fun b' g' rW hg OI=>by
   obtain ⟨sl,k1,k2,k3⟩:=jR OI;rw [hn] at k1
   by_cases e:b'=b
   ·rw [if_pos e] at k1
    cases k1
    subst e;exact ⟨⟨TY,by unfold fL;rw [mL];simp at k2;simp [k2,XS]⟩,rfl⟩
   ·rw [if_neg e] at k1;exact ⟨⟨rW,by unfold fL;rw [k1];simp [k2,k3]⟩,rfl⟩
  gA:=fun a'=>by
   by_cases e:a'=b
   ·subst e;rw [MO,MP];omega
   ·unfold gD;rw [hn,if_neg e];exact Nat.le_refl _
  gB:=fun a'=>by
   by_cases e:a'=b
   ·subst e;unfold jO;rw [hn,if_pos rfl,mL];exact Nat.le_refl _
   ·unfold jO;rw [hn,if_neg e];exact Nat.le_refl _
  gE:=fun a'=>by
   by_cases e:a'=b
   ·subst e;unfold wk;rw [hn,if_pos rfl,mL];exact Nat.le_refl _
   ·unfold wk;rw [hn,if_neg e];exact Nat.le_refl _ }
 have MQ:∀k A,cE bN b k (s0.ag+1)=some A→nth (cj os) k=some (some A):=by
  intro k A hA;obtain ⟨sl,k1,k2,k3⟩:=du hA;rw [hn,if_pos rfl] at k1
  cases k1
  exact k3
 refine ⟨c',h.gT ht lJ (fun t => ?_) (fun s sl cs hX hs hb => ?_) (fun s j sl A hX hs hA => ?_),lJ,⟨fun k l hl hk => ?_,fun k hk=>Cz.sa.2 hk⟩⟩
 ·have:dF bN t=dF st t:=by
   unfold dF;rw [hn]
   by_cases e:t=b
   ·subst e;rw [if_pos rfl,mL]
   ·rw [if_neg e]
  rw [this];exact lJ.uY (h.iX t)
 ·rw [hn] at hs
  by_cases e':s=b
  ·subst e';rw [if_pos rfl] at hs
   cases hs
   simp only [Option.some.injEq] at hb;subst hb;refine ⟨?_,vs,ty,by show w.heap[c.bx s]?=_;rw [e];exact h3,?_⟩
   ·show (c.own (c.bx s)).map (tT i s)=some (.box s);rw [e,h2];simp [tT]
   ·exact g2 c' bN s (s0.ag+1) (fun b hb=>Cz.sa.2 hb) (fun k _=>by show (if s=s then _ else _)=_;rw [if_pos rfl]) (fun k A _ hA=>MQ k A (by simpa using hA)) (by rw [MO];exact Nat.le_refl _)
  ·rw [if_neg e'] at hs;exact (h.boxes s sl cs (fun RL=>hX ⟨RL,by rintro e2;injection e2 with e2;exact e' e2⟩) hs hb).gT ht lJ rfl
 ·rw [hn] at hs
  by_cases e':s=b
  ·subst e';rw [if_pos rfl] at hs
   cases hs
   obtain ⟨v',wU⟩:=g1 j A hA;exact wU.arr (by simp) (by simp [tT])
  ·rw [if_neg e'] at hs;exact (h.bQ s j sl A (fun RL=>hX ⟨RL,by simp⟩) hs hA).gT ht (by simp [e'])
 ·show (c.own k).map (tT i b)=_;rw [hk];simp only [Option.map_some,Option.some.injEq]
  cases l with
  |dw x y=>simp only [tT];rw [if_neg];rintro rfl;exact hl.1 y rfl
  |xo x=>simp only [tT];rw [if_neg];rintro rfl;exact hl.2 rfl
  |_=>rfl
end Go.TM
namespace Go.TM
open Go Go.RowKit
def Lb.MR:Lb→Option Lb
 |.dw i j=>some (.dw i j)
 |.xo i=>some (.xo i)
 |.ky j=>some (.ky j)
 |_=>none
noncomputable def Cz.merge (c c1:Cz) (n:Nat) (m:Nat→Prop):Cz:=
 { bx:=c.bx,lc:=c.lc,own:=fun b=>have:=Classical.propDecidable (b<n∧¬m b);if b<n∧¬m b then c.own b else (c1.own b).bind Lb.MR }
theorem Cz.xt {c c1:Cz} {n:Nat} {m:Nat→Prop} {b:Nat} (h:b<n∧¬m b):(c.merge c1 n m).own b=c.own b:=by
 unfold Cz.merge;simp only;rw [if_pos h]
theorem Cz.Eu {c c1:Cz} {n:Nat} {m:Nat→Prop} {b:Nat} (h:¬(b<n∧¬m b)):(c.merge c1 n m).own b=(c1.own b).bind Lb.MR:=by
 unfold Cz.merge;simp only;rw [if_neg h]
theorem RM {u:List Lb} {a j:Nat} (h:Lb.sp a j∈u):pO u a=true:=by
 unfold pO;exact List.any_eq_true.2 ⟨_,h,by simp⟩
theorem JM (u:List Lb):(st:St)→(a s:Nat)→nth (tK u a st) s=(nth st s).map fun x=>bif pO u (a+s) then { x with ep:=x.ep+1 } else x
 | [],_,_=>rfl
 |x::l,a,0=>rfl
 |x::l,a,s+1=>by
  show nth (tK u (a+1) l) s=_;rw [JM u l (a+1) s,show a+1+s=a+(s+1) by omega];rfl
theorem vd (u:List Lb) (st:St) (s:Nat):nth (tK u 0 st) s=(nth st s).map fun x=>bif pO u s then { x with ep:=x.ep+1 } else x:=by
 rw [JM,Nat.zero_add]
theorem RN (u:List Lb) (st:St) (t:Nat):dF (tK u 0 st) t=dF st t:=by
 unfold dF;rw [vd]
 cases nth st t<;>cases pO u t<;>rfl
theorem RO (u:List Lb) (st:St) (a j g:Nat):cE (tK u 0 st) a j g=cE st a j g:=by
 unfold cE;rw [vd]
 cases nth st a<;>cases pO u a<;>rfl
theorem RQ (u:List Lb) (st:St) (b g:Nat):fL (tK u 0 st) b g=fL st b g:=by
 unfold fL;rw [vd]
 cases nth st b<;>cases pO u b<;>rfl
theorem MS (u:List Lb) (st:St) (a:Nat):gD (tK u 0 st) a=gD st a∧jO (tK u 0 st) a=jO st a:=by
 unfold gD jO;rw [vd]
 cases nth st a<;>cases pO u a<;>exact ⟨rfl,rfl⟩
theorem MT (u:List Lb) (st:St) (a:Nat):wk st a≤wk (tK u 0 st) a∧(wk (tK u 0 st) a=wk st a→nth st a=none∨pO u a=false):=by
 unfold wk;rw [vd]
 cases nth st a<;>cases pO u a<;>simp
theorem Rel.agS {w0:World} {mu:Mu} {c:Cz} {st:St} {a:Act} {w:World} (h:Rel w0 mu c st a w) {μ:Mu} {c1:Cz} {w':World} (hb:Fx w μ c1 w') {X:Lb→Prop} (hm:∀b,μ.m b→∃l,c.own b=some l∧X l) (hX:∀l,X l→l≠.out) {u:List Lb} (hu:∀a j,X (.sp a j)→pO u a=true) :
  ni X w0 mu (c.merge c1 w.heap.size μ.m) (tK u 0 st) a w'∧Fw c st w (c.merge c1 w.heap.size μ.m) (tK u 0 st) w'∧(∀b l,c.own b=some l→¬X l→w'.heap[b]?=w.heap[b]?∧(c.merge c1 w.heap.size μ.m).own b=c.own b)∧(∀b l,l.MR=some l→c1.own b=some l→(c.merge c1 w.heap.size μ.m).own b=some l)∧((∀b,μ.ok b→c.own b=none)→∀b,c1.ok b→(c.merge c1 w.heap.size μ.m).ok b):=by
 have oU:w.heap.size≤w'.heap.size:=hb.kept.2.2.2;have wT:kV w w' c.ok (c.merge c1 w.heap.size μ.m).ok:={
  size:=oU
  block:=fun b dS iR=>hb.old b dS (fun Mr=>by
   obtain ⟨l,hl,_⟩:=hm b Mr;unfold Cz.ok at iR;rw [iR] at hl;cases hl)
  ok:=fun b dS iR=>by
   unfold Cz.ok;rw [Cz.xt ⟨dS,fun Mr=>by
    obtain ⟨l,hl,_⟩:=hm b Mr;unfold Cz.ok at iR;rw [iR] at hl;cases hl⟩]
   exact iR }
 have keep:∀b l,c.own b=some l→¬X l→w'.heap[b]?=w.heap[b]?∧(c.merge c1 w.heap.size μ.m).own b=c.own b:=by
  intro b l hl hn;have dS:=(h.owned b l hl).1;have Mr:¬μ.m b:=fun Mr=>by
   obtain ⟨l',Bn,hx⟩:=hm b Mr;rw [hl] at Bn;cases Bn;exact hn hx
  exact ⟨hb.old b dS Mr,Cz.xt ⟨dS,Mr⟩⟩
 have lJ:Fw c st w (c.merge c1 w.heap.size μ.m) (tK u 0 st) w':={
  stays:=wT
  refs:=fun a' j g A' _ hA=>by
   rw [RO] at hA;refine ⟨A',hA,rfl,rfl,rfl,fun he => ?_⟩;rcases (MT u st a').2 he with e | e
   ·unfold cE at hA;rw [e] at hA
    cases hA
   ·have mK:∀j,¬X (.sp a' j):=fun j hx=>by rw [hu a' j hx] at e;cases e
    obtain ⟨sl0,mL,_,Rx⟩:=du hA;have h0:=h.bQ a' j sl0 A' mL Rx;refine ⟨rfl,fun b o cap m9 => ?_⟩;unfold fy at h0;rw [m9] at h0;have h1:=h0.1
    cases ki:A'.own with
    |true=>
     rw [ki] at h1;exact (keep b _ h1 (mK j)).1
    |false=>
     rw [ki] at h1;exact wT.block b (by obtain ⟨_,_,⟨cur,te,h3,_⟩,_⟩:=h0;exact (Array.getElem?_eq_some_iff.1 h3).1) h1
  GD:=fun b g cs _ hc=>⟨⟨cs,by rwa [RQ] at hc⟩,rfl⟩
  gA:=fun a'=>by rw [(MS u st a').1];exact Nat.le_refl _
  gB:=fun a'=>by rw [(MS u st a').2];exact Nat.le_refl _
  gE:=fun a'=>(MT u st a').1 }
 refine ⟨⟨fun t=>by rw [RN];exact lJ.uY (h.iX t),fun s sl cs hn hs GM => ?_,fun s j sl A hn hs hA => ?_,fun b l hl => ?_,fun b dS hl => ?_,?_,fun k hk hmu => ?_,h.plain,fun p hp=>lJ.gS (h.gS p hp)⟩,lJ,keep,fun b l hk hl => ?_,fun iR b h1 => ?_⟩
 ·rw [vd] at hs;obtain ⟨sl0,mL,rfl⟩:=Option.map_eq_some_iff.1 hs;have h0:=h.boxes s sl0 cs mL (by cases hq:pO u s<;>rw [hq] at GM<;>exact GM);obtain ⟨k1,k2⟩:=keep _ _ h0.1 hn;exact h0.go lJ rfl k2 k1
 ·rw [vd] at hs;obtain ⟨sl0,mL,rfl⟩:=Option.map_eq_some_iff.1 hs;have h0:=h.bQ s j sl0 A mL (by cases hq:pO u s<;>rw [hq] at hA<;>exact hA);exact h0.go wT rfl (fun b g1=>keep b _ g1 hn)
 ·by_cases e:b<w.heap.size∧¬μ.m b
  ·rw [Cz.xt e] at hl;have:=h.owned b l hl;exact ⟨Nat.lt_of_lt_of_le this.1 oU,this.2⟩
  ·rw [Cz.Eu e] at hl;obtain ⟨k,hk,e2⟩:=Option.bind_eq_some_iff.1 hl;obtain ⟨g1,g2⟩:=hb.owned b k hk;refine ⟨g1,.inr ?_⟩;have IT:k≠.out:=by rintro rfl;simp [Lb.MR] at e2
   by_cases dS:b<w.heap.size
   ·have Mr:μ.m b:=Classical.not_not.1 (fun h=>e ⟨dS,h⟩);obtain ⟨l',Bn,hx⟩:=hm b Mr;rcases (h.owned b l' Bn).2 with q | q
    ·exact absurd q (hX l' hx)
    ·exact q
   ·have:=h.kept.2.2.2;exact .inl (by omega)
 ·by_cases e:b<w.heap.size∧¬μ.m b
  ·rw [Cz.xt e] at hl;exact h.free b dS hl
  ·have aai:b<w.heap.size:=Nat.lt_of_lt_of_le dS h.kept.2.2.2;have Mr:μ.m b:=Classical.not_not.1 (fun h=>e ⟨aai,h⟩);obtain ⟨l',Bn,hx⟩:=hm b Mr;rcases (h.owned b l' Bn).2 with q | q | q
   ·exact absurd q (hX l' hx)
   ·omega
   ·exact .inl q
 ·exact ⟨hb.kept.1.trans h.kept.1,hb.kept.2.1.trans h.kept.2.1,hb.kept.2.2.1.trans h.kept.2.2.1,Nat.le_trans h.kept.2.2.2 oU⟩
 ·have aai:k<w.heap.size:=Nat.lt_of_lt_of_le hk h.kept.2.2.2;rw [hb.old k aai (fun Mr => ?_)]
  ·exact h.old k hk hmu
  ·obtain ⟨l',Bn,hx⟩:=hm k Mr;rcases (h.owned k l' Bn).2 with q | q | q
   ·exact hX l' hx q
   ·omega
   ·exact hmu q
 ·rw [Cz.Eu (fun e => ?_),hl]
  ·exact hk
  ·rcases (hb.owned b l hl).2 with q | q | q
   ·subst q;simp [Lb.MR] at hk
   ·omega
   ·exact e.2 q
 ·unfold Cz.ok at h1 ⊢
  by_cases e:b<w.heap.size∧¬μ.m b
  ·rw [Cz.xt e];rcases hb.free b e.1 h1 with q | q
   ·exact absurd q e.2
   ·exact iR b q
  ·rw [Cz.Eu e,h1];rfl
theorem Cz.MU (c:Cz) (bx:Nat→Nat) (lc:Nat→Nat→Loc):(c.gT id bx lc).own=c.own:=by
 funext b
 unfold Cz.gT;simp
theorem Cc {w0:World} {mu:Mu} {a:Act} {w:World}:(ks:List Lb)→{X:Lb→Prop}→{c:Cz}→{st:St}→ni X w0 mu c st a w→
  ∃c',ni (fun l=>X l∧∀s j,Lb.sp s j∈ks→l≠.sp s j) w0 mu c' (rX st ks) a w∧Fw c st w c' (rX st ks) w∧c'.own=c.own
 | [],X,c,st,h=>⟨c,h.mono (fun l hl=>⟨hl,by simp⟩),Fw.refl c st w,rfl⟩
 |k::ks,X,c,st,h=>by
  have skip:rX st (k::ks)=rX st ks→(∀s j,k≠.sp s j)→∃c',ni (fun l=>X l∧∀s j,Lb.sp s j∈k::ks→l≠.sp s j) w0 mu c' (rX st (k::ks)) a w∧Fw c st w c' (rX st (k::ks)) w∧c'.own=c.own:=by
   intro e hk;obtain ⟨c',h1,h2,h3⟩:=Cc ks h;rw [e];refine ⟨c',h1.mono (fun l hl=>⟨hl.1,fun s j hm => ?_⟩),h2,h3⟩;rcases List.mem_cons.1 hm with e2 | hm
   ·exact absurd e2.symm (hk s j)
   ·exact hl.2 s j hm
  cases k with
  |sp s j=>
   obtain ⟨h1,h2⟩:=h.kill s j;obtain ⟨c',h3,h4,h5⟩:=Cc ks h1;refine ⟨c',h3.mono (fun l hl=>⟨hl.1.1,fun s' j' hm => ?_⟩),h2.trans h4,h5.trans (Cz.MU _ _ _)⟩;rcases List.mem_cons.1 hm with e2 | hm
   ·cases e2;exact hl.1.2
   ·exact hl.2 s' j' hm
  |_=>exact skip rfl (by simp)
def Ev (m:Pm):V→List Lb
 |.one (.ptr b _ _)=>[.box b]
 |.one (.ref a j _ _)=>match m with
  |.io=>[.sp a j]
  |_=>[]
 |.agg cs=>match m with
  |.dO=>cs.filterMap fun x=>match x with | .ref a j _ _=>some (.sp a j) | _=>none
  |_=>[]
 |_=>[]
def UE (st:St) (m:Pm×V) (av:AV):Prop:=∃u q r,jw st m.1 m.2=some (av,u,q,r)
theorem MV {st:St} {own:Bool}:(cs:List CV)→{os:List OV}→{u:List (Option Lb)}→{r:List (Nat×Nat)}→jh st own cs=some (os,u,r)→∀(k:Nat) {a j g:Nat} ,cs[k]?=some (.ref a j g .full)→os[k]?=(cE st a j g).map fun A=>bif own&&A.own then .own A else .shr A.r A.xs
 | [],_,_,_,h=>by intro k a j g hk;simp at hk
 |x::cs,os,u,r,h=>by
  unfold jh at h
  cases hc:kU st own x with
  |none=>simp [hc] at h
  |some p=>
   obtain ⟨o,u1,r1⟩:=p
   cases hq:jh st own cs with
   |none=>simp [hc,hq] at h
   |some q=>
    obtain ⟨Em,us,rs⟩:=q;simp only [hc,hq,Option.some.injEq,Prod.mk.injEq] at h;obtain ⟨rfl,rfl,_⟩:=h;intro k a j g hk
    cases k with
    |succ k=>simpa using MV cs hq k (by simpa using hk)
    |zero=>
     simp only [List.getElem?_cons_zero,Option.some.injEq] at hk;subst hk;unfold kU at hc;simp only at hc
     cases hA:cE st a j g with
     |none=>simp [hA] at hc
     |some A=>
      simp only [hA] at hc
      cases hm:A.md.Ro with
      |true=>simp [hm] at hc
      |false=>
      simp only [hm,cond_false,View.isFull,Bool.or_true,Bool.and_true] at hc
      cases hb:(own&&A.own)<;>simp only [hb,cond_true,cond_false,Option.some.injEq,Prod.mk.injEq] at hc<;>obtain ⟨rfl,_⟩:=hc<;>simp [hb,View.app]
theorem G8 {w0 wb:World} {mu:Mu} {a:Act} {w:World} {c0:Cz} {En:St} {i:Nat} {As:List (Option nd)}:(cs:List CV)→(j0:Nat)→(us:List Value)→{X:Lb→Prop}→{c:Cz}→{st bN:St}→ni X w0 mu c st a w→Fw c0 En wb c st w→
  (∀(k:Nat) (x:CV) (v:Value),cs[k]?=some x→us[k]?=some v→pR c0 En wb x v)→
  (∀(k s j g:Nat) (vw:View),cs[k]?=some (.ref s j g vw)→∃A B u,cE En s j g=some A∧nth As (j0+k)=some (some B)∧us[k]?=some u∧B.r.width=A.r.width∧B.xs.length=A.xs.length∧OwnAt c w (.dw i (j0+k)) (c0.lc s j) B u)→
  GB st j0 cs As=some bN→
  ∃c',ni (fun l=>X l∧∀s j g vw,CV.ref s j g vw∈cs→l≠.sp s j) w0 mu c' bN a w∧Fw c0 En wb c' bN w∧Pass c c' (fun l=>∀y,l≠.dw i y)
 | [],j0,us,X,c,st,bN,h,lJ,_,_,hv=>by
  simp only [GB,Option.some.injEq] at hv;subst hv;exact ⟨c,h.mono (fun l hl=>⟨hl,by simp⟩),lJ,⟨fun _ _ _ h=>h,fun _ h=>h⟩⟩
 |x::cs,j0,us,X,c,st,bN,h,lJ,hr,hB,hv=>by
  have skip:(∀s j g vw,x≠.ref s j g vw)→GB st (j0+1) cs As=some bN→∃c',ni (fun l=>X l∧∀s j g vw,CV.ref s j g vw∈x::cs→l≠.sp s j) w0 mu c' bN a w∧Fw c0 En wb c' bN w∧Pass c c' (fun l=>∀y,l≠.dw i y):=by
   intro hx hv;obtain ⟨c',g1,g2,g3⟩:=G8 (i:=i) cs (j0+1) us.tail h lJ (fun k y v hk hv=>hr (k+1) y v (by simpa using hk) (by simpa using hv)) (fun k s j g vw hk=>by
    obtain ⟨A,B,u,q1,q2,q3,q4,q5,q6⟩:=hB (k+1) s j g vw (by simpa using hk);refine ⟨A,B,u,q1,by rw [show j0+1+k=j0+(k+1) by omega];exact q2,by simpa using q3,q4,q5,by rw [show j0+1+k=j0+(k+1) by omega];exact q6⟩) hv
   refine ⟨c',g1.mono (fun l hl=>⟨hl.1,fun s j g vw hm => ?_⟩),g2,g3⟩;rcases List.mem_cons.1 hm with e | hm
   ·exact absurd e.symm (hx s j g vw)
   ·exact hl.2 s j g vw hm
  cases x with
  |ref s j g vw=>
   unfold GB at hv
   split at hv
   ·rename_i B A1 Z3 hA1;obtain ⟨A,B',u,q1,q2,q3,q4,q5,q6⟩:=hB 0 s j g vw rfl;rw [Nat.add_zero] at q2 q6;rw [Z3] at q2;simp only [Option.some.injEq] at q2;subst q2;have hr0:=hr 0 _ u rfl q3;obtain ⟨A0',p1,p2,p3,p4,_⟩:=lJ.refs s j g A1 hr0.2.1 hA1;rw [q1] at p1;cases p1;have hO':OwnAt c w (.dw i j0) (c.lc s j) B u:=by rw [p4];exact q6
    obtain ⟨g1,g2⟩:=h.io hA1 (q4.trans p2.symm) (q5.trans p3.symm) hO';have JN:∀b l,l≠.dw i j0→c.own b=some l→(c.gT (wW i j0 s j) c.bx c.lc).own b=some l:=by
     intro b l hl hb;show (c.own b).map _=_;rw [hb];simp only [Option.map_some,Option.some.injEq]
     cases l with
     |dw x y=>simp only [wW];rw [if_neg];rintro ⟨rfl,rfl⟩;exact hl rfl
     |_=>rfl
    obtain ⟨c',k1,k2,k3⟩:=G8 (i:=i) cs (j0+1) us.tail g1 (lJ.trans g2) (fun k y v hk hv=>hr (k+1) y v (by simpa using hk) (by simpa using hv)) (fun k s' j' g' vw' hk=>by
     obtain ⟨A,B,u,q1,q2,q3,q4,q5,q6⟩:=hB (k+1) s' j' g' vw' (by simpa using hk);refine ⟨A,B,u,q1,by rw [show j0+1+k=j0+(k+1) by omega];exact q2,by simpa using q3,q4,q5,?_⟩;rw [show j0+1+k=j0+(k+1) by omega];exact q6.pass (fun b hb=>JN b _ (by simp) hb) (.inl fun b hb=>Cz.sa.2 hb)) hv
    refine ⟨c',k1.mono (fun l hl=>⟨hl.1.1,fun s' j' g' vw' hm => ?_⟩),k2,⟨fun b l hl hb=>k3.dw b l hl (JN b l (hl j0) hb),fun b hb=>k3.ok b (Cz.sa.2 hb)⟩⟩;rcases List.mem_cons.1 hm with e | hm
    ·cases e;exact hl.1.2
    ·exact hl.2 s' j' g' vw' hm
   ·cases hv
  |_=>exact skip (by simp) hv
theorem G9 {w0 wb:World} {mu:Mu} {a:Act} {w:World} {c0:Cz} {En:St} {lc:Nat→Nat→Loc}:(ms:List (Pm×V))→(i:Nat)→(fP:List AV)→(xs:List Value)→(es:List XV)→{X:Lb→Prop}→{c:Cz}→{st bN:St}→ni X w0 mu c st a w→Fw c0 En wb c st w→
  (∀(k:Nat) (m:Pm×V) (x:Value),ms[k]?=some m→xs[k]?=some x→gR c0 En wb m.2 x)→(∀(k:Nat) (m:Pm×V) (av:AV),ms[k]?=some m→fP[k]?=some av→UE En m av)→ms.length=fP.length→ms.length=xs.length→(∀(k:Nat) (m:Pm×V),ms[k]?=some m→lc (i+k)=Fy c0 m.2)→
  kj c w lc i fP xs es→x5 st ms es=some bN→
  ∃c',ni (fun l=>X l∧∀m∈ms,l∉Ev m.1 m.2) w0 mu c' bN a w∧Fw c0 En wb c' bN w∧Pass c c' (fun l=>(∃j,l=.ky j)∨l.real=true)
 | [],i,fP,xs,es,X,c,st,bN,h,lJ,_,_,_,_,_,hx,hv=>by
  cases es with
  |nil=>
   simp only [x5,Option.some.injEq] at hv;subst hv;exact ⟨c,h.mono (fun l hl=>⟨hl,by simp⟩),lJ,⟨fun _ _ _ h=>h,fun _ h=>h⟩⟩
  |cons _ _=>simp [x5] at hv
 |(m,v)::ms,i,[],xs,es,X,c,st,bN,h,lJ,hr,he,hn,hn2,m9,hx,hv=>by simp at hn
 |(m,v)::ms,i,av::fP,[],es,X,c,st,bN,h,lJ,hr,he,hn,hn2,m9,hx,hv=>by simp at hn2
 |(m,v)::ms,i,av::fP,x::xs,es,X,c,st,bN,h,lJ,hr,he,hn,hn2,m9,hx,hv=>by
  have hr0:=hr 0 (m,v) x rfl rfl;obtain ⟨u,q,r,wh⟩:=he 0 (m,v) av rfl rfl;have aaj:=m9 0 (m,v) rfl;simp only [Nat.add_zero] at aaj;have hr':∀(k:Nat) (m:Pm×V) (x:Value),ms[k]?=some m→xs[k]?=some x→gR c0 En wb m.2 x:=fun k m' x' h1 h2=>hr (k+1) m' x' (by simpa using h1) (by simpa using h2)
  have he':∀(k:Nat) (m:Pm×V) (av:AV),ms[k]?=some m→fP[k]?=some av→UE En m av:=fun k m' x' h1 h2=>he (k+1) m' x' (by simpa using h1) (by simpa using h2)
  have Z6:∀(k:Nat) (m:Pm×V),ms[k]?=some m→lc (i+1+k)=Fy c0 m.2:=fun k m' h1=>by
   have:=m9 (k+1) m' (by simpa using h1)
   rwa [show i+(k+1)=i+1+k by omega] at this
  have XT:ms.length=fP.length:=by simpa using hn
  have al6:ms.length=xs.length:=by simpa using hn2
  unfold x5 at hv
  cases hb:wu st m v es with
  |none=>simp [hb] at hv
  |some p=>
   obtain ⟨GL,es1⟩:=p;simp only [hb] at hv;have go:∀ {X1:Lb→Prop} {c1:Cz},ni X1 w0 mu c1 GL a w→Fw c0 En wb c1 GL w→(∀l,X1 l→X l∧l∉Ev m v)→kj c1 w lc (i+1) fP xs es1→Pass c c1 (fun l=>(∃j,l=.ky j)∨l.real=true)→
     ∃c',ni (fun l=>X l∧∀m'∈(m,v)::ms,l∉Ev m'.1 m'.2) w0 mu c' bN a w∧Fw c0 En wb c' bN w∧Pass c c' (fun l=>(∃j,l=.ky j)∨l.real=true):=by
    intro X1 c1 g1 g2 g3 g4 g5;obtain ⟨c',k1,k2,k3⟩:=G9 ms (i+1) fP xs es1 g1 g2 hr' he' XT al6 Z6 g4 hv;refine ⟨c',k1.mono (fun l hl=>⟨(g3 l hl.1).1,fun m' Mr => ?_⟩),k2,⟨fun b l hl hb=>k3.dw b l hl (g5.dw b l hl hb),fun b hb=>k3.ok b (g5.ok b hb)⟩⟩;rcases List.mem_cons.1 Mr with rfl | Mr
    ·exact (g3 l hl.1).2
    ·exact hl.2 m' Mr
   have nN:Ev m v=[]→GL=st→es1=es→(∃ag os,av=.val ag os)→∃c',ni (fun l=>X l∧∀m'∈(m,v)::ms,l∉Ev m'.1 m'.2) w0 mu c' bN a w∧Fw c0 En wb c' bN w∧Pass c c' (fun l=>(∃j,l=.ky j)∨l.real=true):=by
    rintro e1 rfl rfl ⟨ag,os,rfl⟩
    exact go h lJ (fun l hl=>⟨hl,by rw [e1];simp⟩) hx ⟨fun _ _ _ h=>h,fun _ h=>h⟩
   cases v with
   |pM us=>simp [jw] at wh
   |agg cs=>
    have yd:∀u q r,(match jh En m.qX cs with | some (os,u,r)=>some (AV.val true os,dG u,dG u,r) | none=>none)=some (av,u,q,r)→∃ag os,av=.val ag os:=by
     intro u q r wh
     cases hq:jh En m.qX cs with
     |none=>simp [hq] at wh
     |some p=>
      obtain ⟨os,us,rs⟩:=p;simp only [hq,Option.some.injEq,Prod.mk.injEq] at wh;exact ⟨_,_,wh.1.symm⟩
    unfold jw at wh
    cases m with
    |shr=>
     simp only [wu,Option.some.injEq,Prod.mk.injEq] at hb;exact nN rfl hb.1.symm hb.2.symm (yd _ _ _ wh)
    |own=>
     simp only [wu,Option.some.injEq,Prod.mk.injEq] at hb;exact nN rfl hb.1.symm hb.2.symm (yd _ _ _ wh)
    |pick _=>
     simp only [wu,Option.some.injEq,Prod.mk.injEq] at hb;exact nN rfl hb.1.symm hb.2.symm (yd _ _ _ wh)
    |io=>
     simp only [wu,Option.some.injEq,Prod.mk.injEq] at hb;exact nN rfl hb.1.symm hb.2.symm (yd _ _ _ wh)
    |dO=>
     simp only at wh
     cases hq:jh En true cs with
     |none=>simp [hq] at wh
     |some p=>
      obtain ⟨os,us,rs⟩:=p;simp only [hq] at wh;obtain ⟨ri,BE⟩:=bH wh;simp only [Option.some.injEq,Prod.mk.injEq] at BE;obtain ⟨rfl,_⟩:=BE;obtain ⟨As,l,rfl,⟨us',rfl,hX⟩,gG⟩:=hx;unfold wu at hb;obtain ⟨lK,Ms,e2⟩:=Option.map_eq_some_iff.1 hb;injection e2 with e2 e3;subst e2 e3;obtain ⟨vs0,e0,hl0⟩:=hr0;injection e0 with e0;subst e0;obtain ⟨c1,g1,g2,g3⟩:=G8 (i:=i) (As:=As) cs 0 us'.toList h lJ (fun k x v hk hv=>hl0.2 k x v hk (by simpa using hv)) (fun k s j g vw hk=>by
       have Ga:=List.mem_of_getElem? hk;have IU:=List.all_eq_true.1 ri _ Ga;unfold Ue at IU;rw [Bool.and_eq_true] at IU
       cases hA:cE En s j g with
       |none=>rw [hA] at IU;cases IU.2
       |some A=>
        have UD:vw=.full:=by
         cases vw with
         |full=>rfl
         |«from» _=>cases IU.1
         |sub _ _=>cases IU.1
        subst UD;rw [hA] at IU;have ho:os[k]?=some (.own A):=by
         have:=MV cs hq k hk;rw [hA] at this;have RC:A.own=true:=IU.2;simpa [RC] using this
        obtain ⟨B,u,k1,k2,k3,k4,k5⟩:=hX k A ho;refine ⟨A,B,u,rfl,by rw [Nat.zero_add];exact k1,k2,k3,k4,?_⟩;have:lc i k=c0.lc s j:=by
         rw [aaj];show OT c0 cs[k]?=_;rw [hk];rfl
        rw [←this,Nat.zero_add];exact k5) Ms
      refine go g1 g2 (fun l hl=>⟨hl.1,fun hm => ?_⟩) ?_ ⟨fun b l hl=>g3.dw b l (hl.elim (by rintro ⟨j,rfl⟩;simp) (by intro h;cases l<;>simp_all [Lb.real])),g3.ok⟩
      ·obtain ⟨x,OM,Lp⟩:=List.mem_filterMap.1 hm
       cases x with
       |ref s j g vw=>simp only [Option.some.injEq] at Lp;exact hl.2 s j g vw OM Lp.symm
       |_=>cases Lp
      ·exact kj.pass fP (i+1) (fun b k hk hb=>g3.dw b _ (by simp) hb) (fun b k j hk hb=>g3.dw b _ (by intro y;simp;omega) hb) xs _ (.inl g3.ok) gG
   |one cx=>
    cases cx with
    |ptr b g off=>
     unfold wu at hb
     cases es with
     |nil=>simp at hb
     |cons e es2=>cases e with
      |io _=>simp at hb
      |dO _=>simp at hb
      |box os=>
       simp only at hb
       split at hb
       ·rename_i s0 TY mL XS;simp only [Option.some.injEq,Prod.mk.injEq] at hb;obtain ⟨rfl,rfl⟩:=hb;have MW:∃os0,av=.box os0:=by
         unfold jw at wh;simp only at wh
         cases hq:fL En b g with
         |none=>simp [hq] at wh
         |some cs=>
          simp only [hq] at wh
          cases MC:jh En true cs with
          |none=>simp [MC] at wh
          |some p=>
           obtain ⟨Em,us,rs⟩:=p;simp only [MC] at wh;obtain ⟨_,BE⟩:=bH wh;simp only [Option.some.injEq,Prod.mk.injEq] at BE;exact ⟨_,BE.1.symm⟩
        obtain ⟨os0,rfl⟩:=MW;obtain ⟨os1,l,e1,hB,gG⟩:=hx
        cases e1
        have hp:=(lJ.uY (v:=x) hr0);have e2:=hp.2.2 TY XS;have e3:x=.pointer (some ⟨c.bx b,0,none⟩):=by
         obtain ⟨qZ,vs,ty,q1,_⟩:=hB;rw [e2] at q1 ⊢;injection q1 with q1;injection q1 with q1;injection q1 with q1 q2;rw [q2]
        obtain ⟨c1,g1,g2,g3⟩:=h.boxed mL XS e3 hB;refine go g1 (lJ.trans g2) (fun l hl=>⟨hl.1,by simp [Ev];exact hl.2⟩) ?_ ⟨fun b l hl=>g3.dw b l (hl.elim (by rintro ⟨j,rfl⟩;simp) (by intro h;cases l<;>simp_all [Lb.real])),g3.ok⟩;exact kj.pass fP (i+1) (fun b k hk hb=>g3.dw b _ (by constructor<;>simp;omega) hb) (fun b k j hk hb=>g3.dw b _ (by constructor<;>simp;omega) hb) xs es2 (.inl g3.ok) gG
       ·cases hb
    |ref s j g vw=>
     have yd:m≠.io→∃ag os,av=.val ag os:=by
      intro hm;unfold jw at wh
      cases m with
      |io=>exact absurd rfl hm
      |shr=>
       cases hq:jh En Pm.shr.qX [.ref s j g vw] with
       |none=>simp [hq] at wh
       |some p=>obtain ⟨os,us,rs⟩:=p;simp only [hq,Option.some.injEq,Prod.mk.injEq] at wh;exact ⟨_,_,wh.1.symm⟩
      |dO=>
       cases hq:jh En Pm.dO.qX [.ref s j g vw] with
       |none=>simp [hq] at wh
       |some p=>obtain ⟨os,us,rs⟩:=p;simp only [hq,Option.some.injEq,Prod.mk.injEq] at wh;exact ⟨_,_,wh.1.symm⟩
      |own=>
       cases hq:jh En Pm.own.qX [.ref s j g vw] with
       |none=>simp [hq] at wh
       |some p=>obtain ⟨os,us,rs⟩:=p;simp only [hq,Option.some.injEq,Prod.mk.injEq] at wh;exact ⟨_,_,wh.1.symm⟩
      |pick pl=>
       cases hq:jh En (Pm.pick pl).qX [.ref s j g vw] with
       |none=>simp [hq] at wh
       |some p=>obtain ⟨os,us,rs⟩:=p;simp only [hq,Option.some.injEq,Prod.mk.injEq] at wh;exact ⟨_,_,wh.1.symm⟩
     cases m with
     |shr=>
      simp only [wu,Option.some.injEq,Prod.mk.injEq] at hb;exact nN rfl hb.1.symm hb.2.symm (yd (by simp))
     |dO=>
      simp only [wu,Option.some.injEq,Prod.mk.injEq] at hb;exact nN rfl hb.1.symm hb.2.symm (yd (by simp))
     |own=>
      simp only [wu,Option.some.injEq,Prod.mk.injEq] at hb;exact nN rfl hb.1.symm hb.2.symm (yd (by simp))
     |pick _=>
      simp only [wu,Option.some.injEq,Prod.mk.injEq] at hb;exact nN rfl hb.1.symm hb.2.symm (yd (by simp))
     |io=>
      unfold wu at hb;simp only at hb
      split at hb
      ·rename_i B es2 A2 RC;simp only [Option.some.injEq,Prod.mk.injEq] at hb;obtain ⟨rfl,rfl⟩:=hb;have MW:∃A0,av=.io A0∧cE En s j g=some A0:=by
        unfold jw at wh
        cases vw with
        |full=>
         cases hA:cE En s j g with
         |none=>simp [hA] at wh
         |some A=>
          simp only [hA] at wh;obtain ⟨_,BE⟩:=bH wh;simp only [Option.some.injEq,Prod.mk.injEq] at BE;exact ⟨A,BE.1.symm,rfl⟩
        |«from» _=>simp at wh
        |sub _ _=>simp at wh
       obtain ⟨A0,rfl,Ry⟩:=MW;obtain ⟨B',l,e1,hw,hlen,hO,gG⟩:=hx
       cases e1
       obtain ⟨A0',q1,q2,q3,q4,_⟩:=lJ.refs s j g A2 hr0.2.1 RC;rw [Ry] at q1;cases q1;have hO':OwnAt c w (.dw i 0) (c.lc s j) B x:=by
        rw [q4];have:lc i 0=c0.lc s j:=by rw [aaj];rfl
        rw [←this];exact hO
       obtain ⟨g1,g2⟩:=h.io RC (hw.trans q2.symm) (hlen.trans q3.symm) hO';have JN:∀b l,(∀y,l≠.dw i y)→c.own b=some l→(c.gT (wW i 0 s j) c.bx c.lc).own b=some l:=by
        intro b l hl hb;show (c.own b).map _=_;rw [hb];simp only [Option.map_some,Option.some.injEq]
        cases l with
        |dw x y=>simp only [wW];rw [if_neg];rintro ⟨rfl,_⟩;exact hl y rfl
        |_=>rfl
       refine go g1 (lJ.trans g2) (fun l hl=>⟨hl.1,by simp [Ev];exact hl.2⟩) ?_ ⟨fun b l hl=>JN b l (hl.elim (by rintro ⟨j,rfl⟩;simp) (by intro h;cases l<;>simp_all [Lb.real])),fun b hb=>Cz.sa.2 hb⟩;exact kj.pass fP (i+1) (fun b k hk hb=>JN b _ (by simp) hb) (fun b k j hk hb=>JN b _ (by intro y;simp;omega) hb) xs es2 (.inl fun b hb=>Cz.sa.2 hb) gG
      ·cases hb
    |_=>
     simp only [wu,Option.some.injEq,Prod.mk.injEq] at hb;refine nN rfl hb.1.symm hb.2.symm ?_;unfold jw at wh;simp only at wh
     split at wh
     ·simp only [Option.some.injEq,Prod.mk.injEq] at wh;exact ⟨_,_,wh.1.symm⟩
     ·cases wh
end Go.TM
namespace Go.TM
open Go Go.RowKit
def Dh (d:Nat):Lb→Lb
 |.ky j=>.sp d j
 |l=>l
theorem B1 (d:Nat):Fz (Dh d):=⟨fun l h=>by cases l<;>simp [Dh,Lb.real] at h ⊢⟩
theorem zM:(os ps:List OV)→cj (os++ps)=cj os++cj ps
 | [],ps=>rfl
 |o::os,ps=>by simp [cj,zM os ps]
theorem oV:(os:List OV)→(cj os).length=os.length
 | []=>rfl
 |o::os=>by simp [cj,oV os]
theorem UF (d g j:Nat) (o:OV):∃x,bT d g j [o]=[x]:=by
 cases o<;>exact ⟨_,rfl⟩
theorem oa.vals {c:Cz} {w:World}:(rs:List RV)→(j:Nat)→(vs:List Value)→oa c w j rs vs→
  ∃lcs:Nat→Loc,(∀k A,nth (cj (rs.flatMap RV.Ae)) k=some (some A)→∃v,OwnAt c w (.ky (j+k)) (lcs (j+k)) A v)∧rs.length=vs.length∧(∀d g,(mU d g j rs).length=rs.length)∧
   ∀(c2:Cz) (lK:St) (d g:Nat),(∀b,c.ok b→c2.ok b)→(∀k,k<(rs.flatMap RV.Ae).length→c2.lc d (j+k)=lcs (j+k))→(∀k A,k<(rs.flatMap RV.Ae).length→cE lK d (j+k) g=some A→nth (cj (rs.flatMap RV.Ae)) k=some (some A))→g≤gD lK d→
    ∀(k:Nat) (x:V) (v:Value),(mU d g j rs)[k]?=some x→vs[k]?=some v→CX c2 lK w x v
 | [],j,vs,h=>by
  subst h;exact ⟨fun _=>.nil,fun k A hA=>by simp [cj] at hA,rfl,fun _ _=>rfl,fun _ _ _ _ _ _ _ _ k x v hx=>by simp [mU] at hx⟩
 |r::rs,j,vs,h=>by
  obtain ⟨v,l,us,rfl,hL,hR,hV⟩:∃(v:Value) (l us:List Value),vs=v::l∧cD c w .ky j r.Ae us∧oa c w (j+r.Ae.length) rs l∧
    (∀(c2:Cz) (lK:St) (d g:Nat),iG c2 lK w (bT d g j r.Ae) us→CX c2 lK w (Ua d g j r) v):=by
   cases r with
   |one o=>
    obtain ⟨v,l,h1,h2,h3⟩:=h;refine ⟨v,l,[v],h1,h2,h3,fun c2 lK d g hl => ?_⟩;unfold Ua;obtain ⟨x,hx⟩:=UF d g j o;show CX c2 lK w (match bT d g j [o] with | [c]=>.one c | _=>.one .bad) v;have hl:iG c2 lK w (bT d g j [o]) [v]:=hl;rw [hx] at hl ⊢;exact hl.2 0 x v rfl rfl
   |agg os=>
    obtain ⟨us,l,h1,h2,h3⟩:=h;exact ⟨.agg us,l,us.toList,h1,h2,h3,fun c2 lK d g hl=>⟨us,rfl,hl⟩⟩
   |ptr os=>
    obtain ⟨v,l,h1,⟨qZ,us,ty,_,_,_,g4⟩,h3⟩:=h;exact ⟨v,l,.slice none 0 0::us.toList,h1,⟨_,rfl,g4⟩,h3,fun _ _ _ _ _=>trivial⟩
  obtain ⟨l1,a1,a2⟩:=cD.cells r.Ae j us hL;obtain ⟨l2,b1,b2,b3,b4⟩:=oa.vals rs (j+r.Ae.length) l hR;have Ze:cj ((r::rs).flatMap RV.Ae)=cj r.Ae++cj (rs.flatMap RV.Ae):=by
   rw [List.flatMap_cons,zM]
  refine ⟨fun k=>if k<j+r.Ae.length then l1 k else l2 k,fun k A hA => ?_,by simp [b2],fun d g=>by simp [mU,b3],fun c2 lK d g iR m9 Et hg k x v' hx wU => ?_⟩
  ·rw [Ze,pg,oV] at hA
   by_cases e:k<r.Ae.length
   ·rw [if_pos e] at hA;have:=a1 k A hA;show ∃v,OwnAt c w _ (if j+k<_ then _ else _) A v;rw [if_pos (by omega)];exact this
   ·rw [if_neg e] at hA;have:=b1 _ A hA;rw [show j+r.Ae.length+(k-r.Ae.length)=j+k by omega] at this;show ∃v,OwnAt c w _ (if j+k<_ then _ else _) A v;rw [if_neg (by omega)];exact this
  ·rw [Ze] at Et;rw [List.flatMap_cons,List.length_append] at m9 Et
   cases k with
   |zero=>
    simp only [mU,List.getElem?_cons_zero,Option.some.injEq] at hx wU;subst hx wU;refine hV c2 lK d g (a2 c2 lK d g iR (fun k hk => ?_) (fun k A hk hA => ?_) hg)
    ·have:c2.lc d (j+k)=if j+k<j+r.Ae.length then l1 (j+k) else l2 (j+k):=m9 k (by omega)
     rwa [if_pos (by omega)] at this
    ·have:=Et k A (by omega) hA
     rwa [pg,oV,if_pos hk] at this
   |succ k=>
    refine b4 c2 lK d g iR (fun k hk => ?_) (fun k A hk hA => ?_) hg k x v' (by simpa [mU] using hx) (by simpa using wU)
    ·have:c2.lc d (j+(r.Ae.length+k))=if j+(r.Ae.length+k)<j+r.Ae.length then l1 (j+(r.Ae.length+k)) else l2 (j+(r.Ae.length+k)):=m9 (r.Ae.length+k) (by omega)
     rw [if_neg (by omega)] at this;rw [Nat.add_assoc];exact this
    ·rw [Nat.add_assoc] at hA;have:=Et (r.Ae.length+k) A (by omega) hA
     rwa [pg,oV,if_neg (by omega),Nat.add_sub_cancel_left] at this
def ye (d:Nat):Lb→Lb
 |.ky 0=>.box d
 |.ky (j+1)=>.sp d (j+1)
 |l=>l
theorem B2 (d:Nat):Fz (ye d):=⟨fun l h=>by
 cases l with
 |ky j=>cases j<;>simp [ye,Lb.real] at h ⊢
 |_=>simp [ye,Lb.real] at h ⊢⟩
theorem ni.XU {X:Lb→Prop} {w0:World} {mu:Mu} {c:Cz} {st:St} {a:Act} {w:World} (h:ni X w0 mu c st a w) {d:Nat} {s0:Sl} {os:List OV} {v:Value} (mL:nth st d=some s0)
  (hv:∃qZ us ty,v=.pointer (some ⟨qZ,0,none⟩)∧c.own qZ=some (.ky 0)∧w.heap[qZ]?=some (.cells us ty (0,0))∧cD c w .ky 1 os us.toList) (hd:d<a.tmps.size) :
  ∃c',ni X w0 mu c' (sM (fun s=>{ s with v:=.one (.ptr d (s.bg+1) 0),box:=some (bT d (s.ag+1) 1 os),bg:=s.bg+1,bQ:=none::cj os,ag:=s.ag+1 }) st d) (a.put (some d) v) w∧
   Fw c st w c' (sM (fun s=>{ s with v:=.one (.ptr d (s.bg+1) 0),box:=some (bT d (s.ag+1) 1 os),bg:=s.bg+1,bQ:=none::cj os,ag:=s.ag+1 }) st d) w∧∀b l,l.real=true→c.own b=some l→c'.own b=some l:=by
 obtain ⟨qZ,us,ty,rfl,ki,UG,hL⟩:=hv;obtain ⟨lcs,g1,g2⟩:=cD.cells os 1 _ hL
 let c':=c.gT (ye d) (fun s=>if s=d then qZ else c.bx s) (fun s j=>if s=d then lcs j else c.lc s j)
 let bN:=sM (fun s=>{ s with v:=.one (.ptr d (s.bg+1) 0),box:=some (bT d (s.ag+1) 1 os),bg:=s.bg+1,bQ:=none::cj os,ag:=s.ag+1 }) st d
 have hn:∀s,nth bN s=if s=d then some { s0 with v:=.one (.ptr d (s0.bg+1) 0),box:=some (bT d (s0.ag+1) 1 os),bg:=s0.bg+1,bQ:=none::cj os,ag:=s0.ag+1 } else nth st s:=by
  intro s;show nth (sM _ st d) s=_;rw [kS]
  by_cases e:s=d
  ·subst e;rw [if_pos rfl,if_pos rfl,mL];rfl
  ·rw [if_neg e,if_neg e]
 have MO:gD bN d=s0.ag+1:=by unfold gD;rw [hn];simp
 have MP:gD st d=s0.ag:=by unfold gD;rw [mL]
 have Zf:jO bN d=s0.bg+1:=by unfold jO;rw [hn];simp
 have aak:jO st d=s0.bg:=by unfold jO;rw [mL]
 have ht:=B2 d;have lJ:Fw c st w c' bN w:={
  stays:=rj c w _ _ _
  refs:=fun a' j' g' A' hg ig=>by
   obtain ⟨sl,k1,k2,k3⟩:=du ig;rw [hn] at k1
   by_cases e:a'=d
   ·rw [if_pos e] at k1
    cases k1
    subst e;simp only at k2;omega
   ·rw [if_neg e] at k1;exact ⟨A',Bu k1 k2 k3,rfl,rfl,by show (if a'=d then _ else _)=_;rw [if_neg e],fun _=>⟨rfl,fun _ _ _ _=>rfl⟩⟩
  GD:=fun b' g' rW hg OI=>by
   obtain ⟨sl,k1,k2,k3⟩:=jR OI;rw [hn] at k1
   by_cases e:b'=d
   ·rw [if_pos e] at k1
    cases k1
    subst e;simp only at k2;omega
   ·rw [if_neg e] at k1;exact ⟨⟨rW,by unfold fL;rw [k1];simp [k2,k3]⟩,by show (if b'=d then _ else _)=_;rw [if_neg e]⟩
  gA:=fun a'=>by
   by_cases e:a'=d
   ·subst e;rw [MO,MP];omega
   ·unfold gD;rw [hn,if_neg e];exact Nat.le_refl _
  gB:=fun a'=>by
   by_cases e:a'=d
   ·subst e;rw [Zf,aak];omega
   ·unfold jO;rw [hn,if_neg e];exact Nat.le_refl _
  gE:=fun a'=>by
   by_cases e:a'=d
   ·subst e;unfold wk;rw [hn,if_pos rfl,mL];exact Nat.le_refl _
   ·unfold wk;rw [hn,if_neg e];exact Nat.le_refl _ }
 have MQ:∀k A,cE bN d (1+k) (s0.ag+1)=some A→nth (cj os) k=some (some A):=by
  intro k A hA;obtain ⟨sl,k1,k2,k3⟩:=du hA;rw [hn,if_pos rfl] at k1
  cases k1
  rw [show 1+k=k+1 by omega] at k3;exact k3
 have xu:∀t,gR c' bN w (dF bN t) ((a.put (some d) (.pointer (some ⟨qZ,0,none⟩))).eval (.tmp t)):=by
  intro t;rw [eval_put]
  by_cases e:t=d
  ·subst e;rw [if_pos ⟨rfl,hd⟩];have:dF bN t=.one (.ptr t (s0.bg+1) 0):=by unfold dF;rw [hn,if_pos rfl]
   rw [this];refine ⟨rfl,by rw [Zf];exact Nat.le_refl _,fun cs _ => ?_⟩;show _=Value.pointer (some ⟨(if t=t then qZ else c.bx t),0,none⟩);rw [if_pos rfl]
  ·rw [if_neg (by rintro ⟨e2,_⟩;exact e (Option.some.inj e2).symm)];have:dF bN t=dF st t:=by unfold dF;rw [hn,if_neg e]
   rw [this];exact lJ.uY (h.iX t)
 refine ⟨c',⟨xu,fun s sl cs hX hs hb => ?_,fun s j sl A hX hs hA => ?_,fun b l hb => ?_,fun b hb h1=>h.free b hb (by unfold Cz.ok at *;simpa [c',Cz.gT] using h1),h.kept,h.old,by simpa [Act.put] using h.plain,fun p hp=>lJ.gS (h.gS p hp)⟩,lJ,fun b l hl hb => ?_⟩
 case refine_4=>
  show (c.own b).map (ye d)=_;rw [hb];simp [(B2 d).other l (.inr hl)]
 ·rw [hn] at hs
  by_cases e:s=d
  ·subst e;rw [if_pos rfl] at hs
   cases hs
   simp only [Option.some.injEq] at hb;subst hb;refine ⟨?_,us,ty,by show w.heap[if s=s then qZ else c.bx s]?=_;rw [if_pos rfl];exact UG,?_⟩
   ·show (c.own (if s=s then qZ else c.bx s)).map (ye s)=some (.box s);rw [if_pos rfl,ki];rfl
   ·exact g2 c' bN s (s0.ag+1) (fun b hb=>Cz.sa.2 hb) (fun k _=>by show (if s=s then _ else _)=_;rw [if_pos rfl]) (fun k A _ hA=>MQ k A hA) (by rw [MO];exact Nat.le_refl _)
  ·rw [if_neg e] at hs;exact (h.boxes s sl cs hX hs hb).gT ht lJ (by show (if s=d then _ else _)=_;rw [if_neg e])
 ·rw [hn] at hs
  by_cases e:s=d
  ·subst e;rw [if_pos rfl] at hs
   cases hs
   cases j with
   |zero=>simp [nth] at hA
   |succ j=>
    obtain ⟨v',wU⟩:=g1 j A hA;rw [show 1+j=j+1 by omega] at wU;exact wU.arr (by simp) (by simp [ye])
  ·rw [if_neg e] at hs;exact (h.bQ s j sl A hX hs hA).gT ht (by simp [e])
 ·simp only [c',Cz.gT,Option.map_eq_some_iff] at hb;obtain ⟨k,hk,e⟩:=hb;obtain ⟨h1,h2⟩:=h.owned b k hk;refine ⟨h1,h2.imp (fun e2 => ?_) id⟩;subst e2;rw [←e];rfl
theorem Lq {st:St} {d:Nat} {outs:List RV} (h:∀os,outs≠[.ptr os]):Ah st (some d) outs=match nth st d with
  |some s=>some (sM (fun sl=>{ sl with v:=(match mU d (s.ag+1) 0 outs with | [v]=>v | vs=>.pM vs),bQ:=cj (outs.flatMap RV.Ae),ag:=s.ag+1 }) st d)
  |none=>none:=by
 unfold Ah;simp only
 cases nth st d with
 |none=>rfl
 |some s=>
  cases outs with
  |nil=>rfl
  |cons r l=>cases l with
   |cons _ _=>cases r<;>rfl
   |nil=>cases r with
    |one o=>rfl
    |agg os=>rfl
    |ptr os=>exact absurd rfl (h os)
theorem ni.laid {X:Lb→Prop} {w0:World} {mu:Mu} {c:Cz} {st:St} {a:Act} {w:World} (h:ni X w0 mu c st a w) {d:Option Nat} {outs:List RV} {v:Value} (hv:u9 c w outs v) {bN:St} (hl:Ah st d outs=some bN) (hd:∀k,d=some k→k<a.tmps.size) :
  ∃c',ni X w0 mu c' bN (a.put d v) w∧Fw c st w c' bN w∧∀b l,l.real=true→c.own b=some l→c'.own b=some l:=by
 cases d with
 |none=>
  cases outs with
  |nil=>
   simp only [Ah,Option.some.injEq] at hl;subst hl;exact ⟨c,h,Fw.refl c st w,fun _ _ _ h=>h⟩
  |cons _ _=>simp [Ah] at hl
 |some d=>
  by_cases hp:∃os,outs=[.ptr os]
  ·obtain ⟨os,rfl⟩:=hp;unfold Ah at hl;simp only at hl
   cases mL:nth st d with
   |none=>simp [mL] at hl
   |some s0=>
    simp only [mL,Option.some.injEq] at hl;subst hl;refine h.XU mL ?_ (hd d rfl);rcases hv with ⟨r,h1,h2⟩ | ⟨h1,_⟩
    ·simp only [List.cons.injEq,and_true] at h1;subst h1;obtain ⟨v',l,e1,h3,_⟩:=h2;simp only [List.cons.injEq] at e1;rw [e1.1];exact h3
    ·exact absurd rfl h1
  rw [Lq (fun os e=>hp ⟨os,e⟩)] at hl
  cases mL:nth st d with
  |none=>simp [mL] at hl
  |some s0=>
   simp only [mL,Option.some.injEq] at hl;obtain ⟨vs,hR,hVV⟩:∃vs,oa c w 0 outs vs∧∀(c2:Cz) (lK:St) (g:Nat),(mU d g 0 outs).length=vs.length→(∀(k:Nat) (x:V) (u:Value),(mU d g 0 outs)[k]?=some x→vs[k]?=some u→CX c2 lK w x u)→
     gR c2 lK w (match mU d g 0 outs with | [v]=>v | vs=>.pM vs) v:=by
    rcases hv with ⟨r,rfl,h2⟩ | ⟨h1,vs,rfl,h2⟩
    ·refine ⟨[v],h2,fun c2 lK g hlen Di => ?_⟩;exact MK (Di 0 _ v rfl rfl)
    ·refine ⟨vs.toList,h2,fun c2 lK g hlen Di => ?_⟩;have aal:gR c2 lK w (.pM (mU d g 0 outs)) (.tuple vs):=⟨vs,rfl,by simpa using hlen,fun i x y hx hy=>Di i x y hx (by simpa using hy)⟩
     split
     ·rename_i x hx;obtain ⟨_,_,_,b3,_⟩:=oa.vals outs 0 vs.toList h2;have:=b3 d g;rw [hx] at this;exact absurd this.symm h1
     ·exact aal
   obtain ⟨lcs,g1,g2,g3,g4⟩:=oa.vals outs 0 vs hR
   let c':=c.gT (Dh d) c.bx (fun s j=>if s=d then lcs j else c.lc s j)
   let V0:=(match mU d (s0.ag+1) 0 outs with | [v]=>v | vs=>.pM vs)
   have hn:∀s,nth bN s=if s=d then some { s0 with v:=V0,bQ:=cj (outs.flatMap RV.Ae),ag:=s0.ag+1 } else nth st s:=by
    intro s;rw [←hl,kS]
    by_cases e:s=d
    ·subst e;rw [if_pos rfl,if_pos rfl,mL];rfl
    ·rw [if_neg e,if_neg e]
   have MO:gD bN d=s0.ag+1:=by unfold gD;rw [hn];simp
   have MP:gD st d=s0.ag:=by unfold gD;rw [mL]
   have ht:=B1 d;have lJ:Fw c st w c' bN w:={
    stays:=rj c w _ _ _
    refs:=fun a' j' g' A' hg ig=>by
     obtain ⟨sl,k1,k2,k3⟩:=du ig;rw [hn] at k1
     by_cases e:a'=d
     ·rw [if_pos e] at k1
      cases k1
      subst e;simp only at k2;omega
     ·rw [if_neg e] at k1;exact ⟨A',Bu k1 k2 k3,rfl,rfl,by show (if a'=d then _ else _)=_;rw [if_neg e],fun _=>⟨rfl,fun _ _ _ _=>rfl⟩⟩
    GD:=fun b' g' rW hg OI=>by
     obtain ⟨sl,k1,k2,k3⟩:=jR OI;rw [hn] at k1
     by_cases e:b'=d
     ·rw [if_pos e] at k1
      cases k1
      subst e;exact ⟨⟨rW,by unfold fL;rw [mL];simp at k2 k3;simp [k2,k3]⟩,rfl⟩
     ·rw [if_neg e] at k1;exact ⟨⟨rW,by unfold fL;rw [k1];simp [k2,k3]⟩,rfl⟩
    gA:=fun a'=>by
     by_cases e:a'=d
     ·subst e;rw [MO,MP];omega
     ·unfold gD;rw [hn,if_neg e];exact Nat.le_refl _
    gB:=fun a'=>by
     by_cases e:a'=d
     ·subst e;unfold jO;rw [hn,if_pos rfl,mL];exact Nat.le_refl _
     ·unfold jO;rw [hn,if_neg e];exact Nat.le_refl _
    gE:=fun a'=>by
     by_cases e:a'=d
     ·subst e;unfold wk;rw [hn,if_pos rfl,mL];exact Nat.le_refl _
     ·unfold wk;rw [hn,if_neg e];exact Nat.le_refl _ }
   have MQ:∀k A,cE bN d k (s0.ag+1)=some A→nth (cj (outs.flatMap RV.Ae)) k=some (some A):=by
    intro k A hA;obtain ⟨sl,k1,k2,k3⟩:=du hA;rw [hn,if_pos rfl] at k1
    cases k1
    exact k3
   have xu:∀t,gR c' bN w (dF bN t) ((a.put (some d) v).eval (.tmp t)):=by
    intro t;rw [eval_put]
    by_cases e:t=d
    ·subst e;rw [if_pos ⟨rfl,hd t rfl⟩];have:dF bN t=V0:=by unfold dF;rw [hn,if_pos rfl]
     rw [this];refine hVV c' bN (s0.ag+1) (by rw [g3,g2]) (g4 c' bN t (s0.ag+1) (fun b hb=>Cz.sa.2 hb) (fun k _ => ?_) (fun k A _ hA=>MQ k A (by simpa using hA)) (by rw [MO];exact Nat.le_refl _));show (if t=t then _ else _)=_;rw [if_pos rfl]
    ·rw [if_neg (by rintro ⟨e2,_⟩;exact e (Option.some.inj e2).symm)];have:dF bN t=dF st t:=by unfold dF;rw [hn,if_neg e]
     rw [this];exact lJ.uY (h.iX t)
   refine ⟨c',⟨xu,fun s sl cs hX hs hb => ?_,fun s j sl A hX hs hA => ?_,fun b l hb => ?_,fun b hb h1=>h.free b hb (by unfold Cz.ok at *;simpa [c',Cz.gT] using h1),h.kept,h.old,by simpa [Act.put] using h.plain,fun p hp=>lJ.gS (h.gS p hp)⟩,lJ,fun b l hl hb => ?_⟩
   case refine_4=>
    show (c.own b).map (Dh d)=_;rw [hb];simp [(B1 d).other l (.inr hl)]
   ·rw [hn] at hs
    by_cases e:s=d
    ·subst e;rw [if_pos rfl] at hs
     cases hs
     exact (h.boxes s s0 cs hX mL hb).gT ht lJ rfl
    ·rw [if_neg e] at hs;exact (h.boxes s sl cs hX hs hb).gT ht lJ rfl
   ·rw [hn] at hs
    by_cases e:s=d
    ·subst e;rw [if_pos rfl] at hs
     cases hs
     obtain ⟨v',wU⟩:=g1 j A hA;exact wU.arr (by simp) (by simp [Dh])
    ·rw [if_neg e] at hs;exact (h.bQ s j sl A hX hs hA).gT ht (by simp [e])
   ·simp only [c',Cz.gT,Option.map_eq_some_iff] at hb;obtain ⟨k,hk,e⟩:=hb;obtain ⟨h1,h2⟩:=h.owned b k hk;refine ⟨h1,h2.imp (fun e2 => ?_) id⟩;subst e2;rw [←e];rfl
end Go.TM
namespace Go.TM
open Go Go.RowKit
theorem JO {st:St} {own:Bool}:(cs:List CV)→{os:List OV}→{u:List (Option Lb)}→{r:List (Nat×Nat)}→jh st own cs=some (os,u,r)→∀l∈dG u,l∈cs.filterMap fun x=>match x with | .ref a j _ _=>some (Lb.sp a j) | _=>none
 | [],_,_,_,h=>by
  simp only [jh,Option.some.injEq,Prod.mk.injEq] at h;obtain ⟨_,rfl,_⟩:=h;simp [dG]
 |x::cs,os,u,r,h=>by
  unfold jh at h
  cases hc:kU st own x with
  |none=>simp [hc] at h
  |some p=>
   obtain ⟨o,u1,r1⟩:=p
   cases hq:jh st own cs with
   |none=>simp [hc,hq] at h
   |some q=>
    obtain ⟨Em,us,rs⟩:=q;simp only [hc,hq,Option.some.injEq,Prod.mk.injEq] at h;obtain ⟨_,rfl,_⟩:=h;intro l hl;rw [kX] at hl;rcases List.mem_cons.1 hl with hl | hl
    ·refine List.mem_filterMap.2 ⟨x,List.mem_cons_self,?_⟩
     cases x with
     |ref a j g w=>
      unfold kU at hc;simp only at hc
      cases hA:cE st a j g with
      |none=>simp [hA] at hc
      |some A=>
       simp only [hA] at hc
       cases hm:A.md.Ro with
       |true=>simp [hm] at hc
       |false=>
       simp only [hm,cond_false] at hc
       cases hb:(own&&A.own&&(A.md.is .sh||w.isFull))<;>simp only [hb,cond_true,cond_false,Option.some.injEq,Prod.mk.injEq] at hc<;>obtain ⟨_,rfl,_⟩:=hc
       ·cases hl
       ·exact hl.symm
     |nK q y off=>obtain ⟨_,rfl,_⟩:=Dc hc;cases hl
     |xn q y off=>obtain ⟨_,rfl,_⟩:=Br hc;cases hl
     |_=>
      simp only [kU,Option.some.injEq,Prod.mk.injEq,reduceCtorEq] at hc
      all_goals (obtain ⟨_,rfl,_⟩:=hc;cases hl)
    ·have:=JO cs hq l (kX.2 hl);obtain ⟨y,h1,h2⟩:=List.mem_filterMap.1 this;exact List.mem_filterMap.2 ⟨y,List.mem_cons_of_mem _ h1,h2⟩
theorem OU {st:St} {m:Pm} {v:V} {av:AV} {u q:List Lb} {r:List (Nat×Nat)} (h:jw st m v=some (av,u,q,r)):∀l∈u,(l∈q∧∃s j,l=.sp s j)∨l∈Ev m v:=by
 have single:∀own cs,(match jh st own cs with | some (os,u,r)=>some (AV.val false os,dG u,dG u,r) | none=>none)=some (av,u,q,r)→∀l∈u,(l∈q∧∃s j,l=.sp s j)∨l∈Ev m v:=by
  intro own cs h
  cases hq:jh st own cs with
  |none=>simp [hq] at h
  |some p=>
   obtain ⟨os,us,rs⟩:=p;simp only [hq,Option.some.injEq,Prod.mk.injEq] at h;obtain ⟨_,rfl,rfl,_⟩:=h;exact fun l hl=>.inl ⟨hl,Bt cs hq l hl⟩
 cases v with
 |pM _=>simp [jw] at h
 |agg cs=>
  have other:(match jh st m.qX cs with | some (os,u,r)=>some (AV.val true os,dG u,dG u,r) | none=>none)=some (av,u,q,r)→∀l∈u,(l∈q∧∃s j,l=.sp s j)∨l∈Ev m (.agg cs):=by
   intro h
   cases hq:jh st m.qX cs with
   |none=>simp [hq] at h
   |some p=>
    obtain ⟨os,us,rs⟩:=p;simp only [hq,Option.some.injEq,Prod.mk.injEq] at h;obtain ⟨_,rfl,rfl,_⟩:=h;exact fun l hl=>.inl ⟨hl,Bt cs hq l hl⟩
  unfold jw at h
  cases m with
  |shr=>exact other h
  |own=>exact other h
  |pick _=>exact other h
  |io=>exact other h
  |dO=>
   simp only at h
   cases hq:jh st true cs with
   |none=>simp [hq] at h
   |some p=>
    obtain ⟨os,us,rs⟩:=p;simp only [hq] at h;obtain ⟨_,h1⟩:=bH h;simp only [Option.some.injEq,Prod.mk.injEq] at h1;obtain ⟨_,rfl,_,_⟩:=h1;exact fun l hl=>.inr (JO cs hq l hl)
 |one cx=>
  cases cx with
  |ptr b g off=>
   unfold jw at h;simp only at h
   cases hb:fL st b g with
   |none=>simp [hb] at h
   |some cs=>
    simp only [hb] at h
    cases hq:jh st true cs with
    |none=>simp [hq] at h
    |some p=>
     obtain ⟨os,us,rs⟩:=p;simp only [hq] at h;obtain ⟨_,h1⟩:=bH h;simp only [Option.some.injEq,Prod.mk.injEq] at h1;obtain ⟨_,rfl,rfl,_⟩:=h1;intro l hl;rcases List.mem_cons.1 hl with rfl | hl
     ·exact .inr (by simp [Ev])
     ·exact .inl ⟨hl,Bt cs hq l hl⟩
  |ref s j g vw=>
   unfold jw at h
   cases m with
   |shr=>exact single _ _ h
   |own=>exact single _ _ h
   |pick _=>exact single _ _ h
   |dO=>exact single _ _ h
   |io=>
    cases vw with
    |full=>
     cases hA:cE st s j g with
     |none=>simp [hA] at h
     |some A=>
      simp only [hA] at h;obtain ⟨_,h1⟩:=bH h;simp only [Option.some.injEq,Prod.mk.injEq] at h1;obtain ⟨_,rfl,_,_⟩:=h1;exact fun l hl=>.inr (by simpa [Ev] using hl)
    |«from» _=>simp at h
    |sub _ _=>simp at h
  |_=>
   unfold jw at h;simp only at h
   split at h
   ·rename_i os us rs hq;simp only [Option.some.injEq,Prod.mk.injEq] at h;obtain ⟨_,rfl,rfl,_⟩:=h;exact fun l hl=>.inl ⟨hl,Bt _ hq l hl⟩
   ·cases h
theorem Ha {st:St}:(ms:List (Pm×V))→{fP:List AV}→{u q:List Lb}→{r:List (Nat×Nat)}→oe st ms=some (fP,u,q,r)→∀l∈u,(l∈q∧∃s j,l=.sp s j)∨∃m∈ms,l∈Ev m.1 m.2
 | [],_,_,_,_,h=>by
  simp only [oe,Option.some.injEq,Prod.mk.injEq] at h;obtain ⟨_,rfl,_⟩:=h;simp
 |(m,v)::ms,fP,u,q,r,h=>by
  unfold oe at h
  cases h1:jw st m v with
  |none=>simp [h1] at h
  |some p1=>
   obtain ⟨av,u1,q1,r1⟩:=p1
   cases h2:oe st ms with
   |none=>simp [h1,h2] at h
   |some p2=>
    obtain ⟨aah,u2,q2,r2⟩:=p2;simp only [h1,h2,Option.some.injEq,Prod.mk.injEq] at h;obtain ⟨rfl,rfl,rfl,rfl⟩:=h;intro l hl;rcases List.mem_append.1 hl with hl | hl
    ·rcases OU h1 l hl with ⟨h3,h4⟩ | h3
     ·exact .inl ⟨List.mem_append_left _ h3,h4⟩
     ·exact .inr ⟨(m,v),List.mem_cons_self,h3⟩
    ·rcases Ha ms h2 l hl with ⟨h3,h4⟩ | ⟨m',h3,h4⟩
     ·exact .inl ⟨List.mem_append_right _ h3,h4⟩
     ·exact .inr ⟨m',List.mem_cons_of_mem _ h3,h4⟩
theorem FB {st:St}:(ms:List (Pm×V))→{fP:List AV}→{u q:List Lb}→{r:List (Nat×Nat)}→oe st ms=some (fP,u,q,r)→∀(k:Nat) (m:Pm×V) (av:AV),ms[k]?=some m→fP[k]?=some av→UE st m av
 | [],_,_,_,_,_=>by intro k m av hm;simp at hm
 |(m,v)::ms,fP,u,q,r,h=>by
  unfold oe at h
  cases h1:jw st m v with
  |none=>simp [h1] at h
  |some p1=>
   obtain ⟨av,u1,q1,r1⟩:=p1
   cases h2:oe st ms with
   |none=>simp [h1,h2] at h
   |some p2=>
    obtain ⟨aah,u2,q2,r2⟩:=p2;simp only [h1,h2,Option.some.injEq,Prod.mk.injEq] at h;obtain ⟨rfl,rfl,rfl,rfl⟩:=h;intro k m' QN hm MW
    cases k with
    |zero=>simp at hm MW;subst hm MW;exact ⟨u1,q1,r1,h1⟩
    |succ k=>exact FB ms h2 k m' QN (by simpa using hm) (by simpa using MW)
theorem RR (a b c:Pm) (l:List V):(CU a b c l).map (·.2)=l:=by
 rcases l with _ | ⟨x,_ | ⟨y,_ | ⟨z,l⟩⟩⟩<;>simp [CU,Function.comp_def]
theorem Cz.Cd:(m:List (Nat×Nat))→(c:Cz)→{b:Nat}→{l:Lb}→c.own b=some l→(∀p∈m,l≠.sp p.1 p.2)→(c.drop m).own b=some l
 | [],_,_,_,h,_=>h
 |(s,j)::m,c,b,l,h,hm=>Cz.Cd m (c.drop1 s j) (Cz.u0 h (hm (s,j) List.mem_cons_self)) (fun p hp=>hm p (List.mem_cons_of_mem _ hp))
def og (P:Program) (S:mI):Prop:=
 ∀f a b c F8,S f=some (a,b,c,F8)→FnOk P f F8∧∃fn,P.funcs[f]?=some fn∧(fn.name == "runtime.NumGoroutine")=false∧fn.body.isNone=false
theorem UH {P:Program} {w0:World} {mu:Mu} {c:Cz} {st bN:St} {a:Act} {w:World} (h:Rel w0 mu c st a w) {o:Oper} {f:FuncId} {vals:Array Value} (u4:(execOp a.eval o).run P w=.ok (.enter f vals) w)
  {F8:Ag} (T1:FnOk P f F8) {ms:List (Pm×V)}
  (hlen:ms.length=vals.toList.length) (Di:∀(k:Nat) (m:Pm×V) (x:Value),ms[k]?=some m→vals.toList[k]?=some x→gR c st w m.2 x)
  {fin:St→N} (hv:(Uf st o.dst F8 ms fin).val=some bN) (hd:∀k,o.dst=some k→k<a.tmps.size) {kp:Bool} (XR:kp=true→OG st ms=true)
  (XW:∀(c5:Cz) (lK:St) (a2:Act) (w':World),Rel w0 mu c5 lK a2 w'→Fw c st w c5 lK w'→
   (∀fP u q r,oe st ms=some (fP,u,q,r)→∀b l,l.real=true→l∉u→(∀p∈r,l≠.sp p.1 p.2)→c.own b=some l→w'.heap[b]?=w.heap[b]?∧c5.own b=some l)→
   (fin lK).val=some bN→∃c6,Rel w0 mu c6 bN a2 w'):BZ P w0 mu bN o a w kp:=by
  unfold Uf at hv;unfold OG at XR
  cases he:oe st ms with
  |none=>simp [he,N.val] at hv
  |some p=>
   obtain ⟨fP,u,q,r⟩:=p;simp only [he] at hv XR;obtain ⟨hc,hv⟩:=ji hv;rw [Bool.and_eq_true] at hc
   cases hs:F8 fP with
   |none=>simp [hs,N.val] at hv
   |some p=>
    simp only [hs] at hv
    cases hox:p.o with
    |none=>rw [hox] at hv;cases hv
    |some x=>
    rw [hox] at hv;have Oy:=hv;clear hv;unfold N.val at Oy;simp only at Oy;generalize Lk:p.res x=res at Oy
    cases hbk:x5 (rX (tK u 0 (bif res.plain then st else freeze st r)) q) ms res.exts with
    |none=>simp [hbk,N.val] at Oy
    |some GL=>
     simp only [hbk] at Oy
     cases hly:Ah GL o.dst res.outs with
     |none=>simp [hly,N.val] at Oy
     |some lK=>
      simp only [hly] at Oy;have Oy:(fin lK).val=some bN:=Oy;obtain ⟨FD,hqu,tb,UI,agX,RS,hold⟩:=JK h ms 0 _ hlen Di he;have Zg:=rZ u FD hc.1;have hap:∀p∈r,Lb.sp p.1 p.2∉u:=by
       intro p hp hm;have h1:=List.all_eq_true.1 hc.2 p hp;have h2:=List.all_eq_true.1 h1 _ hm;rw [(Lb.Dd rfl).2 rfl] at h2
       cases h2
      let lc:Nat→Nat→Loc:=fun k=>match ms[k]? with | some m=>Fy c m.2 | none=>fun _=>.nil
      have Ap:=Classical.propDecidable
      let ρ:Lb→Option Lb:=fun l=>match look tb l with | some y=>some y | none=>if (∃p∈r,l=.sp p.1 p.2) then none else some .out
      have Dj:∀ {l y},look tb l=some y→l∈u∧y.nh=true:=by
       intro l y hl;have:=Bs tb hl;exact ⟨by rw [←UI];exact List.mem_map.2 ⟨_,this,rfl⟩,agX _ this⟩
      have hρr:∀p∈r,ρ (.sp p.1 p.2)=none:=by
       intro p hp;show (match look tb (.sp p.1 p.2) with | some y=>some y | none=>if (∃p'∈r,Lb.sp p.1 p.2=.sp p'.1 p'.2) then none else some .out)=none
       cases hl:look tb (.sp p.1 p.2) with
       |some y=>exact absurd (Dj hl).1 (hap p hp)
       |none=>simp only;rw [if_pos ⟨p,hp,rfl⟩]
      have hρt:∀p∈tb,ρ p.1=some p.2:=by
       intro p hp;have:=De tb (by rw [UI];exact Zg) hp;show (match look tb p.1 with | some y=>some y | none=>_)=_;rw [this]
      have hρh:∀ {l y},ρ l=some y→y=.out∨(y.nh=true∧l∈u):=by
       intro l y hl;have hl:(match look tb l with | some y=>some y | none=>if (∃p∈r,l=.sp p.1 p.2) then none else some .out)=some y:=hl
       cases hk:look tb l with
       |some z=>
        rw [hk] at hl
        cases hl
        exact .inr ⟨(Dj hk).2,(Dj hk).1⟩
       |none=>
        rw [hk] at hl;simp only at hl
        split at hl
        ·cases hl
        ·cases hl;exact .inl rfl
      have hρn:∀ {l},ρ l=none→∃p∈r,l=.sp p.1 p.2:=by
       intro l hl;have hl:(match look tb l with | some y=>some y | none=>if (∃p∈r,l=.sp p.1 p.2) then none else some .out)=none:=hl
       cases hk:look tb l with
       |some z=>rw [hk] at hl;cases hl
       |none=>
        rw [hk] at hl;simp only at hl
        split at hl
        ·assumption
        ·cases hl
      let μ:Mu:={ m:=fun b=>∃l,(c.map ρ).own b=some l∧l.nh=true,ok:=fun b=>(c.map ρ).own b=none,an:=[] }
      have hH:Handed (c.map ρ) w μ:={
       m:=fun b=>Iff.rfl
       ok:=fun b=>Iff.rfl
       lt:=fun b l hb=>by
        obtain ⟨k,hk,_⟩:=Cz.map_some hb;exact (h.owned b k hk).1
       lb:=fun b l hb=>by
        obtain ⟨k,hk,e⟩:=Cz.map_some hb;exact (hρh e).imp id (·.1) }
      have hA:=hold ρ lc (fun k m hm=>by simp only [Nat.zero_add,lc,hm]) hρt hρr;have oD:=T1 (c.map ρ) w μ lc fP vals p x hH hA hs hox;rw [Lk] at oD;intro Q;unfold Oper.wp;rw [u4,Oper.upon_enter];refine oD.mono fun e w' Hb => ?_
      obtain ⟨v,rfl,c1,Ew,hV,hX⟩:=Hb;obtain ⟨c2,s2,Rx,hR2,hF2,hm2,amd,ame⟩:∃(c2:Cz) (s2:St),(bif res.plain then st else freeze st r)=s2∧Rel w0 mu c2 s2 a w∧Fw c st w c2 s2 w∧(∀b,μ.m b→∃l,c2.own b=some l∧l∈u)∧(res.plain=true∨∀b,μ.ok b→c2.own b=none)∧
        (∀b l,(∀p∈r,l≠.sp p.1 p.2)→c.own b=some l→c2.own b=some l):=by
       have hm:∀b,μ.m b→∃l,c.own b=some l∧l∈u:=by
        rintro b ⟨l,hl,hh⟩
        obtain ⟨k,hk,e⟩:=Cz.map_some hl;rcases hρh e with e2 | e2
        ·subst e2;cases hh
        ·exact ⟨k,hk,e2.2⟩
       cases hp:res.plain with
       |true=>exact ⟨c,st,rfl,h,Fw.refl c st w,hm,.inl rfl,fun _ _ _ h=>h⟩
       |false=>
        refine ⟨c.drop r,freeze st r,rfl,Rel.freeze r h,Fw.freeze w r c st,fun b hb => ?_,.inr fun b hb => ?_,fun b l hl hb=>Cz.Cd r c hb hl⟩
        ·obtain ⟨l,h1,h2⟩:=hm b hb;exact ⟨l,Cz.Cd r c h1 (fun p hp e=>hap p hp (e▸h2)),h2⟩
        ·have hb:(c.own b).bind ρ=none:=hb
         cases hk:c.own b with
         |none=>exact Cz.CZ r c b hk
         |some l=>
          rw [hk] at hb;obtain ⟨p,hp,e⟩:=hρn hb;subst e;exact Cz.Gp r c b hk hp
      rw [Rx] at hbk;obtain ⟨g1,g2,gfr,g3,g4⟩:=hR2.agS Ew (X:=fun l=>l∈u) hm2 (fun l hl e=>by subst e;cases FD _ hl) (u:=u) (fun a j h=>RM h);have OW:(∀b,c1.ok b→(c2.merge c1 w.heap.size μ.m).ok b)∨res.plain=true:=by
       rcases amd with h1 | h1
       ·exact .inr h1
       ·exact .inl (g4 h1)
      have UJ:res.plain=true→res.outs.all (fun o=>o.Ae.all OV.plain)=true∧res.exts.all XV.plain=true:=by
       intro hp;unfold Res.plain at hp
       rwa [Bool.and_eq_true] at hp
      have hV':u9 (c2.merge c1 w.heap.size μ.m) w' res.outs v:=hV.pass (fun b j=>g3 b (.ky j) rfl) (OW.imp id fun hp=>(UJ hp).1);have RL:kj (c2.merge c1 w.heap.size μ.m) w' lc 0 fP vals.toList res.exts:=kj.pass fP 0 (fun b k _=>g3 b (.xo k) rfl) (fun b k j _=>g3 b (.dw k j) rfl) _ _ (OW.imp id fun hp=>(UJ hp).2) hX;obtain ⟨c3,k1,k2,k3⟩:=Cc q g1;have agY:∀b,(c2.merge c1 w.heap.size μ.m).ok b→c3.ok b:=fun b hb=>by unfold Cz.ok at *;rw [k3];exact hb
      have hV3:u9 c3 w' res.outs v:=hV'.pass (fun b j hb=>by rw [k3];exact hb) (.inl agY);have hX3:kj c3 w' lc 0 fP vals.toList res.exts:=kj.pass fP 0 (fun b k _ hb=>by rw [k3];exact hb) (fun b k j _ hb=>by rw [k3];exact hb) _ _ (.inl agY) RL;obtain ⟨c4,l1,l2,l3⟩:=G9 ms 0 fP _ _ k1 ((hF2.trans g2).trans k2) Di (FB ms he) RS.symm hlen (fun k m hm=>by simp only [Nat.zero_add,lc,hm]) hX3 hbk;have hV4:u9 c4 w' res.outs v:=hV3.pass (fun b j=>l3.dw b (.ky j) (.inl ⟨j,rfl⟩)) (.inl l3.ok);obtain ⟨c5,n1,n2,n3⟩:=l1.laid hV4 hly hd;have agZ:Rel w0 mu c5 lK (a.put o.dst v) w':=by
       refine (n1.mono (X':=fun _=>False) (fun l hl => ?_)).rel;obtain ⟨⟨RG,hl2⟩,hl3⟩:=hl;rcases Ha ms he l RG with ⟨h1,s,j,e⟩ | ⟨m,h1,h2⟩
       ·subst e;exact hl2 s j h1 rfl
       ·exact hl3 m h1 h2
      obtain ⟨c6,hc6⟩:=XW c5 lK _ w' agZ (l2.trans n2) (fun aah u' q' r' he' b l RG hl2 hl3 hb=>by
       rw [he] at he';simp only [Option.some.injEq,Prod.mk.injEq] at he';obtain ⟨rfl,rfl,rfl,rfl⟩:=he';have Ms:=ame b l hl3 hb;obtain ⟨f1,f2⟩:=gfr b l Ms hl2;refine ⟨f1,n3 b l RG (l3.dw b l (.inr RG) ?_)⟩;rw [k3,f2];exact Ms) Oy
      refine ⟨⟨c6,hc6,u6 _ _ _⟩,fun amg=>⟨Ew.kept.2.2.2,fun k hk=>Ew.old k hk (fun hmu => ?_)⟩⟩;have hu0:u=[]:=by simpa using XR amg
      obtain ⟨_,_,Hc⟩:=hm2 k hmu;rw [hu0] at Hc
      cases Hc
end Go.TM
namespace Go.TM
open Go Go.RowKit
end Go.TM
namespace Go.TM
open Go Go.RowKit
end Go.TM
namespace Go.TM
open Go Go.RowKit
theorem Rel.clear {w0:World} {mu:Mu} {c:Cz} {st:St} {a:Act} {w:World} (h:Rel w0 mu c st a w) (P:Nat):Rel w0 mu c (sM (fun s=>{ s with bQ:=[],ep:=s.ep+1 }) st P) a w∧Fw c st w c (sM (fun s=>{ s with bQ:=[],ep:=s.ep+1 }) st P) w:=by
 have hn:∀s,nth (sM (fun s=>{ s with bQ:=[],ep:=s.ep+1 }) st P) s=if s=P then (nth st s).map (fun z=>{ z with bQ:=[],ep:=z.ep+1 }) else nth st s:=fun s=>kS _ _ _ _
 generalize sM (fun s=>{ s with bQ:=[],ep:=s.ep+1 }) st P=bN at hn ⊢;have lJ:Fw c st w c bN w:={
  stays:=kV.refl w _
  refs:=fun a' j' g' A' _ ig=>by
   obtain ⟨sl,k1,k2,k3⟩:=du ig;rw [hn] at k1
   by_cases e:a'=P
   ·rw [if_pos e] at k1;obtain ⟨z,hz,rfl⟩:=Option.map_eq_some_iff.1 k1;simp [nth] at k3
   ·rw [if_neg e] at k1;exact ⟨A',Bu k1 k2 k3,rfl,rfl,rfl,fun _=>⟨rfl,fun _ _ _ _=>rfl⟩⟩
  GD:=fun b' g' rW _ tS=>by
   refine ⟨⟨rW,?_⟩,rfl⟩;unfold fL at tS ⊢;rw [hn] at tS
   by_cases e:b'=P
   ·rw [if_pos e] at tS
    cases hz:nth st b' with
    |none=>rw [hz] at tS;cases tS
    |some z=>rw [hz] at tS;exact tS
   ·rw [if_neg e] at tS;exact tS
  gA:=fun s=>by
   unfold gD;rw [hn]
   by_cases e:s=P
   ·rw [if_pos e];cases nth st s<;>simp
   ·rw [if_neg e];exact Nat.le_refl _
  gB:=fun s=>by
   unfold jO;rw [hn]
   by_cases e:s=P
   ·rw [if_pos e];cases nth st s<;>simp
   ·rw [if_neg e];exact Nat.le_refl _
  gE:=fun s=>by
   unfold wk;rw [hn]
   by_cases e:s=P
   ·rw [if_pos e];cases nth st s<;>simp
   ·rw [if_neg e];exact Nat.le_refl _ }
 refine ⟨{
  iX:=fun t=>by
   have:dF bN t=dF st t:=by
    unfold dF;rw [hn]
    by_cases e:t=P
    ·rw [if_pos e];cases nth st t<;>rfl
    ·rw [if_neg e]
   rw [this];exact lJ.uY (h.iX t)
  boxes:=fun s sl cs hs hb=>by
   rw [hn] at hs
   by_cases e:s=P
   ·rw [if_pos e] at hs;obtain ⟨z,hz,rfl⟩:=Option.map_eq_some_iff.1 hs;exact (h.boxes s z cs hz hb).go lJ rfl rfl rfl
   ·rw [if_neg e] at hs;exact (h.boxes s sl cs hs hb).go lJ rfl rfl rfl
  bQ:=fun s j sl A hs hA=>by
   rw [hn] at hs
   by_cases e:s=P
   ·rw [if_pos e] at hs;obtain ⟨z,hz,rfl⟩:=Option.map_eq_some_iff.1 hs;simp [nth] at hA
   ·rw [if_neg e] at hs;exact h.bQ s j sl A hs hA
  owned:=h.owned
  free:=h.free
  kept:=h.kept
  old:=h.old
  plain:=h.plain
  gS:=fun p hp=>lJ.gS (h.gS p hp) },lJ⟩
theorem QO {α β:Type} (f:α→β):(l:List α)→(n:Nat)→nth (l.map f) n=(nth l n).map f
 | [],_=>rfl
 |_::_,0=>rfl
 |_::l,n+1=>QO f l n
theorem sw (st:St) (s:Nat):nth (x6 st) s=(nth st s).map (Y8 st):=QO _ _ _
theorem JP (st:St) (a j g:Nat):cE (x6 st) a j g=cE st a j g:=by
 unfold cE;rw [sw]
 cases nth st a<;>rfl
theorem JQ (st:St) (a:Nat):gD (x6 st) a=gD st a:=by
 unfold gD;rw [sw]
 cases nth st a<;>rfl
theorem JR (st:St) (a:Nat):jO (x6 st) a=jO st a:=by
 unfold jO;rw [sw]
 cases nth st a<;>rfl
theorem UK (st:St) (a:Nat):wk (x6 st) a=wk st a:=by
 unfold wk;rw [sw]
 cases nth st a<;>rfl
theorem JS (st:St) (b g:Nat):fL (x6 st) b g=(fL st b g).map fun cs=>cs.map (Fp st):=by
 unfold fL;rw [sw]
 cases nth st b with
 |none=>rfl
 |some x=>
  show (bif Nat.beq x.bg g then x.box.map _ else none)=_;simp only
  cases Nat.beq x.bg g<;>rfl
theorem Fw.x6 (c:Cz) (st:St) (w:World):Fw c st w c (x6 st) w where
 stays:=kV.refl w _
 refs a j g A' _ ig:=by
  rw [JP] at ig;exact ⟨A',ig,rfl,rfl,rfl,fun _=>⟨rfl,fun _ _ _ _=>rfl⟩⟩
 GD b g rW _ h:=by
  rw [JS] at h;obtain ⟨cs,h1,_⟩:=Option.map_eq_some_iff.1 h;exact ⟨⟨cs,h1⟩,rfl⟩
 gA a:=by rw [JQ];exact Nat.le_refl _
 gB a:=by rw [JR];exact Nat.le_refl _
 gE a:=by rw [UK];exact Nat.le_refl _
theorem MX {w0:World} {mu:Mu} {c:Cz} {st:St} {a:Act} {w:World} (h:Rel w0 mu c st a w) {x:CV} {v:Value} (hr:pR c st w x v):pR c st w (Fp st x) v:=by
 unfold Fp
 split
 ·split
  ·rename_i A hA
   cases ho:A.own with
   |true=>exact hr
   |false=>
    cases hm:A.md.is .sh with
    |false=>exact hr
    |true=>
     have hm:=Md.wQ.1 hm;exact CY (h.JA hA) (hr.2.2 A hA) (ok:=c.ok) (fun b h=>h) (fun b q=>by
      rcases q with q | q
      ·rw [ho] at q;cases q
      ·rw [hm] at q;cases q) (by rw [hm];rfl)
  ·exact hr
 ·exact hr
theorem MY {w0:World} {mu:Mu} {c:Cz} {st:St} {a:Act} {w:World} (h:Rel w0 mu c st a w) {cs:List CV} {vs:List Value} (hr:iG c st w cs vs):iG c (x6 st) w (cs.map (Fp st)) vs:=by
 refine ⟨by rw [List.length_map];exact hr.1,fun i x v h1 h2 => ?_⟩;rw [List.getElem?_map] at h1;obtain ⟨y,hy,rfl⟩:=Option.map_eq_some_iff.1 h1;exact (Fw.x6 c st w).XF (MX h (hr.2 i y v hy h2))
theorem UL {w0:World} {mu:Mu} {c:Cz} {st:St} {a:Act} {w:World} (h:Rel w0 mu c st a w) {x:V} {v:Value} (hr:gR c st w x v):gR c (x6 st) w (Ug st x) v:=by
 cases x with
 |one x=>exact (Fw.x6 c st w).XF (MX h hr)
 |agg cs=>
  obtain ⟨vs,h1,h2⟩:=hr;exact ⟨vs,h1,MY h h2⟩
 |pM us=>exact (Fw.x6 c st w).uY hr
theorem Rel.x6 {w0:World} {mu:Mu} {c:Cz} {st:St} {a:Act} {w:World} (h:Rel w0 mu c st a w):Rel w0 mu c (x6 st) a w where
 iX t:=by
  have e:dF (Go.TM.x6 st) t=Ug st (dF st t):=by
   unfold dF;rw [sw]
   cases nth st t<;>rfl
  rw [e];exact UL h (h.iX t)
 boxes s sl cs hs hb:=by
  rw [sw] at hs;obtain ⟨x,hx,rfl⟩:=Option.map_eq_some_iff.1 hs;have hb:x.box.map (fun cs=>cs.map (Fp st))=some cs:=hb;obtain ⟨TY,hc,rfl⟩:=Option.map_eq_some_iff.1 hb;obtain ⟨k1,vs,ty,k2,k3⟩:=h.boxes s x TY hx hc;exact ⟨k1,vs,ty,k2,MY h k3⟩
 bQ s j sl A hs hb:=by
  rw [sw] at hs;obtain ⟨x,hx,rfl⟩:=Option.map_eq_some_iff.1 hs;exact h.bQ s j x A hx hb
 owned:=h.owned
 free:=h.free
 kept:=h.kept
 old:=h.old
 plain:=h.plain
 gS p hp:=by
  have h0:=h.gS p hp
  cases p with
  |arr a j g W n l=>
   refine ⟨by rw [JQ];exact h0.1,fun A hA => ?_⟩;rw [JP] at hA;exact h0.2 A hA
  |box b g qZ=>
   refine ⟨by rw [JR];exact h0.1,fun cs Af => ?_⟩;rw [JS] at Af;obtain ⟨TY,hc,_⟩:=Option.map_eq_some_iff.1 Af;exact h0.2 TY hc
theorem MZ {w0:World} {mu:Mu} {c:Cz} {st:St} {a:Act} {w:World} (ms:List (Pm×V)) (h:Rel w0 mu c st a w):Rel w0 mu c (GC ms st) a w∧∀x v,gR c st w x v→gR c (GC ms st) w x v:=by
 unfold GC
 cases ms.any (fun m=>m.1.Uh)
 ·exact ⟨h,fun _ _ hr=>hr⟩
 ·exact ⟨h.x6,fun _ _ hr=>(Fw.x6 c st w).uY hr⟩
theorem M0 {P:Program} {S:mI} (hS:og P S) {w0:World} {mu:Mu} {c:Cz} {st bN:St} {a:Act} {w:World} (h:Rel w0 mu c st a w) {o:Oper} {f:FuncId} {vals:Array Value} {xs:List V}
  (u4:∀fn,P.funcs[f]?=some fn→fn.name ≠ "runtime.NumGoroutine" → fn.body≠none→(execOp a.eval o).run P w=.ok (.enter f vals) w)
  (Y9:xs.length=vals.toList.length) (ag0:∀(k:Nat) (m:V) (x:Value),xs[k]?=some m→vals.toList[k]?=some x→gR c st w m x)
  (hv:(Jy S st o.dst f xs).val=some bN) (hd:∀k,o.dst=some k→k<a.tmps.size):BZ P w0 mu bN o a w (uG S st f xs):=by
 unfold uG;unfold Jy at hv
 cases hf:S f with
 |none=>simp [hf,N.val] at hv
 |some p=>
  obtain ⟨m1,m2,m3,F8⟩:=p;simp only [hf] at hv ⊢;obtain ⟨T1,fn,UM,amh,ag1⟩:=hS f m1 m2 m3 F8 hf;have u4:=u4 fn UM (by simpa using amh) (by intro e;rw [e] at ag1;cases ag1);have aam:=RR m1 m2 m3 xs;generalize CU m1 m2 m3 xs=ms at hv aam ⊢;have hlen:ms.length=vals.toList.length:=by
   have:=congrArg List.length aam;rw [List.length_map] at this;omega
  have Di:∀(k:Nat) (m:Pm×V) (x:Value),ms[k]?=some m→vals.toList[k]?=some x→gR c st w m.2 x:=by
   intro k m x hm hx;have h1:(ms.map (·.2))[k]?=some m.2:=by rw [List.getElem?_map,hm];rfl
   rw [aam] at h1;exact ag0 k m.2 x h1 hx
  have hR:=h.freeze (IV st ms);have JT:∀(k:Nat) (m:Pm×V) (x:Value),ms[k]?=some m→vals.toList[k]?=some x→gR (c.drop (IV st ms)) (freeze st (IV st ms)) w m.2 x:=fun k m x h1 h2=>(Fw.freeze w _ c st).uY (Di k m x h1 h2)
  generalize freeze st (IV st ms)=ag2 at hv hR JT ⊢;generalize c.drop (IV st ms)=c0 at hR JT;have JT:∀(k:Nat) (m:Pm×V) (x:Value),ms[k]?=some m→vals.toList[k]?=some x→gR c0 (GC ms ag2) w m.2 x:=fun k m x h1 h2=>(MZ ms hR).2 _ _ (JT k m x h1 h2)
  have hR:=(MZ ms hR).1;generalize GC ms ag2=En at hv hR JT ⊢;unfold Y7 at hv;exact UH hR u4 T1 hlen JT hv hd (fun h=>h) (fun c5 lK a2 w' hr _ _ XW=>by
   simp only [N.val,Option.some.injEq] at XW;subst XW;exact ⟨c5,hr⟩)
theorem UN {P:Program} {S:mI} (hS:og P S) {w0:World} {mu:Mu} {c:Cz} {st bN:St} {a:Act} {w:World} (h:Rel w0 mu c st a w) {o:Oper} {f:FuncId} {args:Array Operand} {T0:Array TypeId} (ho:o.op=.call { callee:=.value (.func f),args:=args,argTypes:=T0 })
  (hv:(Jy S st o.dst f (args.toList.map (pz st))).val=some bN) (hd:∀k,o.dst=some k→k<a.tmps.size):BZ P w0 mu bN o a w (kindOk S st o .one):=by
 have hq0:kindOk S st o .one=uG S st f (args.toList.map (pz st)):=by unfold kindOk;simp only [ho]
 rw [hq0];refine M0 (vals:=args.map a.eval) hS h (fun fn UM q2 q3 => ?_) (by simp) (fun k m x hm hx => ?_) hv hd
 ·simp only [execOp,ho];simp [resolve,Act.eval,Deferred.ofValue,invoke,callFunc,Sem.run_bind,UM,q2,q3]
 ·rw [List.getElem?_map] at hm;rw [Array.toList_map,List.getElem?_map] at hx
  cases hy:args.toList[k]? with
  |none=>rw [hy] at hm;simp at hm
  |some y=>
   rw [hy] at hm hx;simp only [Option.map_some,Option.some.injEq] at hm hx;rw [←hm,←hx];exact cP h y
theorem UO {P:Program} {S:mI} (hS:og P S) {w0:World} {mu:Mu} {c:Cz} {st bN:St} {a:Act} {w:World} (h:Rel w0 mu c st a w) {o:Oper} {t g:Nat} {rs:RT} {xs:List (aO rs)} {x:aO rs} {args:Array Operand} {T0:Array TypeId} (ho:o.op=.call { callee:=.value (.tmp t),args:=args,argTypes:=T0 })
  (ht:dF st t=.one (.fn g rs xs)) (Zh:xs[0]?=some x) (hv:(Jy S st o.dst g (args.toList.map (pz st)++zK rs x)).val=some bN) (hd:∀k,o.dst=some k→k<a.tmps.size):BZ P w0 mu bN o a w (kindOk S st o .one):=by
 have hq0:kindOk S st o .one=uG S st g (args.toList.map (pz st)++zK rs x):=by unfold kindOk;simp only [ho,ht,Zh]
 rw [hq0];have T1:=h.iX t;rw [ht] at T1;obtain ⟨Aj,e,ag3⟩:=T1;obtain ⟨k1,k2⟩:=MI (st:=st) rs Aj.toList x (ag3 x Zh);refine M0 (vals:=args.map a.eval++Aj) hS h (fun fn UM q2 q3 => ?_) (by simp [k1]) (fun k m y hm hy => ?_) hv hd
 ·simp only [execOp,ho];simp [resolve,e,Deferred.ofValue,invoke,callFunc,Sem.run_bind,UM,q2,q3]
 ·rw [Array.toList_append] at hy
  by_cases hk:k<args.size
  ·rw [List.getElem?_append_left (by simpa using hk)] at hm hy;rw [List.getElem?_map] at hm;rw [Array.toList_map,List.getElem?_map] at hy
   cases hz:args.toList[k]? with
   |none=>rw [hz] at hm;simp at hm
   |some z=>
    rw [hz] at hm hy;simp only [Option.map_some,Option.some.injEq] at hm hy;rw [←hm,←hy];exact cP h z
  ·rw [List.getElem?_append_right (by simp;omega)] at hm hy;simp only [List.length_map,Array.length_toList,Array.toList_map] at hm hy;exact k2 _ m y hm hy
theorem pT {P:Program} {T:n9} (hT:jx P T) (hE:zV P T) {S:mI} (hS:og P S) (w0:World) (mu:Mu) (n:Nat):wz P T S w0 mu n:=by
 intro c st bN a w o h hn hd hv;have T2:∀k,o.dst=some k→k<a.tmps.size:=fun k hk=>by rw [hn];exact hd k hk
 by_cases hf:Op.OS o.op=true
 ·cases ho:o.op with
  |call cl=>
   obtain ⟨callee,args,T0⟩:=cl
   cases callee with
   |value x=>
    cases x with
    |func f=>
     unfold QA at hv;simp only [ho] at hv;exact UN hS h ho hv T2
    |tmp t=>
     unfold QA at hv;simp only [ho] at hv
     split at hv
     ·rename_i g rs xs ht
      cases Zh:xs[0]? with
      |none=>simp [Zh,N.val] at hv
      |some x=>
       simp only [Zh] at hv;exact UO hS h ho ht Zh hv T2
     ·simp [N.val] at hv
    |_=>rw [ho] at hf;simp [Op.OS] at hf
   |_=>rw [ho] at hf;simp [Op.OS] at hf
  |_=>rw [ho] at hf;simp [Op.OS] at hf
 ·exact aaf hT hE h (by simpa using hf) hv T2
end Go.TM
namespace Go.TM
open Go Go.RowKit
inductive OP where
 |int (k:IntKind)
 |bool
 |str
 |own (r:RT) (d:Md:=.sh)
 |shr (r:RT)
 |nK (r:RT)
 |fn (g:Nat) (rs:RT)
inductive AP where
 |val (agg:Bool) (ps:List OP)
 |io (r:RT) (d:Md:=.sh)
 |box (K8:Bool) (ps:List OP)
 |dO (ps:List OP)
def OP.ty:OP→Ty
 |.int k=>.int k
 |.bool=>.bool
 |.str=>.str
 |.own r _=>.sl r
 |.shr r=>.sl r
 |.nK r=>.sl r
 |.fn _ rs=>.sl rs
def OP.qX:OP→Bool
 |.own _ _=>true
 |_=>false
def oE:List OP→RT→RT
 | [],t=>t
 |p::ps,t=>.cons p.ty (oE ps t)
def AP.rt:AP→RT→RT
 |.val _ ps,t=>oE ps t
 |.io r _,t=>.cons (.sl r) t
 |.box _ ps,t=>oE ps t
 |.dO ps,t=>oE ps t
def aH:List (Option AP)→RT
 | []=>.nil
 |none::l=>aH l
 |some p::l=>p.rt (aH l)
def OP.ov:(p:OP)→den p.ty→OV
 |.int k,n=>.int k n
 |.bool,b=>.bool b
 |.str,s=>.str s
 |.own r d,xs=>.own { r:=r,own:=true,xs:=xs,md:=d }
 |.shr r,xs=>.shr r xs
 |.nK r,xs=>.nK r xs
 |.fn g rs,xs=>.fn g rs xs
def fC:(ps:List OP)→(t:RT)→aO (oE ps t)→List OV×aO t
 | [],_,x=>([],x)
 |p::ps,t,x=>(p.ov x.1::(fC ps t x.2).1,(fC ps t x.2).2)
def AP.av:(p:AP)→(t:RT)→aO (p.rt t)→AV×aO t
 |.val agg ps,t,x=>(.val agg (fC ps t x).1,(fC ps t x).2)
 |.io r d,_,x=>(.io { r:=r,own:=true,xs:=x.1,md:=d },x.2)
 |.box _ ps,t,x=>(.box (fC ps t x).1,(fC ps t x).2)
 |.dO ps,t,x=>(.dO (fC ps t x).1,(fC ps t x).2)
def dV:(l:List (Option AP))→aO (aH l)→List (Option AV)
 | [],_=>[]
 |none::l,x=>none::dV l x
 |some p::l,x=>some (p.av (aH l) x).1::dV l (p.av (aH l) x).2
def ve:(p:OP)→OV→Option (den p.ty)
 |.int k,.int l n=>if k=l then some n else none
 |.bool,.bool b=>some b
 |.str,.str s=>some s
 |.own r d,.own A=>bif A.md.is d then eb r A.xs else none
 |.own _ _,.gg=>some ([]:List _)
 |.shr r,.shr _ xs=>eb r xs
 |.shr _,.gg=>some ([]:List _)
 |.nK r,.nK _ xs=>eb r xs
 |.fn g rs,.fn f _ xs=>bif Nat.beq f g then eb rs xs else none
 |_,_=>none
def fp:(ps:List OP)→(t:RT)→List OV→aO t→Option (aO (oE ps t))
 | [],_,[],y=>some y
 |p::ps,t,o::os,y=>match ve p o,fp ps t os y with
  |some x,some z=>some (x,z)
  |_,_=>none
 |_,_,_,_=>none
def JU:(p:AP)→(t:RT)→AV→aO t→Option (aO (p.rt t))
 |.val true ps,t,.val true os,y=>fp ps t os y
 |.val false ps,t,.val false os,y=>fp ps t os y
 |.io r d,_,.io A,y=>bif A.md.is d then (match eb r A.xs with
  |some xs=>some (xs,y)
  |none=>none) else none
 |.box _ ps,t,.box os,y=>fp ps t os y
 |.dO ps,t,.dO os,y=>fp ps t os y
 |_,_,_,_=>none
def gU:(l:List AP)→List AV→Option (aO (aH (l.map some)))
 | [],[]=>some ()
 |p::l,a::as=>match gU l as with
  |some y=>JU p (aH (l.map some)) a y
  |none=>none
 |_,_=>none
def nj (st:St):(ps:List OP)→(t:RT)→List CV→aO t→Option (aO (oE ps t)×List (Option Lb)×List (Nat×Nat))
 | [],_,[],y=>some (y,[],[])
 |p::ps,t,c::cs,y=>match kU st p.qX c,nj st ps t cs y with
  |some (o,u,r),some (z,us,rs)=>match ve p o with
   |some x=>some ((x,z),u::us,r++rs)
   |none=>none
  |_,_=>none
 |_,_,_,_=>none
def FE (st:St) (k:Nat):(p:AP)→(t:RT)→V→aO t→Option (aO (p.rt t)×List Lb×List (Nat×Nat))
 |.val agg ps,t,v,y=>
  match agg,v with
  |true,.agg cs=>(nj st ps t cs y).map fun q=>(q.1,dG q.2.1,q.2.2)
  |false,.one c=>(nj st ps t [c] y).map fun q=>(q.1,dG q.2.1,q.2.2)
  |_,_=>none
 |.io r d,_,v,y=>
  match v with
  |.one (.ref a j g .full)=>bif Nat.beq a k&&(Nat.beq j 0&&Nat.beq g 1) then ((cE st a j g).bind fun A=>bif A.own&&A.md.is d then (eb r A.xs).map fun xs=>((xs,y),[.sp a j],[]) else none) else none
  |_=>none
 |.box K8 ps,t,v,y=>
  match v with
  |.one (.ptr b g off)=>bif Nat.beq off 0&&(!K8||(Nat.beq b k&&Nat.beq g 1)) then ((fL st b g).bind fun cs=>(nj st ps t cs y).map fun q=>(q.1,.box b::dG q.2.1,q.2.2)) else none
  |_=>none
 |.dO _,_,_,_=>none
def pU (st:St):(k:Nat)→(l:List (Option AP))→Option (aO (aH l)×List Lb×List (Nat×Nat))
 |_,[]=>some ((),[],[])
 |k,none::l=>pU st (k+1) l
 |k,some p::l=>match pU st (k+1) l with
  |some (y,us,rs)=>match FE st k p (aH l) (dF st k) y with
   |some (x,u,r)=>some (x,u++us,r++rs)
   |none=>none
  |none=>none
def Sl.blank:Sl:={ v:=.one .bad,box:=.none,bg:=1,bQ:=[],ag:=1 }
def eT (k:Nat):Option AV→Sl
 |none=>Sl.blank
 |some (.dO os)=>{ v:=.agg (bT k 1 0 os),box:=none,bg:=1,bQ:=cj os,ag:=1 }
 |some (.val true os)=>{ v:=.agg (bT k 1 0 os),box:=none,bg:=1,bQ:=cj os,ag:=1 }
 |some (.val false os)=>{ v:=match bT k 1 0 os with | [c]=>.one c | _=>.one .bad,box:=none,bg:=1,bQ:=cj os,ag:=1 }
 |some (.io A)=>{ v:=.one (.ref k 0 1 .full),box:=none,bg:=1,bQ:=[some A],ag:=1 }
 |some (.box os)=>{ v:=.one (.ptr k 1 0),box:=some (bT k 1 0 os),bg:=1,bQ:=cj os,ag:=1 }
def q7:(k:Nat)→List (Option AV)→St
 |_,[]=>[]
 |k,a::l=>eT k a::q7 (k+1) l
theorem JV:(l:List (Option AV))→(k i:Nat)→nth (q7 k l) i=(l[i]?).map (eT (k+i))
 | [],_,_=>by simp [q7]
 |a::l,k,0=>by simp [q7,nth]
 |a::l,k,i+1=>by
  simp only [q7,nth,List.getElem?_cons_succ];rw [JV l (k+1) i,show k+1+i=k+(i+1) by omega]
theorem M1 {c:Cz} {w:World} {f:Nat→Lb} {j:Nat}:(p:OP)→(o:OV)→(x:den p.ty)→ve p o=some x→{os Em:List OV}→{vs:List Value}→(∀l,cD c w f (j+1) os l→cD c w f (j+1) Em l)→cD c w f j (o::os) vs→cD c w f j (p.ov x::Em) vs
 |.int k,.int l n,x,hx,os,Em,vs,xp,h=>by
  have hx:(if k=l then some (n:Int) else none)=some (x:Int):=hx
  by_cases e:k=l
  ·rw [if_pos e] at hx;have hx:n=x:=Option.some.inj hx;obtain ⟨l',h1,h2⟩:=h;exact ⟨l',by rw [h1,e,hx],xp _ h2⟩
  ·rw [if_neg e] at hx
   cases hx
 |.bool,.bool b,x,hx,os,Em,vs,xp,h=>by
  have hx:b=x:=Option.some.inj hx;subst hx;obtain ⟨l',h1,h2⟩:=h;exact ⟨l',h1,xp _ h2⟩
 |.str,.str b,x,hx,os,Em,vs,xp,h=>by
  have hx:b=x:=Option.some.inj hx;subst hx;obtain ⟨l',h1,h2⟩:=h;exact ⟨l',h1,xp _ h2⟩
 |.own r d,.own A,x,hx,os,Em,vs,xp,h=>by
  obtain ⟨v,l',h1,⟨lc,h2⟩,h3⟩:=h;have hx:(bif A.md.is d then eb r A.xs else none)=some x:=hx;obtain ⟨hd,hx⟩:=bH hx;have hd:=Md.wQ.1 hd;obtain ⟨e,rfl⟩:=cS hx;obtain ⟨r0,RU,tL,md0⟩:=A;simp only at e hd;subst e;have ho:RU=true:=h2.2.2.1;subst ho;exact ⟨v,l',h1,⟨lc,h2⟩,xp _ h3⟩
 |.own r _,.gg,x,hx,os,Em,vs,xp,h=>by
  have hx:([]:List (aO r))=x:=Option.some.inj hx;subst hx;obtain ⟨l',h1,h2⟩:=h;exact ⟨_,l',h1,⟨.nil,rfl,⟨rfl,rfl⟩,rfl,rfl⟩,xp _ h2⟩
 |.shr r,.shr q xs,x,hx,os,Em,vs,xp,h=>by
  obtain ⟨v,l',h1,h2,h3⟩:=h;have hx:eb r xs=some x:=hx;obtain ⟨e,rfl⟩:=cS hx;subst e;exact ⟨v,l',h1,h2,xp _ h3⟩
 |.shr r,.gg,x,hx,os,Em,vs,xp,h=>by
  have hx:([]:List (aO r))=x:=Option.some.inj hx;subst hx;obtain ⟨l',h1,h2⟩:=h;exact ⟨_,l',h1,(qY _ _ _ _ _).2 (.inl ⟨rfl,rfl⟩),xp _ h2⟩
 |.nK r,.nK q xs,x,hx,os,Em,vs,xp,h=>by
  obtain ⟨v,l',h1,h2,h3⟩:=h;have hx:eb r xs=some x:=hx;obtain ⟨e,rfl⟩:=cS hx;subst e;exact ⟨v,l',h1,h2,xp _ h3⟩
 |.fn g r,.fn f q xs,x,hx,os,Em,vs,xp,h=>by
  obtain ⟨v,l',h1,h2,h3⟩:=h;have hx:(bif Nat.beq f g then eb r xs else none)=some x:=hx;obtain ⟨hfg,hx⟩:=bH hx;have hfg:=Nat.eq_of_beq_eq_true hfg;subst hfg;obtain ⟨e,rfl⟩:=cS hx;subst e;exact ⟨v,l',h1,h2,xp _ h3⟩
 |.int _,.bool _,_,hx,_,_,_,_,_=>by cases hx
 |.int _,.str _,_,hx,_,_,_,_,_=>by cases hx
 |.int _,.own _,_,hx,_,_,_,_,_=>by cases hx
 |.int _,.shr _ _,_,hx,_,_,_,_,_=>by cases hx
 |.int _,.gg,_,hx,_,_,_,_,_=>by cases hx
 |.int _,.nK _ _,_,hx,_,_,_,_,_=>by cases hx
 |.int _,.fn _ _ _,_,hx,_,_,_,_,_=>by cases hx
 |.bool,.int _ _,_,hx,_,_,_,_,_=>by cases hx
 |.bool,.str _,_,hx,_,_,_,_,_=>by cases hx
 |.bool,.own _,_,hx,_,_,_,_,_=>by cases hx
 |.bool,.shr _ _,_,hx,_,_,_,_,_=>by cases hx
 |.bool,.gg,_,hx,_,_,_,_,_=>by cases hx
 |.bool,.nK _ _,_,hx,_,_,_,_,_=>by cases hx
 |.bool,.fn _ _ _,_,hx,_,_,_,_,_=>by cases hx
 |.str,.int _ _,_,hx,_,_,_,_,_=>by cases hx
 |.str,.bool _,_,hx,_,_,_,_,_=>by cases hx
 |.str,.own _,_,hx,_,_,_,_,_=>by cases hx
 |.str,.shr _ _,_,hx,_,_,_,_,_=>by cases hx
 |.str,.gg,_,hx,_,_,_,_,_=>by cases hx
 |.str,.nK _ _,_,hx,_,_,_,_,_=>by cases hx
 |.str,.fn _ _ _,_,hx,_,_,_,_,_=>by cases hx
 |.own _ _,.int _ _,_,hx,_,_,_,_,_=>by cases hx
 |.own _ _,.bool _,_,hx,_,_,_,_,_=>by cases hx
 |.own _ _,.str _,_,hx,_,_,_,_,_=>by cases hx
 |.own _ _,.shr _ _,_,hx,_,_,_,_,_=>by cases hx
 |.own _ _,.nK _ _,_,hx,_,_,_,_,_=>by cases hx
 |.own _ _,.fn _ _ _,_,hx,_,_,_,_,_=>by cases hx
 |.shr _,.int _ _,_,hx,_,_,_,_,_=>by cases hx
 |.shr _,.bool _,_,hx,_,_,_,_,_=>by cases hx
 |.shr _,.str _,_,hx,_,_,_,_,_=>by cases hx
 |.shr _,.own _,_,hx,_,_,_,_,_=>by cases hx
 |.shr _,.nK _ _,_,hx,_,_,_,_,_=>by cases hx
 |.shr _,.fn _ _ _,_,hx,_,_,_,_,_=>by cases hx
 |.nK _,.int _ _,_,hx,_,_,_,_,_=>by cases hx
 |.nK _,.bool _,_,hx,_,_,_,_,_=>by cases hx
 |.nK _,.str _,_,hx,_,_,_,_,_=>by cases hx
 |.nK _,.own _,_,hx,_,_,_,_,_=>by cases hx
 |.nK _,.shr _ _,_,hx,_,_,_,_,_=>by cases hx
 |.nK _,.gg,_,hx,_,_,_,_,_=>by cases hx
 |.nK _,.fn _ _ _,_,hx,_,_,_,_,_=>by cases hx
 |.fn _ _,.int _ _,_,hx,_,_,_,_,_=>by cases hx
 |.fn _ _,.bool _,_,hx,_,_,_,_,_=>by cases hx
 |.fn _ _,.str _,_,hx,_,_,_,_,_=>by cases hx
 |.fn _ _,.own _,_,hx,_,_,_,_,_=>by cases hx
 |.fn _ _,.shr _ _,_,hx,_,_,_,_,_=>by cases hx
 |.fn _ _,.gg,_,hx,_,_,_,_,_=>by cases hx
 |.fn _ _,.nK _ _,_,hx,_,_,_,_,_=>by cases hx
theorem xv {c:Cz} {w:World} {f:Nat→Lb}:(ps:List OP)→(t:RT)→(os:List OV)→(y:aO t)→{x:aO (oE ps t)}→fp ps t os y=some x→(fC ps t x).2=y∧∀(j:Nat) (vs:List Value),cD c w f j os vs→cD c w f j (fC ps t x).1 vs
 | [],t,[],y,x,h=>by
  have h:y=x:=Option.some.inj h;subst h;exact ⟨rfl,fun _ _ h=>h⟩
 | [],_,_::_,_,_,h=>by simp [fp] at h
 |_::_,_,[],_,_,h=>by simp [fp] at h
 |p::ps,t,o::os,y,x,h=>by
  unfold fp at h
  cases h1:ve p o with
  |none=>simp [h1] at h
  |some a=>
   cases h2:fp ps t os y with
   |none=>simp [h1,h2] at h
   |some z=>
    simp only [h1,h2] at h;have h:(a,z)=x:=Option.some.inj h;subst h;obtain ⟨g1,g2⟩:=xv (c:=c) (w:=w) (f:=f) ps t os y h2;exact ⟨g1,fun j vs hh=>M1 p o a h1 (fun l=>g2 (j+1) l) hh⟩
theorem cD.UP {c:Cz} {w:World} {f:Nat→Lb}:(os:List OV)→(j:Nat)→(vs:List Value)→cD c w f j os vs→vs.length=os.length∧∀(k:Nat) (o:OV) (u:Value),os[k]?=some o→vs[k]?=some u→cD c w f (j+k) [o] [u]
 | [],j,vs,h=>by
  subst h;exact ⟨rfl,fun k o u h=>by simp at h⟩
 |o::os,j,vs,h=>by
  obtain ⟨v,l,rfl,h1,h2⟩:∃v l,vs=v::l∧cD c w f j [o] [v]∧cD c w f (j+1) os l:=by
   cases o with
   |int k n=>obtain ⟨l,h1,h2⟩:=h;exact ⟨_,l,h1,⟨[],rfl,rfl⟩,h2⟩
   |bool b=>obtain ⟨l,h1,h2⟩:=h;exact ⟨_,l,h1,⟨[],rfl,rfl⟩,h2⟩
   |str b=>obtain ⟨l,h1,h2⟩:=h;exact ⟨_,l,h1,⟨[],rfl,rfl⟩,h2⟩
   |gg=>obtain ⟨l,h1,h2⟩:=h;exact ⟨_,l,h1,⟨[],rfl,rfl⟩,h2⟩
   |shr r xs=>obtain ⟨v,l,h1,h2,h3⟩:=h;exact ⟨v,l,h1,⟨v,[],rfl,h2,rfl⟩,h3⟩
   |nK r xs=>obtain ⟨v,l,h1,h2,h3⟩:=h;exact ⟨v,l,h1,⟨v,[],rfl,h2,rfl⟩,h3⟩
   |fn g r xs=>obtain ⟨v,l,h1,h2,h3⟩:=h;exact ⟨v,l,h1,⟨v,[],rfl,h2,rfl⟩,h3⟩
   |own A=>obtain ⟨v,l,h1,h2,h3⟩:=h;exact ⟨v,l,h1,⟨v,[],rfl,h2,rfl⟩,h3⟩
  obtain ⟨g1,g2⟩:=cD.UP os (j+1) l h2;refine ⟨by simp [g1],fun k o' u ho hu => ?_⟩
  cases k with
  |zero=>
   simp only [List.getElem?_cons_zero,Option.some.injEq] at ho hu;subst ho hu;exact h1
  |succ k=>
   have:=g2 k o' u (by simpa using ho) (by simpa using hu)
   rwa [show j+1+k=j+(k+1) by omega] at this
theorem JW:(ps:List OP)→(t:RT)→(os:List OV)→(y:aO t)→{x:aO (oE ps t)}→fp ps t os y=some x→∀(k:Nat) (o':OV),(fC ps t x).1[k]?=some o'→∃(p:OP) (o:OV) (z:den p.ty),os[k]?=some o∧ve p o=some z∧o'=p.ov z
 | [],t,[],y,x,h=>by
  intro k o' hk;simp [fC] at hk
 | [],_,_::_,_,_,h=>by simp [fp] at h
 |_::_,_,[],_,_,h=>by simp [fp] at h
 |p::ps,t,o::os,y,x,h=>by
  unfold fp at h
  cases h1:ve p o with
  |none=>simp [h1] at h
  |some a=>
   cases h2:fp ps t os y with
   |none=>simp [h1,h2] at h
   |some z=>
    simp only [h1,h2] at h;have h:(a,z)=x:=Option.some.inj h;subst h;intro k o' hk
    cases k with
    |zero=>
     have hk:some (p.ov a)=some o':=hk;simp only [Option.some.injEq] at hk;exact ⟨p,o,a,rfl,h1,hk.symm⟩
    |succ k=>
     have hk:(fC ps t z).1[k]?=some o':=hk;obtain ⟨p',o1,z',q1,q2,q3⟩:=JW ps t os y h2 k o' hk;exact ⟨p',o1,z',by simpa using q1,q2,q3⟩
theorem RW {p:OP} {o:OV} {z:den p.ty} (h:ve p o=some z) {A:nd} (he:p.ov z=.own A):(∃B,o=.own B∧A.r=B.r∧A.own=true∧A.xs.length=B.xs.length∧(B.own=true→A=B))∨(o=.gg∧∃r d,A={ r:=r,own:=true,xs:=([]:List (aO r)),md:=d }):=by
 cases p with
 |own r d=>
  injection he with he;subst he
  cases o with
  |own B=>
   have h:(bif B.md.is d then eb r B.xs else none)=some z:=h;obtain ⟨hd,h⟩:=bH h;have hd:=Md.wQ.1 hd;obtain ⟨e,rfl⟩:=cS h;obtain ⟨r0,RU,tL,md0⟩:=B;simp only at e hd;subst e;exact .inl ⟨_,rfl,rfl,rfl,rfl,fun ho=>by simp only at ho;subst ho;rfl⟩
  |gg=>
   have h:([]:List (aO r))=z:=Option.some.inj h;subst h;exact .inr ⟨rfl,r,d,rfl⟩
  |_=>cases h
 |int _=>cases he
 |bool=>cases he
 |str=>cases he
 |shr _=>cases he
 |nK _=>cases he
 |fn _ _=>cases he
theorem M3 {p:OP} (z:den p.ty):p.ov z≠.gg:=by
 cases p<;>(intro h;cases h)
theorem M4 {c:Cz} {w:World} {i:Nat} {lc:Nat→Loc} {p:AP} {t:RT} {av:AV} {y:aO t} {x:aO (p.rt t)} (h:JU p t av y=some x):(p.av t x).2=y∧∀v,wA c w i lc av v→wA c w i lc (p.av t x).1 v:=by
 cases p with
 |val agg ps=>
  cases agg with
  |true=>
   cases av with
   |val XX os=>
    cases XX with
    |true=>
     have h:fp ps t os y=some x:=h;obtain ⟨g1,g2⟩:=xv (c:=c) (w:=w) (f:=.dw i) ps t os y h;exact ⟨g1,fun v ⟨vs,hv,hl⟩=>⟨vs,hv,g2 0 _ hl⟩⟩
    |false=>cases h
   |_=>cases h
  |false=>
   cases av with
   |val XX os=>
    cases XX with
    |false=>
     have h:fp ps t os y=some x:=h;obtain ⟨g1,g2⟩:=xv (c:=c) (w:=w) (f:=.dw i) ps t os y h;exact ⟨g1,fun v hl=>g2 0 _ hl⟩
    |true=>cases h
   |_=>cases h
 |io r d=>
  cases av with
  |io A=>
   have h:(bif A.md.is d then (match eb r A.xs with | some xs=>some ((xs,y):aO (.cons (.sl r) t)) | none=>none) else none)=some x:=h;obtain ⟨hd,h⟩:=bH h;have hd:=Md.wQ.1 hd
   cases hc:eb r A.xs with
   |none=>rw [hc] at h;cases h
   |some xs=>
    rw [hc] at h
    cases h
    refine ⟨rfl,fun v hl => ?_⟩;obtain ⟨e,rfl⟩:=cS hc;obtain ⟨r0,RU,tL,md0⟩:=A;simp only at e hd;subst e;have ho:RU=true:=hl.2.2.1;subst ho;exact hl
  |_=>cases h
 |box K8 ps=>
  cases av with
  |box os=>
   have h:fp ps t os y=some x:=h;obtain ⟨g1,g2⟩:=xv (c:=c) (w:=w) (f:=.dw i) ps t os y h;exact ⟨g1,fun v ⟨qZ,vs,ty,q1,q2,q3,q4⟩=>⟨qZ,vs,ty,q1,q2,q3,g2 0 _ q4⟩⟩
  |_=>cases h
 |dO ps=>
  cases av with
  |dO os=>
   have h:fp ps t os y=some x:=h;obtain ⟨g1,g2⟩:=xv (c:=c) (w:=w) (f:=.dw i) ps t os y h;refine ⟨g1,fun v ⟨vs,q1,q2,q3⟩=>⟨vs,q1,g2 0 _ q2,fun j o u ho hu => ?_⟩⟩;obtain ⟨p,o0,z,k1,k2,rfl⟩:=JW ps t os y h j o ho;have h0:=q3 j o0 u k1 hu;have hL:=(cD.UP os 0 _ q2).2 j o0 u k1 hu;unfold UA at h0 ⊢
   cases he:p.ov z with
   |gg=>exact absurd he (M3 z)
   |own A=>
    rcases RW k2 he with ⟨B,rfl,e1,e2,e3,e4⟩ | ⟨rfl,r,d,rfl⟩
    ·have h0:OwnAt c w (.dw i j) (lc j) B u:=h0;have:=e4 h0.2.2.1;subst this;exact h0
    ·have h0:lc j=.nil:=h0;obtain ⟨l,hl,_⟩:=hL;injection hl with hl _;subst hl;show OwnAt c w (.dw i j) (lc j) _ _;rw [h0];exact ⟨rfl,⟨rfl,rfl⟩,rfl,rfl⟩
   |_=>trivial
  |_=>cases h
end Go.TM
namespace Go.TM
open Go Go.RowKit
theorem Au {w0:World} {mu:Mu} {c:Cz} {st:St} {a:Act} {w:World} (h:Rel w0 mu c st a w) {ρ:Lb→Option Lb} {f:Nat→Lb}:(ps:List OP)→(t:RT)→(cs:List CV)→(y:aO t)→(vs:List Value)→(j:Nat)→iG c st w cs vs→{x:aO (oE ps t)}→{u:List (Option Lb)}→{r:List (Nat×Nat)}→
  nj st ps t cs y=some (x,u,r)→(fC ps t x).2=y∧(∀l∈dG u,l.real=true)∧((∀k l,nth u k=some (some l)→ρ l=some (f (j+k)))→(∀p∈r,ρ (.sp p.1 p.2)=none)→cD (c.map ρ) w f j (fC ps t x).1 vs)
 | [],t,[],y,vs,j,hl,x,u,r,he=>by
  have he:some (y,([]:List (Option Lb)),([]:List (Nat×Nat)))=some (x,u,r):=he;injection he with he;injection he with e1 e2;injection e2 with e2 e3;subst e1 e2 e3;have:=hl.1;simp at this;exact ⟨rfl,by simp [dG],fun _ _=>List.length_eq_zero_iff.1 this.symm⟩
 | [],t,_::_,y,vs,j,hl,x,u,r,he=>by simp [nj] at he
 |_::_,t,[],y,vs,j,hl,x,u,r,he=>by simp [nj] at he
 |p::ps,t,cx::cs,y,vs,j,hl,x,u,r,he=>by
  obtain ⟨v,l,rfl,hx,Bn⟩:=hl.Zd;unfold nj at he
  cases hc:kU st p.qX cx with
  |none=>simp [hc] at he
  |some q1=>
   obtain ⟨o,u1,r1⟩:=q1
   cases hq:nj st ps t cs y with
   |none=>simp [hc,hq] at he
   |some q2=>
    obtain ⟨z,us,rs⟩:=q2;simp only [hc,hq] at he
    cases ho:ve p o with
    |none=>simp [ho] at he
    |some a1=>
     simp only [ho] at he;injection he with he;injection he with e1 e2;injection e2 with e2 e3;subst e1 e2 e3;obtain ⟨g1,g2,g3⟩:=Au h (ρ:=ρ) (f:=f) ps t cs y l (j+1) Bn hq;refine ⟨g1,fun l' hm => ?_,fun hu hr => ?_⟩
     ·rw [kX] at hm;rcases List.mem_cons.1 hm with hm | hm
      ·obtain ⟨s,k,rfl⟩:=JJ hc l' hm.symm;rfl
      ·exact g2 l' (kX.2 hm)
     ·have gG:=g3 (fun k' l' hk=>by
       have:=hu (k'+1) l' hk
       rwa [show j+(k'+1)=j+1+k' by omega] at this) (fun p hp=>hr p (List.mem_append_right _ hp))
      have h1:=QK h (f:=f) (j:=j) hx hc (fun l' Bn=>hu 0 l' (by rw [Bn];rfl)) (fun p hp=>hr p (List.mem_append_left _ hp)) gG;exact M1 p o a1 ho (fun _ h=>h) h1
def Ey (c:Cz) (w:World) (lc:Nat→Nat→Loc) (a:Act) (k:Nat) (l:List (Option AV)):Prop:=
 ∀i av,l[i]?=some (some av)→wA c w (k+i) (lc (k+i)) av (a.eval (.tmp (k+i)))
theorem Dk {w0:World} {mu:Mu} {c:Cz} {st:St} {a:Act} {w:World} (h:Rel w0 mu c st a w) (k:Nat) {p:AP} {t:RT} {V:V} {y:aO t} {v:Value} (hV:gR c st w V v) {x:aO (p.rt t)} {u:List Lb} {r:List (Nat×Nat)} (he:FE st k p t V y=some (x,u,r)) :
  (p.av t x).2=y∧(∀l∈u,l.real=true)∧∃tb:List (Lb×Lb),tb.map (·.1)=u∧(∀p∈tb,p.2.nh=true)∧∀ρ:Lb→Option Lb,(∀p∈tb,ρ p.1=some p.2)→(∀p∈r,ρ (.sp p.1 p.2)=none)→wA (c.map ρ) w k (c.lc k) (p.av t x).1 v:=by
 have vals:∀(ps:List OP) (cs:List CV) (x:aO (oE ps t)) (us:List (Option Lb)) (rs:List (Nat×Nat)) (vs:List Value),iG c st w cs vs→nj st ps t cs y=some (x,us,rs)→(fC ps t x).2=y∧(∀l∈dG us,l.real=true)∧
   ∀ρ:Lb→Option Lb,(∀p∈Df (.dw k) 0 us,ρ p.1=some p.2)→(∀p∈rs,ρ (.sp p.1 p.2)=none)→cD (c.map ρ) w (.dw k) 0 (fC ps t x).1 vs:=by
  intro ps cs x us rs vs hl hq;refine ⟨(Au h (ρ:=fun _=>none) (f:=.dw k) ps t cs y vs 0 hl hq).1,(Au h (ρ:=fun _=>none) (f:=.dw k) ps t cs y vs 0 hl hq).2.1,fun ρ hp hr=>(Au h (ρ:=ρ) (f:=.dw k) ps t cs y vs 0 hl hq).2.2 (fun k' l hk => ?_) hr⟩;have:=hp _ (Ar (.dw k) 0 us k' l hk);simpa using this
 cases p with
 |val agg ps=>
  cases agg with
  |true=>
   cases V with
   |agg cs=>
    have he:(nj st ps t cs y).map (fun q=>(q.1,dG q.2.1,q.2.2))=some (x,u,r):=he
    cases hq:nj st ps t cs y with
    |none=>rw [hq] at he;cases he
    |some q=>
     obtain ⟨z,us,rs⟩:=q;rw [hq] at he;injection he with he;injection he with e1 e2;injection e2 with e2 e3;subst e1 e2 e3;obtain ⟨vs,rfl,hl⟩:=hV;obtain ⟨g1,g2,g3⟩:=vals _ _ _ _ _ _ hl hq;exact ⟨g1,g2,lS k (.val true []) [] us,ph _ _ _ _,pj _ _ _ _,fun ρ hp hr=>⟨vs,rfl,g3 ρ (fun p lE=>hp p (by simpa [lS] using lE)) hr⟩⟩
   |one _=>cases he
   |pM _=>cases he
  |false=>
   cases V with
   |one cx=>
    have he:(nj st ps t [cx] y).map (fun q=>(q.1,dG q.2.1,q.2.2))=some (x,u,r):=he
    cases hq:nj st ps t [cx] y with
    |none=>rw [hq] at he;cases he
    |some q=>
     obtain ⟨z,us,rs⟩:=q;rw [hq] at he;injection he with he;injection he with e1 e2;injection e2 with e2 e3;subst e1 e2 e3;obtain ⟨g1,g2,g3⟩:=vals _ _ _ _ _ [v] ⟨rfl,fun k y z hy hz=>by
      cases k with
      |zero=>simp at hy hz;subst hy hz;exact hV
      |succ k=>simp at hy⟩ hq
     exact ⟨g1,g2,lS k (.val true []) [] us,ph _ _ _ _,pj _ _ _ _,fun ρ hp hr=>g3 ρ (fun p lE=>hp p (by simpa [lS] using lE)) hr⟩
   |agg _=>cases he
   |pM _=>cases he
 |io rr d=>
  cases V with
  |one cx=>
   cases cx with
   |ref s j g vw=>
    cases vw with
    |full=>
     have he:(bif Nat.beq s k&&(Nat.beq j 0&&Nat.beq g 1) then ((cE st s j g).bind fun A=>bif A.own&&A.md.is d then (eb rr A.xs).map fun xs=>((xs,y),[Lb.sp s j],([]:List (Nat×Nat))) else none) else none)=some (x,u,r):=he;obtain ⟨h1,BE⟩:=bH he;clear he;rw [Bool.and_eq_true,Bool.and_eq_true] at h1;have e1:=Nat.eq_of_beq_eq_true h1.1;have e2:=Nat.eq_of_beq_eq_true h1.2.1;subst e1 e2
     cases hA:cE st s 0 g with
     |none=>rw [hA] at BE;cases BE
     |some A=>
      rw [hA] at BE;obtain ⟨ho,he2⟩:=bH BE;rw [Bool.and_eq_true] at ho;have hd:=Md.wQ.1 ho.2;have ho:=ho.1
      cases hc:eb rr A.xs with
      |none=>rw [hc] at he2;cases he2
      |some xs=>
       rw [hc] at he2;injection he2 with he2;injection he2 with e1 e2;injection e2 with e2 e3;subst e1 e2 e3;refine ⟨rfl,by simp [Lb.real],[(.sp s 0,.dw s 0)],rfl,by simp [Lb.nh],fun ρ hp _ => ?_⟩;have ha:=Db h hA;have hs:=hV.2.2 A hA;have hρ:ρ (.sp s 0)=some (.dw s 0):=hp (.sp s 0,.dw s 0) (by simp);obtain ⟨e,rfl⟩:=cS hc;obtain ⟨r0,RU,tL,md0⟩:=A;simp only at e hd;subst e;have ho:RU=true:=by first | exact ho | exact ho.1
       subst ho;refine ⟨hV.1,hs,rfl,?_⟩;unfold fy at ha
       cases m9:c.lc s 0 with
       |nil=>rw [m9] at ha;exact ha
       |«at» b off cap=>
        rw [m9] at ha;obtain ⟨h0,h2,h3,h4⟩:=ha;exact ⟨(Cz.nM h0).trans hρ,h2,h3,h4.map hρ⟩
    |«from» _=>cases he
    |sub _ _=>cases he
   |_=>cases he
  |agg _=>cases he
  |pM _=>cases he
 |box K8 ps=>
  cases V with
  |one cx=>
   cases cx with
   |ptr b g off=>
    have he:(bif Nat.beq off 0&&(!K8||(Nat.beq b k&&Nat.beq g 1)) then ((fL st b g).bind fun cs=>(nj st ps t cs y).map fun q=>(q.1,Lb.box b::dG q.2.1,q.2.2)) else none)=some (x,u,r):=he;obtain ⟨h1,BE⟩:=bH he;clear he;rw [Bool.and_eq_true] at h1;have e1:=Nat.eq_of_beq_eq_true h1.1;subst e1
    cases hb:fL st b g with
    |none=>rw [hb] at BE;cases BE
    |some cs=>
     rw [hb] at BE;simp only [Option.bind_some] at BE
     cases hq:nj st ps t cs y with
     |none=>rw [hq] at BE;cases BE
     |some q=>
      obtain ⟨z,us,rs⟩:=q;rw [hq] at BE;injection BE with BE;injection BE with e1 e2;injection e2 with e2 e3;subst e1 e2 e3;obtain ⟨sl,k1,k2,k3⟩:=jR hb;obtain ⟨h1,vs,ty,h2,h3⟩:=h.boxes b sl cs k1 k3;obtain ⟨g1,g2,g3⟩:=vals _ _ _ _ _ _ h3 hq;refine ⟨g1,fun l hl => ?_,lS k (.box []) [.box b] us,by rw [ph];rfl,pj _ _ _ _,fun ρ hp hr=>⟨c.bx b,vs,ty,hV.2.2 cs hb,?_,h2,g3 ρ (fun p lE=>hp p (List.mem_append_right _ lE)) hr⟩⟩
      ·rcases List.mem_cons.1 hl with rfl | hl
       ·rfl
       ·exact g2 l hl
      ·exact (Cz.nM h1).trans (hp (.box b,.xo k) (by simp [lS]))
   |_=>cases he
  |agg _=>cases he
  |pM _=>cases he
 |dO ps=>cases he
theorem Av {w0:World} {mu:Mu} {c:Cz} {st:St} {a:Act} {w:World} (h:Rel w0 mu c st a w):(l:List (Option AP))→(k:Nat)→{x:aO (aH l)}→{u:List Lb}→{r:List (Nat×Nat)}→pU st k l=some (x,u,r)→
  (∀l∈u,l.real=true)∧∃tb:List (Lb×Lb),tb.map (·.1)=u∧(∀p∈tb,p.2.nh=true)∧∀ρ:Lb→Option Lb,(∀p∈tb,ρ p.1=some p.2)→(∀p∈r,ρ (.sp p.1 p.2)=none)→Ey (c.map ρ) w c.lc a k (dV l x)
 | [],k,x,u,r,he=>by
  have he:some ((),([]:List Lb),([]:List (Nat×Nat)))=some (x,u,r):=he;injection he with he;injection he with _ e2;injection e2 with e2 e3;subst e2 e3;exact ⟨by simp,[],rfl,by simp,fun ρ _ _ i av hi=>by simp [dV] at hi⟩
 |none::l,k,x,u,r,he=>by
  obtain ⟨g1,tb,g2,g3,g4⟩:=Av h l (k+1) he;refine ⟨g1,tb,g2,g3,fun ρ hp hr i av hi => ?_⟩
  cases i with
  |zero=>simp [dV] at hi
  |succ i=>
   have:=g4 ρ hp hr i av (by simpa [dV] using hi)
   rwa [show k+1+i=k+(i+1) by omega] at this
 |some p::l,k,x,u,r,he=>by
  unfold pU at he
  cases h1:pU st (k+1) l with
  |none=>simp [h1] at he
  |some q1=>
   obtain ⟨y,us,rs⟩:=q1;simp only [h1] at he
   cases h2:FE st k p (aH l) (dF st k) y with
   |none=>simp [h2] at he
   |some q2=>
    obtain ⟨x1,u1,r1⟩:=q2;simp only [h2] at he;injection he with he;injection he with e1 e2;injection e2 with e2 e3;subst e1 e2 e3;obtain ⟨g1,tb,g2,g3,g4⟩:=Av h l (k+1) h1;obtain ⟨a1,a2,ta,a3,a4,a5⟩:=Dk h k (h.iX k) h2;refine ⟨fun l' hl => ?_,ta++tb,by simp [a3,g2],fun p hp => ?_,fun ρ hp hr i av hi => ?_⟩
    ·rcases List.mem_append.1 hl with hl | hl
     ·exact a2 l' hl
     ·exact g1 l' hl
    ·rcases List.mem_append.1 hp with hp | hp
     ·exact a4 p hp
     ·exact g3 p hp
    ·cases i with
     |zero=>
      have hi:some (some (p.av (aH l) x1).1)=some (some av):=hi;simp only [Option.some.injEq] at hi;subst hi;exact a5 ρ (fun p lE=>hp p (List.mem_append_left _ lE)) (fun p lE=>hr p (List.mem_append_left _ lE))
     |succ i=>
      have hi:(dV l (p.av (aH l) x1).2)[i]?=some (some av):=hi;rw [a1] at hi;have:=g4 ρ (fun p lE=>hp p (List.mem_append_right _ lE)) (fun p lE=>hr p (List.mem_append_right _ lE)) i av hi
      rwa [show k+1+i=k+(i+1) by omega] at this
end Go.TM
namespace Go.TM
open Go Go.RowKit
def UQ (L:List (Option AV)) (lc:Nat→Nat→Loc) (a:Act):Rq→Prop
 |.arr i j g W n l=>g=1∧i<L.length∧∀av,L[i]?=some (some av)→(∃A,av=.io A∧(j=0→A.r.width=W∧A.xs.length=n∧lc i 0=l))∨∃os,av=.dO os∧∀A,os[j]?=some (.own A)→A.r.width=W∧A.xs.length=n∧lc i j=l
 |.box i g qZ=>g=1∧i<L.length∧∀os,L[i]?=some (some (.box os))→a.eval (.tmp i)=.pointer (some ⟨qZ,0,none⟩)
def UR:Lb→Lb
 |.dw i j=>.sp i j
 |.xo i=>.box i
 |l=>l
structure US (c:Cz) (w:World) (k:Nat) (av:Option AV) (u:Value) (lio:Nat→Loc) (qZ:Nat) (lcs:Nat→Loc):Prop where
 arr:∀j A,nth (eT k av).bQ j=some (some A)→∃v,OwnAt c w (.dw k j) (lcs j) A v
 reg:∀(c2:Cz) (lK:St),(∀b,c.ok b→c2.ok b)→c2.bx k=qZ→c2.lc k=lcs→nth lK k=some (eT k av)→gR c2 lK w (eT k av).v u
 box:∀cs,(eT k av).box=some cs→u=.pointer (some ⟨qZ,0,none⟩)∧c.own qZ=some (.xo k)∧∃vs ty,w.heap[qZ]?=some (.cells vs ty (0,0))∧
  ∀(c2:Cz) (lK:St),(∀b,c.ok b→c2.ok b)→c2.lc k=lcs→nth lK k=some (eT k av)→iG c2 lK w cs vs.toList
 io:∀A,av=some (.io A)→lcs 0=lio 0
 dO:∀os,av=some (.dO os)→lcs=lio
theorem uI {st:St} {k j:Nat} {av:Option AV} {A:nd} (h:nth st k=some (eT k av)) (hA:cE st k j 1=some A):nth (eT k av).bQ j=some (some A):=by
 obtain ⟨sl,h1,_,h3⟩:=du hA;rw [h] at h1;cases h1;exact h3
theorem uJ {st:St} {k:Nat} {av:Option AV} (h:nth st k=some (eT k av)):gD st k=1:=by
 unfold gD;rw [h]
 cases av with
 |none=>rfl
 |some av=>cases av with
  |val agg os=>cases agg<;>rfl
  |io A=>rfl
  |box os=>rfl
  |dO os=>rfl
theorem JX {st:St} {k:Nat} {av:Option AV} (h:nth st k=some (eT k av)):jO st k=1:=by
 unfold jO;rw [h]
 cases av with
 |none=>rfl
 |some av=>cases av with
  |val agg os=>cases agg<;>rfl
  |io A=>rfl
  |box os=>rfl
  |dO os=>rfl
theorem Dl:(os:List OV)→(j:Nat)→{A:nd}→nth (cj os) j=some (some A)→os[j]?=some (.own A)
 | [],_,_,h=>by simp [cj] at h
 |o::os,0,A,h=>by
  simp only [cj,nth,Option.some.injEq] at h
  cases o with
  |own B=>injection h with h;subst h;rfl
  |_=>cases h
 |o::os,j+1,A,h=>by
  have:=Dl os j (A:=A) h;simpa using this
theorem JY {d g:Nat}:(os:List OV)→(j k:Nat)→(o:OV)→os[k]?=some o→∃x,bT d g (j+k) [o]=[x]∧(bT d g j os)[k]?=some x
 | [],_,_,_,h=>by simp at h
 |o::os,j,0,o',h=>by
  simp only [List.getElem?_cons_zero,Option.some.injEq] at h;subst h
  cases o<;>exact ⟨_,rfl,rfl⟩
 |o::os,j,k+1,o',h=>by
  obtain ⟨x,h1,h2⟩:=JY (d:=d) (g:=g) os (j+1) k o' (by simpa using h);rw [show j+1+k=j+(k+1) by omega] at h1;refine ⟨x,h1,?_⟩
  cases o<;>simpa [bT] using h2
theorem Hd {d g:Nat}:(os:List OV)→(j:Nat)→(bT d g j os).length=os.length
 | [],_=>rfl
 |o::os,j=>by cases o<;>simp [bT,Hd os (j+1)]
theorem cD.UT {c:Cz} {w:World} {f:Nat→Lb} {os:List OV} {vs:List Value} (h:cD c w f 0 os vs) (lcs:Nat→Loc) (ho:∀k A u,os[k]?=some (.own A)→vs[k]?=some u→∃l,OwnAt c w l (lcs k) A u)
  (c2:Cz) (lK:St) (d g:Nat) (iR:∀b,c.ok b→c2.ok b) (m9:∀k,c2.lc d k=lcs k) (Et:∀k A,cE lK d k g=some A→os[k]?=some (.own A)) (hg:g≤gD lK d):iG c2 lK w (bT d g 0 os) vs:=by
 obtain ⟨h1,h2⟩:=cD.UP os 0 vs h;refine ⟨by rw [Hd,h1],fun k x v hx hv => ?_⟩;have dS:k<os.length:=by rw [←h1];exact (List.getElem?_eq_some_iff.1 hv).1
 have OW:os[k]?=some os[k]:=List.getElem?_eq_getElem dS;obtain ⟨y,q1,q2⟩:=JY (d:=d) (g:=g) os 0 k _ OW;rw [q2] at hx
 cases hx
 have hL:=h2 k _ v OW hv;rw [Nat.zero_add] at q1;generalize os[k]=o at *
 cases o with
 |own A=>
  simp only [bT,List.cons.injEq,and_true] at q1;subst q1;obtain ⟨l,hO⟩:=ho k A v OW hv;refine ⟨hO.1,hg,fun A' ig => ?_⟩;have:=Et k A' ig;rw [OW] at this
  cases this
  rw [m9];exact hO.2.1
 |shr r xs=>
  simp only [bT,List.cons.injEq,and_true] at q1;subst q1;obtain ⟨v',l,e,h3,_⟩:=hL
  cases e
  exact ef.stays ⟨Nat.le_refl _,fun _ _ _=>rfl,fun b _ hb=>iR b hb⟩ _ _ _ h3
 |nK r xs=>
  simp only [bT,List.cons.injEq,and_true] at q1;subst q1;obtain ⟨v',l,e,⟨b,oo,e1,e2,e3,e4⟩,_⟩:=hL
  cases e
  exact ⟨b,oo,e1,e2,iR b e3,fun x hx=>fx.stays ⟨Nat.le_refl _,fun _ _ _=>rfl,fun b _ hb=>iR b hb⟩ _ _ _ _ rfl (e4 x hx)⟩
 |fn fg r xs=>
  simp only [bT,List.cons.injEq,and_true] at q1;subst q1;obtain ⟨v',l,e,h3,_⟩:=hL
  cases e
  exact h3.stays ⟨Nat.le_refl _,fun _ _ _=>rfl,fun b _ hb=>iR b hb⟩
 |_=>
  simp only [bT,List.cons.injEq,and_true] at q1;subst q1;obtain ⟨l,e,_⟩:=hL
  cases e
  rfl
theorem XY {c:Cz} {w:World} {k:Nat} {lio:Nat→Loc} {av:Option AV} {u:Value} (h:∀v,av=some v→wA c w k lio v u):∃qZ lcs,US c w k av u lio qZ lcs:=by
 cases av with
 |none=>exact ⟨0,fun _=>.nil,fun j A hA=>by simp [eT,Sl.blank] at hA,fun c2 lK _ _ _ _=>trivial,fun cs Af=>by simp [eT,Sl.blank] at Af,fun A hA=>(by cases hA),fun A hA=>(by cases hA)⟩
 |some av=>
  have h:=h av rfl
  cases av with
  |val agg os=>
   cases agg with
   |true=>
    obtain ⟨vs,rfl,hl⟩:=h;obtain ⟨lcs,g1,g2⟩:=cD.cells os 0 _ hl;simp only [Nat.zero_add] at g1 g2;refine ⟨0,lcs,fun j A hA=>g1 j A hA,fun c2 lK iR _ m9 hn=>⟨vs,rfl,?_⟩,fun cs Af=>by simp [eT] at Af,fun A hA=>(by cases hA),fun A hA=>(by cases hA)⟩;exact g2 c2 lK k 1 iR (fun j _=>by rw [m9]) (fun j A _ hA=>uI hn hA) (by rw [uJ hn];exact Nat.le_refl _)
   |false=>
    have hl:cD c w (.dw k) 0 os [u]:=h;obtain ⟨lcs,g1,g2⟩:=cD.cells os 0 _ hl;simp only [Nat.zero_add] at g1 g2;refine ⟨0,lcs,fun j A hA=>g1 j A hA,fun c2 lK iR _ m9 hn => ?_,fun cs Af=>by simp [eT] at Af,fun A hA=>(by cases hA),fun A hA=>(by cases hA)⟩;have hR:=g2 c2 lK k 1 iR (fun j _=>by rw [m9]) (fun j A _ hA=>uI hn hA) (by rw [uJ hn];exact Nat.le_refl _);show gR c2 lK w (match bT k 1 0 os with | [c]=>.one c | _=>.one .bad) u;have h1:=hR.1
    cases hc:bT k 1 0 os with
    |nil=>trivial
    |cons x l=>cases l with
     |nil=>rw [hc] at hR;exact hR.2 0 x u rfl rfl
     |cons _ _=>trivial
  |io A=>
   have hO:OwnAt c w (.dw k 0) (lio 0) A u:=h;refine ⟨0,lio,fun j A' ig => ?_,fun c2 lK iR _ m9 hn => ?_,fun cs Af=>by simp [eT] at Af,fun A hA=>rfl,fun A hA=>by cases hA⟩
   ·cases j with
    |zero=>simp [eT,nth] at ig;subst ig;exact ⟨u,hO⟩
    |succ j=>simp [eT,nth] at ig
   ·refine ⟨hO.1,by rw [uJ hn];exact Nat.le_refl _,fun A' ig => ?_⟩;have:=uI hn ig;simp [eT,nth] at this;subst this;rw [m9];exact hO.2.1
  |dO os=>
   obtain ⟨vs,rfl,hl,aan⟩:=h;have ki:∀j A u,os[j]?=some (.own A)→vs.toList[j]?=some u→OwnAt c w (.dw k j) (lio j) A u:=fun j A u h1 h2=>aan j _ u h1 h2
   obtain ⟨n1,_⟩:=cD.UP os 0 _ hl;refine ⟨0,lio,fun j A' ig => ?_,fun c2 lK iR _ m9 hn=>⟨vs,rfl,?_⟩,fun cs Af=>by simp [eT] at Af,fun A hA=>(by cases hA),fun Em _=>rfl⟩
   ·have hj:=Dl os j ig;have dS:j<vs.toList.length:=by rw [n1];exact (List.getElem?_eq_some_iff.1 hj).1
    exact ⟨_,ki j A' _ hj (List.getElem?_eq_getElem dS)⟩
   ·exact cD.UT hl lio (fun j A u h1 h2=>⟨_,ki j A u h1 h2⟩) c2 lK k 1 iR (fun j=>by rw [m9]) (fun j A hA=>Dl os j (uI hn hA)) (by rw [uJ hn];exact Nat.le_refl _)
  |box os=>
   obtain ⟨qZ,vs,ty,h1,h2,h3,hl⟩:=h;obtain ⟨lcs,g1,g2⟩:=cD.cells os 0 _ hl;simp only [Nat.zero_add] at g1 g2;refine ⟨qZ,lcs,fun j A hA=>g1 j A hA,fun c2 lK iR GM m9 hn=>⟨by rw [h1];rfl,by rw [JX hn];exact Nat.le_refl _,fun cs _=>by rw [GM];exact h1⟩,fun cs Af=>⟨h1,h2,vs,ty,h3,fun c2 lK iR m9 hn => ?_⟩,fun A hA=>(by cases hA),fun A hA=>(by cases hA)⟩;simp only [eT,Option.some.injEq] at Af;subst Af;exact g2 c2 lK k 1 iR (fun j _=>by rw [m9]) (fun j A _ hA=>uI hn hA) (by rw [uJ hn];exact Nat.le_refl _)
theorem Rel.QP {w0:World} {mu:Mu} {c:Cz} {a:Act} {w:World} {L:List (Option AV)} {lc:Nat→Nat→Loc} (hb:Fx w0 mu c w) (hd:a.defers=[]) (hL:Ey c w lc a 0 L) (hA:∀p∈mu.an,UQ L lc a p):∃c',Rel w0 mu c' (q7 0 L) a w:=by
 have hsl:∀k,∃q:Nat×(Nat→Loc),US c w k ((L[k]?).getD none) (a.eval (.tmp k)) (lc k) q.1 q.2:=by
  intro k;obtain ⟨qZ,lcs,h⟩:=XY (c:=c) (w:=w) (k:=k) (lio:=lc k) (av:=(L[k]?).getD none) (u:=a.eval (.tmp k)) (fun v hv=>by
   have:=hL k v (by
    cases hq:L[k]? with
    |none=>rw [hq] at hv;cases hv
    |some o=>rw [hq] at hv;simp at hv;rw [hv])
   simpa using this)
  exact ⟨(qZ,lcs),h⟩
 obtain ⟨q,hq⟩:=Classical.axiomOfChoice hsl;have hn:∀k,nth (q7 0 L) k=(L[k]?).map (eT k):=fun k=>by have:=JV L 0 k;simpa using this
 have XT:∀k sl,nth (q7 0 L) k=some sl→∃o,L[k]?=some o∧sl=eT k o∧nth (q7 0 L) k=some (eT k ((L[k]?).getD none))∧(L[k]?).getD none=o:=by
  intro k sl h;rw [hn] at h
  cases ho:L[k]? with
  |none=>rw [ho] at h;cases h
  |some o=>
   rw [ho] at h
   cases h
   refine ⟨o,rfl,rfl,?_,rfl⟩;rw [hn,ho];rfl
 let c':=c.gT UR (fun k=>(q k).1) (fun k=>(q k).2)
 have iR:∀b,c.ok b→c'.ok b:=fun b hb=>Cz.sa.2 hb
 refine ⟨c',fun t => ?_,fun s sl cs hs GM => ?_,fun s j sl A hs ig => ?_,fun b l hl => ?_,fun b dS hl=>hb.free b dS (by simpa [c',Cz.gT] using hl),hb.kept,hb.old,hd,fun p hp => ?_⟩
 ·cases hs:nth (q7 0 L) t with
  |none=>
   have:dF (q7 0 L) t=.one .bad:=by unfold dF;rw [hs]
   rw [this];trivial
  |some sl=>
   obtain ⟨o,h1,rfl,h3,h4⟩:=XT t sl hs;have:dF (q7 0 L) t=(eT t ((L[t]?).getD none)).v:=by unfold dF;rw [h3]
   rw [this];exact (hq t).reg c' (q7 0 L) iR rfl rfl h3
 ·obtain ⟨o,h1,rfl,h3,h4⟩:=XT s sl hs;rw [←h4] at GM;obtain ⟨g1,g2,vs,ty,g3,g4⟩:=(hq s).box cs GM;refine ⟨?_,vs,ty,g3,g4 c' (q7 0 L) iR rfl h3⟩;show (c.own (q s).1).map UR=_;rw [g2];rfl
 ·obtain ⟨o,h1,rfl,h3,h4⟩:=XT s sl hs;rw [←h4] at ig;obtain ⟨v,hv⟩:=(hq s).arr j A ig;exact hv.arr rfl rfl
 ·simp only [c',Cz.gT,Option.map_eq_some_iff] at hl;obtain ⟨k,hk,e⟩:=hl;obtain ⟨h1,h2⟩:=hb.owned b k hk;refine ⟨h1,h2.imp (fun e2 => ?_) id⟩;subst e2;rw [←e];rfl
 ·have hf:=hA p hp
  cases p with
  |arr i j g W n l=>
   obtain ⟨rfl,hi,MW⟩:=hf;have hs:nth (q7 0 L) i=some (eT i ((L[i]?).getD none)):=by rw [hn];simp [List.getElem?_eq_getElem hi]
   refine ⟨by rw [uJ hs];exact Nat.le_refl _,fun A ig => ?_⟩;have h3:=uI hs ig
   cases ho:L[i]? with
   |none=>rw [ho] at h3;simp [eT,Sl.blank] at h3
   |some o=>cases o with
    |none=>rw [ho] at h3;simp [eT,Sl.blank] at h3
    |some av=>
     rcases MW av ho with ⟨A0,rfl,h5⟩ | ⟨os,rfl,h5⟩
     case inr=>
      rw [ho] at h3;obtain ⟨e1,e2,e3⟩:=h5 A (Dl os j h3);refine ⟨e1,e2,?_⟩;rw [←e3];have:=(hq i).dO os (by rw [ho];rfl);show (q i).2 j=lc i j;rw [this]
     rw [ho] at h3
     cases j with
     |zero=>
      simp [eT,nth] at h3;subst h3;obtain ⟨e1,e2,e3⟩:=h5 rfl;exact ⟨e1,e2,((hq i).io A0 (by rw [ho];rfl)).trans e3⟩
     |succ j=>simp [eT,nth] at h3
  |box i g qZ=>
   obtain ⟨rfl,hi,MW⟩:=hf;have hs:nth (q7 0 L) i=some (eT i ((L[i]?).getD none)):=by rw [hn];simp [List.getElem?_eq_getElem hi]
   refine ⟨by rw [JX hs];exact Nat.le_refl _,fun cs Af => ?_⟩;obtain ⟨sl,k1,k2,k3⟩:=jR Af;rw [hs] at k1;cases k1;obtain ⟨g1,_⟩:=(hq i).box cs k3;have xp:∃os,L[i]?=some (some (.box os)):=by
    cases ho:L[i]? with
    |none=>rw [ho] at k3;simp [eT,Sl.blank] at k3
    |some o=>cases o with
     |none=>rw [ho] at k3;simp [eT,Sl.blank] at k3
     |some av=>cases av with
      |val agg os=>rw [ho] at k3;cases agg<;>simp [eT] at k3
      |io A=>rw [ho] at k3;simp [eT] at k3
      |dO os=>rw [ho] at k3;simp [eT] at k3
      |box os=>exact ⟨os,rfl⟩
   obtain ⟨os,xp⟩:=xp;have:=MW os xp;rw [this] at g1;injection g1 with g1;injection g1 with g1;injection g1 with g1;exact g1.symm
end Go.TM
